/- Contracts of bits.Mul64, bits.Mul and of slices.Repeat at a slice of one int. -/
import Derived.Test.YtpoceidbiamgaaaW7
import Derived.Lib.Mul64
import Derived.Laws.Bits64b
import Derived.Laws.CopyOwn
import Derived.Deep.OwnRows
set_option linter.unusedVariables false
set_option linter.unusedSimpArgs false
namespace Go.Proofs.Ytpoceidbiamgaaa
open Go.RowKit

namespace Mul
theorem maskN (a : Nat) (ha : a < 18446744073709551616) : bits .and .u64 (a : Int) 4294967295 = ((a % 4294967296 : Nat) : Int) := by
  have h := bits_and_u64_nat a 4294967295 ha (by omega)
  have e : a &&& 4294967295 = a % 4294967296 := Nat.and_two_pow_sub_one_eq_mod a 32
  rw [e] at h
  exact h
end Mul

set_option maxHeartbeats 1000000 in
theorem mul64_one (y : Nat) (hy : y < 4294967296) (w : World) :
    Calls Try.prog 55 #[.int .u64 1, .int .u64 y] w fun e w' => e = .returned (.tuple #[.int .u64 0, .int .u64 y]) ∧ w = w' := by
  have m1 : bits .and .u64 1 4294967295 = 1 := by have := Mul.maskN 1 (by omega); simpa using this
  have m0 : bits .and .u64 0 4294967295 = 0 := by have := Mul.maskN 0 (by omega); simpa using this
  have m2 : bits .and .u64 (y : Int) 4294967295 = (y : Int) := by rw [Mul.maskN y (by omega), Nat.mod_eq_of_lt hy]
  have d2 : (y : Int) / 4294967296 = 0 := by omega
  go_enter Try.func55, Try.ntmps55
  go_wp2
  go_ret2
  exact ⟨by simp [m0, m1, m2, d2], rfl⟩

theorem mul_one (y : Nat) (hy : y < 4294967296) (w : World) :
    Calls Try.prog 53 #[.int .u64 1, .int .u64 y] w fun e w' => e = .returned (.tuple #[.int .u64 0, .int .u64 y]) ∧ w = w' := by
  go_enter Try.func53, Try.ntmps53
  go_wp2_with (go_at_call 55; refine (mul64_one y hy _).mono ?_; rintro e w' ⟨rfl, rfl⟩)
  go_ret2
  exact ⟨rfl, rfl⟩

/-- The row while it is filled: k times v, then noughts. -/
def rep (v : Int) (k N : Nat) : List Value := List.replicate k (.int .i64 v) ++ List.replicate (N - k) (.int .i64 0)
theorem rep_len {v : Int} {k N : Nat} (h : k ≤ N) : (rep v k N).length = N := by simp [rep]; omega
theorem rep_zero (v : Int) (N : Nat) : madeCells #[.int .i64 0] N = (rep v 0 N).toArray := by
  simp only [rep, madeCells, List.replicate_zero, List.nil_append, Nat.sub_zero]
  apply Array.ext
  · simp
  · intro i h1 h2
    simp [Nat.mod_one]
theorem rep_splice {v : Int} {k m N : Nat} (h : k + m ≤ N) : splice (rep v k N) k (List.replicate m (.int .i64 v)) = rep v (k + m) N := by
  have e1 : (rep v k N).take k = List.replicate k (.int .i64 v) := by simp [rep]
  have e2 : (rep v k N).drop (k + m) = List.replicate (N - (k + m)) (.int .i64 0) := by
    rw [rep, List.drop_append, List.drop_of_length_le (by simp)]
    simp only [List.length_replicate, List.drop_replicate, List.nil_append]
    congr 1
    omega
  rw [splice, List.length_replicate, e1, e2, rep, ← List.append_assoc, List.replicate_append_replicate]
theorem rep_splice1 (v : Int) (N : Nat) (h : 1 ≤ N) : splice (rep v 0 N) 0 [.int .i64 v] = rep v 1 N := by
  have := rep_splice (v := v) (k := 0) (m := 1) (N := N) (by omega)
  simpa using this
theorem rep_at {v : Int} {k N j : Nat} (h : j < k) : (rep v k N)[j]? = some (.int .i64 v) := by
  rw [rep, List.getElem?_append_left (by simpa using h)]
  simp [h]
theorem size3 : (Try.prog.info? 3).map (·.size) = some 1 := by kernel_rfl
/-- Repeat's answer. -/
def RepR (w : World) (N : Nat) (v : Int) (e : Ending) (w' : World) : Prop :=
  ∃ A, e = .returned (.slice A N N) ∧ Own w' w.heap.size 3 A N N (List.replicate N v) ∧ Below w.heap.size w w'

set_option maxHeartbeats 1000000 in
theorem repeat_one (b off c N : Nat) (v : Int) (w : World) (hc : w.cell? ⟨b, off, none⟩ = some (.int .i64 v)) (h1 : 1 ≤ N) (h2 : N ≤ 4096) :
    Calls Try.prog 47 #[.slice (some ⟨b, off, none⟩) 1 c, .int .i64 (N : Int)] w (RepR w N v) := by
  have hmk := run_make_row' (P := Try.prog) 22 3 (.int .i64 0) 8 Try.underlying22 info3 rfl .i64 .i64 N (by omega) (by omega)
  have hb : b < w.heap.size := World.block_lt_of_cell? w _ hc
  have HC := Lib.hid hc
  have HB := Lib.hid hb
  clear hc hb
  have hg0 : (w.alloc (.cells (madeCells #[.int .i64 0] N) 3)).heap[w.heap.size]? = some (.cells (rep v 0 N).toArray 3 (0, 0)) := by
    rw [rep_zero v N]; exact (MapKept.heap_alloc w _).1
  have HG := Lib.hid hg0
  have hs0 : (w.alloc (.cells (madeCells #[.int .i64 0] N) 3)).cell? ⟨b, off, none⟩ = some (.int .i64 v) := (World.cell?_alloc_lt w _ _ HB.out).trans HC.out
  have HS := Lib.hid hs0
  have HBL : Hid (Below w.heap.size w (w.alloc (.cells (madeCells #[.int .i64 0] N) 3))) := (Below.refl _ _).alloc (Nat.le_refl _) _
  have HZ : Hid ((Try.prog.info? 3).map (·.size) = some 1) := size3
  have e0 : Hid (splice (rep v 0 N) 0 [.int .i64 v] = rep v 1 N) := rep_splice1 v N h1
  have q1 : decide ((N : Int) < 0) = false := decide_eq_false (by omega)
  have q2 : decide (9223372036854775807 < (N : Int)) = false := decide_eq_false (by omega)
  clear hg0 hs0
  go_enter Try.func47, Try.ntmps47
  go_wp2_with (first | (go_at_call 53; refine (mul_one N (by omega) _).mono ?_; rintro e w' ⟨rfl, rfl⟩) | (refine wpList_copy_splice (o := ⟨some 33, _, _, _, _, _⟩) (by rfl) (.tmp 31) (.tmp 32) 22 22 (by rfl) 3 Try.underlying22 HZ.out (some ⟨w.heap.size, 0, none⟩) (some ⟨b, off, none⟩) N N 1 c (by rfl) (by rfl) w.heap.size 0 (rep v 0 N) 3 HG.out [.int .i64 v] (by show 1 = min 1 N; omega) (fun _ => ⟨rfl, _, rfl, fun j u hu => by cases j with | zero => (cases hu; exact HS.out) | succ j => (simp at hu)⟩) (by rw [rep_len (by omega)]; show 0 + 1 ≤ N; omega) (by simp [Value.oneCell']) w.heap.size w HBL.out (Nat.le_refl _) ?_; intro w1 hg1 hb1))
  rw [e0.out] at hg1
  have HB1 := Lib.hid hb1
  clear hb1 hmk
  have HG1 := Lib.hid hg1.out
  clear hg1 q1 q2 HG HS HBL e0
  go_loopw [8] (fun i wr => ∃ k : Nat, 1 ≤ k ∧ k ≤ N ∧ i = .int .i64 k ∧ wr.heap[w.heap.size]? = some (.cells (rep v k N).toArray 3 (0, 0)) ∧ Below w.heap.size w wr) (fun i _ => N - (intOf i).toNat)
  case atStart => exact ⟨1, by omega, by omega, rfl, HG1.out, HB1.out⟩
  case round =>
    obtain ⟨k, hk1, hk2, rfl, hgk, hbk⟩ := hrel
    have HGK := Lib.hid hgk
    have HBK := Lib.hid hbk
    clear hgk hbk
    by_cases hlt : k < N
    · obtain ⟨m, hm⟩ : ∃ m, m = min k (N - k) := ⟨_, rfl⟩
      have hm3 : m ≤ k := by omega
      have hm1 : 1 ≤ m := by omega
      have hm2 : k + m ≤ N := by omega
      have HM : Hid ((List.replicate m (Value.int .i64 v)).length = Nat.min k (N - k)) := by rw [List.length_replicate]; exact hm
      clear hm
      have HP := Lib.hid (rep_splice (v := v) (k := k) (m := m) (N := N) hm2)
      have i1 : (0 : Int) ≤ (k : Int) := by omega
      have i2 : (k : Int) ≤ (N : Int) := by omega
      have HI3 : Hid (¬ (N = k)) := fun e => by omega
      have HF : Hid (k + (List.replicate m (Value.int .i64 v)).length ≤ (rep v k N).length) := by rw [rep_len hk2, List.length_replicate]; exact hm2
      have HO : Hid (∀ u ∈ List.replicate m (Value.int .i64 v), u.oneCell' = true) := fun u hu => by rw [(List.mem_replicate.1 hu).2]; rfl
      have HQ : Hid (∀ j u, (List.replicate m (Value.int .i64 v))[j]? = some u → wr.drew.cell? (Addr.add ⟨w.heap.size, 0, none⟩ j) = some u) := fun j u hu => by
        have hj : j < m := by have := (List.getElem?_eq_some_iff.1 hu).1; simpa using this
        have hu' : u = .int .i64 v := by simp [hj] at hu; exact hu.symm
        have := World.news_of_block (w := wr.drew) (B := w.heap.size) HGK.out j u (by rw [hu']; show (rep v k N)[j]? = _; exact rep_at (by omega))
        exact this
      have HGD : Hid (wr.drew.heap[w.heap.size]? = some (.cells (rep v k N).toArray 3 (0, 0))) := HGK.out
      have HWR : Hid (IntKind.i64.wrap ((k : Int) + (m : Int)) = ((k + m : Nat) : Int)) := by show _ = _; rw [IntKind.wrap_i64]; omega
      have hcs : (List.replicate m (Value.int .i64 v)).length = m := by simp
      go_wp2
      go_region_held3 (fun _ => True) (first | go_keep | trivial)
        ((refine step_copy_splice (by rfl) (.tmp 41) (.tmp 44) 22 22 (by rfl) 3 Try.underlying22 HZ.out (if N = k then some ⟨w.heap.size, 0, none⟩ else some ⟨w.heap.size, k, none⟩) (some ⟨w.heap.size, 0, none⟩) (N - k) (N - k) k N (by rfl) (by rfl) w.heap.size k (rep v k N) 3 HGD.out (List.replicate m (.int .i64 v)) HM.out (fun _ => ⟨if_neg HI3.out, _, rfl, HQ.out⟩) HF.out HO.out w.heap.size w HBK.out.drew (Nat.le_refl _) ?_; intro w2 hg2 hb2; have HG2 := Lib.hid hg2.out; have HB2 := Lib.hid hb2; clear hg2 hb2))
      go_wp2
      go_roundw
      case rel => exact ⟨k + m, by omega, by omega, by rw [HWR.out], by rw [← HP.out]; exact HG2.out, HB2.out⟩
      case measure => rw [HWR.out]; simp only [intOf]; omega
    · obtain rfl : k = N := by omega
      go_wp2
      go_ret
      refine ⟨_, rfl, ?_, HBK.out⟩
      refine ⟨by simp, .inr ⟨w.heap.size, k, _, rfl, Nat.le_refl _, HGK.out, Nat.le_refl _, by unfold maxLen; omega, by simp [rep], by simp [rep]⟩⟩
end Go.Proofs.Ytpoceidbiamgaaa
