/- Contracts of bandplanlaw10.equal and big. -/
import Derived.Test.YtpoceidbiamgaaaWc
set_option linter.unusedVariables false
set_option linter.unusedSimpArgs false
namespace Go.Proofs.Ytpoceidbiamgaaa
open Go.RowKit
set_option maxHeartbeats 1000000 in
theorem lawEqual_any (A : Option Addr) (n c : Nat) (xs : List Int) (A' : Option Addr) (n' c' : Nat) (ys : List Int) (w : World) (hX : Ints w w.heap.size A n xs) (hY : Ints w w.heap.size A' n' ys) (hn : n ≤ 1000000) (hn' : n' ≤ 1000000) :
    Calls Try.prog 35 #[.slice A n c, .slice A' n' c'] w fun e w' => e = .returned (.bool (eqB xs ys)) ∧ Below w.heap.size w w' := by
  have l1 := hX.1
  have l2 := hY.1
  have HX := Lib.hid hX
  have HY := Lib.hid hY
  have HL1 := Lib.hid l1
  have HL2 := Lib.hid l2
  clear hX hY
  by_cases hnn : n = n'
  · subst hnn
    clear l1 l2
    go_enter Try.func35, Try.ntmps35
    go_wp2
    go_loopw [5] (fun i wr => ∃ k : Nat, k ≤ n ∧ i = .int .i64 k ∧ xs.take k = ys.take k ∧ Below w.heap.size w wr) (fun i _ => n - (intOf i).toNat)
    case atStart => exact ⟨0, by omega, rfl, by simp, Below.refl _ _⟩
    case round =>
      obtain ⟨k, hk, rfl, he, hB⟩ := hrel
      have HE := Lib.hid he
      have HBB := Lib.hid hB
      clear he hB
      by_cases hlt : k < n
      · obtain ⟨b, off, rfl, hb, hc⟩ := (HX.out.below HBB.out).2 (by omega)
        obtain ⟨b2, off2, rfl, hb2, hc2⟩ := (HY.out.below HBB.out).2 (by omega)
        have c1 := hc k hlt
        have d1 := hc2 k hlt
        have HT := Lib.hid (take_eq (xs := xs) (ys := ys) (k := k) (by have := HL1.out; omega) (by have := HL2.out; omega) HE.out)
        have HF := Lib.hid (eqB_at (xs := xs) (ys := ys) (k := k))
        obtain ⟨x, hx⟩ : ∃ x, x = xs[k]?.getD 0 := ⟨_, rfl⟩
        obtain ⟨y, hy⟩ : ∃ y, y = ys[k]?.getD 0 := ⟨_, rfl⟩
        rw [← hx] at c1 HT HF
        rw [← hy] at d1 HT HF
        clear hx hy hc hc2
        by_cases q1 : x = y
        · have HQ := Lib.hid q1
          have hq1 : (x != y) = false := by simp [q1]
          clear q1
          go_wp2
          go_quiet (fail)
          go_wp2
          go_roundw
          case rel => exact ⟨k + 1, by omega, by go_num, HT.out HQ.out, below_drewN HBB.out _⟩
          case measure => simp [intOf]; omega
        · have HQ := Lib.hid q1
          have hq1 : (x != y) = true := by simpa using q1
          clear q1
          go_wp2
          go_quiet (fail)
          go_wp2
          go_ret
          exact ⟨ret_bool (HF.out HQ.out).symm, below_drewN HBB.out _⟩
      · obtain rfl : k = n := by omega
        go_wp2
        go_ret
        refine ⟨ret_bool ?_, HBB.out⟩
        have q := HE.out
        have q1 := HL1.out
        have q2 := HL2.out
        rw [List.take_of_length_le (by omega), List.take_of_length_le (by omega)] at q
        simp [eqB, q]
  · rw [eqB_len (by omega)]
    have x1 : ((n : Int) != n') = true := by simp; omega
    clear l1 l2 hnn
    go_enter Try.func35, Try.ntmps35
    go_wp2
    go_ret
    exact ⟨rfl, Below.refl _ _⟩

def bigB (n m : Nat) : Bool := decide (300 < n ∨ 300 < m)
set_option maxHeartbeats 400000 in
theorem big_any (W H : Int) (A : Option Addr) (n c : Nat) (A2 : Option Addr) (m c2 : Nat) (w : World) :
    Calls Try.prog 11 #[.agg #[.int .i64 W, .int .i64 H, .slice A n c, .slice A2 m c2]] w fun e w' => e = .returned (.bool (bigB n m)) ∧ Below w.heap.size w w' := by
  have HB : Hid (Below w.heap.size w (w.alloc (.cells #[.int .i64 W, .int .i64 H, .slice A n c, .slice A2 m c2] 24))) := (Below.refl _ _).alloc (Nat.le_refl _) _
  by_cases h1 : (300 : Int) < n
  · have x1 : decide ((300 : Int) < (n : Int)) = true := decide_eq_true h1
    have e1 : bigB n m = true := by simp [bigB]; omega
    rw [e1]
    clear e1
    go_enter Try.func11, Try.ntmps11
    go_wp2
    go_ret
    exact ⟨by first | rfl | exact ret_bool (by simp_all), HB.out⟩
  · have x1 : decide ((300 : Int) < (n : Int)) = false := decide_eq_false h1
    have e1 : bigB n m = decide ((300 : Int) < (m : Int)) := by unfold bigB; rw [decide_eq_decide]; omega
    rw [e1]
    clear e1
    go_enter Try.func11, Try.ntmps11
    go_wp2
    go_ret
    exact ⟨by first | rfl | exact ret_bool (by simp_all), HB.out⟩
end Go.Proofs.Ytpoceidbiamgaaa
