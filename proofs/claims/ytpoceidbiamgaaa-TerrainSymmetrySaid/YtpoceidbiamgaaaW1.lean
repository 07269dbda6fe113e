/- Contracts of terrain.within, place, cellAt, allWithin, inside. -/
import Derived.Test.YtpoceidbiamgaaaRows
import Derived.Test.YtpoceidbiamgaaaMem
import Derived.Deep.RegionHeld3
import Derived.Deep.RegionLaw
set_option linter.unusedVariables false
set_option linter.unusedSimpArgs false
namespace Go.Proofs.Ytpoceidbiamgaaa
open Go.RowKit

theorem chain {w a b : World} (h : Below w.heap.size w a) (k : Below a.heap.size a b) : Below w.heap.size w b := h.trans (k.mono h.size)
theorem gcell {B : Nat} {W w' : World} {b o : Nat} {v : Value} (G : Below B W w') (hb : b < B) (hc : W.cell? ⟨b, o, none⟩ = some v) : w'.cell? ⟨b, o, none⟩ = some v := (G.cell (p := ⟨b, o, none⟩) hb).trans hc

def inB (x lo hi : Int) : Bool := decide (lo ≤ x ∧ x ≤ hi)
theorem within_any (x lo hi : Int) (w : World) : Calls Try.prog 42 #[.int .i64 x, .int .i64 lo, .int .i64 hi] w fun e w' => e = .returned (.bool (inB x lo hi)) ∧ w = w' := by
  by_cases h1 : lo ≤ x
  · by_cases h2 : x ≤ hi
    all_goals
      go_enter Try.func42, Try.ntmps42
      go_wp2
      go_ret
      exact ⟨ret_bool (by simp [inB, h1, h2]), rfl⟩
  · go_enter Try.func42, Try.ntmps42
    go_wp2
    go_ret
    exact ⟨ret_bool (by simp [inB]; omega), rfl⟩

/-- All of the ints lie within the bounds. -/
def allB (lo hi : Int) (xs : List Int) : Bool := xs.all fun x => inB x lo hi
theorem allB_iff {lo hi : Int} {xs : List Int} : allB lo hi xs = true ↔ ∀ x ∈ xs, lo ≤ x ∧ x ≤ hi := by simp [allB, inB]
theorem allB_take {lo hi : Int} {xs : List Int} {k : Nat} (hk : k < xs.length) (h : allB lo hi (xs.take k) = true) (hx : inB (xs[k]?.getD 0) lo hi = true) : allB lo hi (xs.take (k + 1)) = true := by
  rw [List.take_succ_eq_append_getElem hk]
  simp [hk] at hx
  simp only [allB, List.all_append, Bool.and_eq_true] at h ⊢
  exact ⟨h, by simp [hx]⟩
theorem allB_not {lo hi : Int} {xs : List Int} {k : Nat} (hk : k < xs.length) (hx : inB (xs[k]?.getD 0) lo hi = false) : allB lo hi xs = false := by
  rw [Bool.eq_false_iff]; intro c
  have := allB_iff.1 c (xs[k]) (List.getElem_mem hk)
  simp [hk, inB] at hx
  omega

set_option maxHeartbeats 400000 in
theorem allWithin_any (A : Option Addr) (n c : Nat) (xs : List Int) (lo hi : Int) (w : World) (hI : Ints w w.heap.size A n xs) (hn : n ≤ 4611686018427387904) :
    Calls Try.prog 44 #[.slice A n c, .int .i64 lo, .int .i64 hi] w fun e w' => e = .returned (.bool (allB lo hi xs)) ∧ w = w' := by
  have HI := Lib.hid hI
  have HL := Lib.hid hI.1
  clear hI
  go_enter Try.func44, Try.ntmps44
  go_wp2
  go_loopw [8, 11] (fun _ i wr => ∃ k : Nat, k ≤ n ∧ i = .int .i64 k ∧ allB lo hi (xs.take k) = true ∧ wr = w) (fun _ i _ => n - (intOf i).toNat)
  case atStart => exact ⟨0, by omega, rfl, by simp [allB], rfl⟩
  case round =>
    obtain ⟨k, hk, rfl, ha, rfl⟩ := hrel
    have HA := Lib.hid ha
    clear ha
    by_cases hlt : k < n
    · obtain ⟨b, off, rfl, hb, hc⟩ := HI.out.2 (by omega)
      have hck := hc k hlt
      have HT := Lib.hid (allB_take (lo := lo) (hi := hi) (by have := HL.out; omega) HA.out)
      have HF := Lib.hid (allB_not (lo := lo) (hi := hi) (xs := xs) (k := k) (by have := HL.out; omega))
      obtain ⟨x, hx⟩ : ∃ x, x = xs[k]?.getD 0 := ⟨_, rfl⟩
      rw [← hx] at hck HT HF
      clear hc hx HA
      obtain ⟨E, hE⟩ : ∃ E, inB x lo hi = E := ⟨_, rfl⟩
      have C := Lib.hid (within_any x lo hi wr)
      rw [hE] at C HT HF
      clear hE
      cases E
      · go_wp2_with (go_at_call 42; refine C.out.mono ?_; rintro e w' ⟨rfl, rfl⟩)
        go_ret
        exact ⟨ret_bool (HF.out (by simp)).symm, rfl⟩
      · go_wp2_with (go_at_call 42; refine C.out.mono ?_; rintro e w' ⟨rfl, rfl⟩)
        go_roundw
        case rel => exact ⟨k + 1, by omega, by go_num, HT.out (by simp), trivial⟩
        case measure => simp [intOf]; omega
    · obtain rfl : k = n := by omega
      go_wp2
      go_ret
      exact ⟨ret_bool (by have := HA.out; rw [List.take_of_length_le (by have := HL.out; omega)] at this; exact this.symm), rfl⟩

/-- A terrain's value. -/
abbrev terV (W H : Int) (A : Option Addr) (n c : Nat) (A2 : Option Addr) (m c2 : Nat) : Value := .agg #[.int .i64 W, .int .i64 H, .slice A n c, .slice A2 m c2]
abbrev celV (x y : Int) : Value := .agg #[.int .i64 x, .int .i64 y]

theorem place_any (W H : Int) (A : Option Addr) (n c : Nat) (A2 : Option Addr) (m c2 : Nat) (x y : Int) (w : World) (hW0 : 1 ≤ W) (hW1 : W ≤ 64) (hx0 : 0 ≤ x) (hx1 : x ≤ 64) (hy0 : 0 ≤ y) (hy1 : y ≤ 64) :
    Calls Try.prog 41 #[.agg #[.int .i64 W, .int .i64 H, .slice A n c, .slice A2 m c2], .agg #[.int .i64 x, .int .i64 y]] w fun e w' => e = .returned (.int .i64 (y * W + x)) ∧ Below w.heap.size w w' := by
  have m1 : 0 ≤ y * W := Int.mul_nonneg hy0 (by omega)
  have m2 : y * W ≤ 64 * 64 := Int.mul_le_mul hy1 hW1 (by omega) (by omega)
  go_enter Try.func41, Try.ntmps41
  go_wp2
  go_ret
  exact ⟨rfl, ((Below.refl _ _).alloc (Nat.le_refl _) _).alloc (by simp) _⟩
theorem refIndex_any (W H : Int) (A : Option Addr) (n c : Nat) (A2 : Option Addr) (m c2 : Nat) (x y : Int) (w : World) (hW0 : 1 ≤ W) (hW1 : W ≤ 64) (hx0 : 0 ≤ x) (hx1 : x ≤ 64) (hy0 : 0 ≤ y) (hy1 : y ≤ 64) :
    Calls Try.prog 21 #[.agg #[.int .i64 W, .int .i64 H, .slice A n c, .slice A2 m c2], .agg #[.int .i64 x, .int .i64 y]] w fun e w' => e = .returned (.int .i64 (y * W + x)) ∧ Below w.heap.size w w' := by
  have m1 : 0 ≤ y * W := Int.mul_nonneg hy0 (by omega)
  have m2 : y * W ≤ 64 * 64 := Int.mul_le_mul hy1 hW1 (by omega) (by omega)
  go_enter Try.func21, Try.ntmps21
  go_wp2
  go_ret
  exact ⟨rfl, ((Below.refl _ _).alloc (Nat.le_refl _) _).alloc (by simp) _⟩

set_option maxHeartbeats 400000 in
theorem cellAt_any (W H : Int) (A : Option Addr) (n c : Nat) (A2 : Option Addr) (m c2 : Nat) (i : Int) (w : World) (hW0 : 1 ≤ W) (hi0 : 0 ≤ i) (hi1 : i ≤ 4611686018427387904) :
    Calls Try.prog 43 #[.agg #[.int .i64 W, .int .i64 H, .slice A n c, .slice A2 m c2], .int .i64 i] w fun e w' => e = .returned (.agg #[.int .i64 (i % W), .int .i64 (i / W)]) ∧ Below w.heap.size w w' := by
  have q0 : (W == 0) = false := by simp; omega
  go_enter Try.func43, Try.ntmps43
  go_wp2
  go_region
  go_wp2
  refine bodyPost_ret (v := .agg #[.int .i64 (i % W), .int .i64 (i / W)]) (by simp [results, Try.results43, go_sem]) rfl ⟨rfl, ?_⟩
  exact below_drewN (((Below.refl _ _).alloc (Nat.le_refl _) _).alloc (by simp) _) 1
set_option maxHeartbeats 400000 in
theorem refAt_any (W H : Int) (A : Option Addr) (n c : Nat) (A2 : Option Addr) (m c2 : Nat) (i : Int) (w : World) (hW0 : 1 ≤ W) (hi0 : 0 ≤ i) (hi1 : i ≤ 4611686018427387904) :
    Calls Try.prog 22 #[.agg #[.int .i64 W, .int .i64 H, .slice A n c, .slice A2 m c2], .int .i64 i] w fun e w' => e = .returned (.agg #[.int .i64 (i % W), .int .i64 (i / W)]) ∧ Below w.heap.size w w' := by
  have q0 : (W == 0) = false := by simp; omega
  go_enter Try.func22, Try.ntmps22
  go_wp2
  go_region
  go_wp2
  refine bodyPost_ret (v := .agg #[.int .i64 (i % W), .int .i64 (i / W)]) (by simp [results, Try.results22, go_sem]) rfl ⟨rfl, ?_⟩
  exact below_drewN (((Below.refl _ _).alloc (Nat.le_refl _) _).alloc (by simp) _) 1

/-- The cell lies inside, as the code reckons it: at a terrain that is not valid the sums may wrap. -/
def insB (W H x y : Int) : Bool := inB x 0 (wrap64 (W - 1)) && inB y 0 (wrap64 (H - 1))
theorem inside_any (W H : Int) (A : Option Addr) (n c : Nat) (A2 : Option Addr) (m c2 : Nat) (x y : Int) (w : World) :
    Calls Try.prog 45 #[.agg #[.int .i64 W, .int .i64 H, .slice A n c, .slice A2 m c2], .agg #[.int .i64 x, .int .i64 y]] w fun e w' => e = .returned (.bool (insB W H x y)) ∧ Below w.heap.size w w' := by
  have HB := Lib.hid (((Below.refl w.heap.size w).alloc (Nat.le_refl _) (.cells #[.int .i64 W, .int .i64 H, .slice A n c, .slice A2 m c2] 24)).alloc (by simp) (.cells #[.int .i64 x, .int .i64 y] 26))
  obtain ⟨E, hE⟩ : ∃ E, E = insB W H x y := ⟨_, rfl⟩
  rw [← hE]
  have HE := Lib.hid hE
  clear hE
  go_enter Try.func45, Try.ntmps45
  go_wp2
  all_goals
    go_ret
    refine ⟨ret_bool ?_, HB.out⟩
    rw [HE.out]
    simp_all [insB, inB]
    try omega
end Go.Proofs.Ytpoceidbiamgaaa
