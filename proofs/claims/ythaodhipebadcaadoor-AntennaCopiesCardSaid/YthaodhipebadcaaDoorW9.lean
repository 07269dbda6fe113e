/- Contracts of bandplanref12.Loss, Least, antenna.Omni, bandplanlaw12.refused. -/
import Derived.Test.YthaodhipebadcaaDoorW8
namespace Go.Proofs.YthaodhipebadcaaDoor
open Go.RowKit

set_option maxHeartbeats 400000 in
theorem refLoss_zero (h : Int) (A : Option Addr) (n c : Nat) (w : World) :
    Calls Tryd.prog 17 #[.agg #[.int .i64 h, .slice A n c], .int .i64 0, .int .i64 0] w fun e w' => e = .returned (.int .i64 0) ∧ Below w.heap.size w w' := by
  go_enter Tryd.func17, Tryd.ntmps17
  go_wp2
  go_ret
  exact ⟨rfl, (Below.refl _ _).alloc (Nat.le_refl _) _⟩

set_option maxHeartbeats 400000 in
theorem refLoss_yes (h : Int) (A : Option Addr) (n c : Nat) (xs : List Int) (dx dy : Int) (w : World) (hI : Ints w w.heap.size A n xs) (hl : xs.length = 16)
    (hx : farB dx = false) (hy : farB dy = false) (hnz : ¬ (dx = 0 ∧ dy = 0)) :
    Calls Tryd.prog 17 #[.agg #[.int .i64 h, .slice A n c], .int .i64 dx, .int .i64 dy] w fun e w' => e = .returned (.int .i64 (xs[(dirI dx dy).toNat]?.getD 0)) ∧ Below w.heap.size w w' := by
  obtain rfl : n = 16 := by have := hI.1; omega
  obtain ⟨b, off, rfl, hb, hc⟩ := hI.2 (by omega)
  have hd := dirI_bd dx dy
  have hc1 := hc (dirI dx dy).toNat (by omega)
  have HN := Lib.hid hnz
  have h0 : ((dx == 0) = false) ∨ ((dx == 0) = true ∧ (dy == 0) = false) := by
    by_cases hx : dx = 0
    · right; refine ⟨by simp [hx], ?_⟩; rw [beq_eq_false_iff_ne]; rintro rfl; exact hnz ⟨hx, rfl⟩
    · left; simpa using hx
  have q2 : (w.alloc (.cells #[.int .i64 h, .slice (some ⟨b, off, none⟩) 16 c] 31)).cell? ⟨b, off + (dirI dx dy).toNat, none⟩ = some (.int .i64 (xs[(dirI dx dy).toNat]?.getD 0)) := (World.cell?_alloc_lt w _ _ hb).trans hc1
  have e1 : IntKind.i64.wrap (dirI dx dy) = dirI dx dy := IntWalk.i64_in _ (by omega)
  clear hI hnz hc hl
  rcases h0 with h0 | ⟨h0, h1⟩
  all_goals
    go_enter Tryd.func17, Tryd.ntmps17
    go_wp2_with (go_at_call 13; refine (refDir_any _ _ _ hx hy HN.out).mono ?_; rintro e w' ⟨rfl, rfl⟩)
    try go_quiet ((go_at_call 13; exact Calls.quiet_of_same ((refDir_any _ _ _ hx hy HN.out).mono fun _ _ ⟨a, b⟩ => ⟨a, b.symm⟩)))
    try go_wp2
    go_ret
    exact ⟨rfl, by first | exact (Below.refl _ _).alloc (Nat.le_refl _) _ | exact below_drewN ((Below.refl _ _).alloc (Nat.le_refl _) _) _⟩

set_option maxHeartbeats 400000 in
theorem least_any (a b : Int) (w : World) : Calls Tryd.prog 31 #[.int .i64 a, .int .i64 b] w fun e w' => e = .returned (.int .i64 (min a b)) ∧ w = w' := by
  by_cases h : a < b
  · go_enter Tryd.func31, Tryd.ntmps31
    go_wp2
    go_ret
    exact ⟨ret_int (by omega), rfl⟩
  · go_enter Tryd.func31, Tryd.ntmps31
    go_wp2
    go_ret
    exact ⟨ret_int (by omega), rfl⟩

set_option maxHeartbeats 400000 in
theorem omni_no (h : Int) (w : World) (hh : h < 1 ∨ 500 < h) : Calls Tryd.prog 23 #[.int .i64 h] w (AntNo w) := by
  rcases hh with hh | hh
  · go_enter Tryd.func23, Tryd.ntmps23
    go_wp2
    exact bodyPost_ret (v := .tuple #[.agg #[.int .i64 0, .slice none 0 0], .int .i64 2]) (by simp [results, Tryd.results23, go_sem]) rfl ⟨rfl, (Below.refl _ _).alloc (Nat.le_refl _) _⟩
  · go_enter Tryd.func23, Tryd.ntmps23
    go_wp2
    exact bodyPost_ret (v := .tuple #[.agg #[.int .i64 0, .slice none 0 0], .int .i64 2]) (by simp [results, Tryd.results23, go_sem]) rfl ⟨rfl, (Below.refl _ _).alloc (Nat.le_refl _) _⟩

def zeros : List Int := [0, 0, 0, 0, 0, 0, 0, 0, 0, 0, 0, 0, 0, 0, 0, 0]
def zeroCells : Array Value := (zeros.map (Value.int .i64)).toArray
theorem mk16 (w : World) : (Instr.makeSlice 29 (.int .i64 16) (.int .i64 16)).run Tryd.prog w = .ok (.slice (some ⟨w.heap.size, 0, none⟩) 16 16) (w.alloc (.cells zeroCells 3)) := by kernel_rfl
theorem Own.made (w : World) (base g : Nat) (hg : g = w.heap.size) (hb : base ≤ w.heap.size) : Own (w.alloc (.cells zeroCells 3)) base 3 (some ⟨g, 0, none⟩) 16 16 zeros := by
  subst hg
  exact ⟨rfl, .inr ⟨w.heap.size, 16, zeroCells, rfl, hb, heap_alloc_new w _, Nat.le_refl _, by decide, rfl, rfl⟩⟩

set_option maxHeartbeats 400000 in
theorem omni_yes (h : Int) (w : World) (h1 : 1 ≤ h) (h2 : h ≤ 500) : Calls Tryd.prog 23 #[.int .i64 h] w (AntR2 w h zeros) := by
  have hmk := mk16
  go_enter Tryd.func23, Tryd.ntmps23
  go_wp2
  refine bodyPost_ret (v := .tuple #[.agg #[.int .i64 h, .slice (some ⟨w.heap.size + 1, 0, none⟩) 16 16], .int .i64 0]) (by simp [results, Tryd.results23, go_sem]) rfl ⟨_, _, _, rfl, ?_, ?_⟩
  · exact Own.made (w.alloc (.cells #[.int .i64 h, .slice (some ⟨w.heap.size + 1, 0, none⟩) 16 16] 31)) w.heap.size (w.heap.size + 1) (by simp) (by simp)
  · exact ((Below.refl _ _).alloc (Nat.le_refl _) _).alloc (by simp) _

set_option maxHeartbeats 400000 in
theorem refused_yes (w : World) : Calls Tryd.prog 20 #[.agg #[.int .i64 0, .slice none 0 0], .int .i64 2] w (KnownOk w) := by
  have hb0 := (Below.refl w.heap.size w).alloc (Nat.le_refl _) (.cells #[.int .i64 0, .slice none 0 0] 31)
  have he := eqAnt_self 0 []
  go_enter Tryd.func20, Tryd.ntmps20
  go_wp2_with fail
  refine (refEqual_any 0 none 0 0 [] 0 none 0 0 [] _ Ints.nil Ints.nil (by omega) (by omega)).mono ?_
  rintro e w1 ⟨rfl, hb1⟩
  go_wp2
  go_ret
  exact ⟨rfl, chain hb0 hb1⟩
end Go.Proofs.YthaodhipebadcaaDoor
