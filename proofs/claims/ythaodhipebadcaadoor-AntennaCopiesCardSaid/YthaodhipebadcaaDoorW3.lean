/- Contracts of antenna.Loss and bandplanref12.Loss. -/
import Derived.Test.YthaodhipebadcaaDoorW2
namespace Go.Proofs.YthaodhipebadcaaDoor
open Go.RowKit

set_option maxHeartbeats 400000 in
theorem loss_bad (h : Int) (A : Option Addr) (n c : Nat) (xs : List Int) (dx dy : Int) (w : World) (hI : Ints w w.heap.size A n xs) (hn : n ≤ 9223372036854775807) (hv : validB h xs = false) :
    Calls Tryd.prog 14 #[.agg #[.int .i64 h, .slice A n c], .int .i64 dx, .int .i64 dy] w fun e w' => e = .returned (.tuple #[.int .i64 0, .int .i64 2]) ∧ Below w.heap.size w w' := by
  have hI1 := hI.next ((Below.refl _ w).alloc (Nat.le_refl _) (.cells #[.int .i64 h, .slice A n c] 31))
  have HI := Lib.hid hI1
  clear hI hI1
  go_enter Tryd.func14, Tryd.ntmps14
  go_wp2_with fail
  refine (valid_any h A n c xs _ HI.out hn).mono ?_
  rintro e w1 ⟨rfl, hb1⟩
  go_wp2
  go_ret2
  exact ⟨rfl, (((Below.refl _ _).alloc (Nat.le_refl _) _).trans (hb1.mono (by simp)))⟩

set_option maxHeartbeats 400000 in
theorem loss_zero (h : Int) (A : Option Addr) (n c : Nat) (xs : List Int) (w : World) (hI : Ints w w.heap.size A n xs) (hn : n ≤ 9223372036854775807) (hv : validB h xs = true) :
    Calls Tryd.prog 14 #[.agg #[.int .i64 h, .slice A n c], .int .i64 0, .int .i64 0] w fun e w' => e = .returned (.tuple #[.int .i64 0, .int .i64 0]) ∧ Below w.heap.size w w' := by
  have hI1 := hI.next ((Below.refl _ w).alloc (Nat.le_refl _) (.cells #[.int .i64 h, .slice A n c] 31))
  have HI := Lib.hid hI1
  clear hI hI1
  go_enter Tryd.func14, Tryd.ntmps14
  go_wp2_with fail
  refine (valid_any h A n c xs _ HI.out hn).mono ?_
  rintro e w1 ⟨rfl, hb1⟩
  go_wp2
  go_ret2
  exact ⟨rfl, (((Below.refl _ _).alloc (Nat.le_refl _) _).trans (hb1.mono (by simp)))⟩

set_option maxHeartbeats 400000 in
theorem loss_far (h : Int) (A : Option Addr) (n c : Nat) (xs : List Int) (dx dy : Int) (w : World) (hI : Ints w w.heap.size A n xs) (hn : n ≤ 9223372036854775807) (hv : validB h xs = true)
    (hf : farB dx = true ∨ farB dy = true) :
    Calls Tryd.prog 14 #[.agg #[.int .i64 h, .slice A n c], .int .i64 dx, .int .i64 dy] w fun e w' => e = .returned (.tuple #[.int .i64 0, .int .i64 2]) ∧ Below w.heap.size w w' := by
  have hI1 := hI.next ((Below.refl _ w).alloc (Nat.le_refl _) (.cells #[.int .i64 h, .slice A n c] 31))
  have HI := Lib.hid hI1
  have HF := Lib.hid hf
  have h0 : ((dx == 0) = false) ∨ ((dx == 0) = true ∧ (dy == 0) = false) := by
    rcases hf with hf | hf
    · left; rw [beq_eq_false_iff_ne]; rintro rfl; simp [farB] at hf
    · by_cases hx : dx = 0
      · right; refine ⟨by simp [hx], ?_⟩; rw [beq_eq_false_iff_ne]; rintro rfl; simp [farB] at hf
      · left; simpa using hx
  clear hI hI1 hf
  rcases h0 with h0 | ⟨h0, h1⟩
  all_goals
    go_enter Tryd.func14, Tryd.ntmps14
    go_wp2_with fail
    refine (valid_any h A n c xs _ HI.out hn).mono ?_
    rintro e w1 ⟨rfl, hb1⟩
    go_wp2_with fail
    refine (dir_far _ _ _ HF.out).mono ?_
    rintro e w2 ⟨rfl, hb2⟩
    go_wp2
    go_ret2
    exact ⟨rfl, (((Below.refl _ _).alloc (Nat.le_refl _) _).trans (hb1.mono (by simp))).trans (hb2.mono (by have := hb1.size; simp at this; omega))⟩

set_option maxHeartbeats 400000 in
theorem loss_yes (h : Int) (A : Option Addr) (n c : Nat) (xs : List Int) (dx dy : Int) (w : World) (hq : Quad w) (hI : Ints w w.heap.size A n xs) (hn : n ≤ 9223372036854775807) (hv : validB h xs = true)
    (hx : farB dx = false) (hy : farB dy = false) (hnz : ¬ (dx = 0 ∧ dy = 0)) :
    Calls Tryd.prog 14 #[.agg #[.int .i64 h, .slice A n c], .int .i64 dx, .int .i64 dy] w fun e w' => e = .returned (.tuple #[.int .i64 (xs[(dirI dx dy).toNat]?.getD 0), .int .i64 0]) ∧ Below w.heap.size w w' := by
  have hb0 := (Below.refl w.heap.size w).alloc (Nat.le_refl _) (.cells #[.int .i64 h, .slice A n c] 31)
  have hI1 := hI.next hb0
  have HI := Lib.hid hI1
  have HQ := Lib.hid (hq.below hb0 hq.pos)
  have h16 : n = 16 := by have := (validB_iff h xs).1 hv; have := hI.1; omega
  subst h16
  obtain ⟨b, off, rfl, hb, hc⟩ := hI.2 (by omega)
  have hd := dirI_bd dx dy
  have hc1 := hc (dirI dx dy).toNat (by omega)
  have HN := Lib.hid hnz
  have h0 : ((dx == 0) = false) ∨ ((dx == 0) = true ∧ (dy == 0) = false) := by
    by_cases hx : dx = 0
    · right; refine ⟨by simp [hx], ?_⟩; rw [beq_eq_false_iff_ne]; rintro rfl; exact hnz ⟨hx, rfl⟩
    · left; simpa using hx
  clear hI hI1 hnz hc hb0 hq
  rcases h0 with h0 | ⟨h0, h1⟩
  all_goals
    go_enter Tryd.func14, Tryd.ntmps14
    go_wp2_with fail
    refine (valid_any h _ 16 c xs _ HI.out hn).mono ?_
    rintro e w1 ⟨rfl, hb1⟩
    have hs1 : w.heap.size + 1 ≤ w1.heap.size := by simpa using hb1.size
    go_wp2_with fail
    refine (dir_yes _ _ _ (HQ.out.below hb1 (by simp)) hx hy HN.out).mono ?_
    rintro e w2 ⟨rfl, hb2⟩
    have p2 : w2.cell? ⟨w.heap.size, 1, none⟩ = some (.slice (some ⟨b, off, none⟩) 16 c) := (hb2.cell (p := ⟨w.heap.size, 1, none⟩) (by show w.heap.size < _; omega)).trans ((hb1.cell (p := ⟨w.heap.size, 1, none⟩) (by simp)).trans (by simp))
    have q2 : w2.cell? ⟨b, off + (dirI dx dy).toNat, none⟩ = some (.int .i64 (xs[(dirI dx dy).toNat]?.getD 0)) := (hb2.cell (p := ⟨b, off + (dirI dx dy).toNat, none⟩) (by show b < _; omega)).trans ((hb1.cell (p := ⟨b, off + (dirI dx dy).toNat, none⟩) (by simp; omega)).trans ((World.cell?_alloc_lt w _ _ hb).trans hc1))
    go_wp2
    go_ret2
    exact ⟨rfl, (((Below.refl _ _).alloc (Nat.le_refl _) _).trans (hb1.mono (by simp))).trans (hb2.mono (by omega))⟩

end Go.Proofs.YthaodhipebadcaaDoor
