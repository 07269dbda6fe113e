/- The walk of bandplanlaw12.AntennaOmnis: it returns true for any int, in a world whose variable quadrants is laid. -/
import Derived.Test.YthaodhipebadcaaDoorL2
namespace Go.Proofs.YthaodhipebadcaaDoor
open Go.RowKit

theorem omni_valid (h : Int) (h1 : 1 ≤ h) (h2 : h ≤ 500) : validB h zeros = true := by
  rw [validB_iff]
  refine ⟨h1, h2, rfl, ?_⟩
  intro x hx
  have : x = 0 := by simpa [zeros] using hx
  omega

set_option maxHeartbeats 400000 in
theorem law6_no (h : Int) (w : World) (hq : Quad w) (hh : h < 1 ∨ 500 < h) : Calls Tryd.prog 6 #[.int .i64 h] w (KnownOk w) := by
  have HH := Lib.hid hh
  rcases hh with hh | hh
  all_goals
    go_enter Tryd.func6, Tryd.ntmps6
    go_wp2_with fail
    refine (omni_no h _ HH.out).mono ?_
    rintro e w1 ⟨rfl, hb1⟩
    have hq1 := hq.next hb1
    have hb2 := (Below.refl w1.heap.size w1).alloc (Nat.le_refl _) (.cells #[.int .i64 0, .slice none 0 0] 31)
    have hq2 := hq1.next hb2
    go_wp2_with fail
    refine (refused_yes _).mono ?_
    rintro e w3 ⟨rfl, hb3⟩
    have hq3 := hq2.next hb3
    go_wp2_with fail
    refine (known_any _ hq3).mono ?_
    rintro e w9 ⟨rfl, hb9⟩
    go_wp2
    go_ret
    exact ⟨rfl, chain (chain (chain hb1 hb2) hb3) hb9⟩

set_option maxHeartbeats 400000 in
theorem law6_yes (h : Int) (w : World) (hq : Quad w) (h1 : 1 ≤ h) (h2 : h ≤ 500) : Calls Tryd.prog 6 #[.int .i64 h] w (KnownOk w) := by
  have hmk := mk16
  have hv := omni_valid h h1 h2
  have he := eqAnt_self h zeros
  go_enter Tryd.func6, Tryd.ntmps6
  go_wp2_with fail
  refine (omni_yes h _ h1 h2).mono ?_
  rintro e w1 ⟨A, n, c, rfl, hown, hb1⟩
  obtain rfl : n = 16 := by have := hown.len; simp [zeros] at this; omega
  have hb2 := (Below.refl w1.heap.size w1).alloc (Nat.le_refl _) (.cells #[.int .i64 h, .slice A 16 c] 31)
  have hb3 := (Below.refl (w1.alloc (.cells #[.int .i64 h, .slice A 16 c] 31)).heap.size (w1.alloc (.cells #[.int .i64 h, .slice A 16 c] 31))).alloc (Nat.le_refl _) (.cells zeroCells 3)
  have hq3 := ((hq.next hb1).next hb2).next hb3
  have HI := Lib.hid ((hown.ints.next hb2).next hb3)
  have HJ := Lib.hid (Own.made (w1.alloc (.cells #[.int .i64 h, .slice A 16 c] 31)) 0 (w1.heap.size + 1) (by simp) (by simp)).ints
  have B3 := chain (chain hb1 hb2) hb3
  clear hb1 hb2 hb3 hown hq
  go_wp2_with fail
  go_region_held3 (fun w' => w'.cell? ⟨w1.heap.size, 0, none⟩ = some (.int .i64 h) ∧ w'.cell? ⟨w1.heap.size, 1, none⟩ = some (.slice A 16 c))
    (first | go_keep | exact ⟨by assumption, by assumption⟩)
    (first | (go_at_call 21; refine (refEqual_any h A 16 c zeros h _ 16 16 zeros _ (by exact HI.out) (by exact HJ.out) (by omega) (by omega)).mono ?_; rintro e w4 ⟨rfl, hb4⟩; have hb4 := below_undrew hb4; have c0 : w4.cell? ⟨w1.heap.size, 0, none⟩ = some (.int .i64 h) := (hb4.cell (p := ⟨w1.heap.size, 0, none⟩) (by simp <;> omega)).trans (by go_simp); have c1 : w4.cell? ⟨w1.heap.size, 1, none⟩ = some (.slice A 16 c) := (hb4.cell (p := ⟨w1.heap.size, 1, none⟩) (by simp <;> omega)).trans (by go_simp); have hq4 := hq3.next hb4; have B4 := chain B3 hb4; have HI4 := Lib.hid (HI.out.next hb4); have hl4 : w1.heap.size < w4.heap.size := by (have := hb4.size; simp at this; omega)) | (go_at_call 15; refine (valid_any h A 16 c zeros _ (by exact HI4.out) (by omega)).mono ?_; rintro e w5 ⟨rfl, hb5⟩; have c05 : w5.cell? ⟨w1.heap.size, 0, none⟩ = some (.int .i64 h) := (hb5.cell (p := ⟨w1.heap.size, 0, none⟩) hl4).trans c0; have c15 : w5.cell? ⟨w1.heap.size, 1, none⟩ = some (.slice A 16 c) := (hb5.cell (p := ⟨w1.heap.size, 1, none⟩) hl4).trans c1; have hq5 := hq4.next hb5; have B5 := chain B4 hb5; have hl5 : w1.heap.size < w5.heap.size := Nat.lt_of_lt_of_le hl4 hb5.size) | (go_at_call 12; refine (known_any _ (by exact hq5)).mono ?_; rintro e w9 ⟨rfl, hb9⟩; have c09 : w9.cell? ⟨w1.heap.size, 0, none⟩ = some (.int .i64 h) := (hb9.cell (p := ⟨w1.heap.size, 0, none⟩) hl5).trans c05; have c19 : w9.cell? ⟨w1.heap.size, 1, none⟩ = some (.slice A 16 c) := (hb9.cell (p := ⟨w1.heap.size, 1, none⟩) hl5).trans c15))
  go_wp2
  go_ret
  exact ⟨rfl, chain B5 hb9⟩

theorem law6 (h : Int) (w : World) (hq : Quad w) : Calls Tryd.prog 6 #[.int .i64 h] w (KnownOk w) := by
  by_cases hh : h < 1 ∨ 500 < h
  · exact law6_no h w hq hh
  · exact law6_yes h w hq (by omega) (by omega)
end Go.Proofs.YthaodhipebadcaaDoor
