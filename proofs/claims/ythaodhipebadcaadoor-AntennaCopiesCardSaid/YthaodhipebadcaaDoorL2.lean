/- The walk of bandplanlaw12.AntennaLosses: it returns true for any antenna and any two ints, in a world whose variable quadrants is laid. -/
import Derived.Test.YthaodhipebadcaaDoorW9
import Derived.Deep.RegionHeld3
namespace Go.Proofs.YthaodhipebadcaaDoor
open Go.RowKit

theorem Quad.next {w w' : World} (h : Quad w) (hb : Below w.heap.size w w') : Quad w' := h.below hb h.pos
theorem far0 : farB 0 = false := by decide

set_option maxHeartbeats 400000 in
theorem law4_long (h : Int) (A : Option Addr) (n c : Nat) (dx dy : Int) (w : World) (hq : Quad w) (hn : n ≤ 9223372036854775807) (h20 : 20 < n) :
    Calls Tryd.prog 4 #[.agg #[.int .i64 h, .slice A n c], .int .i64 dx, .int .i64 dy] w (KnownOk w) := by
  have hb0 := (Below.refl w.heap.size w).alloc (Nat.le_refl _) (.cells #[.int .i64 h, .slice A n c] 31)
  have hq1 := hq.next hb0
  go_enter Tryd.func4, Tryd.ntmps4
  go_wp2_with fail
  refine (known_any _ hq1).mono ?_
  rintro e w1 ⟨rfl, hb1⟩
  go_wp2
  go_ret
  exact ⟨rfl, chain hb0 hb1⟩

set_option maxHeartbeats 400000 in
theorem law4_bad (h : Int) (A : Option Addr) (n c : Nat) (xs : List Int) (dx dy : Int) (w : World) (hq : Quad w) (hI : Ints w w.heap.size A n xs) (h20 : n ≤ 20) (hv : validB h xs = false) :
    Calls Tryd.prog 4 #[.agg #[.int .i64 h, .slice A n c], .int .i64 dx, .int .i64 dy] w (KnownOk w) := by
  have hb0 := (Below.refl w.heap.size w).alloc (Nat.le_refl _) (.cells #[.int .i64 h, .slice A n c] 31)
  have HI := Lib.hid (hI.next hb0)
  have hq1 := hq.next hb0
  have hn : n ≤ 9223372036854775807 := by omega
  clear hI
  go_enter Tryd.func4, Tryd.ntmps4
  go_wp2_with fail
  refine (loss_bad h A n c xs dx dy _ HI.out (by omega) hv).mono ?_
  rintro e w1 ⟨rfl, hb1⟩
  have c0 : w1.cell? ⟨w.heap.size, 0, none⟩ = some (.int .i64 h) := (hb1.cell (p := ⟨w.heap.size, 0, none⟩) (by simp)).trans (by go_simp)
  have c1 : w1.cell? ⟨w.heap.size, 1, none⟩ = some (.slice A n c) := (hb1.cell (p := ⟨w.heap.size, 1, none⟩) (by simp)).trans (by go_simp)
  have hl1 : w.heap.size < w1.heap.size := by have := hb1.size; simp at this; omega
  have HI1 := Lib.hid (HI.out.next hb1)
  have hq2 := hq1.next hb1
  have B1 := chain hb0 hb1
  clear hb1 hb0 hq1 hq HI
  go_wp2_with fail
  go_region_held3 (fun w' => w'.cell? ⟨w.heap.size, 0, none⟩ = some (.int .i64 h) ∧ w'.cell? ⟨w.heap.size, 1, none⟩ = some (.slice A n c))
    (first | go_keep | exact ⟨by assumption, by assumption⟩)
    (first | (go_at_call 15; refine (valid_any h A n c xs _ (by exact HI1.out) hn).mono ?_; rintro e w2 ⟨rfl, hb2⟩; have hb2 : Below w1.heap.size w1 w2 := below_undrew hb2; have c02 : w2.cell? ⟨w.heap.size, 0, none⟩ = some (.int .i64 h) := (hb2.cell (p := ⟨w.heap.size, 0, none⟩) hl1).trans c0; have c12 : w2.cell? ⟨w.heap.size, 1, none⟩ = some (.slice A n c) := (hb2.cell (p := ⟨w.heap.size, 1, none⟩) hl1).trans c1; have hl2 : w.heap.size < w2.heap.size := Nat.lt_of_lt_of_le hl1 hb2.size; have HI2 := Lib.hid (HI1.out.next hb2)) | (go_at_call 16; refine (refValid_any h A n c xs _ (by exact HI2.out) hn).mono ?_; rintro e w3 ⟨rfl, hb3⟩; have c03 : w3.cell? ⟨w.heap.size, 0, none⟩ = some (.int .i64 h) := (hb3.cell (p := ⟨w.heap.size, 0, none⟩) hl2).trans c02; have c13 : w3.cell? ⟨w.heap.size, 1, none⟩ = some (.slice A n c) := (hb3.cell (p := ⟨w.heap.size, 1, none⟩) hl2).trans c12))
  have hq4 := (hq2.next hb2).next hb3
  have B3 := chain (chain B1 hb2) hb3
  have HI3 := Lib.hid (HI2.out.next hb3)
  have hl3 : w.heap.size < w3.heap.size := Nat.lt_of_lt_of_le hl2 hb3.size
  clear hq2 hb2 hb3 B1 HI1 HI2 c0 c1 c02 c12 hl1 hl2
  go_wp2_with fail
  refine (refValid_any h A n c xs _ HI3.out hn).mono ?_
  rintro e w4 ⟨rfl, hb4⟩
  have c04 : w4.cell? ⟨w.heap.size, 0, none⟩ = some (.int .i64 h) := (hb4.cell (p := ⟨w.heap.size, 0, none⟩) hl3).trans c03
  have c14 : w4.cell? ⟨w.heap.size, 1, none⟩ = some (.slice A n c) := (hb4.cell (p := ⟨w.heap.size, 1, none⟩) hl3).trans c13
  have hq5 := hq4.next hb4
  have B4 := chain B3 hb4
  have HI4 := Lib.hid (HI3.out.next hb4)
  clear hq4 hb4 B3 HI3 c03 c13
  go_wp2_with fail
  refine (known_any _ hq5).mono ?_
  rintro e w9 ⟨rfl, hb9⟩
  go_wp2
  go_ret
  exact ⟨rfl, chain B4 hb9⟩

set_option maxHeartbeats 400000 in
theorem law4_farx (h : Int) (A : Option Addr) (n c : Nat) (xs : List Int) (dx dy : Int) (w : World) (hq : Quad w) (hI : Ints w w.heap.size A n xs) (h20 : n ≤ 20) (hv : validB h xs = true) (hx : farB dx = true) :
    Calls Tryd.prog 4 #[.agg #[.int .i64 h, .slice A n c], .int .i64 dx, .int .i64 dy] w (KnownOk w) := by
  have hb0 := (Below.refl w.heap.size w).alloc (Nat.le_refl _) (.cells #[.int .i64 h, .slice A n c] 31)
  have HI := Lib.hid (hI.next hb0)
  have hq1 := hq.next hb0
  have hn : n ≤ 9223372036854775807 := by omega
  clear hI
  go_enter Tryd.func4, Tryd.ntmps4
  go_wp2_with fail
  refine (loss_far h A n c xs dx dy _ HI.out (by omega) hv (.inl hx)).mono ?_
  rintro e w1 ⟨rfl, hb1⟩
  have c0 : w1.cell? ⟨w.heap.size, 0, none⟩ = some (.int .i64 h) := (hb1.cell (p := ⟨w.heap.size, 0, none⟩) (by simp)).trans (by go_simp)
  have c1 : w1.cell? ⟨w.heap.size, 1, none⟩ = some (.slice A n c) := (hb1.cell (p := ⟨w.heap.size, 1, none⟩) (by simp)).trans (by go_simp)
  have hl1 : w.heap.size < w1.heap.size := by have := hb1.size; simp at this; omega
  have HI1 := Lib.hid (HI.out.next hb1)
  have hq2 := hq1.next hb1
  have B1 := chain hb0 hb1
  clear hb1 hb0 hq1 hq HI
  go_wp2_with fail
  go_region_held3 (fun w' => w'.cell? ⟨w.heap.size, 0, none⟩ = some (.int .i64 h) ∧ w'.cell? ⟨w.heap.size, 1, none⟩ = some (.slice A n c))
    (first | go_keep | exact ⟨by assumption, by assumption⟩)
    (first | (go_at_call 15; refine (valid_any h A n c xs _ (by exact HI1.out) hn).mono ?_; rintro e w2 ⟨rfl, hb2⟩; have hb2 : Below w1.heap.size w1 w2 := below_undrew hb2; have c02 : w2.cell? ⟨w.heap.size, 0, none⟩ = some (.int .i64 h) := (hb2.cell (p := ⟨w.heap.size, 0, none⟩) hl1).trans c0; have c12 : w2.cell? ⟨w.heap.size, 1, none⟩ = some (.slice A n c) := (hb2.cell (p := ⟨w.heap.size, 1, none⟩) hl1).trans c1; have hl2 : w.heap.size < w2.heap.size := Nat.lt_of_lt_of_le hl1 hb2.size; have HI2 := Lib.hid (HI1.out.next hb2)) | (go_at_call 16; refine (refValid_any h A n c xs _ (by exact HI2.out) hn).mono ?_; rintro e w3 ⟨rfl, hb3⟩; have c03 : w3.cell? ⟨w.heap.size, 0, none⟩ = some (.int .i64 h) := (hb3.cell (p := ⟨w.heap.size, 0, none⟩) hl2).trans c02; have c13 : w3.cell? ⟨w.heap.size, 1, none⟩ = some (.slice A n c) := (hb3.cell (p := ⟨w.heap.size, 1, none⟩) hl2).trans c12))
  have hq4 := (hq2.next hb2).next hb3
  have B3 := chain (chain B1 hb2) hb3
  have HI3 := Lib.hid (HI2.out.next hb3)
  have hl3 : w.heap.size < w3.heap.size := Nat.lt_of_lt_of_le hl2 hb3.size
  clear hq2 hb2 hb3 B1 HI1 HI2 c0 c1 c02 c12 hl1 hl2
  go_wp2_with fail
  refine (refValid_any h A n c xs _ HI3.out hn).mono ?_
  rintro e w4 ⟨rfl, hb4⟩
  have c04 : w4.cell? ⟨w.heap.size, 0, none⟩ = some (.int .i64 h) := (hb4.cell (p := ⟨w.heap.size, 0, none⟩) hl3).trans c03
  have c14 : w4.cell? ⟨w.heap.size, 1, none⟩ = some (.slice A n c) := (hb4.cell (p := ⟨w.heap.size, 1, none⟩) hl3).trans c13
  have hq5 := hq4.next hb4
  have B4 := chain B3 hb4
  have HI4 := Lib.hid (HI3.out.next hb4)
  clear hq4 hb4 B3 HI3 c03 c13
  go_wp2_with (go_at_call 11; refine (far_any _ _).mono ?_; rintro e w' ⟨rfl, rfl⟩)
  refine (known_any _ hq5).mono ?_
  rintro e w9 ⟨rfl, hb9⟩
  go_wp2
  go_ret
  exact ⟨rfl, chain B4 hb9⟩

set_option maxHeartbeats 400000 in
theorem law4_fary (h : Int) (A : Option Addr) (n c : Nat) (xs : List Int) (dx dy : Int) (w : World) (hq : Quad w) (hI : Ints w w.heap.size A n xs) (h20 : n ≤ 20) (hv : validB h xs = true) (hx : farB dx = false) (hy : farB dy = true) :
    Calls Tryd.prog 4 #[.agg #[.int .i64 h, .slice A n c], .int .i64 dx, .int .i64 dy] w (KnownOk w) := by
  have hb0 := (Below.refl w.heap.size w).alloc (Nat.le_refl _) (.cells #[.int .i64 h, .slice A n c] 31)
  have HI := Lib.hid (hI.next hb0)
  have hq1 := hq.next hb0
  have hn : n ≤ 9223372036854775807 := by omega
  clear hI
  go_enter Tryd.func4, Tryd.ntmps4
  go_wp2_with fail
  refine (loss_far h A n c xs dx dy _ HI.out (by omega) hv (.inr hy)).mono ?_
  rintro e w1 ⟨rfl, hb1⟩
  have c0 : w1.cell? ⟨w.heap.size, 0, none⟩ = some (.int .i64 h) := (hb1.cell (p := ⟨w.heap.size, 0, none⟩) (by simp)).trans (by go_simp)
  have c1 : w1.cell? ⟨w.heap.size, 1, none⟩ = some (.slice A n c) := (hb1.cell (p := ⟨w.heap.size, 1, none⟩) (by simp)).trans (by go_simp)
  have hl1 : w.heap.size < w1.heap.size := by have := hb1.size; simp at this; omega
  have HI1 := Lib.hid (HI.out.next hb1)
  have hq2 := hq1.next hb1
  have B1 := chain hb0 hb1
  clear hb1 hb0 hq1 hq HI
  go_wp2_with fail
  go_region_held3 (fun w' => w'.cell? ⟨w.heap.size, 0, none⟩ = some (.int .i64 h) ∧ w'.cell? ⟨w.heap.size, 1, none⟩ = some (.slice A n c))
    (first | go_keep | exact ⟨by assumption, by assumption⟩)
    (first | (go_at_call 15; refine (valid_any h A n c xs _ (by exact HI1.out) hn).mono ?_; rintro e w2 ⟨rfl, hb2⟩; have hb2 : Below w1.heap.size w1 w2 := below_undrew hb2; have c02 : w2.cell? ⟨w.heap.size, 0, none⟩ = some (.int .i64 h) := (hb2.cell (p := ⟨w.heap.size, 0, none⟩) hl1).trans c0; have c12 : w2.cell? ⟨w.heap.size, 1, none⟩ = some (.slice A n c) := (hb2.cell (p := ⟨w.heap.size, 1, none⟩) hl1).trans c1; have hl2 : w.heap.size < w2.heap.size := Nat.lt_of_lt_of_le hl1 hb2.size; have HI2 := Lib.hid (HI1.out.next hb2)) | (go_at_call 16; refine (refValid_any h A n c xs _ (by exact HI2.out) hn).mono ?_; rintro e w3 ⟨rfl, hb3⟩; have c03 : w3.cell? ⟨w.heap.size, 0, none⟩ = some (.int .i64 h) := (hb3.cell (p := ⟨w.heap.size, 0, none⟩) hl2).trans c02; have c13 : w3.cell? ⟨w.heap.size, 1, none⟩ = some (.slice A n c) := (hb3.cell (p := ⟨w.heap.size, 1, none⟩) hl2).trans c12))
  have hq4 := (hq2.next hb2).next hb3
  have B3 := chain (chain B1 hb2) hb3
  have HI3 := Lib.hid (HI2.out.next hb3)
  have hl3 : w.heap.size < w3.heap.size := Nat.lt_of_lt_of_le hl2 hb3.size
  clear hq2 hb2 hb3 B1 HI1 HI2 c0 c1 c02 c12 hl1 hl2
  go_wp2_with fail
  refine (refValid_any h A n c xs _ HI3.out hn).mono ?_
  rintro e w4 ⟨rfl, hb4⟩
  have c04 : w4.cell? ⟨w.heap.size, 0, none⟩ = some (.int .i64 h) := (hb4.cell (p := ⟨w.heap.size, 0, none⟩) hl3).trans c03
  have c14 : w4.cell? ⟨w.heap.size, 1, none⟩ = some (.slice A n c) := (hb4.cell (p := ⟨w.heap.size, 1, none⟩) hl3).trans c13
  have hq5 := hq4.next hb4
  have B4 := chain B3 hb4
  have HI4 := Lib.hid (HI3.out.next hb4)
  clear hq4 hb4 B3 HI3 c03 c13
  go_wp2_with (go_at_call 11; refine (far_any _ _).mono ?_; rintro e w' ⟨rfl, rfl⟩)
  refine (known_any _ hq5).mono ?_
  rintro e w9 ⟨rfl, hb9⟩
  go_wp2
  go_ret
  exact ⟨rfl, chain B4 hb9⟩

set_option maxHeartbeats 400000 in
theorem law4_zero (h : Int) (A : Option Addr) (n c : Nat) (xs : List Int)  (w : World) (hq : Quad w) (hI : Ints w w.heap.size A n xs) (h20 : n ≤ 20) (hv : validB h xs = true) :
    Calls Tryd.prog 4 #[.agg #[.int .i64 h, .slice A n c], .int .i64 0, .int .i64 0] w (KnownOk w) := by
  have hb0 := (Below.refl w.heap.size w).alloc (Nat.le_refl _) (.cells #[.int .i64 h, .slice A n c] 31)
  have HI := Lib.hid (hI.next hb0)
  have hq1 := hq.next hb0
  have hn : n ≤ 9223372036854775807 := by omega
  have f0 := far0
  clear hI
  go_enter Tryd.func4, Tryd.ntmps4
  go_wp2_with fail
  refine (loss_zero h A n c xs _ HI.out (by omega) hv).mono ?_
  rintro e w1 ⟨rfl, hb1⟩
  have c0 : w1.cell? ⟨w.heap.size, 0, none⟩ = some (.int .i64 h) := (hb1.cell (p := ⟨w.heap.size, 0, none⟩) (by simp)).trans (by go_simp)
  have c1 : w1.cell? ⟨w.heap.size, 1, none⟩ = some (.slice A n c) := (hb1.cell (p := ⟨w.heap.size, 1, none⟩) (by simp)).trans (by go_simp)
  have hl1 : w.heap.size < w1.heap.size := by have := hb1.size; simp at this; omega
  have HI1 := Lib.hid (HI.out.next hb1)
  have hq2 := hq1.next hb1
  have B1 := chain hb0 hb1
  clear hb1 hb0 hq1 hq HI
  go_wp2_with fail
  go_region_held3 (fun w' => w'.cell? ⟨w.heap.size, 0, none⟩ = some (.int .i64 h) ∧ w'.cell? ⟨w.heap.size, 1, none⟩ = some (.slice A n c))
    (first | go_keep | exact ⟨by assumption, by assumption⟩)
    (first | (go_at_call 15; refine (valid_any h A n c xs _ (by exact HI1.out) hn).mono ?_; rintro e w2 ⟨rfl, hb2⟩; have hb2 : Below w1.heap.size w1 w2 := below_undrew hb2; have c02 : w2.cell? ⟨w.heap.size, 0, none⟩ = some (.int .i64 h) := (hb2.cell (p := ⟨w.heap.size, 0, none⟩) hl1).trans c0; have c12 : w2.cell? ⟨w.heap.size, 1, none⟩ = some (.slice A n c) := (hb2.cell (p := ⟨w.heap.size, 1, none⟩) hl1).trans c1; have hl2 : w.heap.size < w2.heap.size := Nat.lt_of_lt_of_le hl1 hb2.size; have HI2 := Lib.hid (HI1.out.next hb2)) | (go_at_call 16; refine (refValid_any h A n c xs _ (by exact HI2.out) hn).mono ?_; rintro e w3 ⟨rfl, hb3⟩; have c03 : w3.cell? ⟨w.heap.size, 0, none⟩ = some (.int .i64 h) := (hb3.cell (p := ⟨w.heap.size, 0, none⟩) hl2).trans c02; have c13 : w3.cell? ⟨w.heap.size, 1, none⟩ = some (.slice A n c) := (hb3.cell (p := ⟨w.heap.size, 1, none⟩) hl2).trans c12))
  have hq4 := (hq2.next hb2).next hb3
  have B3 := chain (chain B1 hb2) hb3
  have HI3 := Lib.hid (HI2.out.next hb3)
  have hl3 : w.heap.size < w3.heap.size := Nat.lt_of_lt_of_le hl2 hb3.size
  clear hq2 hb2 hb3 B1 HI1 HI2 c0 c1 c02 c12 hl1 hl2
  go_wp2_with fail
  refine (refValid_any h A n c xs _ HI3.out hn).mono ?_
  rintro e w4 ⟨rfl, hb4⟩
  have c04 : w4.cell? ⟨w.heap.size, 0, none⟩ = some (.int .i64 h) := (hb4.cell (p := ⟨w.heap.size, 0, none⟩) hl3).trans c03
  have c14 : w4.cell? ⟨w.heap.size, 1, none⟩ = some (.slice A n c) := (hb4.cell (p := ⟨w.heap.size, 1, none⟩) hl3).trans c13
  have hq5 := hq4.next hb4
  have B4 := chain B3 hb4
  have HI4 := Lib.hid (HI3.out.next hb4)
  clear hq4 hb4 B3 HI3 c03 c13
  go_wp2_with (go_at_call 11; refine (far_any _ _).mono ?_; rintro e w' ⟨rfl, rfl⟩)
  refine (refLoss_zero h A n c _).mono ?_
  rintro e w5 ⟨rfl, hb5⟩
  have hq6 := hq5.next hb5
  have B5 := chain B4 hb5
  clear hb5 hq5 B4
  go_wp2_with fail
  refine (known_any _ hq6).mono ?_
  rintro e w9 ⟨rfl, hb9⟩
  go_wp2
  go_ret
  exact ⟨rfl, chain B5 hb9⟩

set_option maxHeartbeats 400000 in
theorem law4_yes (h : Int) (A : Option Addr) (n c : Nat) (xs : List Int) (dx dy : Int) (w : World) (hq : Quad w) (hI : Ints w w.heap.size A n xs) (h20 : n ≤ 20) (hv : validB h xs = true) (hx : farB dx = false) (hy : farB dy = false) (hnz : ¬ (dx = 0 ∧ dy = 0)) :
    Calls Tryd.prog 4 #[.agg #[.int .i64 h, .slice A n c], .int .i64 dx, .int .i64 dy] w (KnownOk w) := by
  have hb0 := (Below.refl w.heap.size w).alloc (Nat.le_refl _) (.cells #[.int .i64 h, .slice A n c] 31)
  have HI := Lib.hid (hI.next hb0)
  have hq1 := hq.next hb0
  have hn : n ≤ 9223372036854775807 := by omega
  have HN := Lib.hid hnz
  have HL := Lib.hid ((validB_iff h xs).1 hv).2.2.1
  clear hnz
  clear hI
  go_enter Tryd.func4, Tryd.ntmps4
  go_wp2_with fail
  refine (loss_yes h A n c xs dx dy _ hq1 HI.out (by omega) hv hx hy HN.out).mono ?_
  rintro e w1 ⟨rfl, hb1⟩
  have c0 : w1.cell? ⟨w.heap.size, 0, none⟩ = some (.int .i64 h) := (hb1.cell (p := ⟨w.heap.size, 0, none⟩) (by simp)).trans (by go_simp)
  have c1 : w1.cell? ⟨w.heap.size, 1, none⟩ = some (.slice A n c) := (hb1.cell (p := ⟨w.heap.size, 1, none⟩) (by simp)).trans (by go_simp)
  have hl1 : w.heap.size < w1.heap.size := by have := hb1.size; simp at this; omega
  have HI1 := Lib.hid (HI.out.next hb1)
  have hq2 := hq1.next hb1
  have B1 := chain hb0 hb1
  clear hb1 hb0 hq1 hq HI
  go_wp2_with fail
  go_region_held3 (fun w' => w'.cell? ⟨w.heap.size, 0, none⟩ = some (.int .i64 h) ∧ w'.cell? ⟨w.heap.size, 1, none⟩ = some (.slice A n c))
    (first | go_keep | exact ⟨by assumption, by assumption⟩)
    (first | (go_at_call 15; refine (valid_any h A n c xs _ (by exact HI1.out) hn).mono ?_; rintro e w2 ⟨rfl, hb2⟩; have hb2 : Below w1.heap.size w1 w2 := below_undrew hb2; have c02 : w2.cell? ⟨w.heap.size, 0, none⟩ = some (.int .i64 h) := (hb2.cell (p := ⟨w.heap.size, 0, none⟩) hl1).trans c0; have c12 : w2.cell? ⟨w.heap.size, 1, none⟩ = some (.slice A n c) := (hb2.cell (p := ⟨w.heap.size, 1, none⟩) hl1).trans c1; have hl2 : w.heap.size < w2.heap.size := Nat.lt_of_lt_of_le hl1 hb2.size; have HI2 := Lib.hid (HI1.out.next hb2)) | (go_at_call 16; refine (refValid_any h A n c xs _ (by exact HI2.out) hn).mono ?_; rintro e w3 ⟨rfl, hb3⟩; have c03 : w3.cell? ⟨w.heap.size, 0, none⟩ = some (.int .i64 h) := (hb3.cell (p := ⟨w.heap.size, 0, none⟩) hl2).trans c02; have c13 : w3.cell? ⟨w.heap.size, 1, none⟩ = some (.slice A n c) := (hb3.cell (p := ⟨w.heap.size, 1, none⟩) hl2).trans c12))
  have hq4 := (hq2.next hb2).next hb3
  have B3 := chain (chain B1 hb2) hb3
  have HI3 := Lib.hid (HI2.out.next hb3)
  have hl3 : w.heap.size < w3.heap.size := Nat.lt_of_lt_of_le hl2 hb3.size
  clear hq2 hb2 hb3 B1 HI1 HI2 c0 c1 c02 c12 hl1 hl2
  go_wp2_with fail
  refine (refValid_any h A n c xs _ HI3.out hn).mono ?_
  rintro e w4 ⟨rfl, hb4⟩
  have c04 : w4.cell? ⟨w.heap.size, 0, none⟩ = some (.int .i64 h) := (hb4.cell (p := ⟨w.heap.size, 0, none⟩) hl3).trans c03
  have c14 : w4.cell? ⟨w.heap.size, 1, none⟩ = some (.slice A n c) := (hb4.cell (p := ⟨w.heap.size, 1, none⟩) hl3).trans c13
  have hq5 := hq4.next hb4
  have B4 := chain B3 hb4
  have HI4 := Lib.hid (HI3.out.next hb4)
  clear hq4 hb4 B3 HI3 c03 c13
  go_wp2_with (go_at_call 11; refine (far_any _ _).mono ?_; rintro e w' ⟨rfl, rfl⟩)
  refine (refLoss_yes h A n c xs dx dy _ HI4.out HL.out hx hy HN.out).mono ?_
  rintro e w5 ⟨rfl, hb5⟩
  have hq6 := hq5.next hb5
  have B5 := chain B4 hb5
  clear hb5 hq5 B4
  go_wp2_with fail
  refine (known_any _ hq6).mono ?_
  rintro e w9 ⟨rfl, hb9⟩
  go_wp2
  go_ret
  exact ⟨rfl, chain B5 hb9⟩

theorem law4 (h : Int) (A : Option Addr) (n c : Nat) (xs : List Int) (dx dy : Int) (w : World) (hq : Quad w) (hI : Ints w w.heap.size A n xs) (hn : n ≤ 9223372036854775807) :
    Calls Tryd.prog 4 #[.agg #[.int .i64 h, .slice A n c], .int .i64 dx, .int .i64 dy] w (KnownOk w) := by
  by_cases h20 : 20 < n
  · exact law4_long h A n c dx dy w hq hn h20
  · cases hv : validB h xs with
    | false => exact law4_bad h A n c xs dx dy w hq hI (by omega) hv
    | true =>
      cases hx : farB dx with
      | true => exact law4_farx h A n c xs dx dy w hq hI (by omega) hv hx
      | false =>
        cases hy : farB dy with
        | true => exact law4_fary h A n c xs dx dy w hq hI (by omega) hv hx hy
        | false =>
          by_cases hz : dx = 0 ∧ dy = 0
          · obtain ⟨rfl, rfl⟩ := hz
            exact law4_zero h A n c xs w hq hI (by omega) hv
          · exact law4_yes h A n c xs dx dy w hq hI (by omega) hv hx hy hz
end Go.Proofs.YthaodhipebadcaaDoor
