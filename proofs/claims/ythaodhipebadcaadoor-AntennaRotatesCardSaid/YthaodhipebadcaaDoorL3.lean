/- The walk of bandplanlaw12.AntennaRotates: it returns true for any antenna and any int, in a world whose variable quadrants is laid. -/
import Derived.Test.YthaodhipebadcaaDoorL2
namespace Go.Proofs.YthaodhipebadcaaDoor
open Go.RowKit

set_option maxHeartbeats 400000 in
theorem law5_long (h : Int) (A : Option Addr) (n c : Nat) (s : Int) (w : World) (hq : Quad w) (hn : n ≤ 9223372036854775807) (h20 : 20 < n) :
    Calls Tryd.prog 5 #[.agg #[.int .i64 h, .slice A n c], .int .i64 s] w (KnownOk w) := by
  have hb0 := (Below.refl w.heap.size w).alloc (Nat.le_refl _) (.cells #[.int .i64 h, .slice A n c] 31)
  have hq1 := hq.next hb0
  go_enter Tryd.func5, Tryd.ntmps5
  go_wp2_with fail
  refine (known_any _ hq1).mono ?_
  rintro e w1 ⟨rfl, hb1⟩
  go_wp2
  go_ret
  exact ⟨rfl, chain hb0 hb1⟩

set_option maxHeartbeats 400000 in
theorem law5_bad (h : Int) (A : Option Addr) (n c : Nat) (xs : List Int) (s : Int) (w : World) (hq : Quad w) (hI : Ints w w.heap.size A n xs) (h20 : n ≤ 20) (hv : validB h xs = false) :
    Calls Tryd.prog 5 #[.agg #[.int .i64 h, .slice A n c], .int .i64 s] w (KnownOk w) := by
  have hb0 := (Below.refl w.heap.size w).alloc (Nat.le_refl _) (.cells #[.int .i64 h, .slice A n c] 31)
  have HI := Lib.hid (hI.next hb0)
  have hq1 := hq.next hb0
  have hn : n ≤ 9223372036854775807 := by omega
  clear hI
  go_enter Tryd.func5, Tryd.ntmps5
  go_wp2_with fail
  refine (refCopy_any h A n c xs _ HI.out (by omega)).mono ?_
  rintro e w1 ⟨A1, n1, c1, rfl, _, hb1⟩
  have hb2 := (Below.refl w1.heap.size w1).alloc (Nat.le_refl _) (.cells #[.int .i64 h, .slice A1 n1 c1] 31)
  have hl1 : w.heap.size < w1.heap.size := by have := hb1.size; simp at this; omega
  have c0 : (w1.alloc (.cells #[.int .i64 h, .slice A1 n1 c1] 31)).cell? ⟨w.heap.size, 0, none⟩ = some (.int .i64 h) := (World.cell?_alloc_lt _ _ _ hl1).trans ((hb1.cell (p := ⟨w.heap.size, 0, none⟩) (by simp)).trans (by go_simp))
  have c1' : (w1.alloc (.cells #[.int .i64 h, .slice A1 n1 c1] 31)).cell? ⟨w.heap.size, 1, none⟩ = some (.slice A n c) := (World.cell?_alloc_lt _ _ _ hl1).trans ((hb1.cell (p := ⟨w.heap.size, 1, none⟩) (by simp)).trans (by go_simp))
  have HI2 := Lib.hid ((HI.out.next hb1).next hb2)
  have hq2 := (hq1.next hb1).next hb2
  have B2 := chain (chain hb0 hb1) hb2
  clear hb1 hb2 hb0 hq hq1 HI
  go_wp2_with fail
  refine (rotate_no h A n c xs s _ HI2.out hn hv).mono ?_
  rintro e w3 ⟨rfl, hb3⟩
  have hb4 := (Below.refl w3.heap.size w3).alloc (Nat.le_refl _) (.cells #[.int .i64 0, .slice none 0 0] 31)
  have hl3 : w.heap.size < w3.heap.size := by have := hb3.size; simp at this; omega
  have d0 : (w3.alloc (.cells #[.int .i64 0, .slice none 0 0] 31)).cell? ⟨w.heap.size, 0, none⟩ = some (.int .i64 h) := (World.cell?_alloc_lt _ _ _ hl3).trans ((hb3.cell (p := ⟨w.heap.size, 0, none⟩) (by simp <;> omega)).trans c0)
  have d1 : (w3.alloc (.cells #[.int .i64 0, .slice none 0 0] 31)).cell? ⟨w.heap.size, 1, none⟩ = some (.slice A n c) := (World.cell?_alloc_lt _ _ _ hl3).trans ((hb3.cell (p := ⟨w.heap.size, 1, none⟩) (by simp <;> omega)).trans c1')
  have HI4 := Lib.hid ((HI2.out.next hb3).next hb4)
  have hq4 := (hq2.next hb3).next hb4
  have B4 := chain (chain B2 hb3) hb4
  clear hb3 hb4 hq2 B2 HI2 c0 c1'
  go_wp2_with fail
  refine (refValid_any h A n c xs _ HI4.out hn).mono ?_
  rintro e w5 ⟨rfl, hb5⟩
  have e0 : w5.cell? ⟨w3.heap.size, 0, none⟩ = some (.int .i64 0) := (hb5.cell (p := ⟨w3.heap.size, 0, none⟩) (by simp)).trans (by go_simp)
  have e1 : w5.cell? ⟨w3.heap.size, 1, none⟩ = some (.slice none 0 0) := (hb5.cell (p := ⟨w3.heap.size, 1, none⟩) (by simp)).trans (by go_simp)
  have hq5 := hq4.next hb5
  have B5 := chain B4 hb5
  clear hb5 hq4 B4 HI4 d0 d1
  go_wp2_with fail
  refine (refused_yes _).mono ?_
  rintro e w6 ⟨rfl, hb6⟩
  have hq6 := hq5.next hb6
  have B6 := chain B5 hb6
  clear hb6 hq5 B5
  go_wp2_with fail
  refine (known_any _ hq6).mono ?_
  rintro e w9 ⟨rfl, hb9⟩
  go_wp2
  go_ret
  exact ⟨rfl, chain B6 hb9⟩

set_option maxHeartbeats 800000 in
theorem law5_yes (h : Int) (A : Option Addr) (n c : Nat) (xs : List Int) (s : Int) (w : World) (hq : Quad w) (hI : Ints w w.heap.size A n xs) (h20 : n ≤ 20) (hv : validB h xs = true) :
    Calls Tryd.prog 5 #[.agg #[.int .i64 h, .slice A n c], .int .i64 s] w (KnownOk w) := by
  have hb0 := (Below.refl w.heap.size w).alloc (Nat.le_refl _) (.cells #[.int .i64 h, .slice A n c] 31)
  have HI := Lib.hid (hI.next hb0)
  have hq1 := hq.next hb0
  have hn : n ≤ 9223372036854775807 := by omega
  have HL := Lib.hid ((validB_iff h xs).1 hv).2.2.1
  have hee := eqAnt_self h (rotL s xs 16)
  have hef := eqAnt_self h xs
  clear hI
  go_enter Tryd.func5, Tryd.ntmps5
  go_wp2_with fail
  refine (refCopy_any h A n c xs _ HI.out (by omega)).mono ?_
  rintro e w1 ⟨A1, n1, c1, rfl, hown1, hb1⟩
  have hb2 := (Below.refl w1.heap.size w1).alloc (Nat.le_refl _) (.cells #[.int .i64 h, .slice A1 n1 c1] 31)
  have hn1 : n1 ≤ 9223372036854775807 := by have := hown1.len; have := HL.out; omega
  have hl1 : w.heap.size < w1.heap.size := by have := hb1.size; simp at this; omega
  have c0 : (w1.alloc (.cells #[.int .i64 h, .slice A1 n1 c1] 31)).cell? ⟨w.heap.size, 0, none⟩ = some (.int .i64 h) := (World.cell?_alloc_lt _ _ _ hl1).trans ((hb1.cell (p := ⟨w.heap.size, 0, none⟩) (by simp)).trans (by go_simp))
  have c1' : (w1.alloc (.cells #[.int .i64 h, .slice A1 n1 c1] 31)).cell? ⟨w.heap.size, 1, none⟩ = some (.slice A n c) := (World.cell?_alloc_lt _ _ _ hl1).trans ((hb1.cell (p := ⟨w.heap.size, 1, none⟩) (by simp)).trans (by go_simp))
  have k0 : (w1.alloc (.cells #[.int .i64 h, .slice A1 n1 c1] 31)).cell? ⟨w1.heap.size, 0, none⟩ = some (.int .i64 h) := by go_simp
  have k1 : (w1.alloc (.cells #[.int .i64 h, .slice A1 n1 c1] 31)).cell? ⟨w1.heap.size, 1, none⟩ = some (.slice A1 n1 c1) := by go_simp
  have HI2 := Lib.hid ((HI.out.next hb1).next hb2)
  have HJ2 := Lib.hid (hown1.ints.next hb2)
  have hq2 := (hq1.next hb1).next hb2
  have B2 := chain (chain hb0 hb1) hb2
  have hs2 : (w1.alloc (.cells #[.int .i64 h, .slice A1 n1 c1] 31)).heap.size = w1.heap.size + 1 := by simp
  clear hb1 hb2 hb0 hq hq1 HI hown1
  obtain ⟨W1, hW1⟩ : ∃ W1, W1 = w1.alloc (.cells #[.int .i64 h, .slice A1 n1 c1] 31) := ⟨_, rfl⟩
  go_wp2_with fail
  rw [← hW1] at c0 c1' k0 k1 HI2 HJ2 hq2 B2 hs2 ⊢
  clear hW1
  have HS2 := Lib.hid hs2
  have hl2 : w.heap.size < W1.heap.size := by omega
  have hm2 : w1.heap.size < W1.heap.size := by omega
  clear hs2
  refine (rotate_yes h A n c xs s _ HI2.out hn hv).mono ?_
  rintro e w3 ⟨A3, n3, c3, rfl, hown3, hb3⟩
  obtain rfl : n3 = 16 := by have := hown3.len; rw [rotL_len] at this; omega
  obtain ⟨g, hg0, hg1, hg2⟩ : ∃ g, A3 = some ⟨g, 0, none⟩ ∧ W1.heap.size ≤ g ∧ g < w3.heap.size := by
    rcases hown3.form with ⟨_, h0, _⟩ | ⟨g, cur, e, h1, h2, _⟩
    · omega
    · exact ⟨g, e, h1, h2⟩
  subst hg0
  have hb4 := (Below.refl w3.heap.size w3).alloc (Nat.le_refl _) (.cells #[.int .i64 h, .slice (some ⟨g, 0, none⟩) 16 c3] 31)
  have G4 := chain hb3 hb4
  have HO4 := Lib.hid (hown3.next hb4)
  have hq4 := hq2.next G4
  have B4 := chain B2 G4
  have hl3 : w.heap.size < w3.heap.size := by omega
  have hm3 : w1.heap.size < w3.heap.size := by omega
  have d0 : (w3.alloc (.cells #[.int .i64 h, .slice (some ⟨g, 0, none⟩) 16 c3] 31)).cell? ⟨w.heap.size, 0, none⟩ = some (.int .i64 h) := (G4.cell (p := ⟨w.heap.size, 0, none⟩) hl2).trans c0
  have d1 : (w3.alloc (.cells #[.int .i64 h, .slice (some ⟨g, 0, none⟩) 16 c3] 31)).cell? ⟨w.heap.size, 1, none⟩ = some (.slice A n c) := (G4.cell (p := ⟨w.heap.size, 1, none⟩) hl2).trans c1'
  have hq2' := hq2
  clear hb3 hb4 hq2 hown3
  go_wp2_with fail
  refine (refValid_any h A n c xs _ (HI2.out.next G4) hn).mono ?_
  rintro e w5 ⟨rfl, hb5⟩
  have G5 := chain G4 hb5
  have HO5 := Lib.hid (HO4.out.next hb5)
  have hq5 := hq4.next hb5
  have B5 := chain B4 hb5
  have hl5 : w3.heap.size < w5.heap.size := by have := hb5.size; simp at this; omega
  have e0 : w5.cell? ⟨w3.heap.size, 0, none⟩ = some (.int .i64 h) := (hb5.cell (p := ⟨w3.heap.size, 0, none⟩) (by simp)).trans (by go_simp)
  have e1 : w5.cell? ⟨w3.heap.size, 1, none⟩ = some (.slice (some ⟨g, 0, none⟩) 16 c3) := (hb5.cell (p := ⟨w3.heap.size, 1, none⟩) (by simp)).trans (by go_simp)
  have d0 : w5.cell? ⟨w.heap.size, 0, none⟩ = some (.int .i64 h) := (G5.cell (p := ⟨w.heap.size, 0, none⟩) hl2).trans c0
  have d1 : w5.cell? ⟨w.heap.size, 1, none⟩ = some (.slice A n c) := (G5.cell (p := ⟨w.heap.size, 1, none⟩) hl2).trans c1'
  have HI5 := Lib.hid (HI2.out.next G5)
  clear hb5 G4 HO4 hq4 B4
  go_wp2_with fail
  go_region_held3 (fun w' => w'.cell? ⟨w.heap.size, 0, none⟩ = some (.int .i64 h) ∧ w'.cell? ⟨w.heap.size, 1, none⟩ = some (.slice A n c) ∧ w'.cell? ⟨w3.heap.size, 0, none⟩ = some (.int .i64 h) ∧ w'.cell? ⟨w3.heap.size, 1, none⟩ = some (.slice (some ⟨g, 0, none⟩) 16 c3))
    (first | go_keep | exact ⟨by assumption, by assumption, by assumption, by assumption⟩)
    (first | (go_at_call 22; refine (refRotate_any h A n c xs s _ (by exact HI5.out) HL.out).mono ?_; rintro e w6 ⟨A6, n6, c6, rfl, hown6, hb6⟩; have hb6 := below_undrew hb6; have e06 : w6.cell? ⟨w3.heap.size, 0, none⟩ = some (.int .i64 h) := (hb6.cell (p := ⟨w3.heap.size, 0, none⟩) hl5).trans e0; have e16 : w6.cell? ⟨w3.heap.size, 1, none⟩ = some (.slice (some ⟨g, 0, none⟩) 16 c3) := (hb6.cell (p := ⟨w3.heap.size, 1, none⟩) hl5).trans e1; have hl6 : w3.heap.size < w6.heap.size := Nat.lt_of_lt_of_le hl5 hb6.size; have G6 := chain G5 hb6; have HO6 := Lib.hid (HO5.out.next hb6); have d06 : w6.cell? ⟨w.heap.size, 0, none⟩ = some (.int .i64 h) := (G6.cell (p := ⟨w.heap.size, 0, none⟩) hl2).trans c0; have d16 : w6.cell? ⟨w.heap.size, 1, none⟩ = some (.slice A n c) := (G6.cell (p := ⟨w.heap.size, 1, none⟩) hl2).trans c1'; have hn6 : n6 ≤ 9223372036854775807 := by (have := hown6.len; rw [rotL_len] at this; omega)) | (go_at_call 21; refine (refEqual_any h _ 16 c3 (rotL s xs 16) h A6 n6 c6 (rotL s xs 16) _ (by exact HO6.out.ints) (by exact hown6.ints) (by omega) hn6).mono ?_; rintro e w7 ⟨rfl, hb7⟩; have e07 : w7.cell? ⟨w3.heap.size, 0, none⟩ = some (.int .i64 h) := (hb7.cell (p := ⟨w3.heap.size, 0, none⟩) hl6).trans e06; have e17 : w7.cell? ⟨w3.heap.size, 1, none⟩ = some (.slice (some ⟨g, 0, none⟩) 16 c3) := (hb7.cell (p := ⟨w3.heap.size, 1, none⟩) hl6).trans e16; have G7 := chain G6 hb7; have d07 : w7.cell? ⟨w.heap.size, 0, none⟩ = some (.int .i64 h) := (G7.cell (p := ⟨w.heap.size, 0, none⟩) hl2).trans c0; have d17 : w7.cell? ⟨w.heap.size, 1, none⟩ = some (.slice A n c) := (G7.cell (p := ⟨w.heap.size, 1, none⟩) hl2).trans c1'))
  have hq7 := hq2'.next G7
  have B7 := chain B2 G7
  have HO7 := Lib.hid (HO6.out.next hb7)
  have G7H := Lib.hid G7
  have hl7 : w3.heap.size < w7.heap.size := Nat.lt_of_lt_of_le hl6 hb7.size
  clear G5 hb6 hb7 G6 G7 HO5 HO6 hown6 B5 hq5 d0 d1 e0 e1 d06 d16 e06 e16 HI5 hee
  go_wp2_with fail
  go_loopw [8] (fun i wr => ∃ (k : Nat) (zs : List Int), k ≤ 16 ∧ i = .int .i64 k ∧ Own wr W1.heap.size 3 (some ⟨g, 0, none⟩) 16 c3 zs ∧ w7.grownBy wr (some g)) (fun i _ => 16 - (intOf i).toNat)
  case atStart => exact ⟨0, _, by omega, rfl, HO7.out, World.grownBy.refl _ _⟩
  case round =>
    obtain ⟨k, zs, hk, rfl, hown', hgr⟩ := hrel
    have HG := Lib.hid hgr
    have HO' := Lib.hid hown'
    by_cases hlt : k < 16
    · have q1 : wr.cell? ⟨w3.heap.size, 1, none⟩ = some (.slice (some ⟨g, 0, none⟩) 16 c3) := (cell_grown hgr 1 hl7 (by simp; omega)).trans e17
      have g1 := hown'.cell hlt
      have g2 := hown'.frozen k
      have hki : (k : Int) < 16 := by omega
      clear hown' hgr
      go_wp2
      go_roundw
      case rel => exact ⟨k + 1, _, by omega, by go_num, HO'.out.stored _, HG.out.trans ⟨rfl, rfl, rfl, by simp, fun i _ hne => Below.heap_setCell _ _ _ _ (by simpa using hne)⟩⟩
      case measure => simp [intOf]; omega
    · obtain rfl : k = 16 := by omega
      have G9 : Below W1.heap.size W1 wr := G7H.out.grown hgr G7H.out.size (by intro j hj; injection hj with hj; omega)
      have u0 : wr.cell? ⟨w.heap.size, 0, none⟩ = some (.int .i64 h) := (G9.cell (p := ⟨w.heap.size, 0, none⟩) hl2).trans c0
      have u1 : wr.cell? ⟨w.heap.size, 1, none⟩ = some (.slice A n c) := (G9.cell (p := ⟨w.heap.size, 1, none⟩) hl2).trans c1'
      have u2 : wr.cell? ⟨w1.heap.size, 0, none⟩ = some (.int .i64 h) := (G9.cell (p := ⟨w1.heap.size, 0, none⟩) hm2).trans k0
      have u3 : wr.cell? ⟨w1.heap.size, 1, none⟩ = some (.slice A1 n1 c1) := (G9.cell (p := ⟨w1.heap.size, 1, none⟩) hm2).trans k1
      have HI9 := Lib.hid (HI2.out.next G9)
      have HJ9 := Lib.hid (HJ2.out.next G9)
      have hq9 := hq2'.next G9
      have B9 := chain B2 G9
      clear hown' hgr G9
      go_wp2_with fail
      refine (refEqual_any h A n c xs h A1 n1 c1 xs _ HI9.out HJ9.out hn hn1).mono ?_
      rintro e w8 ⟨rfl, hb8⟩
      have hq10 := hq9.next hb8
      have B10 := chain B9 hb8
      clear hb8 hq9 B9
      go_wp2_with fail
      refine (known_any _ hq10).mono ?_
      rintro e w9 ⟨rfl, hb9⟩
      go_wp2
      go_ret
      exact ⟨rfl, chain B10 hb9⟩

theorem law5 (h : Int) (A : Option Addr) (n c : Nat) (xs : List Int) (s : Int) (w : World) (hq : Quad w) (hI : Ints w w.heap.size A n xs) (hn : n ≤ 9223372036854775807) :
    Calls Tryd.prog 5 #[.agg #[.int .i64 h, .slice A n c], .int .i64 s] w (KnownOk w) := by
  by_cases h20 : 20 < n
  · exact law5_long h A n c s w hq hn h20
  · cases hv : validB h xs with
    | false => exact law5_bad h A n c xs s w hq hI (by omega) hv
    | true => exact law5_yes h A n c xs s w hq hI (by omega) hv
end Go.Proofs.YthaodhipebadcaaDoor
