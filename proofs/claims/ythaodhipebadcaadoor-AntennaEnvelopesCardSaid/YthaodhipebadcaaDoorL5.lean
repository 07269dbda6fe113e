/- The walk of bandplanlaw12.AntennaEnvelopes: it returns true for any two antennas, in a world whose variable quadrants is laid. -/
import Derived.Test.YthaodhipebadcaaDoorL2
import Derived.Test.YthaodhipebadcaaDoorWb
namespace Go.Proofs.YthaodhipebadcaaDoor
open Go.RowKit

theorem gcell {B : Nat} {W w' : World} {b o : Nat} {v : Value} (G : Below B W w') (hb : b < B) (hc : W.cell? ⟨b, o, none⟩ = some v) : w'.cell? ⟨b, o, none⟩ = some v := (G.cell (p := ⟨b, o, none⟩) hb).trans hc

set_option maxHeartbeats 400000 in
theorem law7_long (h : Int) (A : Option Addr) (n c : Nat) (h2 : Int) (A2 : Option Addr) (m c2 : Nat) (w : World) (hq : Quad w) (hn : n ≤ 9223372036854775807) (hm : m ≤ 9223372036854775807) (hl : 20 < n ∨ (n ≤ 20 ∧ 20 < m)) :
    Calls Tryd.prog 7 #[.agg #[.int .i64 h, .slice A n c], .agg #[.int .i64 h2, .slice A2 m c2]] w (KnownOk w) := by
  have hb0 : Below w.heap.size w ((w.alloc (.cells #[.int .i64 h, .slice A n c] 31)).alloc (.cells #[.int .i64 h2, .slice A2 m c2] 31)) := ((Below.refl _ _).alloc (Nat.le_refl _) _).alloc (by simp) _
  have hq1 := hq.next hb0
  rcases hl with hl | ⟨hl, hl2⟩
  all_goals
    go_enter Tryd.func7, Tryd.ntmps7
    go_wp2_with fail
    refine (known_any _ hq1).mono ?_
    rintro e w1 ⟨rfl, hb1⟩
    go_wp2
    go_ret
    exact ⟨rfl, chain hb0 hb1⟩

set_option maxHeartbeats 400000 in
theorem law7_bad1 (h : Int) (A : Option Addr) (n c : Nat) (xs : List Int) (h2 : Int) (A2 : Option Addr) (m c2 : Nat) (ys : List Int) (w : World) (hq : Quad w) (hI : Ints w w.heap.size A n xs) (hJ : Ints w w.heap.size A2 m ys) (hn20 : n ≤ 20) (hm20 : m ≤ 20) (hv : validB h xs = false) :
    Calls Tryd.prog 7 #[.agg #[.int .i64 h, .slice A n c], .agg #[.int .i64 h2, .slice A2 m c2]] w (KnownOk w) := by
  have hb0 : Below w.heap.size w ((w.alloc (.cells #[.int .i64 h, .slice A n c] 31)).alloc (.cells #[.int .i64 h2, .slice A2 m c2] 31)) := ((Below.refl _ _).alloc (Nat.le_refl _) _).alloc (by simp) _
  have HI := Lib.hid (hI.next hb0)
  have HJ := Lib.hid (hJ.next hb0)
  have hq1 := hq.next hb0
  have hn : n ≤ 9223372036854775807 := by omega
  have hm : m ≤ 9223372036854775807 := by omega
  have a0 : ((w.alloc (.cells #[.int .i64 h, .slice A n c] 31)).alloc (.cells #[.int .i64 h2, .slice A2 m c2] 31)).cell? ⟨w.heap.size, 0, none⟩ = some (.int .i64 h) := by go_simp
  have a1 : ((w.alloc (.cells #[.int .i64 h, .slice A n c] 31)).alloc (.cells #[.int .i64 h2, .slice A2 m c2] 31)).cell? ⟨w.heap.size, 1, none⟩ = some (.slice A n c) := by go_simp
  have b0 : ((w.alloc (.cells #[.int .i64 h, .slice A n c] 31)).alloc (.cells #[.int .i64 h2, .slice A2 m c2] 31)).cell? ⟨w.heap.size + 1, 0, none⟩ = some (.int .i64 h2) := by go_simp
  have b1 : ((w.alloc (.cells #[.int .i64 h, .slice A n c] 31)).alloc (.cells #[.int .i64 h2, .slice A2 m c2] 31)).cell? ⟨w.heap.size + 1, 1, none⟩ = some (.slice A2 m c2) := by go_simp
  have hs : ((w.alloc (.cells #[.int .i64 h, .slice A n c] 31)).alloc (.cells #[.int .i64 h2, .slice A2 m c2] 31)).heap.size = w.heap.size + 1 + 1 := by simp
  clear hI hJ hq
  go_enter Tryd.func7, Tryd.ntmps7
  go_wp2_with fail
  obtain ⟨W0, hW0⟩ : ∃ W0, W0 = ((w.alloc (.cells #[.int .i64 h, .slice A n c] 31)).alloc (.cells #[.int .i64 h2, .slice A2 m c2] 31)) := ⟨_, rfl⟩
  rw [← hW0] at hb0 HI HJ hq1 a0 a1 b0 b1 hs ⊢
  clear hW0
  have l0 : w.heap.size < W0.heap.size := by omega
  have l1 : w.heap.size + 1 < W0.heap.size := by omega
  clear hs
  refine (envelope_no1 h A n c xs h2 A2 m c2 _ HI.out hn hv).mono ?_
  rintro e w3 ⟨rfl, hb3⟩
  have hb4 := (Below.refl w3.heap.size w3).alloc (Nat.le_refl _) (.cells #[.int .i64 0, .slice none 0 0] 31)
  have l3 : w.heap.size < w3.heap.size := Nat.lt_of_lt_of_le l0 hb3.size
  have l3' : w.heap.size + 1 < w3.heap.size := Nat.lt_of_lt_of_le l1 hb3.size
  have G4 := chain hb3 hb4
  have a04 := gcell G4 l0 a0
  have a14 := gcell G4 l0 a1
  have b04 := gcell G4 l1 b0
  have b14 := gcell G4 l1 b1
  clear hb3 hb4
  go_wp2_with fail
  refine (refValid_any h A n c xs _ (HI.out.next G4) hn).mono ?_
  rintro e w5 ⟨rfl, hb5⟩
  have e0 : w5.cell? ⟨w3.heap.size, 0, none⟩ = some (.int .i64 0) := (hb5.cell (p := ⟨w3.heap.size, 0, none⟩) (by simp)).trans (by go_simp)
  have e1 : w5.cell? ⟨w3.heap.size, 1, none⟩ = some (.slice none 0 0) := (hb5.cell (p := ⟨w3.heap.size, 1, none⟩) (by simp)).trans (by go_simp)
  have G5 := chain G4 hb5
  go_wp2_with fail
  refine (refused_yes _).mono ?_
  rintro e w7 ⟨rfl, hb7⟩
  have G7 := chain G5 hb7
  clear hb7
  go_wp2_with fail
  refine (known_any _ (hq1.next G7)).mono ?_
  rintro e w9 ⟨rfl, hb9⟩
  go_wp2
  go_ret
  exact ⟨rfl, chain (chain hb0 G7) hb9⟩

set_option maxHeartbeats 400000 in
theorem law7_bad2 (h : Int) (A : Option Addr) (n c : Nat) (xs : List Int) (h2 : Int) (A2 : Option Addr) (m c2 : Nat) (ys : List Int) (w : World) (hq : Quad w) (hI : Ints w w.heap.size A n xs) (hJ : Ints w w.heap.size A2 m ys) (hn20 : n ≤ 20) (hm20 : m ≤ 20) (hv : validB h xs = true) (hv2 : validB h2 ys = false) :
    Calls Tryd.prog 7 #[.agg #[.int .i64 h, .slice A n c], .agg #[.int .i64 h2, .slice A2 m c2]] w (KnownOk w) := by
  have hb0 : Below w.heap.size w ((w.alloc (.cells #[.int .i64 h, .slice A n c] 31)).alloc (.cells #[.int .i64 h2, .slice A2 m c2] 31)) := ((Below.refl _ _).alloc (Nat.le_refl _) _).alloc (by simp) _
  have HI := Lib.hid (hI.next hb0)
  have HJ := Lib.hid (hJ.next hb0)
  have hq1 := hq.next hb0
  have hn : n ≤ 9223372036854775807 := by omega
  have hm : m ≤ 9223372036854775807 := by omega
  have a0 : ((w.alloc (.cells #[.int .i64 h, .slice A n c] 31)).alloc (.cells #[.int .i64 h2, .slice A2 m c2] 31)).cell? ⟨w.heap.size, 0, none⟩ = some (.int .i64 h) := by go_simp
  have a1 : ((w.alloc (.cells #[.int .i64 h, .slice A n c] 31)).alloc (.cells #[.int .i64 h2, .slice A2 m c2] 31)).cell? ⟨w.heap.size, 1, none⟩ = some (.slice A n c) := by go_simp
  have b0 : ((w.alloc (.cells #[.int .i64 h, .slice A n c] 31)).alloc (.cells #[.int .i64 h2, .slice A2 m c2] 31)).cell? ⟨w.heap.size + 1, 0, none⟩ = some (.int .i64 h2) := by go_simp
  have b1 : ((w.alloc (.cells #[.int .i64 h, .slice A n c] 31)).alloc (.cells #[.int .i64 h2, .slice A2 m c2] 31)).cell? ⟨w.heap.size + 1, 1, none⟩ = some (.slice A2 m c2) := by go_simp
  have hs : ((w.alloc (.cells #[.int .i64 h, .slice A n c] 31)).alloc (.cells #[.int .i64 h2, .slice A2 m c2] 31)).heap.size = w.heap.size + 1 + 1 := by simp
  clear hI hJ hq
  go_enter Tryd.func7, Tryd.ntmps7
  go_wp2_with fail
  obtain ⟨W0, hW0⟩ : ∃ W0, W0 = ((w.alloc (.cells #[.int .i64 h, .slice A n c] 31)).alloc (.cells #[.int .i64 h2, .slice A2 m c2] 31)) := ⟨_, rfl⟩
  rw [← hW0] at hb0 HI HJ hq1 a0 a1 b0 b1 hs ⊢
  clear hW0
  have l0 : w.heap.size < W0.heap.size := by omega
  have l1 : w.heap.size + 1 < W0.heap.size := by omega
  clear hs
  refine (envelope_no2 h A n c xs h2 A2 m c2 ys _ HI.out HJ.out hn hm hv hv2).mono ?_
  rintro e w3 ⟨rfl, hb3⟩
  have hb4 := (Below.refl w3.heap.size w3).alloc (Nat.le_refl _) (.cells #[.int .i64 0, .slice none 0 0] 31)
  have l3 : w.heap.size < w3.heap.size := Nat.lt_of_lt_of_le l0 hb3.size
  have l3' : w.heap.size + 1 < w3.heap.size := Nat.lt_of_lt_of_le l1 hb3.size
  have G4 := chain hb3 hb4
  have a04 := gcell G4 l0 a0
  have a14 := gcell G4 l0 a1
  have b04 := gcell G4 l1 b0
  have b14 := gcell G4 l1 b1
  clear hb3 hb4
  go_wp2_with fail
  refine (refValid_any h A n c xs _ (HI.out.next G4) hn).mono ?_
  rintro e w5 ⟨rfl, hb5⟩
  have e0 : w5.cell? ⟨w3.heap.size, 0, none⟩ = some (.int .i64 0) := (hb5.cell (p := ⟨w3.heap.size, 0, none⟩) (by simp)).trans (by go_simp)
  have e1 : w5.cell? ⟨w3.heap.size, 1, none⟩ = some (.slice none 0 0) := (hb5.cell (p := ⟨w3.heap.size, 1, none⟩) (by simp)).trans (by go_simp)
  have G5 := chain G4 hb5
  have l5 : w3.heap.size < w5.heap.size := by have := hb5.size; simp at this; omega
  have b05 := gcell G5 l1 b0
  have b15 := gcell G5 l1 b1
  clear hb5 G4
  go_wp2_with fail
  refine (refValid_any h2 A2 m c2 ys _ (HJ.out.next G5) hm).mono ?_
  rintro e w6 ⟨rfl, hb6⟩
  have e06 : w6.cell? ⟨w3.heap.size, 0, none⟩ = some (.int .i64 0) := (hb6.cell (p := ⟨w3.heap.size, 0, none⟩) l5).trans e0
  have e16 : w6.cell? ⟨w3.heap.size, 1, none⟩ = some (.slice none 0 0) := (hb6.cell (p := ⟨w3.heap.size, 1, none⟩) l5).trans e1
  have G6 := chain G5 hb6
  clear hb6 G5
  go_wp2_with fail
  refine (refused_yes _).mono ?_
  rintro e w7 ⟨rfl, hb7⟩
  have G7 := chain G6 hb7
  clear hb7
  go_wp2_with fail
  refine (known_any _ (hq1.next G7)).mono ?_
  rintro e w9 ⟨rfl, hb9⟩
  go_wp2
  go_ret
  exact ⟨rfl, chain (chain hb0 G7) hb9⟩

set_option maxHeartbeats 800000 in
theorem law7_yes (h : Int) (A : Option Addr) (n c : Nat) (xs : List Int) (h2 : Int) (A2 : Option Addr) (m c2 : Nat) (ys : List Int) (w : World) (hq : Quad w) (hI : Ints w w.heap.size A n xs) (hJ : Ints w w.heap.size A2 m ys) (hn20 : n ≤ 20) (hm20 : m ≤ 20) (hv : validB h xs = true) (hv2 : validB h2 ys = true) :
    Calls Tryd.prog 7 #[.agg #[.int .i64 h, .slice A n c], .agg #[.int .i64 h2, .slice A2 m c2]] w (KnownOk w) := by
  have hb0 : Below w.heap.size w ((w.alloc (.cells #[.int .i64 h, .slice A n c] 31)).alloc (.cells #[.int .i64 h2, .slice A2 m c2] 31)) := ((Below.refl _ _).alloc (Nat.le_refl _) _).alloc (by simp) _
  have HI := Lib.hid (hI.next hb0)
  have HJ := Lib.hid (hJ.next hb0)
  have hq1 := hq.next hb0
  have hn : n ≤ 9223372036854775807 := by omega
  have hm : m ≤ 9223372036854775807 := by omega
  have a0 : ((w.alloc (.cells #[.int .i64 h, .slice A n c] 31)).alloc (.cells #[.int .i64 h2, .slice A2 m c2] 31)).cell? ⟨w.heap.size, 0, none⟩ = some (.int .i64 h) := by go_simp
  have a1 : ((w.alloc (.cells #[.int .i64 h, .slice A n c] 31)).alloc (.cells #[.int .i64 h2, .slice A2 m c2] 31)).cell? ⟨w.heap.size, 1, none⟩ = some (.slice A n c) := by go_simp
  have b0 : ((w.alloc (.cells #[.int .i64 h, .slice A n c] 31)).alloc (.cells #[.int .i64 h2, .slice A2 m c2] 31)).cell? ⟨w.heap.size + 1, 0, none⟩ = some (.int .i64 h2) := by go_simp
  have b1 : ((w.alloc (.cells #[.int .i64 h, .slice A n c] 31)).alloc (.cells #[.int .i64 h2, .slice A2 m c2] 31)).cell? ⟨w.heap.size + 1, 1, none⟩ = some (.slice A2 m c2) := by go_simp
  have hs : ((w.alloc (.cells #[.int .i64 h, .slice A n c] 31)).alloc (.cells #[.int .i64 h2, .slice A2 m c2] 31)).heap.size = w.heap.size + 1 + 1 := by simp
  clear hI hJ hq
  go_enter Tryd.func7, Tryd.ntmps7
  go_wp2_with fail
  obtain ⟨W0, hW0⟩ : ∃ W0, W0 = ((w.alloc (.cells #[.int .i64 h, .slice A n c] 31)).alloc (.cells #[.int .i64 h2, .slice A2 m c2] 31)) := ⟨_, rfl⟩
  rw [← hW0] at hb0 HI HJ hq1 a0 a1 b0 b1 hs ⊢
  clear hW0
  have l0 : w.heap.size < W0.heap.size := by omega
  have l1 : w.heap.size + 1 < W0.heap.size := by omega
  clear hs
  have HL := Lib.hid ((validB_iff h xs).1 hv).2.2.1
  have HL2 := Lib.hid ((validB_iff h2 ys).1 hv2).2.2.1
  obtain ⟨M, hM⟩ : ∃ M, M = min h h2 := ⟨_, rfl⟩
  have hee := eqAnt_self M (minL xs ys 16)
  have EY := Lib.hid (envelope_yes h A n c xs h2 A2 m c2 ys _ HI.out HJ.out hv hv2)
  rw [← hM] at EY
  have RE : Hid (∀ W, Ints W W.heap.size A n xs → Ints W W.heap.size A2 m ys → Calls Tryd.prog 25 #[.agg #[.int .i64 h, .slice A n c], .agg #[.int .i64 h2, .slice A2 m c2]] W (AntR W M (minL xs ys 16))) := by
    intro W i1 i2
    rw [hM]
    exact refEnvelope_any h A n c xs h2 A2 m c2 ys W i1 i2 HL.out HL2.out
  clear hM
  refine EY.out.mono ?_
  rintro e w3 ⟨A3, n3, c3, rfl, hown3, hb3⟩
  have hn3 : n3 ≤ 9223372036854775807 := by have := hown3.len; rw [minL_len] at this; omega
  have hb4 := (Below.refl w3.heap.size w3).alloc (Nat.le_refl _) (.cells #[.int .i64 M, .slice A3 n3 c3] 31)
  have l3 : w.heap.size < w3.heap.size := Nat.lt_of_lt_of_le l0 hb3.size
  have l3' : w.heap.size + 1 < w3.heap.size := Nat.lt_of_lt_of_le l1 hb3.size
  have G4 := chain hb3 hb4
  have HK4 := Lib.hid (hown3.ints.next hb4)
  have a04 := gcell G4 l0 a0
  have a14 := gcell G4 l0 a1
  have b04 := gcell G4 l1 b0
  have b14 := gcell G4 l1 b1
  clear hb3 hb4 hown3 EY
  go_wp2_with fail
  refine (refValid_any h A n c xs _ (HI.out.next G4) hn).mono ?_
  rintro e w5 ⟨rfl, hb5⟩
  have e0 : w5.cell? ⟨w3.heap.size, 0, none⟩ = some (.int .i64 M) := (hb5.cell (p := ⟨w3.heap.size, 0, none⟩) (by simp)).trans (by go_simp)
  have e1 : w5.cell? ⟨w3.heap.size, 1, none⟩ = some (.slice A3 n3 c3) := (hb5.cell (p := ⟨w3.heap.size, 1, none⟩) (by simp)).trans (by go_simp)
  have G5 := chain G4 hb5
  have HK5 := Lib.hid (HK4.out.next hb5)
  have l5 : w3.heap.size < w5.heap.size := by have := hb5.size; simp at this; omega
  have b05 := gcell G5 l1 b0
  have b15 := gcell G5 l1 b1
  clear hb5 G4 HK4
  go_wp2_with fail
  refine (refValid_any h2 A2 m c2 ys _ (HJ.out.next G5) hm).mono ?_
  rintro e w6 ⟨rfl, hb6⟩
  have G6 := chain G5 hb6
  have HK6 := Lib.hid (HK5.out.next hb6)
  have HI6 := Lib.hid (HI.out.next G6)
  have HJ6 := Lib.hid (HJ.out.next G6)
  have l6 : w3.heap.size < w6.heap.size := Nat.lt_of_lt_of_le l5 hb6.size
  have e06 := gcell hb6 l5 e0
  have e16 := gcell hb6 l5 e1
  have a06 := gcell G6 l0 a0
  have a16 := gcell G6 l0 a1
  have b06 := gcell G6 l1 b0
  have b16 := gcell G6 l1 b1
  clear hb6 G5 HK5 e0 e1 b05 b15 a04 a14 b04 b14
  go_wp2_with fail
  go_region_held3 (fun w' => w'.cell? ⟨w.heap.size, 0, none⟩ = some (.int .i64 h) ∧ w'.cell? ⟨w.heap.size, 1, none⟩ = some (.slice A n c) ∧ w'.cell? ⟨w.heap.size + 1, 0, none⟩ = some (.int .i64 h2) ∧ w'.cell? ⟨w.heap.size + 1, 1, none⟩ = some (.slice A2 m c2) ∧ w'.cell? ⟨w3.heap.size, 0, none⟩ = some (.int .i64 M) ∧ w'.cell? ⟨w3.heap.size, 1, none⟩ = some (.slice A3 n3 c3))
    (first | go_keep | exact ⟨by assumption, by assumption, by assumption, by assumption, by assumption, by assumption⟩)
    (first | (go_at_call 25; refine (RE.out _ (by exact HI6.out) (by exact HJ6.out)).mono ?_; rintro e w7 ⟨A7, n7, c7, rfl, hown7, hb7⟩; have hb7 := below_undrew hb7; have G7 := chain G6 hb7; have HK7 := Lib.hid (HK6.out.next hb7); have l7 : w3.heap.size < w7.heap.size := Nat.lt_of_lt_of_le l6 hb7.size; have e07 := gcell hb7 l6 e06; have e17 := gcell hb7 l6 e16; have a07 := gcell G7 l0 a0; have a17 := gcell G7 l0 a1; have b07 := gcell G7 l1 b0; have b17 := gcell G7 l1 b1; have hn7 : n7 ≤ 9223372036854775807 := by (have := hown7.len; rw [minL_len] at this; omega)) | (go_at_call 21; refine (refEqual_any M A3 n3 c3 (minL xs ys 16) M A7 n7 c7 (minL xs ys 16) _ (by exact HK7.out) (by exact hown7.ints) hn3 hn7).mono ?_; rintro e w8 ⟨rfl, hb8⟩; have G8 := chain G7 hb8; have l8 : w3.heap.size < w8.heap.size := Nat.lt_of_lt_of_le l7 hb8.size; have e08 := gcell hb8 l7 e07; have e18 := gcell hb8 l7 e17; have a08 := gcell G8 l0 a0; have a18 := gcell G8 l0 a1; have b08 := gcell G8 l1 b0; have b18 := gcell G8 l1 b1; have hq8 := hq1.next G8) | (go_at_call 12; refine (known_any _ (by exact hq8)).mono ?_; rintro e w9 ⟨rfl, hb9⟩; have G9 := chain G8 hb9; have e09 := gcell hb9 l8 e08; have e19 := gcell hb9 l8 e18; have a09 := gcell G9 l0 a0; have a19 := gcell G9 l0 a1; have b09 := gcell G9 l1 b0; have b19 := gcell G9 l1 b1))
  go_wp2
  go_ret
  exact ⟨rfl, chain hb0 G9⟩

theorem law7 (h : Int) (A : Option Addr) (n c : Nat) (xs : List Int) (h2 : Int) (A2 : Option Addr) (m c2 : Nat) (ys : List Int) (w : World) (hq : Quad w) (hI : Ints w w.heap.size A n xs) (hJ : Ints w w.heap.size A2 m ys) (hn : n ≤ 9223372036854775807) (hm : m ≤ 9223372036854775807) :
    Calls Tryd.prog 7 #[.agg #[.int .i64 h, .slice A n c], .agg #[.int .i64 h2, .slice A2 m c2]] w (KnownOk w) := by
  by_cases hl : 20 < n ∨ (n ≤ 20 ∧ 20 < m)
  · exact law7_long h A n c h2 A2 m c2 w hq hn hm hl
  · cases hv : validB h xs with
    | false => exact law7_bad1 h A n c xs h2 A2 m c2 ys w hq hI hJ (by omega) (by omega) hv
    | true =>
      cases hv2 : validB h2 ys with
      | false => exact law7_bad2 h A n c xs h2 A2 m c2 ys w hq hI hJ (by omega) (by omega) hv hv2
      | true => exact law7_yes h A n c xs h2 A2 m c2 ys w hq hI hJ (by omega) (by omega) hv hv2
end Go.Proofs.YthaodhipebadcaaDoor
