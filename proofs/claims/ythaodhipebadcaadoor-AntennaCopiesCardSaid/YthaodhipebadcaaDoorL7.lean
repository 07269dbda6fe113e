/- The walk of bandplanlaw12.AntennaCopies: it returns true for any two antennas, in a world whose variable quadrants is laid. -/
import Derived.Test.YthaodhipebadcaaDoorL2
namespace Go.Proofs.YthaodhipebadcaaDoor
open Go.RowKit

theorem gcell' {B : Nat} {W w' : World} {b o : Nat} {v : Value} (G : Below B W w') (hb : b < B) (hc : W.cell? ⟨b, o, none⟩ = some v) : w'.cell? ⟨b, o, none⟩ = some v := (G.cell (p := ⟨b, o, none⟩) hb).trans hc

set_option maxHeartbeats 400000 in
theorem law9_long (h : Int) (A : Option Addr) (n c : Nat) (h2 : Int) (A2 : Option Addr) (m c2 : Nat) (w : World) (hq : Quad w) (hn : n ≤ 9223372036854775807) (hm : m ≤ 9223372036854775807) (hl : 20 < n ∨ (n ≤ 20 ∧ 20 < m)) :
    Calls Tryd.prog 9 #[.agg #[.int .i64 h, .slice A n c], .agg #[.int .i64 h2, .slice A2 m c2]] w (KnownOk w) := by
  have hb0 : Below w.heap.size w ((w.alloc (.cells #[.int .i64 h, .slice A n c] 31)).alloc (.cells #[.int .i64 h2, .slice A2 m c2] 31)) := ((Below.refl _ _).alloc (Nat.le_refl _) _).alloc (by simp) _
  have hq1 := hq.next hb0
  rcases hl with hl | ⟨hl, hl2⟩
  all_goals
    go_enter Tryd.func9, Tryd.ntmps9
    go_wp2_with fail
    refine (known_any _ hq1).mono ?_
    rintro e w1 ⟨rfl, hb1⟩
    go_wp2
    go_ret
    exact ⟨rfl, chain hb0 hb1⟩

set_option maxHeartbeats 800000 in
theorem law9_yes (h : Int) (A : Option Addr) (n c : Nat) (xs : List Int) (h2 : Int) (A2 : Option Addr) (m c2 : Nat) (ys : List Int) (w : World) (hq : Quad w) (hI : Ints w w.heap.size A n xs) (hJ : Ints w w.heap.size A2 m ys) (hn20 : n ≤ 20) (hm20 : m ≤ 20) (E : Bool) (hE : eqAnt h xs h2 ys = E) :
    Calls Tryd.prog 9 #[.agg #[.int .i64 h, .slice A n c], .agg #[.int .i64 h2, .slice A2 m c2]] w (KnownOk w) := by
  have hb0 : Below w.heap.size w ((w.alloc (.cells #[.int .i64 h, .slice A n c] 31)).alloc (.cells #[.int .i64 h2, .slice A2 m c2] 31)) := ((Below.refl _ _).alloc (Nat.le_refl _) _).alloc (by simp) _
  have HI := Lib.hid (hI.next hb0)
  have HJ := Lib.hid (hJ.next hb0)
  have HL := Lib.hid hI.1
  have hq1 := hq.next hb0
  have hn : n ≤ 9223372036854775807 := by omega
  have hm : m ≤ 9223372036854775807 := by omega
  have hef := eqAnt_self h xs
  have a0 : ((w.alloc (.cells #[.int .i64 h, .slice A n c] 31)).alloc (.cells #[.int .i64 h2, .slice A2 m c2] 31)).cell? ⟨w.heap.size, 0, none⟩ = some (.int .i64 h) := by go_simp
  have a1 : ((w.alloc (.cells #[.int .i64 h, .slice A n c] 31)).alloc (.cells #[.int .i64 h2, .slice A2 m c2] 31)).cell? ⟨w.heap.size, 1, none⟩ = some (.slice A n c) := by go_simp
  have b0 : ((w.alloc (.cells #[.int .i64 h, .slice A n c] 31)).alloc (.cells #[.int .i64 h2, .slice A2 m c2] 31)).cell? ⟨w.heap.size + 1, 0, none⟩ = some (.int .i64 h2) := by go_simp
  have b1 : ((w.alloc (.cells #[.int .i64 h, .slice A n c] 31)).alloc (.cells #[.int .i64 h2, .slice A2 m c2] 31)).cell? ⟨w.heap.size + 1, 1, none⟩ = some (.slice A2 m c2) := by go_simp
  have hs : ((w.alloc (.cells #[.int .i64 h, .slice A n c] 31)).alloc (.cells #[.int .i64 h2, .slice A2 m c2] 31)).heap.size = w.heap.size + 1 + 1 := by simp
  clear hI hJ hq
  go_enter Tryd.func9, Tryd.ntmps9
  go_wp2_with fail
  obtain ⟨W0, hW0⟩ : ∃ W0, W0 = ((w.alloc (.cells #[.int .i64 h, .slice A n c] 31)).alloc (.cells #[.int .i64 h2, .slice A2 m c2] 31)) := ⟨_, rfl⟩
  rw [← hW0] at hb0 HI HJ hq1 a0 a1 b0 b1 hs ⊢
  clear hW0
  have l0 : w.heap.size < W0.heap.size := by omega
  have l1 : w.heap.size + 1 < W0.heap.size := by omega
  clear hs
  refine (refCopy_any h A n c xs _ HI.out (by omega)).mono ?_
  rintro e w1 ⟨A1, n1, c1, rfl, hown1, hb1⟩
  obtain rfl : n1 = n := by have := hown1.len; have := HL.out; omega
  have hb2 := (Below.refl w1.heap.size w1).alloc (Nat.le_refl _) (.cells #[.int .i64 h, .slice A1 n1 c1] 31)
  have G2 := chain hb1 hb2
  have a02 := gcell' G2 l0 a0
  have a12 := gcell' G2 l0 a1
  have k0 : (w1.alloc (.cells #[.int .i64 h, .slice A1 n1 c1] 31)).cell? ⟨w1.heap.size, 0, none⟩ = some (.int .i64 h) := by go_simp
  have k1 : (w1.alloc (.cells #[.int .i64 h, .slice A1 n1 c1] 31)).cell? ⟨w1.heap.size, 1, none⟩ = some (.slice A1 n1 c1) := by go_simp
  have HW2 := Lib.hid (hown1.ints.next hb2)
  have lw : w1.heap.size < (w1.alloc (.cells #[.int .i64 h, .slice A1 n1 c1] 31)).heap.size := by simp
  have l01 : w.heap.size < w1.heap.size := Nat.lt_of_lt_of_le l0 hb1.size
  clear hb1 hb2 hown1
  go_wp2_with fail
  obtain ⟨W2, hW2⟩ : ∃ W2, W2 = w1.alloc (.cells #[.int .i64 h, .slice A1 n1 c1] 31) := ⟨_, rfl⟩
  rw [← hW2] at G2 a02 a12 k0 k1 HW2 lw ⊢
  clear hW2
  refine (copy_any h A n1 c xs _ (HI.out.next G2) (by omega)).mono ?_
  rintro e w3 ⟨A3, n3, c3, rfl, hown3, hb3⟩
  obtain rfl : n3 = n1 := by have := hown3.len; have := HL.out; omega
  have hb4 := (Below.refl w3.heap.size w3).alloc (Nat.le_refl _) (.cells #[.int .i64 h, .slice A3 n3 c3] 31)
  have K4 := chain hb3 hb4
  have G4 := chain G2 K4
  have HO4 := Lib.hid (hown3.next hb4)
  have HK4 := Lib.hid (hown3.ints.next hb4)
  have l4 : w3.heap.size < (w3.alloc (.cells #[.int .i64 h, .slice A3 n3 c3] 31)).heap.size := by simp
  have a04 := gcell' G4 l0 a0
  have a14 := gcell' G4 l0 a1
  have b04 := gcell' G4 l1 b0
  have b14 := gcell' G4 l1 b1
  have e04 : (w3.alloc (.cells #[.int .i64 h, .slice A3 n3 c3] 31)).cell? ⟨w3.heap.size, 0, none⟩ = some (.int .i64 h) := by go_simp
  have e14 : (w3.alloc (.cells #[.int .i64 h, .slice A3 n3 c3] 31)).cell? ⟨w3.heap.size, 1, none⟩ = some (.slice A3 n3 c3) := by go_simp
  have HI4 := Lib.hid (HI.out.next G4)
  have HJ4 := Lib.hid (HJ.out.next G4)
  have lw3 : w1.heap.size < w3.heap.size := Nat.lt_of_lt_of_le lw hb3.size
  have hw3 : W2.heap.size ≤ w3.heap.size := hb3.size
  have NE : Hid (∀ g, A3 = some ⟨g, 0, none⟩ → g ≠ w3.heap.size) := fun g hg => by
    rcases hown3.form with ⟨e1, _⟩ | ⟨g', cur, e1, e2, e3, _⟩
    · rw [e1] at hg; cases hg
    · rw [e1] at hg; injection hg with hg; injection hg with hg; omega
  clear hb3 hb4 hown3 a02 a12
  go_wp2_with fail
  obtain ⟨w4, hw4⟩ : ∃ w4, w4 = w3.alloc (.cells #[.int .i64 h, .slice A3 n3 c3] 31) := ⟨_, rfl⟩
  rw [← hw4] at K4 G4 HO4 HK4 l4 a04 a14 b04 b14 e04 e14 HI4 HJ4 ⊢
  clear hw4
  have tok1 : True := trivial
  have tok2 : True := trivial
  cases E
  all_goals
    go_region_held3 (fun w' => w'.cell? ⟨w.heap.size, 0, none⟩ = some (.int .i64 h) ∧ w'.cell? ⟨w.heap.size, 1, none⟩ = some (.slice A n3 c) ∧ w'.cell? ⟨w.heap.size + 1, 0, none⟩ = some (.int .i64 h2) ∧ w'.cell? ⟨w.heap.size + 1, 1, none⟩ = some (.slice A2 m c2) ∧ w'.cell? ⟨w3.heap.size, 0, none⟩ = some (.int .i64 h) ∧ w'.cell? ⟨w3.heap.size, 1, none⟩ = some (.slice A3 n3 c3))
      (first | go_keep | exact ⟨by assumption, by assumption, by assumption, by assumption, by assumption, by assumption⟩)
      (first | (go_at_call 27; have _t := tok1; refine (equal_any h A n3 c xs h2 A2 m c2 ys _ (by exact HI4.out) (by exact HJ4.out) hn hm).mono ?_; clear tok1; rintro e w5 ⟨rfl, hb5⟩; have hb5 := below_undrew hb5; have G5 := chain G4 hb5; have HI5 := Lib.hid (HI.out.next G5); have HJ5 := Lib.hid (HJ.out.next G5); have HK5 := Lib.hid (HK4.out.next hb5); have l5 : w3.heap.size < w5.heap.size := Nat.lt_of_lt_of_le l4 hb5.size; have a05 := gcell' G5 l0 a0; have a15 := gcell' G5 l0 a1; have b05 := gcell' G5 l1 b0; have b15 := gcell' G5 l1 b1; have e05 := gcell' hb5 l4 e04; have e15 := gcell' hb5 l4 e14) | (go_at_call 21; have _t := tok2; refine (refEqual_any h A n3 c xs h2 A2 m c2 ys _ (by exact HI5.out) (by exact HJ5.out) hn hm).mono ?_; clear tok2; rintro e w6 ⟨rfl, hb6⟩; have G6 := chain G5 hb6; have HI6 := Lib.hid (HI.out.next G6); have HJ6 := Lib.hid (HJ.out.next G6); have HK6 := Lib.hid (HK5.out.next hb6); have l6 : w3.heap.size < w6.heap.size := Nat.lt_of_lt_of_le l5 hb6.size; have a06 := gcell' G6 l0 a0; have a16 := gcell' G6 l0 a1; have b06 := gcell' G6 l1 b0; have b16 := gcell' G6 l1 b1; have e06 := gcell' hb6 l5 e05; have e16 := gcell' hb6 l5 e15) | (go_at_call 27; refine (equal_any h A n3 c xs h A n3 c xs _ (by exact HI6.out) (by exact HI6.out) hn hn).mono ?_; rintro e w7 ⟨rfl, hb7⟩; have G7 := chain G6 hb7; have HI7 := Lib.hid (HI.out.next G7); have HJ7 := Lib.hid (HJ.out.next G7); have HK7 := Lib.hid (HK6.out.next hb7); have l7 : w3.heap.size < w7.heap.size := Nat.lt_of_lt_of_le l6 hb7.size; have a07 := gcell' G7 l0 a0; have a17 := gcell' G7 l0 a1; have b07 := gcell' G7 l1 b0; have b17 := gcell' G7 l1 b1; have e07 := gcell' hb7 l6 e06; have e17 := gcell' hb7 l6 e16) | (go_at_call 21; refine (refEqual_any h A3 n3 c3 xs h A n3 c xs _ (by exact HK7.out) (by exact HI7.out) hn hn).mono ?_; rintro e w8 ⟨rfl, hb8⟩; have G8 := chain G7 hb8; have HI8 := Lib.hid (HI.out.next G8); have HJ8 := Lib.hid (HJ.out.next G8); have HK8 := Lib.hid (HK7.out.next hb8); have l8 : w3.heap.size < w8.heap.size := Nat.lt_of_lt_of_le l7 hb8.size; have a08 := gcell' G8 l0 a0; have a18 := gcell' G8 l0 a1; have b08 := gcell' G8 l1 b0; have b18 := gcell' G8 l1 b1; have e08 := gcell' hb8 l7 e07; have e18 := gcell' hb8 l7 e17))
    have K8 := chain (chain (chain (chain K4 hb5) hb6) hb7) hb8
    have HO8 := Lib.hid ((((HO4.out.next hb5).next hb6).next hb7).next hb8)
    have KH := Lib.hid K8
    have GH := Lib.hid G2
    clear K4 K8 G2 G4 G5 G6 G7 G8 hb5 hb6 hb7 hb8 HO4 HI4 HJ4 HI5 HJ5 HI6 HJ6 HI7 HJ7 HI8 HJ8 HK4 HK5 HK6 HK7 HK8 a04 a14 b04 b14 a05 a15 b05 b15 a06 a16 b06 b16 a07 a17 b07 b17 a08 a18 b08 b18 e04 e14 e05 e15 e06 e16 e07 e17 hE
    go_wp2_with fail
    go_loopw [7] (fun i wr => ∃ (k : Nat) (zs : List Int), k ≤ n3 ∧ i = .int .i64 k ∧ Own wr W2.heap.size 3 A3 n3 c3 zs ∧ w8.grownBy wr (Value.slice A3 n3 c3).ownBlock) (fun i _ => n3 - (intOf i).toNat)
    case atStart => exact ⟨0, _, by omega, rfl, HO8.out, World.grownBy.refl _ _⟩
    case round =>
      obtain ⟨k, zs, hk, rfl, hown', hgr⟩ := hrel
      have hrow : ∀ j, (Value.slice A3 n3 c3).ownBlock = some j → W2.heap.size ≤ j ∧ j < w8.heap.size := fun j hj => HO8.out.lt j hj
      have HG := Lib.hid hgr
      have HO' := Lib.hid hown'
      have HR := Lib.hid hrow
      have q1 : wr.cell? ⟨w3.heap.size, 1, none⟩ = some (.slice A3 n3 c3) := by
        refine (cell_grown hgr 1 l8 ?_).trans e18
        intro hj
        rcases HO8.out.form with ⟨e1, _⟩ | ⟨g, cur, e1, e2, e3, _⟩
        · rw [e1] at hj; simp [Value.ownBlock] at hj
        · rw [e1] at hj
          simp [Value.ownBlock] at hj
          exact absurd hj.symm (NE.out g e1)
      by_cases hlt : k < n3
      · obtain ⟨g, hg0⟩ : ∃ g, A3 = some ⟨g, 0, none⟩ := by
          rcases hown'.form with ⟨_, h0, _⟩ | ⟨g, cur, e1, _⟩
          · omega
          · exact ⟨g, e1⟩
        subst hg0
        have g1 := hown'.cell hlt
        have g2 := hown'.frozen k
        have hki : (k : Int) < n3 := by omega
        clear hown' hgr hrow
        go_wp2
        go_roundw
        case rel => exact ⟨k + 1, _, by omega, by go_num, HO'.out.stored _, HG.out.trans ⟨rfl, rfl, rfl, by simp, fun i _ hne => Below.heap_setCell _ _ _ _ (by simpa [Value.ownBlock] using hne)⟩⟩
        case measure => simp [intOf]; omega
      · obtain rfl : k = n3 := by omega
        have K9 : Below W2.heap.size W2 wr := KH.out.grown hgr KH.out.size (fun j hj => (hrow j hj).1)
        have G9 := chain GH.out K9
        have u0 := gcell' G9 l0 a0
        have u1 := gcell' G9 l0 a1
        have u2 := gcell' K9 lw k0
        have u3 := gcell' K9 lw k1
        have HI9 := Lib.hid (HI.out.next G9)
        have HJ9 := Lib.hid (HW2.out.next K9)
        have hq9 := hq1.next G9
        have B9 := chain hb0 G9
        clear hown' hgr hrow K9 G9
        go_wp2_with fail
        refine (refEqual_any h A k c xs h A1 k c1 xs _ HI9.out HJ9.out hn hn).mono ?_
        rintro e w10 ⟨rfl, hb10⟩
        have hq10 := hq9.next hb10
        have B10 := chain B9 hb10
        clear hb10 hq9 B9
        go_wp2_with fail
        refine (known_any _ hq10).mono ?_
        rintro e w11 ⟨rfl, hb11⟩
        go_wp2
        go_ret
        exact ⟨rfl, chain B10 hb11⟩

theorem law9 (h : Int) (A : Option Addr) (n c : Nat) (xs : List Int) (h2 : Int) (A2 : Option Addr) (m c2 : Nat) (ys : List Int) (w : World) (hq : Quad w) (hI : Ints w w.heap.size A n xs) (hJ : Ints w w.heap.size A2 m ys) (hn : n ≤ 9223372036854775807) (hm : m ≤ 9223372036854775807) :
    Calls Tryd.prog 9 #[.agg #[.int .i64 h, .slice A n c], .agg #[.int .i64 h2, .slice A2 m c2]] w (KnownOk w) := by
  by_cases hl : 20 < n ∨ (n ≤ 20 ∧ 20 < m)
  · exact law9_long h A n c h2 A2 m c2 w hq hn hm hl
  · exact law9_yes h A n c xs h2 A2 m c2 ys w hq hI hJ (by omega) (by omega) _ rfl
end Go.Proofs.YthaodhipebadcaaDoor
