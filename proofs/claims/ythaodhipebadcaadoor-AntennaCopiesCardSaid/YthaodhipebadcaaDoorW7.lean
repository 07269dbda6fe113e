/- Contract of bandplanlaw12.known: it returns true. -/
import Derived.Test.YthaodhipebadcaaDoorW6
namespace Go.Proofs.YthaodhipebadcaaDoor
open Go.RowKit
/-- The numbers below k. -/
def rng (k : Nat) : List Int := (List.range k).map Int.ofNat
theorem rng_succ (k : Nat) : rng (k + 1) = rng k ++ [(k : Int)] := by simp [rng, List.range_succ]
theorem ints_one (w : World) (t : TypeId) (x : Int) : Ints (w.alloc (.cells #[.int .i64 x] t)) (w.heap.size + 1) (some ⟨w.heap.size, 0, none⟩) 1 [x] :=
  ⟨rfl, fun _ => ⟨w.heap.size, 0, rfl, by omega, fun j hj => by
    obtain rfl : j = 0 := by omega
    go_simp⟩⟩
theorem chain {w a b : World} (h : Below w.heap.size w a) (k : Below a.heap.size a b) : Below w.heap.size w b := h.trans (k.mono h.size)

/-- The first part of known: eight points. -/
def KnownOk (w : World) (e : Ending) (w' : World) : Prop := e = .returned (.bool true) ∧ Below w.heap.size w w'
theorem knownOk_from {w a : World} (h : Below w.heap.size w a) {e : Ending} {w' : World} (k : KnownOk a e w') : KnownOk w e w' := ⟨k.1, chain h k.2⟩

theorem known_valid : validB 10 (rng 16) = true := by decide
theorem known_x : (rng 16)[(dirI 1 2).toNat]?.getD 0 = 3 := by decide
theorem known_z : (rotL 1 (rng 16) 16)[(dirI 1 0).toNat]?.getD 0 = 15 := by decide
theorem known_w : (rotL (-1) (rng 16) 16)[(dirI 1 0).toNat]?.getD 0 = 1 := by decide
theorem known_rot (s : Int) : validB 10 (rotL s (rng 16) 16) = true := by
  rw [validB_iff]
  refine ⟨by omega, by omega, rotL_len _ _ _, ?_⟩
  intro x hx
  simp only [rotL, List.mem_map, List.mem_range] at hx
  obtain ⟨d, hd, rfl⟩ := hx
  rw [if_pos hd]
  have := rotAt_lt s d
  have h2 : (rng 16)[rotAt s d]?.getD 0 = (rotAt s d : Int) := by simp [rng, this]
  rw [h2]; omega

set_option maxHeartbeats 1000000 in
set_option maxRecDepth 100000 in
theorem known_any (w : World) (hq : Quad w) : Calls Tryd.prog 12 #[] w (KnownOk w) := by
  obtain ⟨i0, hi0, hz0, hz1, hz2⟩ := info_parts info3
  have B0 := Below.refl w.heap.size w
  have q0 := hq
  clear hq
  go_enter Tryd.func12, Tryd.ntmps12
  go_wp2_with fail
  refine (points_yes 1 0 0 _ q0 (by decide) (by decide) (by decide) (by decide)).mono ?_
  rintro e w1 ⟨rfl, hb⟩
  have q1 := q0.below hb q0.pos
  have B1 := chain B0 hb
  clear hb q0 B0
  go_wp2_with fail
  refine (points_yes 2 1 1 _ q1 (by decide) (by decide) (by decide) (by decide)).mono ?_
  rintro e w2 ⟨rfl, hb⟩
  have q2 := q1.below hb q1.pos
  have B2 := chain B1 hb
  clear hb q1 B1
  go_wp2_with fail
  refine (points_yes 1 1 2 _ q2 (by decide) (by decide) (by decide) (by decide)).mono ?_
  rintro e w3 ⟨rfl, hb⟩
  have q3 := q2.below hb q2.pos
  have B3 := chain B2 hb
  clear hb q2 B2
  go_wp2_with fail
  refine (points_yes 1 2 3 _ q3 (by decide) (by decide) (by decide) (by decide)).mono ?_
  rintro e w4 ⟨rfl, hb⟩
  have q4 := q3.below hb q3.pos
  have B4 := chain B3 hb
  clear hb q3 B3
  go_wp2_with fail
  refine (points_yes 0 1 4 _ q4 (by decide) (by decide) (by decide) (by decide)).mono ?_
  rintro e w5 ⟨rfl, hb⟩
  have q5 := q4.below hb q4.pos
  have B5 := chain B4 hb
  clear hb q4 B4
  go_wp2_with fail
  refine (points_yes (-1) 0 8 _ q5 (by decide) (by decide) (by decide) (by decide)).mono ?_
  rintro e w6 ⟨rfl, hb⟩
  have q6 := q5.below hb q5.pos
  have B6 := chain B5 hb
  clear hb q5 B5
  go_wp2_with fail
  refine (points_yes 0 (-1) 12 _ q6 (by decide) (by decide) (by decide) (by decide)).mono ?_
  rintro e w7 ⟨rfl, hb⟩
  have q7 := q6.below hb q6.pos
  have B7 := chain B6 hb
  clear hb q6 B6
  go_wp2_with fail
  refine (points_yes 3 (-1) 15 _ q7 (by decide) (by decide) (by decide) (by decide)).mono ?_
  rintro e w8 ⟨rfl, hb⟩
  have q8 := q7.below hb q7.pos
  have B8 := chain B7 hb
  clear hb q7 B7
  go_wp2_with fail
  refine (dir_zero _ q8).mono ?_
  rintro e w9 ⟨rfl, hb⟩
  have q9 := q8.below hb q8.pos
  have B9 := chain B8 hb
  clear hb q8 B8
  go_wp2_with fail
  refine (dir_far 1048577 0 _ (.inl (by decide))).mono ?_
  rintro e w10 ⟨rfl, hb⟩
  have q10 := q9.below hb q9.pos
  have B10 := chain B9 hb
  clear hb q9 B9
  go_wp2_with fail
  obtain ⟨p, hp⟩ : ∃ p, p = w10.heap.size := ⟨_, rfl⟩
  have HP := Lib.hid hp
  rw [← hp]
  clear hp
  go_loopw [6] (fun i wr => ∃ (k : Nat) (A : Option Addr) (c : Nat), k ≤ 16 ∧ i = .int .i64 k ∧ wr.cell? ⟨p, 0, none⟩ = some (.int .i64 10) ∧ wr.cell? ⟨p, 1, none⟩ = some (.slice A k c) ∧ wr.frozen? ⟨p, 1, none⟩ = false ∧
      Own wr (p + 1) 3 A k c (rng k) ∧ Below p w10 wr ∧ p < wr.heap.size) (fun i _ => 16 - (intOf i).toNat)
  case atStart => 
    have e := HP.out
    subst e
    exact ⟨0, none, 0, by omega, rfl, by go_simp, by go_simp, by go_simp, Own.none_, (Below.refl _ _).alloc (Nat.le_refl _) _, by simp⟩
  case round =>
    obtain ⟨k, A, c, hk, rfl, hc0, hc1, hf1, hown, hB, hlt⟩ := hrel
    by_cases hk16 : k < 16
    · have HO := Lib.hid hown
      clear hown
      have hne : ∀ g, A = some ⟨g, 0, none⟩ → g ≠ p := fun g hg => by
        rcases HO.out.form with ⟨e, _⟩ | ⟨g', cur, e, h1, _⟩
        · rw [e] at hg; cases hg
        · rw [e] at hg; injection hg with hg; injection hg with hg; omega
      have hrow : some p ≠ (Value.slice A k c).ownBlock := by
        rcases HO.out.form with ⟨e, _⟩ | ⟨g', cur, e, h1, _⟩
        · rw [e]; simp [Value.ownBlock]
        · rw [e]; simp [Value.ownBlock]; omega
      have hrow2 : ∀ j, (Value.slice A k c).ownBlock = some j → p ≤ j := by
        rcases HO.out.form with ⟨e, _⟩ | ⟨g', cur, e, h1, _⟩
        · rw [e]; simp [Value.ownBlock]
        · rw [e]; simp [Value.ownBlock]; omega
      have HN := Lib.hid hne
      have HR := Lib.hid hrow
      have HR2 := Lib.hid hrow2
      clear hne hrow hrow2
      go_wp2_with (at_builtin; refine wpList_append_ints _ rfl _ _ 29 rfl (p + 1) 3 i0 Tryd.underlying29 hi0 hz0 hz1 hz2 A k c (rng k) rfl (HO.out.alloc _) _ _ 1 1 [(k : Int)] rfl (ints_one _ _ _) (by omega) (by simp; omega) ?_; intro A' c' w1 hown1 hg1 hat1; have d0 : w1.cell? ⟨p, 0, none⟩ = some (.int .i64 10) := (cell_grown hg1 0 (by simp; omega) HR.out).trans ((World.cell?_alloc_lt _ _ _ hlt).trans hc0); have d1 : w1.cell? ⟨p, 1, none⟩ = some (.slice A k c) := (cell_grown hg1 1 (by simp; omega) HR.out).trans ((World.cell?_alloc_lt _ _ _ hlt).trans hc1); have d2 : w1.frozen? ⟨p, 1, none⟩ = false := (frozen_grown hg1 1 (by simp; omega) HR.out).trans ((World.frozen?_alloc_old _ _ _ (by show p ≠ _; omega)).trans hf1))
      go_roundw
      case rel =>
        refine ⟨k + 1, A', c', by omega, by go_num, ?_, ?_, ?_, ?_, ?_, ?_⟩
        · rw [World.cell?_setCell_other _ _ _ _ (by simp)]; exact d0
        · rw [World.cell?_setCell_same' _ _ _ (by rw [d1]; rfl)]
        · rw [World.frozen?_setCell]; exact d2
        · rw [rng_succ]
          exact hown1.far (p := ⟨p, 1, none⟩) (fun g hg => by rcases hat1 g hg with e | e; exact HN.out g e; simp at e; show g ≠ p; omega) _
        · exact ((hB.alloc (by omega) _).grown hg1 (by simp; omega) HR2.out).setCell (Nat.le_refl _) _
        · have := hg1.size; simp at this; simp [World.setCell]; omega
      case measure => simp [intOf]; omega
    · obtain rfl : k = 16 := by omega
      have B11 : Below w.heap.size w wr := by
        have e := HP.out
        subst e
        exact chain B10 hB
      have q11 : Quad wr := q10.below hB (by have e := HP.out; subst e; exact q10.pos)
      have I11 := Lib.hid hown.ints
      have hv := known_valid
      have ex := known_x
      have ez := known_z
      have ew := known_w
      clear hown hB B10 q10 hf1 HP
      obtain ⟨w11, hw11⟩ : ∃ w11, w11 = wr := ⟨_, rfl⟩
      rw [← hw11]
      subst hw11
      have a11 := hc0
      have b11 := hc1
      clear hc0 hc1
      go_wp2_with fail
      refine (loss_yes 10 A 16 c (rng 16) 1 2 _ q11 I11.out (by omega) hv (by decide) (by decide) (by decide)).mono ?_
      rintro e w12 ⟨rfl, hb⟩
      have a12 : w12.cell? ⟨p, 0, none⟩ = some (.int .i64 10) := (hb.cell (p := ⟨p, 0, none⟩) hlt).trans a11
      have b12 : w12.cell? ⟨p, 1, none⟩ = some (.slice A 16 c) := (hb.cell (p := ⟨p, 1, none⟩) hlt).trans b11
      have hlt' : p < w12.heap.size := Nat.lt_of_lt_of_le hlt hb.size
      have q12 := q11.below hb q11.pos
      have B12 := chain B11 hb
      have I12 := Lib.hid (I11.out.next hb)
      clear hb a11 b11 q11 B11 I11 hlt
      have hlt := hlt'
      clear hlt'
      go_wp2_with fail
      refine (loss_zero 10 A 16 c (rng 16) _ I12.out (by omega) hv).mono ?_
      rintro e w13 ⟨rfl, hb⟩
      have a13 : w13.cell? ⟨p, 0, none⟩ = some (.int .i64 10) := (hb.cell (p := ⟨p, 0, none⟩) hlt).trans a12
      have b13 : w13.cell? ⟨p, 1, none⟩ = some (.slice A 16 c) := (hb.cell (p := ⟨p, 1, none⟩) hlt).trans b12
      have hlt' : p < w13.heap.size := Nat.lt_of_lt_of_le hlt hb.size
      have q13 := q12.below hb q12.pos
      have B13 := chain B12 hb
      have I13 := Lib.hid (I12.out.next hb)
      clear hb a12 b12 q12 B12 I12 hlt
      have hlt := hlt'
      clear hlt'
      go_wp2_with fail
      refine (rotate_yes 10 A 16 c (rng 16) 1 _ I13.out (by omega) hv).mono ?_
      rintro e w14 ⟨A1, n1, c1, rfl, hown1, hb⟩
      obtain rfl : n1 = 16 := by have := hown1.len; rw [rotL_len] at this; omega
      have a14 : (w14.alloc (.cells #[.int .i64 10, .slice A1 16 c1] 31)).cell? ⟨p, 0, none⟩ = some (.int .i64 10) := (World.cell?_alloc_lt _ _ _ (by have := hb.size; show p < _; omega)).trans ((hb.cell (p := ⟨p, 0, none⟩) hlt).trans a13)
      have b14 : (w14.alloc (.cells #[.int .i64 10, .slice A1 16 c1] 31)).cell? ⟨p, 1, none⟩ = some (.slice A 16 c) := (World.cell?_alloc_lt _ _ _ (by have := hb.size; show p < _; omega)).trans ((hb.cell (p := ⟨p, 1, none⟩) hlt).trans b13)
      have hal := (Below.refl w14.heap.size w14).alloc (Nat.le_refl _) (.cells #[.int .i64 10, .slice A1 16 c1] 31)
      have q14 := (q13.below hb q13.pos).below hal (q13.below hb q13.pos).pos
      have B14 := chain (chain B13 hb) hal
      have I14 := Lib.hid ((I13.out.next hb).next hal)
      have J14 := Lib.hid (hown1.ints.next hal)
      have hs14 : p < w14.heap.size := Nat.lt_of_lt_of_le hlt hb.size
      clear hb hal a13 b13 q13 B13 I13 hlt hown1
      go_wp2_with fail
      refine (rotate_yes 10 A 16 c (rng 16) (-1) _ I14.out (by omega) hv).mono ?_
      rintro e w15 ⟨A2, n2, c2, rfl, hown2, hb⟩
      obtain rfl : n2 = 16 := by have := hown2.len; rw [rotL_len] at this; omega
      have hs15 : w14.heap.size < w15.heap.size := by have := hb.size; simp at this; omega
      have d0 : (w15.alloc (.cells #[.int .i64 10, .slice A2 16 c2] 31)).cell? ⟨w14.heap.size, 0, none⟩ = some (.int .i64 10) := (World.cell?_alloc_lt _ _ _ hs15).trans ((hb.cell (p := ⟨w14.heap.size, 0, none⟩) (by simp)).trans (by go_simp))
      have d1 : (w15.alloc (.cells #[.int .i64 10, .slice A2 16 c2] 31)).cell? ⟨w14.heap.size, 1, none⟩ = some (.slice A1 16 c1) := (World.cell?_alloc_lt _ _ _ hs15).trans ((hb.cell (p := ⟨w14.heap.size, 1, none⟩) (by simp)).trans (by go_simp))
      have hal := (Below.refl w15.heap.size w15).alloc (Nat.le_refl _) (.cells #[.int .i64 10, .slice A2 16 c2] 31)
      have q15 := (q14.below hb q14.pos).below hal (q14.below hb q14.pos).pos
      have B15 := chain (chain B14 hb) hal
      have J15 := Lib.hid ((J14.out.next hb).next hal)
      have K15 := Lib.hid (hown2.ints.next hal)
      clear hb hal a14 b14 q14 B14 I14 J14 hown2
      go_wp2_with fail
      refine (loss_yes 10 A1 16 c1 (rotL 1 (rng 16) 16) 1 0 _ q15 J15.out (by omega) (known_rot 1) (by decide) (by decide) (by decide)).mono ?_
      rintro e w16 ⟨rfl, hb⟩
      have d0 : w16.cell? ⟨w15.heap.size, 0, none⟩ = some (.int .i64 10) := (hb.cell (p := ⟨w15.heap.size, 0, none⟩) (by simp)).trans (by go_simp)
      have d1 : w16.cell? ⟨w15.heap.size, 1, none⟩ = some (.slice A2 16 c2) := (hb.cell (p := ⟨w15.heap.size, 1, none⟩) (by simp)).trans (by go_simp)
      have q16 := q15.below hb q15.pos
      have B16 := chain B15 hb
      have K16 := Lib.hid (K15.out.next hb)
      clear hb q15 B15 J15 K15
      go_wp2_with fail
      refine (loss_yes 10 A2 16 c2 (rotL (-1) (rng 16) 16) 1 0 _ q16 K16.out (by omega) (known_rot (-1)) (by decide) (by decide) (by decide)).mono ?_
      rintro e w17 ⟨rfl, hb⟩
      have B17 := chain B16 hb
      clear hb B16
      go_wp2
      go_ret
      exact ⟨rfl, B17⟩
end Go.Proofs.YthaodhipebadcaaDoor
