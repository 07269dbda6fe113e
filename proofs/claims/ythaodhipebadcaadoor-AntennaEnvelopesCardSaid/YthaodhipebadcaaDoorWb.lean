/- Contract of bandplanref12.Envelope. -/
import Derived.Test.YthaodhipebadcaaDoorWa
namespace Go.Proofs.YthaodhipebadcaaDoor
open Go.RowKit
def minP (xs ys : List Int) (k : Nat) : List Int := (List.range k).map fun d => min (xs[d]?.getD 0) (ys[d]?.getD 0)
theorem minP_succ (xs ys : List Int) (k : Nat) : minP xs ys (k + 1) = minP xs ys k ++ [min (xs[k]?.getD 0) (ys[k]?.getD 0)] := by simp [minP, List.range_succ]
theorem minP_end (xs ys : List Int) : minP xs ys 16 = minL xs ys 16 := by
  unfold minP minL
  apply List.map_congr_left
  intro d hd
  rw [if_pos (by simpa using hd)]
set_option maxHeartbeats 1000000 in
theorem refEnvelope_any (h : Int) (A : Option Addr) (n c : Nat) (xs : List Int) (h2 : Int) (A2 : Option Addr) (m c2 : Nat) (ys : List Int) (w : World) (hI : Ints w w.heap.size A n xs) (hJ : Ints w w.heap.size A2 m ys) (hl : xs.length = 16) (hl2 : ys.length = 16) :
    Calls Tryd.prog 25 #[.agg #[.int .i64 h, .slice A n c], .agg #[.int .i64 h2, .slice A2 m c2]] w (AntR w (min h h2) (minL xs ys 16)) := by
  obtain ⟨i0, hi0, hz0, hz1, hz2⟩ := info_parts info3
  obtain rfl : n = 16 := by have := hI.1; omega
  obtain rfl : m = 16 := by have := hJ.1; omega
  obtain ⟨b, off, rfl, hb, hc⟩ := hI.2 (by omega)
  obtain ⟨b2, off2, rfl, hb2, hc2⟩ := hJ.2 (by omega)
  have HC := Lib.hid hc
  have HC2 := Lib.hid hc2
  obtain ⟨M, hM⟩ : ∃ M, M = min h h2 := ⟨_, rfl⟩
  rw [← hM]
  have HM := Lib.hid hM
  have hb0 : Below w.heap.size w ((((w.alloc (.cells #[.int .i64 h, .slice (some ⟨b, off, none⟩) 16 c] 31)).alloc (.cells #[.int .i64 h2, .slice (some ⟨b2, off2, none⟩) 16 c2] 31)).alloc (.cells #[.int .i64 0, .slice none 0 0] 31)).alloc (.cells #[.int .i64 M, .slice none 0 0] 31)) :=
    ((((Below.refl _ _).alloc (Nat.le_refl _) _).alloc (by simp) _).alloc (by simp <;> omega) _).alloc (by simp <;> omega) _
  have HB0 := Lib.hid hb0
  have lea : ∀ W, Calls Tryd.prog 31 #[.int .i64 h, .int .i64 h2] W fun e w' => e = .returned (.int .i64 M) ∧ W = w' := fun W => by rw [hM]; exact least_any h h2 W
  have LEA := Lib.hid lea
  clear hc hc2 hl hl2 hI hJ hM hb0 lea
  go_enter Tryd.func25, Tryd.ntmps25
  go_wp2_with (go_at_call 31; refine (LEA.out _).mono ?_; rintro e w' ⟨rfl, rfl⟩)
  go_loopw [6] (fun i wr => ∃ (k : Nat) (A : Option Addr) (c' : Nat), k ≤ 16 ∧ i = .int .i64 k ∧ wr.cell? ⟨w.heap.size + 1 + 1 + 1, 0, none⟩ = some (.int .i64 M) ∧ wr.cell? ⟨w.heap.size + 1 + 1 + 1, 1, none⟩ = some (.slice A k c') ∧ wr.frozen? ⟨w.heap.size + 1 + 1 + 1, 1, none⟩ = false ∧
      Own wr (w.heap.size + 1 + 1 + 1 + 1) 3 A k c' (minP xs ys k) ∧ Below (w.heap.size + 1 + 1 + 1) ((((w.alloc (.cells #[.int .i64 h, .slice (some ⟨b, off, none⟩) 16 c] 31)).alloc (.cells #[.int .i64 h2, .slice (some ⟨b2, off2, none⟩) 16 c2] 31)).alloc (.cells #[.int .i64 0, .slice none 0 0] 31)).alloc (.cells #[.int .i64 M, .slice none 0 0] 31)) wr ∧ w.heap.size + 1 + 1 + 1 < wr.heap.size) (fun i _ => 16 - (intOf i).toNat)
  case atStart => exact ⟨0, none, 0, by omega, rfl, by go_simp, by go_simp, by go_simp, Own.none_, Below.refl _ _, by simp⟩
  case round =>
    obtain ⟨k, A, c', hk, rfl, hc0, hc1, hf1, hown, hB, hlt⟩ := hrel
    have HO := Lib.hid hown
    have HB := Lib.hid hB
    by_cases hk16 : k < 16
    · have hne : ∀ g, A = some ⟨g, 0, none⟩ → g ≠ w.heap.size + 1 + 1 + 1 := fun g hg => by
        rcases HO.out.form with ⟨e, _⟩ | ⟨g', cur, e, h1, _⟩
        · rw [e] at hg; cases hg
        · rw [e] at hg; injection hg with hg; injection hg with hg; omega
      have hrow : some (w.heap.size + 1 + 1 + 1) ≠ (Value.slice A k c').ownBlock := by
        rcases HO.out.form with ⟨e, _⟩ | ⟨g', cur, e, h1, _⟩
        · rw [e]; simp [Value.ownBlock]
        · rw [e]; simp [Value.ownBlock]; omega
      have hrow2 : ∀ j, (Value.slice A k c').ownBlock = some j → w.heap.size + 1 + 1 + 1 ≤ j := by
        rcases HO.out.form with ⟨e, _⟩ | ⟨g', cur, e, h1, _⟩
        · rw [e]; simp [Value.ownBlock]
        · rw [e]; simp [Value.ownBlock]; omega
      have HN := Lib.hid hne
      have HR := Lib.hid hrow
      have HR2 := Lib.hid hrow2
      have p1 : wr.cell? ⟨w.heap.size, 1, none⟩ = some (.slice (some ⟨b, off, none⟩) 16 c) := (hB.cell (p := ⟨w.heap.size, 1, none⟩) (by simp <;> omega)).trans (by go_simp)
      have p2 : wr.cell? ⟨w.heap.size + 1, 1, none⟩ = some (.slice (some ⟨b2, off2, none⟩) 16 c2) := (hB.cell (p := ⟨w.heap.size + 1, 1, none⟩) (by simp <;> omega)).trans (by go_simp)
      have r1 : wr.cell? ⟨b, off + k, none⟩ = some (.int .i64 (xs[k]?.getD 0)) := (hB.cell (p := ⟨b, off + k, none⟩) (by show b < _; omega)).trans ((HB0.out.cell (p := ⟨b, off + k, none⟩) hb).trans (HC.out _ hk16))
      have r2 : wr.cell? ⟨b2, off2 + k, none⟩ = some (.int .i64 (ys[k]?.getD 0)) := (hB.cell (p := ⟨b2, off2 + k, none⟩) (by show b2 < _; omega)).trans ((HB0.out.cell (p := ⟨b2, off2 + k, none⟩) hb2).trans (HC2.out _ hk16))
      have hki : (k : Int) < 16 := by omega
      obtain ⟨m, hm⟩ : ∃ m, m = min (xs[k]?.getD 0) (ys[k]?.getD 0) := ⟨_, rfl⟩
      have lek : ∀ W, Calls Tryd.prog 31 #[.int .i64 (xs[k]?.getD 0), .int .i64 (ys[k]?.getD 0)] W fun e w' => e = .returned (.int .i64 m) ∧ W = w' := fun W => by rw [hm]; exact least_any _ _ W
      have LEK := Lib.hid lek
      have HM2 := Lib.hid hm
      clear hne hrow hrow2 hown hB hm lek
      go_wp2
      go_region_law (first | (refine step_append_ints _ rfl (.tmp 18) (.tmp 30) 29 rfl (w.heap.size + 1 + 1 + 1 + 1) 3 i0 Tryd.underlying29 hi0 hz0 hz1 hz2 A k c' (minP xs ys k) rfl (HO.out.alloc (.cells #[.int .i64 m] 3)) _ (some ⟨wr.heap.size, 0, none⟩) 1 1 [m] rfl (ints_one wr 3 m) (by omega) (by simp; omega) ?_; intro A' c1 w1 hown1 hg1 hat1; have d0 : w1.cell? ⟨w.heap.size + 1 + 1 + 1, 0, none⟩ = some (.int .i64 M) := (cell_grown hg1 0 (by simp; omega) HR.out).trans ((World.cell?_alloc_lt _ _ _ hlt).trans hc0); have d1 : w1.cell? ⟨w.heap.size + 1 + 1 + 1, 1, none⟩ = some (.slice A k c') := (cell_grown hg1 1 (by simp; omega) HR.out).trans ((World.cell?_alloc_lt _ _ _ hlt).trans hc1); have d2 : w1.frozen? ⟨w.heap.size + 1 + 1 + 1, 1, none⟩ = false := (frozen_grown hg1 1 (by simp; omega) HR.out).trans ((World.frozen?_alloc_old _ _ _ (by show w.heap.size + 1 + 1 + 1 ≠ _; omega)).trans hf1)) | (go_simp; go_at_call 31; refine (LEK.out _).mono ?_; rintro e w' ⟨rfl, rfl⟩))
      all_goals
        go_wp2
        go_roundw
        case rel =>
          refine ⟨k + 1, A', c1, by omega, by go_num, ?_, ?_, ?_, ?_, ?_, ?_⟩
          · rw [World.cell?_setCell_other _ _ _ _ (by simp)]; exact d0
          · rw [World.cell?_setCell_same' _ _ _ (by rw [d1]; rfl)]
          · rw [World.frozen?_setCell]; exact d2
          · rw [minP_succ, ← HM2.out]
            exact hown1.far (p := ⟨w.heap.size + 1 + 1 + 1, 1, none⟩) (fun g hg => by rcases hat1 g hg with e | e; exact HN.out g e; simp at e; show g ≠ w.heap.size + 1 + 1 + 1; omega) _
          · exact (((HB.out.alloc (by omega) _).drew).grown hg1 (by simp; omega) HR2.out).setCell (Nat.le_refl _) _
          · have := hg1.size; simp at this; simp [World.setCell]; omega
        case measure => simp [intOf]; omega
    · obtain rfl : k = 16 := by omega
      have u0 : wr.cell? ⟨w.heap.size + 1 + 1, 0, none⟩ = some (.int .i64 0) := (hB.cell (p := ⟨w.heap.size + 1 + 1, 0, none⟩) (by simp)).trans (by go_simp)
      have u1 : wr.cell? ⟨w.heap.size + 1 + 1, 1, none⟩ = some (.slice none 0 0) := (hB.cell (p := ⟨w.heap.size + 1 + 1, 1, none⟩) (by simp)).trans (by go_simp)
      have u2 : wr.frozen? ⟨w.heap.size + 1 + 1, 0, none⟩ = false := (hB.frozen (p := ⟨w.heap.size + 1 + 1, 0, none⟩) (by simp)).trans (by go_simp)
      have u3 : wr.frozen? ⟨w.heap.size + 1 + 1, 1, none⟩ = false := (hB.frozen (p := ⟨w.heap.size + 1 + 1, 1, none⟩) (by simp)).trans (by go_simp)
      clear hown hB
      go_wp2
      refine bodyPost_ret (v := .agg #[.int .i64 M, .slice A 16 c']) (by simp [results, Tryd.results25, go_sem, u0, u1]) rfl ⟨A, 16, c', rfl, ?_, ?_⟩
      · rw [← minP_end]
        have hne : ∀ g, A = some ⟨g, 0, none⟩ → g ≠ w.heap.size + 1 + 1 := fun g hg => by
          rcases HO.out.form with ⟨e, _⟩ | ⟨g', cur, e, h1, _⟩
          · rw [e] at hg; cases hg
          · rw [e] at hg; injection hg with hg; injection hg with hg; omega
        exact ((HO.out.less (by omega)).far (p := ⟨w.heap.size + 1 + 1, 0, none⟩) hne _).far (p := ⟨w.heap.size + 1 + 1, 1, none⟩) hne _
      · exact ((HB0.out.trans (HB.out.mono (by omega))).setCell (by simp <;> omega) _).setCell (by simp <;> omega) _
end Go.Proofs.YthaodhipebadcaaDoor
