/- Contracts of bandplanref12.Rotate, Loss, Least. -/
import Derived.Test.YthaodhipebadcaaDoorW7
namespace Go.Proofs.YthaodhipebadcaaDoor
open Go.RowKit

/-- The first k places of the turned pattern. -/
def rotP (s : Int) (xs : List Int) (k : Nat) : List Int := (List.range k).map fun d => xs[rotAt s d]?.getD 0
theorem rotP_succ (s : Int) (xs : List Int) (k : Nat) : rotP s xs (k + 1) = rotP s xs k ++ [xs[rotAt s k]?.getD 0] := by simp [rotP, List.range_succ]
theorem rotP_end (s : Int) (xs : List Int) : rotP s xs 16 = rotL s xs 16 := by
  unfold rotP rotL
  apply List.map_congr_left
  intro d hd
  rw [if_pos (by simpa using hd)]

set_option maxHeartbeats 1000000 in
theorem refRotate_any (h : Int) (A : Option Addr) (n c : Nat) (xs : List Int) (s : Int) (w : World) (hI : Ints w w.heap.size A n xs) (hl : xs.length = 16) :
    Calls Tryd.prog 22 #[.agg #[.int .i64 h, .slice A n c], .int .i64 s] w (AntR w h (rotL s xs 16)) := by
  obtain ⟨i0, hi0, hz0, hz1, hz2⟩ := info_parts info3
  obtain rfl : n = 16 := by have := hI.1; omega
  obtain ⟨b, off, rfl, hb, hc⟩ := hI.2 (by omega)
  have HC := Lib.hid hc
  obtain ⟨K, hK⟩ : ∃ K, K = s % 16 := ⟨_, rfl⟩
  have hK0 : 0 ≤ K := by omega
  have hK1 : K ≤ 15 := by omega
  have hcase : s.tmod 16 = K ∨ (s.tmod 16 = K - 16 ∧ K - 16 < 0) := by
    have h1 := Int.mul_tdiv_add_tmod s 16
    have h2 := Int.tmod_lt_of_pos s (show (0 : Int) < 16 by omega)
    have h3 := Int.lt_tmod_of_pos s (show (0 : Int) < 16 by omega)
    omega
  have HK := Lib.hid hK
  have hb0 : Below w.heap.size w (((w.alloc (.cells #[.int .i64 h, .slice (some ⟨b, off, none⟩) 16 c] 31)).alloc (.cells #[.int .i64 0, .slice none 0 0] 31)).alloc (.cells #[.int .i64 h, .slice none 0 0] 31)) :=
    (((Below.refl _ _).alloc (Nat.le_refl _) _).alloc (by simp) _).alloc (by simp <;> omega) _
  have HB0 := Lib.hid hb0
  clear hc hl hI hK hb0
  rcases hcase with ht | ⟨ht, hneg⟩
  all_goals
    go_enter Tryd.func22, Tryd.ntmps22
    go_wp2
    clear ht
    go_loopw [7] (fun i wr => ∃ (k : Nat) (A : Option Addr) (c' : Nat), k ≤ 16 ∧ i = .int .i64 k ∧ wr.cell? ⟨w.heap.size + 1 + 1, 0, none⟩ = some (.int .i64 h) ∧ wr.cell? ⟨w.heap.size + 1 + 1, 1, none⟩ = some (.slice A k c') ∧ wr.frozen? ⟨w.heap.size + 1 + 1, 1, none⟩ = false ∧
        Own wr (w.heap.size + 1 + 1 + 1) 3 A k c' (rotP s xs k) ∧ Below (w.heap.size + 1 + 1) (((w.alloc (.cells #[.int .i64 h, .slice (some ⟨b, off, none⟩) 16 c] 31)).alloc (.cells #[.int .i64 0, .slice none 0 0] 31)).alloc (.cells #[.int .i64 h, .slice none 0 0] 31)) wr ∧ w.heap.size + 1 + 1 < wr.heap.size) (fun i _ => 16 - (intOf i).toNat)
    case atStart => exact ⟨0, none, 0, by omega, rfl, by go_simp, by go_simp, by go_simp, Own.none_, Below.refl _ _, by simp⟩
    case round =>
      obtain ⟨k, A, c', hk, rfl, hc0, hc1, hf1, hown, hB, hlt⟩ := hrel
      have HO := Lib.hid hown
      have HB := Lib.hid hB
      by_cases hk16 : k < 16
      · have hne : ∀ g, A = some ⟨g, 0, none⟩ → g ≠ w.heap.size + 1 + 1 := fun g hg => by
          rcases HO.out.form with ⟨e, _⟩ | ⟨g', cur, e, h1, _⟩
          · rw [e] at hg; cases hg
          · rw [e] at hg; injection hg with hg; injection hg with hg; omega
        have hrow : some (w.heap.size + 1 + 1) ≠ (Value.slice A k c').ownBlock := by
          rcases HO.out.form with ⟨e, _⟩ | ⟨g', cur, e, h1, _⟩
          · rw [e]; simp [Value.ownBlock]
          · rw [e]; simp [Value.ownBlock]; omega
        have hrow2 : ∀ j, (Value.slice A k c').ownBlock = some j → w.heap.size + 1 + 1 ≤ j := by
          rcases HO.out.form with ⟨e, _⟩ | ⟨g', cur, e, h1, _⟩
          · rw [e]; simp [Value.ownBlock]
          · rw [e]; simp [Value.ownBlock]; omega
        have HN := Lib.hid hne
        have HR := Lib.hid hrow
        have HR2 := Lib.hid hrow2
        have p1 : wr.cell? ⟨w.heap.size, 1, none⟩ = some (.slice (some ⟨b, off, none⟩) 16 c) := (hB.cell (p := ⟨w.heap.size, 1, none⟩) (by simp <;> omega)).trans (by go_simp)
        have hr0 := rotAt_lt s k
        have r1 : wr.cell? ⟨b, off + rotAt s k, none⟩ = some (.int .i64 (xs[rotAt s k]?.getD 0)) := (hB.cell (p := ⟨b, off + rotAt s k, none⟩) (by show b < _; omega)).trans ((HB0.out.cell (p := ⟨b, off + rotAt s k, none⟩) hb).trans (HC.out _ hr0))
        have hki : (k : Int) < 16 := by omega
        have hr1 : (rotAt s k : Int) < 16 := by omega
        have e1 : IntKind.i64.wrap ((k : Int) + 16) = (k : Int) + 16 := IntWalk.i64_in _ (by omega)
        have e2 : IntKind.i64.wrap ((k : Int) + 16 - K) = (k : Int) + 16 - K := IntWalk.i64_in _ (by omega)
        have e3 : ((k : Int) + 16 - K).tmod 16 = (rotAt s k : Int) := by
          rw [Int.tmod_eq_emod_of_nonneg (by omega)]; have := HK.out; unfold rotAt; omega
        have e4 : IntKind.i64.wrap (rotAt s k : Int) = (rotAt s k : Int) := IntWalk.i64_in _ (by omega)
        clear hne hrow hrow2 hown hB
        go_wp2
        go_region_law (refine step_append_ints _ rfl (.tmp 22) (.tmp 32) 29 rfl (w.heap.size + 1 + 1 + 1) 3 i0 Tryd.underlying29 hi0 hz0 hz1 hz2 A k c' (rotP s xs k) rfl (HO.out.alloc (.cells #[.int .i64 (xs[rotAt s k]?.getD 0)] 3)) _ (some ⟨wr.heap.size, 0, none⟩) 1 1 [xs[rotAt s k]?.getD 0] rfl (ints_one wr 3 (xs[rotAt s k]?.getD 0)) (by omega) (by simp; omega) ?_; intro A' c1 w1 hown1 hg1 hat1; have d0 : w1.cell? ⟨w.heap.size + 1 + 1, 0, none⟩ = some (.int .i64 h) := (cell_grown hg1 0 (by simp; omega) HR.out).trans ((World.cell?_alloc_lt _ _ _ hlt).trans hc0); have d1 : w1.cell? ⟨w.heap.size + 1 + 1, 1, none⟩ = some (.slice A k c') := (cell_grown hg1 1 (by simp; omega) HR.out).trans ((World.cell?_alloc_lt _ _ _ hlt).trans hc1); have d2 : w1.frozen? ⟨w.heap.size + 1 + 1, 1, none⟩ = false := (frozen_grown hg1 1 (by simp; omega) HR.out).trans ((World.frozen?_alloc_old _ _ _ (by show w.heap.size + 1 + 1 ≠ _; omega)).trans hf1))
        all_goals
          go_wp2
          go_roundw
          case rel =>
            refine ⟨k + 1, A', c1, by omega, by go_num, ?_, ?_, ?_, ?_, ?_, ?_⟩
            · rw [World.cell?_setCell_other _ _ _ _ (by simp)]; exact d0
            · rw [World.cell?_setCell_same' _ _ _ (by rw [d1]; rfl)]
            · rw [World.frozen?_setCell]; exact d2
            · rw [rotP_succ]
              exact hown1.far (p := ⟨w.heap.size + 1 + 1, 1, none⟩) (fun g hg => by rcases hat1 g hg with e | e; exact HN.out g e; simp at e; show g ≠ w.heap.size + 1 + 1; omega) _
            · exact (((HB.out.alloc (by omega) _).drew).grown hg1 (by simp; omega) HR2.out).setCell (Nat.le_refl _) _
            · have := hg1.size; simp at this; simp [World.setCell]; omega
          case measure => simp [intOf]; omega
      · obtain rfl : k = 16 := by omega
        have u0 : wr.cell? ⟨w.heap.size + 1, 0, none⟩ = some (.int .i64 0) := (hB.cell (p := ⟨w.heap.size + 1, 0, none⟩) (by simp)).trans (by go_simp)
        have u1 : wr.cell? ⟨w.heap.size + 1, 1, none⟩ = some (.slice none 0 0) := (hB.cell (p := ⟨w.heap.size + 1, 1, none⟩) (by simp)).trans (by go_simp)
        have u2 : wr.frozen? ⟨w.heap.size + 1, 0, none⟩ = false := (hB.frozen (p := ⟨w.heap.size + 1, 0, none⟩) (by simp)).trans (by go_simp)
        have u3 : wr.frozen? ⟨w.heap.size + 1, 1, none⟩ = false := (hB.frozen (p := ⟨w.heap.size + 1, 1, none⟩) (by simp)).trans (by go_simp)
        clear hown hB
        go_wp2
        refine bodyPost_ret (v := .agg #[.int .i64 h, .slice A 16 c']) (by simp [results, Tryd.results22, go_sem, u0, u1]) rfl ⟨A, 16, c', rfl, ?_, ?_⟩
        · rw [← rotP_end]
          have hne : ∀ g, A = some ⟨g, 0, none⟩ → g ≠ w.heap.size + 1 := fun g hg => by
            rcases HO.out.form with ⟨e, _⟩ | ⟨g', cur, e, h1, _⟩
            · rw [e] at hg; cases hg
            · rw [e] at hg; injection hg with hg; injection hg with hg; omega
          exact ((HO.out.less (by omega)).far (p := ⟨w.heap.size + 1, 0, none⟩) hne _).far (p := ⟨w.heap.size + 1, 1, none⟩) hne _
        · exact ((HB0.out.trans (HB.out.mono (by omega))).setCell (by simp) _).setCell (by simp) _
end Go.Proofs.YthaodhipebadcaaDoor
