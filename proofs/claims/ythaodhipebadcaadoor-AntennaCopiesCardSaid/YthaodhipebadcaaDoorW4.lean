/- Contracts of antenna.Copy and bandplanref12.Copy. -/
import Derived.Test.YthaodhipebadcaaDoorW3
import Derived.Deep.RegionLaw
namespace Go.Proofs.YthaodhipebadcaaDoor
open Go.RowKit
theorem info3 : (Tryd.prog.info? 3).map (fun i => (i.zero, i.size, i.bytes)) = some (some (.int .i64 0), 1, 8) := by kernel_rfl
/-- One antenna is returned: its height, and a pattern in new memory. -/
def AntR (w : World) (h : Int) (xs : List Int) (e : Ending) (w' : World) : Prop :=
  ∃ A n c, e = .returned (.agg #[.int .i64 h, .slice A n c]) ∧ Own w' w.heap.size 3 A n c xs ∧ Below w.heap.size w w'

set_option maxHeartbeats 400000 in
theorem copy_any (h : Int) (A : Option Addr) (n c : Nat) (xs : List Int) (w : World) (hI : Ints w w.heap.size A n xs) (hn : n * 8 ≤ 140737488355328) :
    Calls Tryd.prog 26 #[.agg #[.int .i64 h, .slice A n c]] w (AntR w h xs) := by
  obtain ⟨i0, hi0, hz0, hz1, hz2⟩ := info_parts info3
  have hb0 := ((Below.refl w.heap.size w).alloc (Nat.le_refl _) (.cells #[.int .i64 h, .slice A n c] 31)).alloc (by simp) (.cells #[.int .i64 0, .slice none 0 0] 31)
  have HI := Lib.hid (hI.next hb0)
  clear hI
  go_enter Tryd.func26, Tryd.ntmps26
  go_wp2
  go_region_law (refine step_append_ints _ rfl _ _ 29 rfl w.heap.size 3 i0 Tryd.underlying29 hi0 hz0 hz1 hz2 none 0 0 [] rfl Own.none_ _ A n c xs rfl HI.out (by omega) (by show w.heap.size ≤ _; simp; omega) ?_; intro A' c' w1 hown1 hg1 hat1; have c0 : w1.cell? ⟨w.heap.size, 0, none⟩ = some (.int .i64 h) := (cell_grown hg1 0 (by simp <;> omega) (by simp [Value.ownBlock])).trans (by go_simp); have c1 : w1.cell? ⟨w.heap.size + 1, 0, none⟩ = some (.int .i64 0) := (cell_grown hg1 0 (by simp <;> omega) (by simp [Value.ownBlock])).trans (by go_simp); have c2 : w1.cell? ⟨w.heap.size + 1, 1, none⟩ = some (.slice none 0 0) := (cell_grown hg1 1 (by simp <;> omega) (by simp [Value.ownBlock])).trans (by go_simp); have f1 : w1.frozen? ⟨w.heap.size + 1, 0, none⟩ = false := (frozen_grown hg1 0 (by simp <;> omega) (by simp [Value.ownBlock])).trans (by go_simp); have f2 : w1.frozen? ⟨w.heap.size + 1, 1, none⟩ = false := (frozen_grown hg1 1 (by simp <;> omega) (by simp [Value.ownBlock])).trans (by go_simp))
  all_goals
    go_wp2
    refine bodyPost_ret (v := .agg #[.int .i64 h, .slice A' n c']) (by simp [results, Tryd.results26, go_sem, c1, c2]) rfl ⟨A', n, c', rfl, ?_, ?_⟩
    · simp only [Nat.zero_add, List.nil_append] at hown1
      have hne : ∀ g, A' = some ⟨g, 0, none⟩ → g ≠ w.heap.size + 1 := fun g hg => by
        rcases hat1 g hg with e | e
        · cases e
        · simp at e; omega
      exact (hown1.far (p := ⟨w.heap.size + 1, 0, none⟩) hne _).far (p := ⟨w.heap.size + 1, 1, none⟩) hne _
    · exact (((hb0.drew).grown hg1 (by simp <;> omega) (by simp [Value.ownBlock])).setCell (by simp) _).setCell (by simp) _

theorem Own.lit0 (w : World) (base g : Nat) (e : TypeId) (hg : g = w.heap.size) (hb : base ≤ w.heap.size) : Own (w.alloc (.cells #[] e)) base e (some ⟨g, 0, none⟩) 0 0 [] := by
  subst hg; exact World.ownsRow_lit w #[] 0 hb (by simp [maxLen]) rfl

set_option maxHeartbeats 400000 in
theorem refCopy_any (h : Int) (A : Option Addr) (n c : Nat) (xs : List Int) (w : World) (hI : Ints w w.heap.size A n xs) (hn : n * 8 ≤ 140737488355328) :
    Calls Tryd.prog 18 #[.agg #[.int .i64 h, .slice A n c]] w (AntR w h xs) := by
  obtain ⟨i0, hi0, hz0, hz1, hz2⟩ := info_parts info3
  have hb0 : Below w.heap.size w (((w.alloc (.cells #[.int .i64 h, .slice A n c] 31)).alloc (.cells #[.int .i64 0, .slice none 0 0] 31)).alloc (.cells #[] 3)) := (((Below.refl _ _).alloc (Nat.le_refl _) _).alloc (by simp) _).alloc (by simp <;> omega) _
  have HO := Lib.hid (Own.lit0 ((w.alloc (.cells #[.int .i64 h, .slice A n c] 31)).alloc (.cells #[.int .i64 0, .slice none 0 0] 31)) w.heap.size (w.heap.size + 1 + 1) 3 (by simp) (by simp <;> omega))
  have HI := Lib.hid (hI.next hb0)
  clear hI
  go_enter Tryd.func18, Tryd.ntmps18
  go_wp2
  go_region_law (refine step_append_ints _ rfl (.tmp 5) (.tmp 7) 29 rfl w.heap.size 3 i0 Tryd.underlying29 hi0 hz0 hz1 hz2 (some ⟨w.heap.size + 1 + 1, 0, none⟩) 0 0 [] rfl HO.out _ A n c xs rfl HI.out (by omega) (by show w.heap.size ≤ _; simp <;> omega) ?_; intro A' c' w1 hown1 hg1 hat1; have c0 : w1.cell? ⟨w.heap.size, 0, none⟩ = some (.int .i64 h) := (cell_grown hg1 0 (by simp <;> omega) (by simp [Value.ownBlock] <;> omega)).trans (by go_simp); have c1 : w1.cell? ⟨w.heap.size + 1, 0, none⟩ = some (.int .i64 0) := (cell_grown hg1 0 (by simp <;> omega) (by simp [Value.ownBlock])).trans (by go_simp); have c2 : w1.cell? ⟨w.heap.size + 1, 1, none⟩ = some (.slice none 0 0) := (cell_grown hg1 1 (by simp <;> omega) (by simp [Value.ownBlock])).trans (by go_simp); have f1 : w1.frozen? ⟨w.heap.size + 1, 0, none⟩ = false := (frozen_grown hg1 0 (by simp <;> omega) (by simp [Value.ownBlock])).trans (by go_simp); have f2 : w1.frozen? ⟨w.heap.size + 1, 1, none⟩ = false := (frozen_grown hg1 1 (by simp <;> omega) (by simp [Value.ownBlock])).trans (by go_simp))
  all_goals
    go_wp2
    refine bodyPost_ret (v := .agg #[.int .i64 h, .slice A' n c']) (by simp [results, Tryd.results18, go_sem, c1, c2]) rfl ⟨A', n, c', rfl, ?_, ?_⟩
    · simp only [Nat.zero_add, List.nil_append] at hown1
      have hne : ∀ g, A' = some ⟨g, 0, none⟩ → g ≠ w.heap.size + 1 := fun g hg => by
        rcases hat1 g hg with e | e
        · injection e with e; injection e with e; omega
        · simp at e; omega
      exact (hown1.far (p := ⟨w.heap.size + 1, 0, none⟩) hne _).far (p := ⟨w.heap.size + 1, 1, none⟩) hne _
    · refine Below.setCell (Below.setCell (Below.grown ?_ hg1 (by simp <;> omega) (by simp [Value.ownBlock] <;> omega)) (by simp) _) (by simp) _
      exact hb0.drew
end Go.Proofs.YthaodhipebadcaaDoor
