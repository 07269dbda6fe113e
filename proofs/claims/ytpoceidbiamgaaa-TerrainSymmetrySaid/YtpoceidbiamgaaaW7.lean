/- Contract of terrain.Copy. -/
import Derived.Test.YtpoceidbiamgaaaW6
set_option linter.unusedVariables false
set_option linter.unusedSimpArgs false
namespace Go.Proofs.Ytpoceidbiamgaaa
open Go.RowKit

theorem info3 : (Try.prog.info? 3).map (fun i => (i.zero, i.size, i.bytes)) = some (some (.int .i64 0), 1, 8) := by kernel_rfl
/-- Two rows lie in different blocks. -/
def Dis (A A2 : Option Addr) : Prop := ∀ b b', A = some ⟨b, 0, none⟩ → A2 = some ⟨b', 0, none⟩ → b ≠ b'
/-- One terrain is returned, in new memory. -/
def TerR (w : World) (W H : Int) (g p : List Int) (e : Ending) (w' : World) : Prop :=
  ∃ A n c A2 m c2, e = .returned (.agg #[.int .i64 W, .int .i64 H, .slice A n c, .slice A2 m c2]) ∧ Own w' w.heap.size 3 A n c g ∧ Own w' w.heap.size 3 A2 m c2 p ∧ Dis A A2 ∧ Below w.heap.size w w'
theorem Ints.below_grown {w w' : World} {A : Option Addr} {n : Nat} {xs : List Int} (h : Ints w w.heap.size A n xs) (hg : w.grownBy w' none) : Ints w' w.heap.size A n xs :=
  ⟨h.1, fun hn => by
    obtain ⟨b, off, e, hb, hc⟩ := h.2 hn
    exact ⟨b, off, e, hb, fun j hj => (cell_grown hg (off + j) hb (by simp)).trans (hc j hj)⟩⟩

set_option maxHeartbeats 1000000 in
theorem copy_any (W H : Int) (A : Option Addr) (n c : Nat) (A2 : Option Addr) (m c2 : Nat) (g p : List Int) (w : World) (hG : Ints w w.heap.size A n g) (hP : Ints w w.heap.size A2 m p) (hn : n ≤ 4096) (hm : m ≤ 4096) :
    Calls Try.prog 25 #[.agg #[.int .i64 W, .int .i64 H, .slice A n c, .slice A2 m c2]] w (TerR w W H g p) := by
  obtain ⟨i0, hi0, hz0, hz1, hz2⟩ := info_parts info3
  have hb0 : Below w.heap.size w ((w.alloc (.cells #[.int .i64 W, .int .i64 H, .slice A n c, .slice A2 m c2] 24)).alloc (.cells #[.int .i64 0, .int .i64 0, .slice none 0 0, .slice none 0 0] 24)) := ((Below.refl w.heap.size w).alloc (Nat.le_refl _) _).alloc (by simp) _
  have HG := Lib.hid (hG.next hb0)
  have hP := Lib.hid (hP.next hb0)
  have HB := Lib.hid hb0
  clear hG hb0
  go_enter Try.func25, Try.ntmps25
  go_wp2
  go_region_held3 (fun w' => w'.cell? ⟨w.heap.size, 0, none⟩ = some (.int .i64 W) ∧ w'.cell? ⟨w.heap.size, 1, none⟩ = some (.int .i64 H) ∧ w'.cell? ⟨w.heap.size, 2, none⟩ = some (.slice A n c) ∧ w'.cell? ⟨w.heap.size, 3, none⟩ = some (.slice A2 m c2))
    (first | go_keep | exact ⟨by assumption, by assumption, by assumption, by assumption⟩)
    (first | (refine step_append_ints _ rfl _ (.tmp 8) 22 rfl w.heap.size 3 i0 Try.underlying22 hi0 hz0 hz1 hz2 none 0 0 [] rfl Own.none_ _ A n c g rfl HG.out (by omega) (by show w.heap.size ≤ _; simp; omega) ?_; intro A' c' w1 hown1 hg1 hat1; have t0 : w1.cell? ⟨w.heap.size, 0, none⟩ = some (.int .i64 W) := (cell_grown hg1 0 (by simp <;> omega) (by simp [Value.ownBlock])).trans (by go_simp); have t1 : w1.cell? ⟨w.heap.size, 1, none⟩ = some (.int .i64 H) := (cell_grown hg1 1 (by simp <;> omega) (by simp [Value.ownBlock])).trans (by go_simp); have t2 : w1.cell? ⟨w.heap.size, 2, none⟩ = some (.slice A n c) := (cell_grown hg1 2 (by simp <;> omega) (by simp [Value.ownBlock])).trans (by go_simp); have t3 : w1.cell? ⟨w.heap.size, 3, none⟩ = some (.slice A2 m c2) := (cell_grown hg1 3 (by simp <;> omega) (by simp [Value.ownBlock])).trans (by go_simp); have z0 : w1.cell? ⟨w.heap.size + 1, 0, none⟩ = some (.int .i64 0) := (cell_grown hg1 0 (by simp <;> omega) (by simp [Value.ownBlock])).trans (by go_simp); have f0 : w1.frozen? ⟨w.heap.size + 1, 0, none⟩ = false := (frozen_grown hg1 0 (by simp <;> omega) (by simp [Value.ownBlock])).trans (by go_simp); have z1 : w1.cell? ⟨w.heap.size + 1, 1, none⟩ = some (.int .i64 0) := (cell_grown hg1 1 (by simp <;> omega) (by simp [Value.ownBlock])).trans (by go_simp); have f1 : w1.frozen? ⟨w.heap.size + 1, 1, none⟩ = false := (frozen_grown hg1 1 (by simp <;> omega) (by simp [Value.ownBlock])).trans (by go_simp); have z2 : w1.cell? ⟨w.heap.size + 1, 2, none⟩ = some (.slice none 0 0) := (cell_grown hg1 2 (by simp <;> omega) (by simp [Value.ownBlock])).trans (by go_simp); have f2 : w1.frozen? ⟨w.heap.size + 1, 2, none⟩ = false := (frozen_grown hg1 2 (by simp <;> omega) (by simp [Value.ownBlock])).trans (by go_simp); have z3 : w1.cell? ⟨w.heap.size + 1, 3, none⟩ = some (.slice none 0 0) := (cell_grown hg1 3 (by simp <;> omega) (by simp [Value.ownBlock])).trans (by go_simp); have f3 : w1.frozen? ⟨w.heap.size + 1, 3, none⟩ = false := (frozen_grown hg1 3 (by simp <;> omega) (by simp [Value.ownBlock])).trans (by go_simp); have s1 : w.heap.size + 2 ≤ w1.heap.size := (by have := hg1.size; simp at this; omega); have HO1 := Lib.hid hown1; have HB1 := Lib.hid (Below.grown HB.out.drew hg1 (by simp <;> omega) (by simp [Value.ownBlock])); have HAT1 := Lib.hid hat1; have HP1 := Lib.hid (Ints.below_grown (w := ((w.alloc (.cells #[.int .i64 W, .int .i64 H, .slice A n c, .slice A2 m c2] 24)).alloc (.cells #[.int .i64 0, .int .i64 0, .slice none 0 0, .slice none 0 0] 24)).drew) hP.out hg1); clear hown1 hat1) | (refine step_append_ints _ rfl _ (.tmp 11) 22 rfl w.heap.size 3 i0 Try.underlying22 hi0 hz0 hz1 hz2 none 0 0 [] rfl Own.none_ _ A2 m c2 p rfl HP1.out (by omega) (by omega) ?_; intro A2' c2' w2 hown2 hg2 hat2; have t0 : w2.cell? ⟨w.heap.size, 0, none⟩ = some (.int .i64 W) := (cell_grown hg2 0 (by omega) (by simp [Value.ownBlock])).trans t0; have t1 : w2.cell? ⟨w.heap.size, 1, none⟩ = some (.int .i64 H) := (cell_grown hg2 1 (by omega) (by simp [Value.ownBlock])).trans t1; have t2 : w2.cell? ⟨w.heap.size, 2, none⟩ = some (.slice A n c) := (cell_grown hg2 2 (by omega) (by simp [Value.ownBlock])).trans t2; have t3 : w2.cell? ⟨w.heap.size, 3, none⟩ = some (.slice A2 m c2) := (cell_grown hg2 3 (by omega) (by simp [Value.ownBlock])).trans t3; have z0 : w2.cell? ⟨w.heap.size + 1, 0, none⟩ = some (.int .i64 0) := (cell_grown hg2 0 (by omega) (by simp [Value.ownBlock])).trans z0; have f0 : w2.frozen? ⟨w.heap.size + 1, 0, none⟩ = false := (frozen_grown hg2 0 (by omega) (by simp [Value.ownBlock])).trans f0; have z1 : w2.cell? ⟨w.heap.size + 1, 1, none⟩ = some (.int .i64 0) := (cell_grown hg2 1 (by omega) (by simp [Value.ownBlock])).trans z1; have f1 : w2.frozen? ⟨w.heap.size + 1, 1, none⟩ = false := (frozen_grown hg2 1 (by omega) (by simp [Value.ownBlock])).trans f1; have z2 : w2.cell? ⟨w.heap.size + 1, 2, none⟩ = some (.slice none 0 0) := (cell_grown hg2 2 (by omega) (by simp [Value.ownBlock])).trans z2; have f2 : w2.frozen? ⟨w.heap.size + 1, 2, none⟩ = false := (frozen_grown hg2 2 (by omega) (by simp [Value.ownBlock])).trans f2; have z3 : w2.cell? ⟨w.heap.size + 1, 3, none⟩ = some (.slice none 0 0) := (cell_grown hg2 3 (by omega) (by simp [Value.ownBlock])).trans z3; have f3 : w2.frozen? ⟨w.heap.size + 1, 3, none⟩ = false := (frozen_grown hg2 3 (by omega) (by simp [Value.ownBlock])).trans f3))
  have hown1 := HO1.out
  simp only [Nat.zero_add, List.nil_append] at hown1 hown2
  have ne1 : ∀ b, A' = some ⟨b, 0, none⟩ → b ≠ w.heap.size + 1 := fun b hb => by
    rcases HAT1.out b hb with e | e
    · cases e
    · simp at e; omega
  have ne2 : ∀ b, A2' = some ⟨b, 0, none⟩ → b ≠ w.heap.size + 1 := fun b hb => by
    rcases hat2 b hb with e | e
    · cases e
    · omega
  have hd : Dis A' A2' := fun b b' h1 h2 => by
    rcases hat2 b' h2 with e | e
    · cases e
    · have := hown1.form
      rcases this with ⟨h0, _⟩ | ⟨b0, _, h0, _, h3, _⟩
      · rw [h0] at h1; cases h1
      · rw [h0] at h1; injection h1 with h1; injection h1 with h1; omega
  have hown1' : Own w2 w.heap.size 3 A' n c' g := hown1.kept fun b _ hb => hg2.block b hb (by simp [Value.ownBlock])
  have y0 : ((((w2.setCell ⟨w.heap.size + 1, 0, none⟩ (.int .i64 W)).setCell ⟨w.heap.size + 1, 1, none⟩ (.int .i64 H)).setCell ⟨w.heap.size + 1, 2, none⟩ (.slice A' n c')).setCell ⟨w.heap.size + 1, 3, none⟩ (.slice A2' m c2')).cell? ⟨w.heap.size + 1, 0, none⟩ = some (.int .i64 W) := by
    simp [World.cell?_setCell_other, World.cell?_setCell_same', z0, z1, z2, z3]
  have y1 : ((((w2.setCell ⟨w.heap.size + 1, 0, none⟩ (.int .i64 W)).setCell ⟨w.heap.size + 1, 1, none⟩ (.int .i64 H)).setCell ⟨w.heap.size + 1, 2, none⟩ (.slice A' n c')).setCell ⟨w.heap.size + 1, 3, none⟩ (.slice A2' m c2')).cell? ⟨w.heap.size + 1, 1, none⟩ = some (.int .i64 H) := by
    simp [World.cell?_setCell_other, World.cell?_setCell_same', z0, z1, z2, z3]
  have y2 : ((((w2.setCell ⟨w.heap.size + 1, 0, none⟩ (.int .i64 W)).setCell ⟨w.heap.size + 1, 1, none⟩ (.int .i64 H)).setCell ⟨w.heap.size + 1, 2, none⟩ (.slice A' n c')).setCell ⟨w.heap.size + 1, 3, none⟩ (.slice A2' m c2')).cell? ⟨w.heap.size + 1, 2, none⟩ = some (.slice A' n c') := by
    simp [World.cell?_setCell_other, World.cell?_setCell_same', z0, z1, z2, z3]
  have y3 : ((((w2.setCell ⟨w.heap.size + 1, 0, none⟩ (.int .i64 W)).setCell ⟨w.heap.size + 1, 1, none⟩ (.int .i64 H)).setCell ⟨w.heap.size + 1, 2, none⟩ (.slice A' n c')).setCell ⟨w.heap.size + 1, 3, none⟩ (.slice A2' m c2')).cell? ⟨w.heap.size + 1, 3, none⟩ = some (.slice A2' m c2') := by
    simp [World.cell?_setCell_other, World.cell?_setCell_same', z0, z1, z2, z3]
  go_wp2
  refine bodyPost_ret (v := .agg #[.int .i64 W, .int .i64 H, .slice A' n c', .slice A2' m c2']) (by simp [results, Try.results25, go_sem, y0, y1, y2, y3]) rfl ⟨A', n, c', A2', m, c2', rfl, ?_, ?_, hd, ?_⟩
  · exact (((hown1'.far (p := ⟨w.heap.size + 1, 0, none⟩) ne1 _).far (p := ⟨w.heap.size + 1, 1, none⟩) ne1 _).far (p := ⟨w.heap.size + 1, 2, none⟩) ne1 _).far (p := ⟨w.heap.size + 1, 3, none⟩) ne1 _
  · exact (((hown2.far (p := ⟨w.heap.size + 1, 0, none⟩) ne2 _).far (p := ⟨w.heap.size + 1, 1, none⟩) ne2 _).far (p := ⟨w.heap.size + 1, 2, none⟩) ne2 _).far (p := ⟨w.heap.size + 1, 3, none⟩) ne2 _
  · exact ((((HB1.out.grown hg2 (by omega) (by simp [Value.ownBlock])).setCell (by simp) _).setCell (by simp) _).setCell (by simp) _).setCell (by simp) _
end Go.Proofs.Ytpoceidbiamgaaa
