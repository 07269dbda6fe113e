/- What a region leaves that copies a terrain field by field. -/
import Derived.Test.YtpoceidbiamgaaaWg
set_option linter.unusedVariables false
set_option linter.unusedSimpArgs false
namespace Go.Proofs.Ytpoceidbiamgaaa
open Go.RowKit
section
variable {W0 w' w1 : World} {s : Nat} {a b c d : Value}
theorem S5_alloc (o : Obj) (h : w'.cell? ⟨s, 0, none⟩ = some a ∧ w'.cell? ⟨s, 1, none⟩ = some b ∧ w'.cell? ⟨s, 2, none⟩ = some c ∧ w'.cell? ⟨s, 3, none⟩ = some d ∧ Below W0.heap.size W0 w' ∧ s < W0.heap.size) : (w'.alloc o).cell? ⟨s, 0, none⟩ = some a ∧ (w'.alloc o).cell? ⟨s, 1, none⟩ = some b ∧ (w'.alloc o).cell? ⟨s, 2, none⟩ = some c ∧ (w'.alloc o).cell? ⟨s, 3, none⟩ = some d ∧ Below W0.heap.size W0 (w'.alloc o) ∧ s < W0.heap.size := by
  obtain ⟨h0, h1, h2, h3, h4, h5⟩ := h
  have hl : s < w'.heap.size := Nat.lt_of_lt_of_le h5 h4.size
  exact ⟨(World.cell?_alloc_lt _ _ _ hl).trans h0, (World.cell?_alloc_lt _ _ _ hl).trans h1, (World.cell?_alloc_lt _ _ _ hl).trans h2, (World.cell?_alloc_lt _ _ _ hl).trans h3, h4.alloc h4.size _, h5⟩
theorem S5_grown (h : w'.cell? ⟨s, 0, none⟩ = some a ∧ w'.cell? ⟨s, 1, none⟩ = some b ∧ w'.cell? ⟨s, 2, none⟩ = some c ∧ w'.cell? ⟨s, 3, none⟩ = some d ∧ Below W0.heap.size W0 w' ∧ s < W0.heap.size) (hg : w'.grownBy w1 none) : w1.cell? ⟨s, 0, none⟩ = some a ∧ w1.cell? ⟨s, 1, none⟩ = some b ∧ w1.cell? ⟨s, 2, none⟩ = some c ∧ w1.cell? ⟨s, 3, none⟩ = some d ∧ Below W0.heap.size W0 w1 ∧ s < W0.heap.size := by
  obtain ⟨h0, h1, h2, h3, h4, h5⟩ := h
  have hl : s < w'.heap.size := Nat.lt_of_lt_of_le h5 h4.size
  exact ⟨(cell_grown hg _ hl (by simp)).trans h0, (cell_grown hg _ hl (by simp)).trans h1, (cell_grown hg _ hl (by simp)).trans h2, (cell_grown hg _ hl (by simp)).trans h3, h4.grown hg h4.size (fun j e => by cases e), h5⟩
theorem S5_set4 {q : Nat} {x y z u : Value} (h : w'.cell? ⟨s, 0, none⟩ = some a ∧ w'.cell? ⟨s, 1, none⟩ = some b ∧ w'.cell? ⟨s, 2, none⟩ = some c ∧ w'.cell? ⟨s, 3, none⟩ = some d ∧ Below W0.heap.size W0 w' ∧ s < W0.heap.size) (hq : W0.heap.size ≤ q) : ((((w'.setCell ⟨q, 0, none⟩ (x)).setCell ⟨q, 1, none⟩ (y)).setCell ⟨q, 2, none⟩ (z)).setCell ⟨q, 3, none⟩ (u)).cell? ⟨s, 0, none⟩ = some a ∧ ((((w'.setCell ⟨q, 0, none⟩ (x)).setCell ⟨q, 1, none⟩ (y)).setCell ⟨q, 2, none⟩ (z)).setCell ⟨q, 3, none⟩ (u)).cell? ⟨s, 1, none⟩ = some b ∧ ((((w'.setCell ⟨q, 0, none⟩ (x)).setCell ⟨q, 1, none⟩ (y)).setCell ⟨q, 2, none⟩ (z)).setCell ⟨q, 3, none⟩ (u)).cell? ⟨s, 2, none⟩ = some c ∧ ((((w'.setCell ⟨q, 0, none⟩ (x)).setCell ⟨q, 1, none⟩ (y)).setCell ⟨q, 2, none⟩ (z)).setCell ⟨q, 3, none⟩ (u)).cell? ⟨s, 3, none⟩ = some d ∧ Below W0.heap.size W0 ((((w'.setCell ⟨q, 0, none⟩ (x)).setCell ⟨q, 1, none⟩ (y)).setCell ⟨q, 2, none⟩ (z)).setCell ⟨q, 3, none⟩ (u)) ∧ s < W0.heap.size := by
  obtain ⟨h0, h1, h2, h3, h4, h5⟩ := h
  have hn : s ≠ q := by omega
  exact ⟨(set4_cell hn).trans h0, (set4_cell hn).trans h1, (set4_cell hn).trans h2, (set4_cell hn).trans h3, below_set4 h4 hq, h5⟩
theorem S5_alloc_drew (o : Obj) (h : w'.drew.cell? ⟨s, 0, none⟩ = some a ∧ w'.drew.cell? ⟨s, 1, none⟩ = some b ∧ w'.drew.cell? ⟨s, 2, none⟩ = some c ∧ w'.drew.cell? ⟨s, 3, none⟩ = some d ∧ Below W0.heap.size W0 w'.drew ∧ s < W0.heap.size) : (w'.alloc o).drew.cell? ⟨s, 0, none⟩ = some a ∧ (w'.alloc o).drew.cell? ⟨s, 1, none⟩ = some b ∧ (w'.alloc o).drew.cell? ⟨s, 2, none⟩ = some c ∧ (w'.alloc o).drew.cell? ⟨s, 3, none⟩ = some d ∧ Below W0.heap.size W0 (w'.alloc o).drew ∧ s < W0.heap.size := S5_alloc (w' := w'.drew) o h
theorem S5_realloc (o o' : Obj) (hl : W0.heap.size ≤ w'.heap.size) (h : (w'.alloc o).cell? ⟨s, 0, none⟩ = some a ∧ (w'.alloc o).cell? ⟨s, 1, none⟩ = some b ∧ (w'.alloc o).cell? ⟨s, 2, none⟩ = some c ∧ (w'.alloc o).cell? ⟨s, 3, none⟩ = some d ∧ Below W0.heap.size W0 (w'.alloc o) ∧ s < W0.heap.size) : (w'.alloc o').cell? ⟨s, 0, none⟩ = some a ∧ (w'.alloc o').cell? ⟨s, 1, none⟩ = some b ∧ (w'.alloc o').cell? ⟨s, 2, none⟩ = some c ∧ (w'.alloc o').cell? ⟨s, 3, none⟩ = some d ∧ Below W0.heap.size W0 (w'.alloc o') ∧ s < W0.heap.size := by
  obtain ⟨h0, h1, h2, h3, h4, h5⟩ := h
  have hk : s < w'.heap.size := by omega
  have g : Below w'.heap.size w' (w'.alloc o) := (Below.refl _ _).alloc (Nat.le_refl _) _
  have hb : Below W0.heap.size W0 w' := ⟨h4.os, h4.tape, h4.output, hl, fun k hk => (g.block k (by omega)).symm.trans (h4.block k hk)⟩
  refine S5_alloc o' ⟨?_, ?_, ?_, ?_, hb, h5⟩
  · exact (World.cell?_alloc_lt _ _ _ hk).symm.trans h0
  · exact (World.cell?_alloc_lt _ _ _ hk).symm.trans h1
  · exact (World.cell?_alloc_lt _ _ _ hk).symm.trans h2
  · exact (World.cell?_alloc_lt _ _ _ hk).symm.trans h3
theorem S5_below {p0 p1 p2 p3 e r : Prop} (h : p0 ∧ p1 ∧ p2 ∧ p3 ∧ e ∧ r) : e := h.2.2.2.2.1
end
/-- Slot 9 points to a new terrain that reads as W, H, g, p and whose rows are new. -/
def CopS (W0 : World) (W H : Int) (g p : List Int) (s9 : Value) (wx : World) : Prop :=
  ∃ q A n c A2 m c2, s9 = .pointer (some ⟨q, 0, none⟩) ∧ Box4 wx q (.int .i64 W) (.int .i64 H) (.slice A n c) (.slice A2 m c2) ∧ Row wx W0.heap.size A n c g ∧ Row wx W0.heap.size A2 m c2 p ∧
    (∀ b b', 0 < n → A = some ⟨b, 0, none⟩ → 0 < m → A2 = some ⟨b', 0, none⟩ → b ≠ b' ) ∧ (∀ b, 0 < n → A = some ⟨b, 0, none⟩ → b ≠ q) ∧ (∀ b, 0 < m → A2 = some ⟨b, 0, none⟩ → b ≠ q) ∧ W0.heap.size ≤ q ∧ Below W0.heap.size W0 wx
/-- The world behind both appends, the terrain's block made last. -/
theorem copS_new {W0 V1 w1 V2 w2 : World} {W H : Int} {g p : List Int} {A A2 : Option Addr} {n c m c2 : Nat} (r1 : Row w1 V1.heap.size A n c g) (k1 : V1.grownBy w1 none) (e1 : 0 < n → A = some ⟨V1.heap.size, 0, none⟩)
    (r2 : Row w2 V2.heap.size A2 m c2 p) (k2 : V2.grownBy w2 none) (e2 : 0 < m → A2 = some ⟨V2.heap.size, 0, none⟩) (hb1 : Below W0.heap.size W0 V1) (hb12 : Below w1.heap.size w1 V2) :
    CopS W0 W H g p (.pointer (some ⟨w2.heap.size, 0, none⟩)) (w2.alloc (.cells #[.int .i64 W, .int .i64 H, .slice A n c, .slice A2 m c2] 24)) := by
  have x1 := k1.size
  have x2 := k2.size
  have x3 := hb1.size
  have x4 := hb12.size
  have b2 : Below W0.heap.size W0 w2 := (((hb1.grown k1 hb1.size (fun j e => by cases e)).trans (hb12.mono (by omega))).grown k2 (by omega) (fun j e => by cases e))
  have y1 : Row w2 W0.heap.size A n c g := (((r1.next hb12).grown k2).less hb1.size)
  have y2 : Row w2 W0.heap.size A2 m c2 p := r2.less (by omega)
  refine ⟨w2.heap.size, A, n, c, A2, m, c2, rfl, Box4.new _ _ _ _ _ _, y1.alloc _, y2.alloc _, ?_, ?_, ?_, by omega, b2.alloc b2.size _⟩
  · intro b b' hn e hm e'
    have l1 := ((r1.2 hn).lt b e).2
    have l2 := ((r2.2 hm).lt b' e').1
    omega
  · intro b hn e
    have l1 := ((r1.2 hn).lt b e).2
    omega
  · intro b hm e
    have l2 := ((r2.2 hm).lt b e).2
    omega
/-- The same, the terrain's block q made before. -/
theorem copS_set {W0 V1 w1 V2 w2 : World} {q : Nat} {W H : Int} {g p : List Int} {A A2 : Option Addr} {n c m c2 : Nat} {a b c' d : Value} (r1 : Row w1 V1.heap.size A n c g) (k1 : V1.grownBy w1 none) (e1 : 0 < n → A = some ⟨V1.heap.size, 0, none⟩)
    (r2 : Row w2 V2.heap.size A2 m c2 p) (k2 : V2.grownBy w2 none) (e2 : 0 < m → A2 = some ⟨V2.heap.size, 0, none⟩) (hb1 : Below W0.heap.size W0 V1) (hb12 : Below w1.heap.size w1 V2)
    (hq : Box4 V2 q a b c' d) (h0 : W0.heap.size ≤ q) (h1 : q < V1.heap.size ∨ w1.heap.size ≤ q) :
    CopS W0 W H g p (.pointer (some ⟨q, 0, none⟩)) ((((w2.setCell ⟨q, 0, none⟩ (.int .i64 W)).setCell ⟨q, 1, none⟩ (.int .i64 H)).setCell ⟨q, 2, none⟩ (.slice A n c)).setCell ⟨q, 3, none⟩ (.slice A2 m c2)) := by
  have x1 := k1.size
  have x2 := k2.size
  have x3 := hb1.size
  have x4 := hb12.size
  have hql := hq.lt
  have b2 : Below W0.heap.size W0 w2 := (((hb1.grown k1 hb1.size (fun j e => by cases e)).trans (hb12.mono (by omega))).grown k2 (by omega) (fun j e => by cases e))
  have y1 : Row w2 W0.heap.size A n c g := (((r1.next hb12).grown k2).less hb1.size)
  have y2 : Row w2 W0.heap.size A2 m c2 p := r2.less (by omega)
  have n1 : ∀ b, 0 < n → A = some ⟨b, 0, none⟩ → b ≠ q := fun b hn e => by
    have l1 := (r1.2 hn).lt b e
    have l2 := e1 hn
    rw [l2] at e
    injection e with e
    injection e with e
    omega
  have n2 : ∀ b, 0 < m → A2 = some ⟨b, 0, none⟩ → b ≠ q := fun b hn e => by
    have l1 := (r2.2 hn).lt b e
    omega
  have hq2 := hq.grown k2 (by simp)
  have hb4 := set4_at (a := .int .i64 W) (b := .int .i64 H) (c := .slice A n c) (d := .slice A2 m c2) hq2.1 hq2.2.1 hq2.2.2.1 hq2.2.2.2.1
  refine ⟨q, A, n, c, A2, m, c2, rfl, ⟨hb4.1, hb4.2.1, hb4.2.2.1, hb4.2.2.2, fun o => (set4_frozen _).trans (hq2.2.2.2.2.1 o), by rw [set4_size]; exact hq2.lt⟩, y1.far4 (fun hn b e => n1 b hn e), y2.far4 (fun hn b e => n2 b hn e), ?_, n1, n2, h0, below_set4 b2 h0⟩
  · intro b b' hn e hm e'
    have l1 := ((r1.2 hn).lt b e).2
    have l2 := ((r2.2 hm).lt b' e').1
    omega
theorem grown_rules {V w1 : World} (hg : V.grownBy w1 none) : (∀ b o, b < V.heap.size → w1.cell? ⟨b, o, none⟩ = V.cell? ⟨b, o, none⟩) ∧ (∀ b o, b < V.heap.size → w1.frozen? ⟨b, o, none⟩ = V.frozen? ⟨b, o, none⟩) :=
  ⟨fun _ o h => cell_grown hg o h (by simp), fun _ o h => frozen_grown hg o h (by simp)⟩
theorem rules21 {V1 w1 V2 w2 : World} (hg2 : V2.grownBy w2 none) (hg1 : V1.grownBy w1 none) (hb : Below w1.heap.size w1 V2) : (∀ b o, b < V1.heap.size → w2.cell? ⟨b, o, none⟩ = V1.cell? ⟨b, o, none⟩) ∧ (∀ b o, b < V1.heap.size → w2.frozen? ⟨b, o, none⟩ = V1.frozen? ⟨b, o, none⟩) := by
  have x1 := hg1.size
  have x2 := hb.size
  refine ⟨fun b o h => ?_, fun b o h => ?_⟩
  · exact (cell_grown hg2 o (by omega) (by simp)).trans ((hb.cell (p := ⟨b, o, none⟩) (by show b < _; omega)).trans (cell_grown hg1 o h (by simp)))
  · exact (frozen_grown hg2 o (by omega) (by simp)).trans ((hb.frozen (p := ⟨b, o, none⟩) (by show b < _; omega)).trans (frozen_grown hg1 o h (by simp)))
theorem Box4.new' (w : World) (a b c d : Value) (t : TypeId) (q : Nat) (hq : w.heap.size = q) : Box4 (w.alloc (.cells #[a, b, c, d] t)) q a b c d := by subst hq; exact Box4.new w a b c d t
theorem Box4.drew' {w : World} {q : Nat} {a b c d : Value} (h : Box4 w q a b c d) : Box4 w.drew q a b c d := h
theorem drew_size (w : World) : w.drew.heap.size = w.heap.size := rfl
end Go.Proofs.Ytpoceidbiamgaaa
