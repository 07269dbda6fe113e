/- Plain laws of lines: its cells differ, and each is near the next. -/
import Derived.Test.YtpoceidbiamgaaaWq
set_option linter.unusedVariables false
set_option linter.unusedSimpArgs false
namespace Go.Proofs.Ytpoceidbiamgaaa

theorem span_axis {a1 a2 b1 b2 : Int} : (b1 - a1 = span a1 a2 b1 b2 ∨ a1 - b1 = span a1 a2 b1 b2) ∨ (b2 - a2 = span a1 a2 b1 b2 ∨ a2 - b2 = span a1 a2 b1 b2) := by unfold span; omega
theorem span_sides (a1 a2 b1 b2 : Int) : a1 - b1 ≤ span a1 a2 b1 b2 ∧ b1 - a1 ≤ span a1 a2 b1 b2 ∧ a2 - b2 ≤ span a1 a2 b1 b2 ∧ b2 - a2 ≤ span a1 a2 b1 b2 := by unfold span; omega
theorem lineAt_inj {a b n i j : Int} (hn : 0 < n) (h : b - a = n ∨ a - b = n) (e : lineAt a b n i = lineAt a b n j) : i = j := by
  rw [lineAt_long hn h, lineAt_long hn h] at e
  split at e <;> omega
/-- Cell number i of the line, its ends counted. -/
def cellI (a1 a2 b1 b2 i : Int) : Int × Int := (lineAt a1 b1 (span a1 a2 b1 b2) i, lineAt a2 b2 (span a1 a2 b1 b2) i)
theorem cellI_inj {a1 a2 b1 b2 i j : Int} (hn : 0 < span a1 a2 b1 b2) (e : cellI a1 a2 b1 b2 i = cellI a1 a2 b1 b2 j) : i = j := by
  unfold cellI at e
  injection e with e1 e2
  rcases span_axis (a1 := a1) (a2 := a2) (b1 := b1) (b2 := b2) with h | h
  · exact lineAt_inj hn h e1
  · exact lineAt_inj hn h e2
theorem cellI_zero {a1 a2 b1 b2 : Int} (hn : 0 < span a1 a2 b1 b2) : cellI a1 a2 b1 b2 0 = (a1, a2) := by unfold cellI; rw [lineAt_zero hn, lineAt_zero hn]
theorem cellI_end {a1 a2 b1 b2 : Int} (hn : 0 < span a1 a2 b1 b2) : cellI a1 a2 b1 b2 (span a1 a2 b1 b2) = (b1, b2) := by unfold cellI; rw [lineAt_end hn, lineAt_end hn]
theorem cellI_near {a1 a2 b1 b2 i : Int} (hn : 0 < span a1 a2 b1 b2) : span (cellI a1 a2 b1 b2 i).1 (cellI a1 a2 b1 b2 i).2 (cellI a1 a2 b1 b2 (i + 1)).1 (cellI a1 a2 b1 b2 (i + 1)).2 ≤ 1 := by
  obtain ⟨h1, h2, h3, h4⟩ := span_sides a1 a2 b1 b2
  have q1 := lineAt_step (a := a1) (b := b1) (i := i) hn h1 h2
  have q2 := lineAt_step (a := a2) (b := b2) (i := i) hn h3 h4
  exact span_near q1.1 q1.2 q2.1 q2.2
theorem lineC_cell (a1 a2 b1 b2 : Int) (k : Nat) : lineC a1 a2 b1 b2 k = cellI a1 a2 b1 b2 ((k : Int) + 1) := rfl
theorem lineN_pos {a1 a2 b1 b2 : Int} {k : Nat} (h : k < lineN a1 a2 b1 b2) : 0 < span a1 a2 b1 b2 ∧ (k : Int) + 1 < span a1 a2 b1 b2 := by unfold lineN at h; omega
theorem lineN_comm (a1 a2 b1 b2 : Int) : lineN b1 b2 a1 a2 = lineN a1 a2 b1 b2 := by unfold lineN; rw [span_comm]
theorem lineC_a {a1 a2 b1 b2 : Int} {k : Nat} (h : k < lineN a1 a2 b1 b2) : lineC a1 a2 b1 b2 k ≠ (a1, a2) := fun e => by
  obtain ⟨h1, h2⟩ := lineN_pos h
  rw [lineC_cell, ← cellI_zero h1] at e
  have := cellI_inj h1 e
  omega
theorem lineC_b {a1 a2 b1 b2 : Int} {k : Nat} (h : k < lineN a1 a2 b1 b2) : lineC a1 a2 b1 b2 k ≠ (b1, b2) := fun e => by
  obtain ⟨h1, h2⟩ := lineN_pos h
  rw [lineC_cell, ← cellI_end h1] at e
  have := cellI_inj h1 e
  omega
theorem lineC_ne {a1 a2 b1 b2 : Int} {k : Nat} (h : k + 1 < lineN a1 a2 b1 b2) : lineC a1 a2 b1 b2 k ≠ lineC a1 a2 b1 b2 (k + 1) := fun e => by
  obtain ⟨h1, h2⟩ := lineN_pos h
  rw [lineC_cell, lineC_cell] at e
  have := cellI_inj h1 e
  omega
theorem lineC_near {a1 a2 b1 b2 : Int} {k : Nat} (h : k + 1 < lineN a1 a2 b1 b2) : span (lineC a1 a2 b1 b2 k).1 (lineC a1 a2 b1 b2 k).2 (lineC a1 a2 b1 b2 (k + 1)).1 (lineC a1 a2 b1 b2 (k + 1)).2 ≤ 1 := by
  obtain ⟨h1, h2⟩ := lineN_pos h
  exact cellI_near (i := (k : Int) + 1) h1
theorem lineC_first {a1 a2 b1 b2 : Int} (h : 0 < lineN a1 a2 b1 b2) : span a1 a2 (lineC a1 a2 b1 b2 0).1 (lineC a1 a2 b1 b2 0).2 ≤ 1 := by
  obtain ⟨h1, h2⟩ := lineN_pos h
  have q := cellI_near (a1 := a1) (a2 := a2) (b1 := b1) (b2 := b2) (i := 0) h1
  rw [cellI_zero h1] at q
  exact q
theorem lineC_last {a1 a2 b1 b2 : Int} {k : Nat} (h : k + 1 = lineN a1 a2 b1 b2) : span (lineC a1 a2 b1 b2 k).1 (lineC a1 a2 b1 b2 k).2 b1 b2 ≤ 1 := by
  obtain ⟨h1, h2⟩ := lineN_pos (show k < lineN a1 a2 b1 b2 by omega)
  have q := cellI_near (a1 := a1) (a2 := a2) (b1 := b1) (b2 := b2) (i := (k : Int) + 1) h1
  have e : (k : Int) + 1 + 1 = span a1 a2 b1 b2 := by unfold lineN at h; omega
  rw [e, cellI_end h1] at q
  exact q
theorem lineN_zero {a1 a2 b1 b2 : Int} (h : lineN a1 a2 b1 b2 = 0) : span a1 a2 b1 b2 ≤ 1 := by unfold lineN at h; omega
/-- Two cells are equal. -/
def eqP (p q : Int × Int) : Bool := decide (p = q)
theorem eqP_no {p q : Int × Int} (h : p ≠ q) : eqP p q = false := decide_eq_false h
theorem eqP_yes (p : Int × Int) : eqP p p = true := decide_eq_true rfl
/-- The rectangle and its parts. -/
theorem rectAB_eq {W a1 a2 b1 b2 x0 : Int} {k ny : Nat} (h1 : min a1 b1 = x0) (h2 : max a1 b1 - min a1 b1 + 1 = k) (hy : max a2 b2 - min a2 b2 + 1 = ny) : rectAB W a1 a2 b1 b2 = rectL W x0 (min a2 b2) k ny := by
  unfold rectAB
  rw [h1] at h2 ⊢
  rw [h2, hy]
  rfl
end Go.Proofs.Ytpoceidbiamgaaa
