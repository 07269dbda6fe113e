/- A terrain of the call's own that is written, beside memory that stays. -/
import Derived.Test.YtpoceidbiamgaaaWn
import Derived.Test.YtpoceidbiamgaaaWi
set_option linter.unusedVariables false
set_option linter.unusedSimpArgs false
namespace Go.Proofs.Ytpoceidbiamgaaa
open Go.RowKit

theorem Ints.drw {w : World} {B n : Nat} {A : Option Addr} {xs : List Int} (h : Ints w B A n xs) : Ints w.drew B A n xs := h
/-- A terrain of the call's own in block q, beside memory that stays. -/
def CpI (wB : World) (q : Nat) (W H : Int) (R : Option Addr) (n c : Nat) (R2 : Option Addr) (m c2 : Nat) (wr : World) : Prop :=
  ∃ xs ys, Own wr wB.heap.size 3 R n c xs ∧ Own wr wB.heap.size 3 R2 m c2 ys ∧ Box4 wr q (.int .i64 W) (.int .i64 H) (.slice R n c) (.slice R2 m c2) ∧ Below wB.heap.size wB wr
section
variable {wB wr : World} {q n c m c2 : Nat} {W H : Int} {R R2 : Option Addr}
theorem CpI.st1 {b : Nat} (h : CpI wB q W H (some ⟨b, 0, none⟩) n c R2 m c2 wr) (hd : Dis (some ⟨b, 0, none⟩) R2) (hq : b ≠ q) (hb : wB.heap.size ≤ b) (i : Nat) (v : Int) : CpI wB q W H (some ⟨b, 0, none⟩) n c R2 m c2 (wr.setCell ⟨b, i, none⟩ (.int .i64 v)) := by
  obtain ⟨xs, ys, o1, o2, bx, bl⟩ := h
  exact ⟨_, _, o1.stored (k := i) v, o2.far (p := ⟨b, i, none⟩) (fun b' e => Ne.symm (hd b b' rfl e)) _, bx.far (p := ⟨b, i, none⟩) (Ne.symm hq) _, bl.setCell (p := ⟨b, i, none⟩) hb _⟩
theorem CpI.st2 {b : Nat} (h : CpI wB q W H R n c (some ⟨b, 0, none⟩) m c2 wr) (hd : Dis R (some ⟨b, 0, none⟩)) (hq : b ≠ q) (hb : wB.heap.size ≤ b) (i : Nat) (v : Int) : CpI wB q W H R n c (some ⟨b, 0, none⟩) m c2 (wr.setCell ⟨b, i, none⟩ (.int .i64 v)) := by
  obtain ⟨xs, ys, o1, o2, bx, bl⟩ := h
  exact ⟨_, _, o1.far (p := ⟨b, i, none⟩) (fun b' e => hd b' b e rfl) _, o2.stored (k := i) v, bx.far (p := ⟨b, i, none⟩) (Ne.symm hq) _, bl.setCell (p := ⟨b, i, none⟩) hb _⟩
theorem CpI.row1 (h : CpI wB q W H R n c R2 m c2 wr) {i : Nat} (hi : i < n) : ∃ b x, R = some ⟨b, 0, none⟩ ∧ wB.heap.size ≤ b ∧ wr.cell? ⟨b, i, none⟩ = some (.int .i64 x) ∧ wr.frozen? ⟨b, i, none⟩ = false := by
  obtain ⟨xs, ys, o1, o2, bx, bl⟩ := h
  rcases o1.form with ⟨_, e, _⟩ | ⟨b, _, rfl, h1, _⟩
  · omega
  · exact ⟨b, _, rfl, h1, o1.cell hi, o1.frozen i⟩
theorem CpI.row2 (h : CpI wB q W H R n c R2 m c2 wr) {i : Nat} (hi : i < m) : ∃ b x, R2 = some ⟨b, 0, none⟩ ∧ wB.heap.size ≤ b ∧ wr.cell? ⟨b, i, none⟩ = some (.int .i64 x) ∧ wr.frozen? ⟨b, i, none⟩ = false := by
  obtain ⟨xs, ys, o1, o2, bx, bl⟩ := h
  rcases o2.form with ⟨_, e, _⟩ | ⟨b, _, rfl, h1, _⟩
  · omega
  · exact ⟨b, _, rfl, h1, o2.cell hi, o2.frozen i⟩
theorem CpI.box (h : CpI wB q W H R n c R2 m c2 wr) : Box4 wr q (.int .i64 W) (.int .i64 H) (.slice R n c) (.slice R2 m c2) := by
  obtain ⟨xs, ys, o1, o2, bx, bl⟩ := h
  exact bx
theorem CpI.bl (h : CpI wB q W H R n c R2 m c2 wr) : Below wB.heap.size wB wr := by
  obtain ⟨xs, ys, o1, o2, bx, bl⟩ := h
  exact bl
end
theorem CpI.drw {wB wr : World} {q n c m c2 : Nat} {W H : Int} {R R2 : Option Addr} (h : CpI wB q W H R n c R2 m c2 wr) : CpI wB q W H R n c R2 m c2 wr.drew := by
  obtain ⟨xs, ys, f1, f2, f3, f4⟩ := h
  exact ⟨xs, ys, f1, f2, f3, f4.drew⟩
theorem CpI.next {wB wr w2 : World} {q n c m c2 : Nat} {W H : Int} {R R2 : Option Addr} (h : CpI wB q W H R n c R2 m c2 wr) (hb : Below wr.heap.size wr w2) : CpI wB q W H R n c R2 m c2 w2 := by
  obtain ⟨xs, ys, f1, f2, f3, f4⟩ := h
  exact ⟨xs, ys, f1.next hb, f2.next hb, f3.next hb, chain f4 hb⟩
end Go.Proofs.Ytpoceidbiamgaaa
