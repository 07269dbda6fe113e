/- How terrains, cells and lists of ints that come in are opened; closed facts. -/
import Derived.Test.YtpoceidbiamgaaaW1
import Derived.Test.YtpoceidbiamgaaaPost
import Derived.Lib.SmallJoins
import Derived.Deep.DeepHandedRow
set_option linter.unusedVariables false
set_option linter.unusedSimpArgs false
namespace Go.Proofs.Ytpoceidbiamgaaa
open Go.ChangeShapes Go.WideShapes Go.ChangeAt Go.RowKit Go.Joins
theorem own : ownKnob Try.prog.godebug = none := by kernel_rfl
theorem cellsB24 : Try.prog.cellsOf 24 = 4 := by kernel_rfl
theorem cellsB26 : Try.prog.cellsOf 26 = 2 := by kernel_rfl
theorem cellsB3 : Try.prog.cellsOf 3 = 1 := by kernel_rfl
section
variable {H : Type} {enc : TypeId × Value → H} {W : World} {b0 : Nat} {v : Value} {d : DataW H} {p : List MemPlace}
theorem open_ints1 {m : Nat} {c : Value} {y : DataW H × List MemPlace} (hy : DataW.trod enc Try.prog W 0 (fun _ => true) true m 22 [c] = some y) : ∃ (A : Option Addr) (n k : Nat) (xs : List Int), c = .slice A n k ∧ Ints W W.heap.size A n xs := by
  rcases open_ints Try.underlying22 Try.underlying3 cellsB3 hy with ⟨hcs, hx⟩ | ⟨ad, len, cap, zs, hcs, _, hl, hm, hz, hx, hcell, hwz⟩
  · simp only [List.cons.injEq, and_true] at hcs
    subst hcs
    exact ⟨none, 0, 0, [], rfl, Ints.nil⟩
  · simp only [List.cons.injEq, and_true] at hcs
    subst hcs
    simp only [if_true] at hz
    refine ⟨some ad, len, cap, zs.take len, rfl, by simp; omega, fun hn => ?_⟩
    obtain ⟨b, off, rfl, hc⟩ := ints_at hcell (by omega)
    refine ⟨b, off, rfl, ?_, fun j hj => ?_⟩
    · exact World.block_lt_of_cell? W _ (hc 0 (by omega))
    · rw [hc j (by omega)]
      simp [hj]
/-- A terrain that came in. -/
theorem open_ter (hv : Value.okWide Try.prog W .any b0 24 v) (h : DataW.Trod enc Try.prog W 0 (fun _ => true) true 24 v d p) :
    ∃ (X Y : Int) (A : Option Addr) (n c : Nat) (A2 : Option Addr) (m c2 : Nat) (g q : List Int), v = .agg #[.int .i64 X, .int .i64 Y, .slice A n c, .slice A2 m c2] ∧ Ints W W.heap.size A n g ∧ Ints W W.heap.size A2 m q := by
  obtain ⟨c0, c1, c2, c3, y0, y1, y2, y3, m, rfl, rfl, rfl, hy0, hy1, hy2, hy3⟩ := open_agg4 Try.underlying24 (by kernel_rfl) cellsB24 hv h
  obtain ⟨X, e0, _, _⟩ := DataW.trod_int Try.underlying3 hy0
  obtain ⟨Y, e1, _, _⟩ := DataW.trod_int Try.underlying3 hy1
  simp only [List.cons.injEq, and_true] at e0 e1
  subst e0
  subst e1
  obtain ⟨A, n, k, g, rfl, I1⟩ := open_ints1 hy2
  obtain ⟨A2, m2, k2, q, rfl, I2⟩ := open_ints1 hy3
  exact ⟨X, Y, A, n, k, A2, m2, k2, g, q, rfl, I1, I2⟩
/-- A cell that came in. -/
theorem open_cel (hv : Value.okWide Try.prog W .any b0 26 v) (h : DataW.Trod enc Try.prog W 0 (fun _ => true) true 26 v d p) : ∃ x y : Int, v = .agg #[.int .i64 x, .int .i64 y] := by
  obtain ⟨c0, c1, y0, y1, m, rfl, rfl, rfl, hy0, hy1⟩ := open_agg2 Try.underlying26 (by kernel_rfl) cellsB26 hv h
  obtain ⟨X, e0, _, _⟩ := DataW.trod_int Try.underlying3 hy0
  obtain ⟨Y, e1, _, _⟩ := DataW.trod_int Try.underlying3 hy1
  simp only [List.cons.injEq, and_true] at e0 e1
  subst e0
  subst e1
  exact ⟨X, Y, rfl⟩
/-- An int that came in. -/
theorem open_int1 (hv : Value.okWide Try.prog W .any b0 3 v) : ∃ x : Int, v = .int .i64 x := okWide_int Try.underlying3 hv
/-- A list of ints that came in. -/
theorem open_list (hv : Value.okWide Try.prog W .any b0 22 v) (h : DataW.Trod enc Try.prog W 0 (fun _ => true) true 22 v d p) : ∃ (A : Option Addr) (n c : Nat) (xs : List Int), v = .slice A n c ∧ Ints W W.heap.size A n xs := by
  obtain ⟨a0, len, cap, rfl⟩ := okWide_slice Try.underlying22 hv
  obtain ⟨fuel, hf⟩ := h
  exact open_ints1 (c := .slice a0 len cap) hf
end
end Go.Proofs.Ytpoceidbiamgaaa
