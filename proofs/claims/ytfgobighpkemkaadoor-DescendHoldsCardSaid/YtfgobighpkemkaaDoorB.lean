/- What the row's list gives: the block of the variable worths (Wor); a clock that comes in; the witness' world; closed facts. -/
import Derived.Test.YtfgobighpkemkaaDoorW2
import Derived.Test.YtfgobighpkemkaaDoorCards
import Derived.Test.YtfgobighpkemkaaDoorTie
import Derived.Test.YtfgobighpkemkaaDoorPost
import Derived.Lib.SmallJoins
import Derived.Deep.DeepHandedRow
import Derived.Lib.LaidTab
namespace Go.Proofs.YtfgobighpkemkaaDoor
open Go.ChangeShapes Go.WideShapes Go.ChangeAt Go.RowKit Go.Joins
theorem own : ownKnob Tryd.prog.godebug = none := by kernel_rfl
theorem gTab : Tryd.prog.globalNamed "bandplan/score.worths" = some 0 := by kernel_rfl
theorem gTabType : (Tryd.prog.globals[0]?).map (·.type) = some 57 := by kernel_rfl
theorem cells57 : Tryd.prog.cellsOf 57 = 4 := by kernel_rfl
theorem cells3 : Tryd.prog.cellsOf 3 = 1 := by kernel_rfl
theorem cells23 : Tryd.prog.cellsOf 23 = 3 := by kernel_rfl
theorem wor_of {W : World} (h : laidMetH Tryd.prog Rows.descendValidRow.laid W) : Wor W := by
  have h' : laidMet Tryd.prog [("bandplan/score.worths", Lib.tabData .i64 [0, 250, 600, 1000])] W := h
  have ht : Lib.TabIs Tryd.prog W "bandplan/score.worths" .i64 [0, 250, 600, 1000] := Lib.tabIs_of_head (rest := []) gTab gTabType Tryd.underlying57 Tryd.underlying3 cells3 cells57 h'
  unfold Lib.TabIs World.var? at ht
  rw [gTab] at ht
  simp only [Option.bind_some] at ht
  split at ht
  · rename_i c t fr hh
    injection ht with ht
    subst ht
    exact ⟨_, _, hh⟩
  · cases ht

/-- A clock that came in. -/
theorem open_clock {H : Type} {enc : TypeId × Value → H} {W : World} {b0 : Nat} {v : Value} {d : DataW H} {p : List MemPlace}
    (hv : Value.okWide Tryd.prog W .any b0 23 v) (h : DataW.Trod enc Tryd.prog W 0 (fun _ => true) true 23 v d p) :
    ∃ (O b r : Int), v = .agg #[.int .i64 O, .int .i64 b, .int .i64 r] := by
  obtain ⟨c0, c1, c2, y0, y1, y2, m, rfl, rfl, rfl, hy0, hy1, hy2⟩ := open_agg3 Tryd.underlying23 (by kernel_rfl) cells23 hv h
  obtain ⟨O, e0, _, _⟩ := DataW.trod_int Tryd.underlying3 hy0
  obtain ⟨b, e1, _, _⟩ := DataW.trod_int Tryd.underlying3 hy1
  obtain ⟨r, e2, _, _⟩ := DataW.trod_int Tryd.underlying3 hy2
  simp only [List.cons.injEq, and_true] at e0 e1 e2
  subst e0 e1 e2
  exact ⟨O, b, r, rfl⟩

/-- A world for the witness: the settled one, the table's block holding what its initialiser lays. -/
noncomputable def laidWorld (os : Os) : World :=
  { World.holding Tryd.prog os ⟨#[], #[], []⟩ with heap := (World.holding Tryd.prog os ⟨#[], #[], []⟩).heap.modify 0 fun
      | .cells _ t frozen => .cells worCells t frozen
      | o => o }
end Go.Proofs.YtfgobighpkemkaaDoor
