/- What the row's list gives: the block of the variable quadrants (Quad); the witness' world; closed facts. -/
import Derived.Test.YthaodhipebadcaaDoorW1
import Derived.Test.YthaodhipebadcaaDoorCards
import Derived.Test.YthaodhipebadcaaDoorTie
import Derived.ProofKit
import Derived.OpenShut
import Derived.Deep.DeepHandedRow
import Derived.Lib.LaidTab
namespace Go.Proofs.YthaodhipebadcaaDoor
open Go.ChangeShapes Go.WideShapes Go.ChangeAt Go.RowKit
theorem own : ownKnob Tryd.prog.godebug = none := by kernel_rfl
theorem gTab : Tryd.prog.globalNamed "bandplan/antenna.quadrants" = some 0 := by kernel_rfl
theorem gTabType : (Tryd.prog.globals[0]?).map (·.type) = some 48 := by kernel_rfl
theorem cells47 : Tryd.prog.cellsOf 47 = 4 := by kernel_rfl
theorem cells48 : Tryd.prog.cellsOf 48 = 16 := by kernel_rfl
theorem cells3 : Tryd.prog.cellsOf 3 = 1 := by kernel_rfl
def quadRows : List (List Int) := [[1, 0, 0, 1], [0, 1, -1, 0], [-1, 0, 0, -1], [0, -1, 1, 0]]
theorem laid_eq : (Rows.laid_bandplan_antenna_quadrants : DataW Unit) = .agg (quadRows.map (Lib.tabData .i64)) := rfl
theorem four_parts {l : List Value} (h : l.length = 16) : l = (l.drop (0 * 4)).take 4 ++ ((l.drop (1 * 4)).take 4 ++ ((l.drop (2 * 4)).take 4 ++ (l.drop (3 * 4)).take 4)) := by
  match l, h with
  | [a, b, c, d, e, f, g, h, i, j, k, m, n, o, p, q], _ => rfl
theorem quad_of {W : World} (h : laidMetH Tryd.prog Rows.antennaDirectionsRow.laid W) : Quad W := by
  have h' : laidMet Tryd.prog [("bandplan/antenna.quadrants", Rows.laid_bandplan_antenna_quadrants)] W := h
  obtain ⟨ps, ⟨g', t', cs, fuel, p, q, hg', ht', hvar, hd, _, _⟩, _⟩ := h'
  obtain rfl := Option.some.inj (gTab.symm.trans hg')
  obtain rfl := Option.some.inj (gTabType.symm.trans ht')
  obtain ⟨xs, m, rfl, hx, hl, hxl, hrow⟩ := DataW.trod_array Tryd.underlying48 hd
  rw [cells47] at hrow
  rw [cells48] at hl
  have hx1 : quadRows.map (Lib.tabData .i64) = xs.map (·.1) := by
    have e := congrArg Prod.fst hx
    rw [laid_eq] at e
    injection e
  have row : ∀ (i : Nat) (zs : List Int), i < 4 → quadRows[i]? = some zs → (cs.toList.drop (i * 4)).take 4 = zs.map (Value.int .i64) := by
    intro i zs hi hz
    have hr := hrow i hi
    have hxi : xs[i]? = some (xs[i]'(by omega)) := List.getElem?_eq_getElem (by omega)
    rw [hxi] at hr
    have e1 : (xs[i]'(by omega)).1 = Lib.tabData .i64 zs := by
      have e := congrArg (·[i]?) hx1
      simp only [List.getElem?_map, hz, hxi, Option.map_some, Option.some.injEq] at e
      exact e.symm
    have e2 : xs[i]'(by omega) = (Lib.tabData .i64 zs, (xs[i]'(by omega)).2) := by rw [← e1]
    rw [e2] at hr
    exact Lib.cells_of_tab Tryd.underlying47 Tryd.underlying3 cells3 cells47 hr
  have all : cs.toList = quadCells.toList := by
    rw [four_parts (l := cs.toList) hl, row 0 [1, 0, 0, 1] (by omega) rfl, row 1 [0, 1, -1, 0] (by omega) rfl, row 2 [-1, 0, 0, -1] (by omega) rfl, row 3 [0, -1, 1, 0] (by omega) rfl]
    rfl
  have hcs : cs = quadCells := by
    have := congrArg List.toArray all
    simpa using this
  subst hcs
  unfold World.var? at hvar
  rw [gTab] at hvar
  simp only [Option.bind_some] at hvar
  split at hvar
  · rename_i c t fr hh
    injection hvar with hvar
    subst hvar
    exact ⟨_, _, hh⟩
  · cases hvar

/-- A world for the witness: the settled one, the table's block holding what its initialiser lays. -/
noncomputable def laidWorld (os : Os) : World :=
  { World.holding Tryd.prog os ⟨#[], #[], []⟩ with heap := (World.holding Tryd.prog os ⟨#[], #[], []⟩).heap.modify 0 fun
      | .cells _ t frozen => .cells quadCells t frozen
      | o => o }
end Go.Proofs.YthaodhipebadcaaDoor
