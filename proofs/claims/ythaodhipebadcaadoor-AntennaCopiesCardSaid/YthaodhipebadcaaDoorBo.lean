/- How an antenna that comes in is opened. -/
import Derived.Test.YthaodhipebadcaaDoorB
import Derived.Test.YthaodhipebadcaaDoorPost
import Derived.Lib.SmallJoins
namespace Go.Proofs.YthaodhipebadcaaDoor
open Go.ChangeShapes Go.WideShapes Go.ChangeAt Go.RowKit Go.Joins
theorem cells31 : Tryd.prog.cellsOf 31 = 2 := by kernel_rfl
/-- An antenna that came in: its height, and a pattern that reads as ints. -/
theorem open_antenna {H : Type} {enc : TypeId × Value → H} {W : World} {b0 : Nat} {v : Value} {d : DataW H} {p : List MemPlace}
    (hv : Value.okWide Tryd.prog W .any b0 31 v) (h : DataW.Trod enc Tryd.prog W 0 (fun _ => true) true 31 v d p) :
    ∃ (a : Int) (A : Option Addr) (n c : Nat) (xs : List Int), v = .agg #[.int .i64 a, .slice A n c] ∧ Ints W W.heap.size A n xs ∧ n ≤ 9223372036854775807 := by
  obtain ⟨c0, c1, y0, y1, m, rfl, rfl, rfl, hy0, hy1⟩ := open_agg2 Tryd.underlying31 (by kernel_rfl) cells31 hv h
  obtain ⟨a, e0, _, wa⟩ := DataW.trod_int Tryd.underlying3 hy0
  simp only [List.cons.injEq, and_true] at e0
  subst e0
  rcases open_ints Tryd.underlying29 Tryd.underlying3 cells3 hy1 with ⟨hcs, hx⟩ | ⟨ad, len, cap, zs, hcs, _, hl, hm, hz, hx, hcell, hwz⟩
  · simp only [List.cons.injEq, and_true] at hcs
    subst hcs
    exact ⟨a, none, 0, 0, [], rfl, Ints.nil, by omega⟩
  · simp only [List.cons.injEq, and_true] at hcs
    subst hcs
    unfold maxLen at hm
    simp only [if_true] at hz
    refine ⟨a, some ad, len, cap, zs.take len, rfl, ⟨by simp; omega, fun hn => ?_⟩, by omega⟩
    obtain ⟨b, off, rfl, hc⟩ := ints_at hcell (by omega)
    refine ⟨b, off, rfl, ?_, fun j hj => ?_⟩
    · exact World.block_lt_of_cell? W _ (hc 0 (by omega))
    · rw [hc j (by omega)]
      simp [hj]
end Go.Proofs.YthaodhipebadcaaDoor
