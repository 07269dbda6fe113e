/- A map from cells to bools that the call makes: which cells it holds. -/
import Derived.Test.YtpoceidbiamgaaaWc
import Derived.DeepKeys4
import Derived.Maps.OwnOps
import Derived.Maps.Views
set_option linter.unusedVariables false
set_option linter.unusedSimpArgs false
namespace Go.Proofs.Ytpoceidbiamgaaa
open Go.RowKit Go.Maps

theorem laidOut : laidOutB Try.prog = true := by kernel_rfl
theorem row26 : (26 : TypeId) < Try.prog.types.size := of_decide_eq_true (by kernel_rfl)
theorem wide26 : (match Try.prog.underlying 26 with | some (.array _ _) | some (.struct _) => true | _ => false) = true := by rw [Try.underlying26]
theorem law26 : Keyed Try.prog 26 := Keyed.of_law (deep_law_laid laidOut (m := 2) (by omega) row26 (by kernel_rfl) wide26)
theorem keyType26 : Try.prog.keyType 26 = true := by kernel_rfl
theorem tiled26 : Try.prog.tiled 2 26 = true := by kernel_rfl
theorem zero4 (w : World) : (zeroValue 4).run Try.prog w = .ok (.bool false) w := by kernel_rfl
theorem cells26 : Try.prog.cellsOf 26 = 2 := by kernel_rfl
theorem cells3 : Try.prog.cellsOf 3 = 1 := by kernel_rfl
theorem typesSize : ∃ k, Try.prog.types.size + 1 = k + 2 := ⟨Try.prog.types.size - 1, by have h : (26 : Nat) < Try.prog.types.size := row26; omega⟩
theorem wf_i64 {a : Int} (h0 : -9223372036854775808 ≤ a) (h1 : a ≤ 9223372036854775807) : (Lit.int .i64 a).wf = true := WalkArith.wf_i64 (by omega)
theorem key_some {x y : Int} (hx0 : 0 ≤ x) (hx1 : x ≤ 4096) (hy0 : 0 ≤ y) (hy1 : y ≤ 4096) : ∃ kl, keyOf Try.prog 26 (.agg #[.int .i64 x, .int .i64 y]) = some kl := by
  have w1 := wf_i64 (a := x) (by omega) (by omega)
  have w2 := wf_i64 (a := y) (by omega) (by omega)
  obtain ⟨k, hk⟩ := typesSize
  unfold keyOf
  rw [Try.underlying26]
  simp only [hk]
  rw [keyType26]
  simp [Value.formed, Value.cells, Try.underlying26, cells26, Program.keyLits, Try.underlying3, cells3, w1, w2]
theorem key_inj {a b c d : Int} {kl : Lit} (h1 : keyOf Try.prog 26 (.agg #[.int .i64 a, .int .i64 b]) = some kl) (h2 : keyOf Try.prog 26 (.agg #[.int .i64 c, .int .i64 d]) = some kl) : (a, b) = (c, d) := by
  have := keyOf_inj_deep (P := Try.prog) tiled26 wide26 h1 h2
  simp at this
  rw [this.1, this.2]

theorem plainElem_bool_inv {v : Value} {z : DataW Unit × List MemPlace} (h : plainElem Try.prog 4 v = some z) : ∃ b, v = .bool b ∧ z = (.lit (.bool b), []) := by
  unfold plainElem at h
  rw [Try.underlying4] at h
  cases v <;> simp at h
  exact ⟨_, rfl, h.symm⟩
/-- Block B is a map from cells to bools; it answers true at the cells 'seen'. -/
def MapI (wr : World) (B k : Nat) (seen : List (Int × Int)) : Prop :=
  ∃ D : DataW Unit, wr.ownsMap Try.prog 26 (plainElem Try.prog 4) B k D ∧ IsMap D ∧ ∀ x y kl, keyOf Try.prog 26 (.agg #[.int .i64 x, .int .i64 y]) = some kl → D.atKey kl (.lit (.bool false)) = .lit (.bool (seen.contains (x, y)))
theorem MapI.made (w : World) : MapI (w.alloc (.map #[] 0)) w.heap.size 0 [] :=
  ⟨_, World.ownsMap_made w Try.prog 26 _, ⟨[], rfl⟩, fun x y kl _ => by simp [DataW.atKey]⟩
theorem MapI.below {w w' : World} {B k B' : Nat} {seen : List (Int × Int)} (h : MapI w B k seen) (hb : Below B' w w') (hB : B < B') : MapI w' B k seen := by
  obtain ⟨D, ho, hm, hk⟩ := h
  obtain ⟨es, clock, hh, h1, h2, h3⟩ := ho
  exact ⟨D, ⟨es, clock, (hb.block B hB).trans hh, h1, h2, h3⟩, hm, hk⟩
theorem MapI.lt {w : World} {B k : Nat} {seen : List (Int × Int)} (h : MapI w B k seen) : B < w.heap.size := by
  obtain ⟨D, ho, _⟩ := h
  exact ho.lt
theorem MapI.lookup {w : World} {B k : Nat} {seen : List (Int × Int)} (h : MapI w B k seen) {x y : Int} (hx0 : 0 ≤ x) (hx1 : x ≤ 4096) (hy0 : 0 ≤ y) (hy1 : y ≤ 4096) :
    (Instr.lookup 69 (.map (some B)) (.agg #[.int .i64 x, .int .i64 y]) false).run Try.prog w = .ok (.bool (seen.contains (x, y))) w := by
  obtain ⟨D, ho, _, hk⟩ := h
  obtain ⟨kl, hkl⟩ := key_some hx0 hx1 hy0 hy1
  obtain ⟨v, ps, hrun, hv⟩ := ho.lookup law26 Try.underlying69 (zero4 w) (plainElem_bool (H := Unit) Try.underlying4 false) hkl
  obtain ⟨b, rfl, hz⟩ := plainElem_bool_inv hv
  rw [hk x y kl hkl] at hz
  have q := congrArg Prod.fst hz
  simp only at q
  injection q with q
  injection q with q
  rw [hrun, ← q]
theorem MapI.update {w : World} {B k : Nat} {seen : List (Int × Int)} (h : MapI w B k seen) (hk : k ≤ 100000) {x y : Int} (hx0 : 0 ≤ x) (hx1 : x ≤ 4096) (hy0 : 0 ≤ y) (hy1 : y ≤ 4096) :
    ∃ w', (Instr.mapUpdate 69 (.map (some B)) (.agg #[.int .i64 x, .int .i64 y]) (.bool true)).run Try.prog w = .ok () w' ∧ MapI w' B (k + 1) ((x, y) :: seen) ∧ w.grownBy w' (some B) := by
  obtain ⟨D, ho, hm, hkk⟩ := h
  obtain ⟨kl, hkl⟩ := key_some hx0 hx1 hy0 hy1
  obtain ⟨w', hrun, ho', hg⟩ := ho.update law26 Try.underlying69 (by unfold maxLen; omega) hkl (plainElem_bool (H := Unit) Try.underlying4 true)
  refine ⟨w', hrun, ⟨_, ho', ?_, fun x' y' kl' hkl' => ?_⟩, hg⟩
  · obtain ⟨es, rfl⟩ := hm
    exact ⟨_, rfl⟩
  · by_cases e : kl' = kl
    · subst e
      have := key_inj hkl' hkl
      rw [atKey_put_same hm (law26.key hkl)]
      simp [this]
    · rw [atKey_put_other e, hkk x' y' kl' hkl']
      have hne : (x', y') ≠ (x, y) := fun q => by
        injection q with q1 q2
        subst q1 q2
        rw [hkl] at hkl'
        injection hkl' with q
        exact e q.symm
      simp only [List.contains_cons]
      rw [show ((x', y') == (x, y)) = false by simpa using hne, Bool.false_or]
end Go.Proofs.Ytpoceidbiamgaaa
