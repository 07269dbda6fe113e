/- append onto an empty slice, wherever it lies. -/
import Derived.Test.YtpoceidbiamgaaaWf
import Derived.Deep.DeepCutAuto
set_option linter.unusedVariables false
set_option linter.unusedSimpArgs false
namespace Go.Proofs.Ytpoceidbiamgaaa
open Go.RowKit

/-- A row of ints; where it has elements it is the call's own. -/
def Row (w : World) (base : Nat) (A : Option Addr) (n c : Nat) (xs : List Int) : Prop := xs.length = n ∧ (0 < n → Own w base 3 A n c xs)
section
variable {w w' : World} {base base' B n c : Nat} {A : Option Addr} {xs : List Int}
theorem Row.ints (h : Row w base A n c xs) : Ints w w.heap.size A n xs := ⟨h.1, fun hn => (h.2 hn).ints.2 hn⟩
theorem Row.kept (h : Row w base A n c xs) (hk : ∀ g, A = some ⟨g, 0, none⟩ → base ≤ g → g < w.heap.size → w'.heap[g]? = w.heap[g]?) : Row w' base A n c xs :=
  ⟨h.1, fun hn => (h.2 hn).kept fun g e hl => hk g e ((h.2 hn).lt g e).1 hl⟩
theorem Row.next (h : Row w base A n c xs) (hb : Below w.heap.size w w') : Row w' base A n c xs := ⟨h.1, fun hn => (h.2 hn).next hb⟩
theorem Row.less (h : Row w base A n c xs) (hb : base' ≤ base) : Row w base' A n c xs := ⟨h.1, fun hn => (h.2 hn).less hb⟩
theorem Row.alloc (h : Row w base A n c xs) (o : Obj) : Row (w.alloc o) base A n c xs := ⟨h.1, fun hn => (h.2 hn).alloc o⟩
theorem Row.grown (h : Row w base A n c xs) (hg : w.grownBy w' none) : Row w' base A n c xs := h.kept fun g _ _ hl => hg.block g hl (by simp)
theorem Row.far4 (h : Row w base A n c xs) {q : Nat} {a b c' d : Value} (hq : 0 < n → ∀ g, A = some ⟨g, 0, none⟩ → g ≠ q) : Row ((((w.setCell ⟨q, 0, none⟩ a).setCell ⟨q, 1, none⟩ b).setCell ⟨q, 2, none⟩ c').setCell ⟨q, 3, none⟩ d) base A n c xs :=
  ⟨h.1, fun hn => (h.2 hn).far4 (hq hn)⟩
end

section
variable {P : Program} (w : World)
theorem run_append_none_same (t ty e : TypeId) (i : TypeInfo) (ht : P.underlying t = some (.slice e)) (hi : P.info? e = some i) (hsize : i.size = 1) (hby : i.bytes = 8) (a0 : Addr) (ad : Addr) (m c2 : Nat) (hm : 0 < m) (h47 : m * 8 ≤ 140737488355328) :
    (Builtin.append_ #[t, t] ty #[.slice (some a0) 0 0, .slice (some ad) m c2]).run P w = (Builtin.append_ #[t, t] ty #[.slice none 0 0, .slice (some ad) m c2]).run P w := by
  have h1 : ¬ m ≤ 0 := by omega
  have h2 : ¬ (281474976710656 < m * 8) := by omega
  have h3 : m ≠ 0 := by omega
  simp [Builtin.append_, run_underlying ht, sizeOf, typeInfo, hi, Builtin.lenOf, Builtin.firstCells, h1, h2, h3, hsize, hby, Builtin.nextslicecap, loadCells, hm, loadCellsFrom]

theorem run_append_empty (t ty e : TypeId) (i : TypeInfo) (ht : P.underlying t = some (.slice e)) (hi : P.info? e = some i) (hz : i.zero = some (.int .i64 0)) (hsize : i.size = 1) (hby : i.bytes = 8) (he : e = 3)
    (A0 : Option Addr) (B : Nat) (A2 : Option Addr) (m c2 : Nat) (ys : List Int) (hr : Ints w B A2 m ys) (h47 : m * 8 ≤ 140737488355328) :
    ∃ A' c' w', (Builtin.append_ #[t, t] ty #[.slice A0 0 0, .slice A2 m c2]).run P w = .ok (.slice A' m c') w' ∧ Row w' w.heap.size A' m c' ys ∧ w.grownBy w' none ∧ (0 < m → A' = some ⟨w.heap.size, 0, none⟩) := by
  subst he
  rcases Nat.eq_zero_or_pos m with h0 | h0
  · subst h0
    have key : (Builtin.append_ #[t, t] ty #[.slice A0 0 0, .slice A2 0 c2]).run P w = .ok (.slice A0 0 0) w := by
      cases A0 <;> cases A2 <;> simp [Builtin.append_, run_underlying ht, sizeOf, typeInfo, hi, Builtin.lenOf, Builtin.firstCells, hsize, storeCells, loadCells, loadCellsFrom]
    exact ⟨A0, 0, w, key, ⟨hr.1, fun h => absurd h (by omega)⟩, World.grownBy.refl w _, fun h => absurd h (by omega)⟩
  · obtain ⟨A', c', w', hrun, ho, hg, hat⟩ := run_append_ints (P := P) w w.heap.size t ty 3 i ht hi hz hsize hby none 0 0 [] Own.none_ B A2 m c2 ys hr (by omega) (Nat.le_refl _)
    rw [Nat.zero_add, List.nil_append] at ho
    rw [Nat.zero_add] at hrun
    have hA : A' = some ⟨w.heap.size, 0, none⟩ := by
      rcases ho.form with ⟨_, h, _⟩ | ⟨g, _, h, _⟩
      · omega
      · rcases hat g h with h' | h'
        · cases h'
        · rw [h, h']
    refine ⟨A', c', w', ?_, ⟨ho.len, fun _ => ho⟩, hg, fun _ => hA⟩
    rcases A0 with _ | a0
    · exact hrun
    · rcases A2 with _ | ad
      · obtain ⟨b, off, h, _⟩ := hr.2 h0
        cases h
      · rw [run_append_none_same w t ty 3 i ht hi hsize hby a0 ad m c2 h0 h47]; exact hrun

theorem step_append_empty {ops : Array Oper} {o : Oper} {a : Act} {K : Act → World → Prop} {Q : Exit → Act → World → Prop} {E : Prop} (hgd : o.guard = none) (s x : Operand) (t : TypeId) (ho : o.op = .call { callee := .builtin .append, args := #[s, x], argTypes := #[t, t] })
    (i : TypeInfo) (ht : P.underlying t = some (.slice 3)) (hi : P.info? 3 = some i) (hz : i.zero = some (.int .i64 0)) (hsize : i.size = 1) (hby : i.bytes = 8)
    (A0 : Option Addr) (hs : a.eval s = .slice A0 0 0) (B : Nat) (A2 : Option Addr) (m c2 : Nat) (ys : List Int) (hx : a.eval x = .slice A2 m c2) (hr : Ints w B A2 m ys) (h47 : m * 8 ≤ 140737488355328)
    (h : ∀ A' c' w', Row w' w.heap.size A' m c' ys → w.grownBy w' none → (0 < m → A' = some ⟨w.heap.size, 0, none⟩) → K (a.put o.dst (.slice A' m c')) w') :
    if Region.wanted o (yielded ops a.tmps) = true then Oper.wp P o a w K Q else E := by
  have hw : Region.wanted o (yielded ops a.tmps) = true := by simp [Region.wanted, hgd]
  rw [if_pos hw]
  obtain ⟨A', c', w', hrun, h2, h3, h4⟩ := run_append_empty (P := P) w t o.type 3 i ht hi hz hsize hby rfl A0 B A2 m c2 ys hr h47
  unfold Oper.wp execOp
  simp only [ho, resolve, invoke, builtin, Sem.run_bind, Sem.run_pure, Result.andThen_ok, List.map_toArray, List.map_cons, List.map_nil, hs, hx, hrun]
  exact h A' c' w' h2 h3 h4
end
end Go.Proofs.Ytpoceidbiamgaaa
