/- Words for memory: a slice of ints that reads as a list; plain lemmas on worlds. No program in sight. -/
import Derived.WalkKit
import Derived.WalkSpells
import Derived.WalkLawsBesides
import Derived.Lib.Hide
import Derived.Maps.AppendAt
import Derived.Deep.AppendLies
import Derived.Deep.Draws
import Derived.Deep.QuietTactic
import Derived.BigQuiet
import Derived.RegionTactic
set_option linter.unusedVariables false
set_option linter.unusedSimpArgs false
namespace Go.Proofs.Ytpoceidbiamgaaa
open Go.RowKit

theorem ret_int {k : IntKind} {a b : Int} (h : a = b) : Ending.returned (.int k a) = .returned (.int k b) := by rw [h]
theorem ret_bool {a b : Bool} (h : a = b) : Ending.returned (.bool a) = .returned (.bool b) := by rw [h]

/-- The slice value '.slice A n c' reads as the ints xs, and lies below block B. -/
def Ints (w : World) (B : Nat) (A : Option Addr) (n : Nat) (xs : List Int) : Prop :=
  xs.length = n ∧ (0 < n → ∃ b off, A = some ⟨b, off, none⟩ ∧ b < B ∧ ∀ j, j < n → w.cell? ⟨b, off + j, none⟩ = some (.int .i64 (xs[j]?.getD 0)))

section
variable {w w' : World} {B B' n : Nat} {A : Option Addr} {xs : List Int}
theorem Ints.keep (h : Ints w B A n xs) (hk : ∀ p : Addr, p.block < B → w'.cell? p = w.cell? p) : Ints w' B A n xs :=
  ⟨h.1, fun hn => by
    obtain ⟨b, off, e, hb, hc⟩ := h.2 hn
    exact ⟨b, off, e, hb, fun j hj => (hk _ hb).trans (hc j hj)⟩⟩
theorem Ints.more (h : Ints w B A n xs) (hB : B ≤ B') : Ints w B' A n xs :=
  ⟨h.1, fun hn => by
    obtain ⟨b, off, e, hb, hc⟩ := h.2 hn
    exact ⟨b, off, e, by omega, hc⟩⟩
theorem Ints.below (h : Ints w B A n xs) (hb : Below B w w') : Ints w' B A n xs := h.keep fun _ hp => hb.cell hp
theorem Ints.next (h : Ints w w.heap.size A n xs) (hb : Below w.heap.size w w') : Ints w' w'.heap.size A n xs := (h.below hb).more hb.size
theorem Ints.nil : Ints w B A 0 [] := ⟨rfl, fun h => absurd h (by omega)⟩
theorem Ints.of_own {base : Nat} {e : TypeId} {c : Nat} (h : w.ownsRow base e 1 (.slice A n c) n (xs.map (Value.int .i64))) : Ints w w.heap.size A n xs := by
  have hl : xs.length = n := by simpa using h.1
  refine ⟨hl, fun hn => ?_⟩
  obtain ⟨g, cap, hv, _, hlt⟩ := h.form hn
  have hA : A = some ⟨g, 0, none⟩ := by injection hv
  subst hA
  refine ⟨g, 0, rfl, hlt, fun j hj => ?_⟩
  have hc := h.cells (g := g) rfl j (.int .i64 (xs[j]'(by omega))) (by simp [hl, hj])
  rw [show (Addr.add ⟨g, 0, none⟩ j) = (⟨g, 0 + j, none⟩ : Addr) by unfold Addr.add; split <;> simp_all] at hc
  rw [hc]
  simp [hl, hj]
end

theorem alloc_size (w : World) (o : Obj) : (w.alloc o).heap.size = w.heap.size + 1 := by simp
theorem below_drewN {B : Nat} {a w : World} (h : Below B a w) (n : Nat) : Below B a (w.drewN n) := ⟨h.os, h.tape, h.output, h.size, h.block⟩
theorem below_undrew {B : Nat} {w w' : World} (h : Below B w.drew w') : Below B w w' := ⟨h.os, h.tape, h.output, h.size, h.block⟩
theorem bcell {B : Nat} {W w1 : World} (hb : Below B W w1) : (∀ b o, b < B → w1.cell? ⟨b, o, none⟩ = W.cell? ⟨b, o, none⟩) ∧ (∀ b o, b < B → w1.frozen? ⟨b, o, none⟩ = W.frozen? ⟨b, o, none⟩) :=
  ⟨fun b o h => hb.cell (p := ⟨b, o, none⟩) h, fun b o h => hb.frozen (p := ⟨b, o, none⟩) h⟩
/-- The slice value '.slice A n c' reads as the ints xs and is a row of the call's own: its block is base or a later one. -/
def Own (w : World) (base : Nat) (e : TypeId) (A : Option Addr) (n c : Nat) (xs : List Int) : Prop := w.ownsRow base e 1 (.slice A n c) n (xs.map (Value.int .i64))
section
variable {w w' : World} {base base' n c : Nat} {e : TypeId} {A : Option Addr} {xs : List Int}
theorem Own.len (h : Own w base e A n c xs) : xs.length = n := by simpa using h.1
theorem Own.ints (h : Own w base e A n c xs) : Ints w w.heap.size A n xs := Ints.of_own h
theorem Own.none_ : Own w base e none 0 0 [] := World.ownsRow_nil w base e 1
theorem Own.form (h : Own w base e A n c xs) : (A = none ∧ n = 0 ∧ c = 0) ∨ ∃ g cur, A = some ⟨g, 0, none⟩ ∧ base ≤ g ∧ g < w.heap.size ∧ w.heap[g]? = some (.cells cur e (0, 0)) ∧ n ≤ c ∧ c ≤ maxLen ∧ cur.size = c ∧ cur.toList.take n = xs.map (Value.int .i64) := by
  rcases h.2 with ⟨hv, hn⟩ | ⟨g, cap, cur, hv, hb, hh, h1, h2, h3, h4⟩
  · injection hv with e1 e2 e3
    exact .inl ⟨e1, hn, e3⟩
  · injection hv with e1 e2 e3
    subst e3
    refine .inr ⟨g, cur, e1, hb, ?_, hh, h1, h2, by simpa using h3, by simpa using h4⟩
    rcases Nat.lt_or_ge g w.heap.size with hlt | hge
    · exact hlt
    · rw [Array.getElem?_eq_none hge] at hh; cases hh
theorem Own.kept (h : Own w base e A n c xs) (hk : ∀ g, A = some ⟨g, 0, none⟩ → g < w.heap.size → w'.heap[g]? = w.heap[g]?) : Own w' base e A n c xs := by
  refine ⟨h.1, ?_⟩
  rcases h.form with ⟨rfl, rfl, rfl⟩ | ⟨g, cur, rfl, hb, hlt, hh, h1, h2, h3, h4⟩
  · exact .inl ⟨rfl, rfl⟩
  · exact .inr ⟨g, c, cur, rfl, hb, (hk g rfl hlt).trans hh, h1, h2, by simpa using h3, by simpa using h4⟩
theorem Own.below {B : Nat} (h : Own w base e A n c xs) (hb : Below B w w') (hB : w.heap.size ≤ B) : Own w' base e A n c xs := h.kept fun g _ hg => hb.block g (by omega)
theorem Own.next (h : Own w base e A n c xs) (hb : Below w.heap.size w w') : Own w' base e A n c xs := h.below hb (Nat.le_refl _)
theorem Own.less (h : Own w base e A n c xs) (hb : base' ≤ base) : Own w base' e A n c xs := by
  refine ⟨h.1, ?_⟩
  rcases h.form with ⟨rfl, rfl, rfl⟩ | ⟨g, cur, rfl, hbb, hlt, hh, h1, h2, h3, h4⟩
  · exact .inl ⟨rfl, rfl⟩
  · exact .inr ⟨g, c, cur, rfl, by omega, hh, h1, h2, by simpa using h3, by simpa using h4⟩
theorem Own.alloc (h : Own w base e A n c xs) (o : Obj) : Own (w.alloc o) base e A n c xs := World.ownsRow.alloc h o
theorem Own.drewN (h : Own w base e A n c xs) (k : Nat) : Own (w.drewN k) base e A n c xs := h
/-- A store elsewhere. -/
theorem Own.far (h : Own w base e A n c xs) {p : Addr} (hp : ∀ g, A = some ⟨g, 0, none⟩ → g ≠ p.block) (u : Value) : Own (w.setCell p u) base e A n c xs :=
  h.kept fun g hg _ => Below.heap_setCell w p u g (hp g hg)
/-- A store into the row. -/
theorem Own.stored {g k : Nat} (h : Own w base e (some ⟨g, 0, none⟩) n c xs) (x : Int) : Own (w.setCell ⟨g, k, none⟩ (.int .i64 x)) base e (some ⟨g, 0, none⟩) n c (xs.set k x) := by
  refine ⟨by simpa using h.1, ?_⟩
  rcases h.form with ⟨h0, _⟩ | ⟨g', cur, hg', hb, hlt, hh, h1, h2, h3, h4⟩
  · cases h0
  · injection hg' with hg'
    injection hg' with hg'
    subst hg'
    refine .inr ⟨g, c, cur.setIfInBounds k (.int .i64 x), rfl, hb, ?_, h1, h2, by simpa using h3, ?_⟩
    · simp [World.setCell, Array.getElem?_modify, hh]
    · simp only [Nat.mul_one, Array.toList_setIfInBounds, List.take_set, h4, List.map_set]
theorem Own.cell {g k : Nat} (h : Own w base e (some ⟨g, 0, none⟩) n c xs) (hk : k < n) : w.cell? ⟨g, k, none⟩ = some (.int .i64 (xs[k]?.getD 0)) := by
  have := World.ownsRow.cellAt h k (by omega)
  rw [this]
  have hl := h.len
  simp [hl, hk]
theorem Own.frozen {g : Nat} (h : Own w base e (some ⟨g, 0, none⟩) n c xs) (k : Nat) : w.frozen? ⟨g, k, none⟩ = false := World.ownsRow.frozenAt h k
end

/-- The row A' behind an append onto the row A: the same block, or block number s. -/
def AtNew (A A' : Option Addr) (s : Nat) : Prop := ∀ g, A' = some ⟨g, 0, none⟩ → A = some ⟨g, 0, none⟩ ∨ g = s
theorem atNew_of {w w' : World} {base : Nat} {e : TypeId} {A A' : Option Addr} {n n' c c' s : Nat} {xs xs' : List Value} (_h' : w'.ownsRow base e 1 (.slice A' n' c') n' xs') (h : w.ownsRow base e 1 (.slice A n c) n xs)
    (hat : (Value.slice A' n' c').ownBlock = (Value.slice A n c).ownBlock ∨ (Value.slice A' n' c').ownBlock = some s) : AtNew A A' s := by
  rintro g rfl
  rcases hat with hat | hat
  · left
    rcases h.2 with ⟨hv, _⟩ | ⟨g', cap, cur, hv, _⟩
    · injection hv with hv; subst hv; simp [Value.ownBlock] at hat
    · injection hv with hv; subst hv; simp [Value.ownBlock] at hat; rw [hat]
  · right; simpa [Value.ownBlock] using hat
section
variable {P : Program} (w : World)
theorem run_append_ints (base : Nat) (t ty e : TypeId) (i : TypeInfo) (ht : P.underlying t = some (.slice e)) (hi : P.info? e = some i) (hz : i.zero = some (.int .i64 0)) (hsize : i.size = 1) (hby : i.bytes = 8)
    (A : Option Addr) (n c : Nat) (xs : List Int) (hown : Own w base e A n c xs) (B : Nat) (A2 : Option Addr) (m c2 : Nat) (ys : List Int) (hr : Ints w B A2 m ys) (h47 : (n + m) * 8 ≤ 140737488355328) (hbase : base ≤ w.heap.size) :
    ∃ A' c' w', (Builtin.append_ #[t, t] ty #[.slice A n c, .slice A2 m c2]).run P w = .ok (.slice A' (n + m) c') w' ∧ Own w' base e A' (n + m) c' (xs ++ ys) ∧ w.grownBy w' (Value.slice A n c).ownBlock ∧ AtNew A A' w.heap.size := by
  have h63 : n + m ≤ maxLen := by simp only [maxLen]; omega
  rcases A2 with _ | ad
  · have hm : m = 0 := by
      rcases Nat.eq_zero_or_pos m with h0 | h0
      · exact h0
      · obtain ⟨b, off, h, _⟩ := hr.2 h0
        cases h
    subst hm
    have hy : ys = [] := List.eq_nil_of_length_eq_zero hr.1
    subst hy
    have key : (Builtin.append_ #[t, t] ty #[.slice A n c, .slice none 0 c2]).run P w = .ok (.slice A n c) w := by
      rcases hown.form with ⟨rfl, rfl, rfl⟩ | ⟨g, cur, rfl, _, _, _, hnc, _⟩
      · simp [Builtin.append_, run_underlying ht, sizeOf, typeInfo, hi, Builtin.lenOf, Builtin.firstCells]
      · simp [Builtin.append_, run_underlying ht, sizeOf, typeInfo, hi, Builtin.lenOf, Builtin.firstCells, hnc, storeCells]
    exact ⟨A, c, w, key, by simpa using hown, World.grownBy.refl w _, fun g h => .inl h⟩
  · have hl := hr.1
    obtain ⟨v', w', hrun, h2, h3, _, h5⟩ := run_append_own_at (P := P) w base t ty e i (.int .i64 0) 1 8 ht hi hz hsize hby rfl (by decide) (.slice A n c) n (xs.map (Value.int .i64)) hown ad m c2 (ys.map (Value.int .i64)) (by simp [hl])
      (by
        intro j u hu
        have hj : j < m := by
          have := (List.getElem?_eq_some_iff.1 hu).1
          simp at this; omega
        obtain ⟨b, off, he, hb, hc⟩ := hr.2 (by omega)
        injection he with he
        subst he
        have := hc j hj
        rw [show (Addr.add ⟨b, off, none⟩ j) = (⟨b, off + j, none⟩ : Addr) by unfold Addr.add; split <;> simp_all, this]
        simp [hl, hj] at hu
        simp [hl, hj, hu])
      (by intro u hu; simp at hu; obtain ⟨x, _, rfl⟩ := hu; rfl) h63 h47 hbase
    have hf : ∃ A' c', v' = .slice A' (n + m) c' := by
      rcases h2.2 with ⟨hv, hn⟩ | ⟨g, cap, cur, hv, _⟩
      · exact ⟨none, 0, by rw [hv, hn]⟩
      · exact ⟨_, _, hv⟩
    obtain ⟨A', c', rfl⟩ := hf
    exact ⟨A', c', w', hrun, by unfold Own; rw [List.map_append]; exact h2, h3, atNew_of h2 hown h5⟩

theorem wp_append_ints {o : Oper} {a : Act} {K : Act → World → Prop} {Q : Exit → Act → World → Prop} (s x : Operand) (t : TypeId) (ho : o.op = .call { callee := .builtin .append, args := #[s, x], argTypes := #[t, t] })
    (base : Nat) (e : TypeId) (i : TypeInfo) (ht : P.underlying t = some (.slice e)) (hi : P.info? e = some i) (hz : i.zero = some (.int .i64 0)) (hsize : i.size = 1) (hby : i.bytes = 8)
    (A : Option Addr) (n c : Nat) (xs : List Int) (hs : a.eval s = .slice A n c) (hown : Own w base e A n c xs) (B : Nat) (A2 : Option Addr) (m c2 : Nat) (ys : List Int) (hx : a.eval x = .slice A2 m c2) (hr : Ints w B A2 m ys)
    (h47 : (n + m) * 8 ≤ 140737488355328) (hbase : base ≤ w.heap.size)
    (h : ∀ A' c' w', Own w' base e A' (n + m) c' (xs ++ ys) → w.grownBy w' (Value.slice A n c).ownBlock → AtNew A A' w.heap.size → K (a.put o.dst (.slice A' (n + m) c')) w') : o.wp P a w K Q := by
  obtain ⟨A', c', w', hrun, h2, h3, h4⟩ := run_append_ints (P := P) w base t o.type e i ht hi hz hsize hby A n c xs hown B A2 m c2 ys hr h47 hbase
  unfold Oper.wp execOp
  simp only [ho, resolve, invoke, builtin, Sem.run_bind, Sem.run_pure, Result.andThen_ok, List.map_toArray, List.map_cons, List.map_nil, hs, hx, hrun]
  exact h A' c' w' h2 h3 h4

theorem wpList_append_ints {ops : Array Oper} {rest : List Oper} {o : Oper} {a : Act} {Q : Exit → Act → World → Prop} (hgd : o.guard = none) (s x : Operand) (t : TypeId) (ho : o.op = .call { callee := .builtin .append, args := #[s, x], argTypes := #[t, t] })
    (base : Nat) (e : TypeId) (i : TypeInfo) (ht : P.underlying t = some (.slice e)) (hi : P.info? e = some i) (hz : i.zero = some (.int .i64 0)) (hsize : i.size = 1) (hby : i.bytes = 8)
    (A : Option Addr) (n c : Nat) (xs : List Int) (hs : a.eval s = .slice A n c) (hown : Own w base e A n c xs) (B : Nat) (A2 : Option Addr) (m c2 : Nat) (ys : List Int) (hx : a.eval x = .slice A2 m c2) (hr : Ints w B A2 m ys)
    (h47 : (n + m) * 8 ≤ 140737488355328) (hbase : base ≤ w.heap.size)
    (h : ∀ A' c' w', Own w' base e A' (n + m) c' (xs ++ ys) → w.grownBy w' (Value.slice A n c).ownBlock → AtNew A A' w.heap.size → wpList P ops Q rest (a.put o.dst (.slice A' (n + m) c')) w') : wpList P ops Q (o :: rest) a w :=
  wpList_plain hgd fun _ hK => wp_append_ints w s x t ho base e i ht hi hz hsize hby A n c xs hs hown B A2 m c2 ys hx hr h47 hbase fun A' c' w' h2 h3 h4 => hK _ _ (h A' c' w' h2 h3 h4)

theorem step_append_ints {ops : Array Oper} {o : Oper} {a : Act} {K : Act → World → Prop} {Q : Exit → Act → World → Prop} {E : Prop} (hgd : o.guard = none) (s x : Operand) (t : TypeId) (ho : o.op = .call { callee := .builtin .append, args := #[s, x], argTypes := #[t, t] })
    (base : Nat) (e : TypeId) (i : TypeInfo) (ht : P.underlying t = some (.slice e)) (hi : P.info? e = some i) (hz : i.zero = some (.int .i64 0)) (hsize : i.size = 1) (hby : i.bytes = 8)
    (A : Option Addr) (n c : Nat) (xs : List Int) (hs : a.eval s = .slice A n c) (hown : Own w base e A n c xs) (B : Nat) (A2 : Option Addr) (m c2 : Nat) (ys : List Int) (hx : a.eval x = .slice A2 m c2) (hr : Ints w B A2 m ys)
    (h47 : (n + m) * 8 ≤ 140737488355328) (hbase : base ≤ w.heap.size)
    (h : ∀ A' c' w', Own w' base e A' (n + m) c' (xs ++ ys) → w.grownBy w' (Value.slice A n c).ownBlock → AtNew A A' w.heap.size → K (a.put o.dst (.slice A' (n + m) c')) w') :
    if Region.wanted o (yielded ops a.tmps) = true then Oper.wp P o a w K Q else E := by
  have hw : Region.wanted o (yielded ops a.tmps) = true := by simp [Region.wanted, hgd]
  rw [if_pos hw]
  exact wp_append_ints w s x t ho base e i ht hi hz hsize hby A n c xs hs hown B A2 m c2 ys hx hr h47 hbase h
end

theorem cell_grown {w w' : World} {row : Option Nat} (h : w.grownBy w' row) {k : Nat} (o : Nat) (hk : k < w.heap.size) (hne : some k ≠ row) : w'.cell? ⟨k, o, none⟩ = w.cell? ⟨k, o, none⟩ := World.cell?_of_block (a := ⟨k, o, none⟩) (h.block k hk hne)
theorem frozen_grown {w w' : World} {row : Option Nat} (h : w.grownBy w' row) {k : Nat} (o : Nat) (hk : k < w.heap.size) (hne : some k ≠ row) : w'.frozen? ⟨k, o, none⟩ = w.frozen? ⟨k, o, none⟩ := World.frozen?_of_block (a := ⟨k, o, none⟩) (h.block k hk hne)

end Go.Proofs.Ytpoceidbiamgaaa
