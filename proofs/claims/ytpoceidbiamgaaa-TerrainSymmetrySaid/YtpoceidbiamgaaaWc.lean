/- Slices of cells; contracts of bandplanlaw10.near, same and equal. -/
import Derived.Test.YtpoceidbiamgaaaWb
set_option linter.unusedVariables false
set_option linter.unusedSimpArgs false
namespace Go.Proofs.Ytpoceidbiamgaaa
open Go.RowKit

/-- The cells of a row of structs of two ints. -/
def flatC (cs : List (Int × Int)) : List Value := cs.flatMap fun p => [.int .i64 p.1, .int .i64 p.2]
theorem flatC_len (cs : List (Int × Int)) : (flatC cs).length = cs.length * 2 := by
  induction cs with
  | nil => rfl
  | cons a l ih => simp [flatC] at ih ⊢; omega
theorem flatC_append (a b : List (Int × Int)) : flatC (a ++ b) = flatC a ++ flatC b := by simp [flatC]
theorem flatC_at : ∀ (cs : List (Int × Int)) (j : Nat), j < cs.length → (flatC cs)[j * 2]? = some (.int .i64 (cs[j]?.getD (0, 0)).1) ∧ (flatC cs)[j * 2 + 1]? = some (.int .i64 (cs[j]?.getD (0, 0)).2)
  | [], j, h => by simp at h
  | p :: l, 0, _ => by simp [flatC]
  | p :: l, j + 1, h => by
    have ih := flatC_at l j (by simp at h; omega)
    have e1 : (j + 1) * 2 = j * 2 + 2 := by omega
    have e2 : (j + 1) * 2 + 1 = j * 2 + 1 + 2 := by omega
    rw [e2, e1]
    simpa [flatC] using ih
/-- The slice value '.slice A n c' reads as the cells cs, and lies below block B. -/
def Cels (w : World) (B : Nat) (A : Option Addr) (n : Nat) (cs : List (Int × Int)) : Prop :=
  cs.length = n ∧ (0 < n → ∃ b, A = some ⟨b, 0, none⟩ ∧ b < B ∧ ∀ j, j < n → w.cell? ⟨b, j * 2, none⟩ = some (.int .i64 (cs[j]?.getD (0, 0)).1) ∧ w.cell? ⟨b, j * 2 + 1, none⟩ = some (.int .i64 (cs[j]?.getD (0, 0)).2))
def OwnC (w : World) (base : Nat) (A : Option Addr) (n c : Nat) (cs : List (Int × Int)) : Prop := w.ownsRow base 26 2 (.slice A n c) n (flatC cs)
section
variable {w w' : World} {B B' base n c : Nat} {A : Option Addr} {cs : List (Int × Int)}
theorem Cels.below (h : Cels w B A n cs) (hb : Below B w w') : Cels w' B A n cs :=
  ⟨h.1, fun hn => by
    obtain ⟨b, e, hB, hc⟩ := h.2 hn
    exact ⟨b, e, hB, fun j hj => ⟨(hb.cell (p := ⟨b, j * 2, none⟩) hB).trans (hc j hj).1, (hb.cell (p := ⟨b, j * 2 + 1, none⟩) hB).trans (hc j hj).2⟩⟩⟩
theorem Cels.more (h : Cels w B A n cs) (hB : B ≤ B') : Cels w B' A n cs :=
  ⟨h.1, fun hn => by
    obtain ⟨b, e, hb, hc⟩ := h.2 hn
    exact ⟨b, e, by omega, hc⟩⟩
theorem Cels.next (h : Cels w w.heap.size A n cs) (hb : Below w.heap.size w w') : Cels w' w'.heap.size A n cs := (h.below hb).more hb.size
theorem OwnC.none_ : OwnC w base none 0 0 [] := World.ownsRow_nil w base 26 2
theorem OwnC.len (h : OwnC w base A n c cs) : cs.length = n := by
  have := h.1
  rw [flatC_len] at this; omega
theorem OwnC.form (h : OwnC w base A n c cs) : (A = none ∧ n = 0 ∧ c = 0) ∨ ∃ g cur, A = some ⟨g, 0, none⟩ ∧ base ≤ g ∧ g < w.heap.size ∧ w.heap[g]? = some (.cells cur 26 (0, 0)) ∧ n ≤ c ∧ c ≤ maxLen ∧ cur.size = c * 2 ∧ cur.toList.take (n * 2) = flatC cs := by
  rcases h.2 with ⟨hv, hn⟩ | ⟨g, cap, cur, hv, hb, hh, h1, h2, h3, h4⟩
  · injection hv with e1 e2 e3
    exact .inl ⟨e1, hn, e3⟩
  · injection hv with e1 e2 e3
    subst e3
    refine .inr ⟨g, cur, e1, hb, ?_, hh, h1, h2, h3, h4⟩
    rcases Nat.lt_or_ge g w.heap.size with hlt | hge
    · exact hlt
    · rw [Array.getElem?_eq_none hge] at hh; cases hh
theorem OwnC.cels (h : OwnC w base A n c cs) : Cels w w.heap.size A n cs := by
  have hl := h.len
  refine ⟨hl, fun hn => ?_⟩
  rcases h.form with ⟨_, h0, _⟩ | ⟨g, cur, rfl, hb, hlt, hh, h1, h2, h3, h4⟩
  · omega
  · have key : ∀ i v, i < n * 2 → (flatC cs)[i]? = some v → w.cell? ⟨g, i, none⟩ = some v := fun i v hi hv => by
      rw [cell_of_row w g i cur 26 (0, 0) hh]
      rw [← h4, List.getElem?_take, if_pos hi] at hv
      simpa using hv
    exact ⟨g, rfl, hlt, fun j hj => ⟨key _ _ (by omega) (flatC_at cs j (by omega)).1, key _ _ (by omega) (flatC_at cs j (by omega)).2⟩⟩
theorem OwnC.kept (h : OwnC w base A n c cs) (hk : ∀ g, A = some ⟨g, 0, none⟩ → g < w.heap.size → w'.heap[g]? = w.heap[g]?) : OwnC w' base A n c cs := by
  refine ⟨h.1, ?_⟩
  rcases h.form with ⟨rfl, rfl, rfl⟩ | ⟨g, cur, rfl, hb, hlt, hh, h1, h2, h3, h4⟩
  · exact .inl ⟨rfl, rfl⟩
  · exact .inr ⟨g, c, cur, rfl, hb, (hk g rfl hlt).trans hh, h1, h2, h3, h4⟩
theorem OwnC.next (h : OwnC w base A n c cs) (hb : Below w.heap.size w w') : OwnC w' base A n c cs := h.kept fun g _ hg => hb.block g hg
theorem OwnC.less (h : OwnC w base A n c cs) {base' : Nat} (hb : base' ≤ base) : OwnC w base' A n c cs := by
  refine ⟨h.1, ?_⟩
  rcases h.form with ⟨rfl, rfl, rfl⟩ | ⟨g, cur, rfl, hbb, hlt, hh, h1, h2, h3, h4⟩
  · exact .inl ⟨rfl, rfl⟩
  · exact .inr ⟨g, c, cur, rfl, by omega, hh, h1, h2, h3, h4⟩
theorem OwnC.alloc (h : OwnC w base A n c cs) (o : Obj) : OwnC (w.alloc o) base A n c cs := World.ownsRow.alloc h o
theorem OwnC.row_ne {q : Nat} (h : OwnC w base A n c cs) (hq : q < base) : some q ≠ (Value.slice A n c).ownBlock := by
  rcases h.form with ⟨e, _⟩ | ⟨g', cur, e, h1, _⟩
  · rw [e]; simp [Value.ownBlock]
  · rw [e]; simp [Value.ownBlock]; omega
theorem OwnC.row_ge (h : OwnC w base A n c cs) : ∀ j, (Value.slice A n c).ownBlock = some j → base ≤ j := by
  rcases h.form with ⟨e, _⟩ | ⟨g', cur, e, h1, _⟩
  · rw [e]; simp [Value.ownBlock]
  · rw [e]; simp [Value.ownBlock]; omega
end

theorem near_any (a1 a2 b1 b2 : Int) (w : World) (h1 : 0 ≤ a1) (h2 : a1 ≤ 1000) (h3 : 0 ≤ a2) (h4 : a2 ≤ 1000) (h5 : 0 ≤ b1) (h6 : b1 ≤ 1000) (h7 : 0 ≤ b2) (h8 : b2 ≤ 1000) :
    Calls Try.prog 40 #[.agg #[.int .i64 a1, .int .i64 a2], .agg #[.int .i64 b1, .int .i64 b2]] w fun e w' => e = .returned (.bool (decide (span a1 a2 b1 b2 ≤ 1))) ∧ Below w.heap.size w w' := by
  have HB : Hid (Below w.heap.size w ((w.alloc (.cells #[.int .i64 a1, .int .i64 a2] 26)).alloc (.cells #[.int .i64 b1, .int .i64 b2] 26))) := ((Below.refl _ _).alloc (Nat.le_refl _) _).alloc (by simp) _
  go_enter Try.func40, Try.ntmps40
  go_wp2_with fail
  refine (span_any a1 a2 b1 b2 _ h1 h2 h3 h4 h5 h6 h7 h8).mono ?_
  rintro e w1 ⟨rfl, hb⟩
  have HB1 := Lib.hid (chain HB.out hb)
  clear hb
  go_wp2
  go_ret
  exact ⟨rfl, HB1.out⟩

/-- Two lists of cells are equal. -/
def eqC (xs ys : List (Int × Int)) : Bool := decide (xs = ys)
theorem eqC_len {xs ys : List (Int × Int)} (h : xs.length ≠ ys.length) : eqC xs ys = false := by
  simp only [eqC, decide_eq_false_iff_not]; intro e; rw [e] at h; exact h rfl
theorem eqC_at {xs ys : List (Int × Int)} {k : Nat} (h : xs[k]?.getD (0, 0) ≠ ys[k]?.getD (0, 0)) : eqC xs ys = false := by
  simp only [eqC, decide_eq_false_iff_not]; intro e; rw [e] at h; exact h rfl
theorem takeC_eq {xs ys : List (Int × Int)} {k : Nat} (h1 : k < xs.length) (h2 : k < ys.length) (h : xs.take k = ys.take k) (e : xs[k]?.getD (0, 0) = ys[k]?.getD (0, 0)) : xs.take (k + 1) = ys.take (k + 1) := by
  rw [List.take_succ_eq_append_getElem h1, List.take_succ_eq_append_getElem h2, h]
  simp [h1, h2] at e
  rw [e]
set_option maxHeartbeats 1000000 in
theorem same_any (A : Option Addr) (n c : Nat) (xs : List (Int × Int)) (A' : Option Addr) (n' c' : Nat) (ys : List (Int × Int)) (w : World) (hX : Cels w w.heap.size A n xs) (hY : Cels w w.heap.size A' n' ys) (hn : n ≤ 4096) (hn' : n' ≤ 4096) :
    Calls Try.prog 31 #[.slice A n c, .slice A' n' c'] w fun e w' => e = .returned (.bool (eqC xs ys)) ∧ Below w.heap.size w w' := by
  have l1 := hX.1
  have l2 := hY.1
  have HX := Lib.hid hX
  have HY := Lib.hid hY
  have HL1 := Lib.hid l1
  have HL2 := Lib.hid l2
  clear hX hY
  by_cases hnn : n = n'
  · subst hnn
    clear l1 l2
    go_enter Try.func31, Try.ntmps31
    go_wp2
    go_loopw [5] (fun i wr => ∃ k : Nat, k ≤ n ∧ i = .int .i64 k ∧ xs.take k = ys.take k ∧ Below w.heap.size w wr) (fun i _ => n - (intOf i).toNat)
    case atStart => exact ⟨0, by omega, rfl, by simp, Below.refl _ _⟩
    case round =>
      obtain ⟨k, hk, rfl, he, hB⟩ := hrel
      have HE := Lib.hid he
      have HBB := Lib.hid hB
      clear he hB
      by_cases hlt : k < n
      · obtain ⟨b, rfl, hb, hc⟩ := (HX.out.below HBB.out).2 (by omega)
        obtain ⟨b2, rfl, hb2, hc2⟩ := (HY.out.below HBB.out).2 (by omega)
        obtain ⟨c1, c2⟩ := hc k hlt
        obtain ⟨d1, d2⟩ := hc2 k hlt
        have HT := Lib.hid (takeC_eq (xs := xs) (ys := ys) (k := k) (by have := HL1.out; omega) (by have := HL2.out; omega) HE.out)
        have HF := Lib.hid (eqC_at (xs := xs) (ys := ys) (k := k))
        obtain ⟨x, hx⟩ : ∃ x, x = xs[k]?.getD (0, 0) := ⟨_, rfl⟩
        obtain ⟨y, hy⟩ : ∃ y, y = ys[k]?.getD (0, 0) := ⟨_, rfl⟩
        rw [← hx] at c1 c2 HT HF
        rw [← hy] at d1 d2 HT HF
        obtain ⟨x1, x2⟩ := x
        obtain ⟨y1, y2⟩ := y
        simp only at c1 c2 d1 d2
        clear hx hy hc hc2
        by_cases q1 : x1 = y1
        · by_cases q2 : x2 = y2
          · subst q1
            subst q2
            go_wp2
            go_quiet (fail)
            go_wp2
            go_roundw
            case rel => exact ⟨k + 1, by omega, by go_num, HT.out (by simp), below_drewN HBB.out _⟩
            case measure => simp [intOf]; omega
          · have HQ : Hid (¬ ((x1, x2) = (y1, y2))) := fun e => by injection e with e1 e2; exact q2 e2
            subst q1
            go_wp2
            go_quiet (fail)
            go_wp2
            go_ret
            exact ⟨ret_bool (HF.out HQ.out).symm, below_drewN HBB.out _⟩
        · have HQ : Hid (¬ ((x1, x2) = (y1, y2))) := fun e => by injection e with e1 e2; exact q1 e1
          go_wp2
          go_quiet (fail)
          go_wp2
          go_ret
          exact ⟨ret_bool (HF.out HQ.out).symm, below_drewN HBB.out _⟩
      · obtain rfl : k = n := by omega
        go_wp2
        go_ret
        refine ⟨ret_bool ?_, HBB.out⟩
        have q := HE.out
        have q1 := HL1.out
        have q2 := HL2.out
        rw [List.take_of_length_le (by omega), List.take_of_length_le (by omega)] at q
        simp [eqC, q]
  · rw [eqC_len (by omega)]
    have x1 : ((n : Int) != n') = true := by simp; omega
    clear l1 l2 hnn
    go_enter Try.func31, Try.ntmps31
    go_wp2
    go_ret
    exact ⟨rfl, Below.refl _ _⟩
end Go.Proofs.Ytpoceidbiamgaaa
