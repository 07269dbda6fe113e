/- Boxes: blocks of four and of two known cells; contract of bandplanref10.Flat. -/
import Derived.Test.YtpoceidbiamgaaaW9
set_option linter.unusedVariables false
set_option linter.unusedSimpArgs false
namespace Go.Proofs.Ytpoceidbiamgaaa
open Go.RowKit

/-- Block q holds four cells that may be written. -/
def Box4 (w : World) (q : Nat) (a b c d : Value) : Prop :=
  w.cell? ⟨q, 0, none⟩ = some a ∧ w.cell? ⟨q, 1, none⟩ = some b ∧ w.cell? ⟨q, 2, none⟩ = some c ∧ w.cell? ⟨q, 3, none⟩ = some d ∧ (∀ o, w.frozen? ⟨q, o, none⟩ = false) ∧ q < w.heap.size
/-- Block q holds two cells that may be written. -/
def Box2 (w : World) (q : Nat) (a b : Value) : Prop :=
  w.cell? ⟨q, 0, none⟩ = some a ∧ w.cell? ⟨q, 1, none⟩ = some b ∧ (∀ o, w.frozen? ⟨q, o, none⟩ = false) ∧ q < w.heap.size
section
variable {w w' : World} {q : Nat} {a b c d : Value}
theorem Box4.new (w : World) (a b c d : Value) (t : TypeId) : Box4 (w.alloc (.cells #[a, b, c, d] t)) w.heap.size a b c d :=
  ⟨by go_simp, by go_simp, by go_simp, by go_simp, fun o => by go_simp, by simp⟩
theorem Box2.new (w : World) (a b : Value) (t : TypeId) : Box2 (w.alloc (.cells #[a, b] t)) w.heap.size a b :=
  ⟨by go_simp, by go_simp, fun o => by go_simp, by simp⟩
theorem Box4.kept (h : Box4 w q a b c d) (hk : w'.heap[q]? = w.heap[q]?) (hs : w.heap.size ≤ w'.heap.size) : Box4 w' q a b c d :=
  ⟨(World.cell?_of_block hk).trans h.1, (World.cell?_of_block hk).trans h.2.1, (World.cell?_of_block hk).trans h.2.2.1, (World.cell?_of_block hk).trans h.2.2.2.1, fun o => (World.frozen?_of_block hk).trans (h.2.2.2.2.1 o), Nat.lt_of_lt_of_le h.2.2.2.2.2 hs⟩
theorem Box2.kept (h : Box2 w q a b) (hk : w'.heap[q]? = w.heap[q]?) (hs : w.heap.size ≤ w'.heap.size) : Box2 w' q a b :=
  ⟨(World.cell?_of_block hk).trans h.1, (World.cell?_of_block hk).trans h.2.1, fun o => (World.frozen?_of_block hk).trans (h.2.2.1 o), Nat.lt_of_lt_of_le h.2.2.2 hs⟩
theorem Box4.lt (h : Box4 w q a b c d) : q < w.heap.size := h.2.2.2.2.2
theorem Box2.lt (h : Box2 w q a b) : q < w.heap.size := h.2.2.2
theorem Box4.grown {row : Option Nat} (h : Box4 w q a b c d) (hg : w.grownBy w' row) (hne : some q ≠ row) : Box4 w' q a b c d := h.kept (hg.block q h.lt hne) hg.size
theorem Box2.grown {row : Option Nat} (h : Box2 w q a b) (hg : w.grownBy w' row) (hne : some q ≠ row) : Box2 w' q a b := h.kept (hg.block q h.lt hne) hg.size
theorem Box4.below {B : Nat} (h : Box4 w q a b c d) (hb : Below B w w') (hq : q < B) : Box4 w' q a b c d := h.kept (hb.block q hq) hb.size
theorem Box2.below {B : Nat} (h : Box2 w q a b) (hb : Below B w w') (hq : q < B) : Box2 w' q a b := h.kept (hb.block q hq) hb.size
theorem Box4.next (h : Box4 w q a b c d) (hb : Below w.heap.size w w') : Box4 w' q a b c d := h.below hb h.lt
theorem Box2.next (h : Box2 w q a b) (hb : Below w.heap.size w w') : Box2 w' q a b := h.below hb h.lt
theorem Box4.alloc (h : Box4 w q a b c d) (o : Obj) : Box4 (w.alloc o) q a b c d := h.kept (Below.heap_alloc w o q h.lt) (by simp)
theorem Box2.alloc (h : Box2 w q a b) (o : Obj) : Box2 (w.alloc o) q a b := h.kept (Below.heap_alloc w o q h.lt) (by simp)
theorem Box4.far (h : Box4 w q a b c d) {p : Addr} (hp : q ≠ p.block) (u : Value) : Box4 (w.setCell p u) q a b c d := h.kept (Below.heap_setCell w p u q hp) (by simp [World.setCell])
theorem Box2.far (h : Box2 w q a b) {p : Addr} (hp : q ≠ p.block) (u : Value) : Box2 (w.setCell p u) q a b := h.kept (Below.heap_setCell w p u q hp) (by simp [World.setCell])
theorem Box4.set2 (h : Box4 w q a b c d) (u : Value) : Box4 (w.setCell ⟨q, 2, none⟩ u) q a b u d := by
  obtain ⟨h0, h1, h2, h3, h4, h5⟩ := h
  refine ⟨?_, ?_, ?_, ?_, fun o => by rw [World.frozen?_setCell]; exact h4 o, by simpa [World.setCell] using h5⟩ <;> simp [World.cell?_setCell_other, World.cell?_setCell_same', h0, h1, h2, h3]
theorem Box4.set3 (h : Box4 w q a b c d) (u : Value) : Box4 (w.setCell ⟨q, 3, none⟩ u) q a b c u := by
  obtain ⟨h0, h1, h2, h3, h4, h5⟩ := h
  refine ⟨?_, ?_, ?_, ?_, fun o => by rw [World.frozen?_setCell]; exact h4 o, by simpa [World.setCell] using h5⟩ <;> simp [World.cell?_setCell_other, World.cell?_setCell_same', h0, h1, h2, h3]
theorem Box4.drewN (h : Box4 w q a b c d) (k : Nat) : Box4 (w.drewN k) q a b c d := h
theorem Box2.drewN (h : Box2 w q a b) (k : Nat) : Box2 (w.drewN k) q a b := h
end
theorem Own.row_ne {w : World} {base n c q : Nat} {e : TypeId} {A : Option Addr} {xs : List Int} (h : Own w base e A n c xs) (hq : q < base) : some q ≠ (Value.slice A n c).ownBlock := by
  rcases h.form with ⟨e, _⟩ | ⟨g', cur, e, h1, _⟩
  · rw [e]; simp [Value.ownBlock]
  · rw [e]; simp [Value.ownBlock]; omega
theorem Own.row_ge {w : World} {base n c : Nat} {e : TypeId} {A : Option Addr} {xs : List Int} (h : Own w base e A n c xs) : ∀ j, (Value.slice A n c).ownBlock = some j → base ≤ j := by
  rcases h.form with ⟨e, _⟩ | ⟨g', cur, e, h1, _⟩
  · rw [e]; simp [Value.ownBlock]
  · rw [e]; simp [Value.ownBlock]; omega
/-- Another row stays, where a row that lies apart from it is appended to. -/
theorem Own.besides {w w' : World} {base n c n' c' : Nat} {e : TypeId} {A A' : Option Addr} {xs : List Int} (h : Own w base e A n c xs) (hg : w.grownBy w' (Value.slice A' n' c').ownBlock) (hd : ∀ b b', A = some ⟨b, 0, none⟩ → A' = some ⟨b', 0, none⟩ → b ≠ b') (hA' : A' = none ∨ ∃ g, A' = some ⟨g, 0, none⟩) : Own w' base e A n c xs :=
  h.kept fun g hA hlt => hg.block g hlt (by
    rcases hA' with rfl | ⟨g', rfl⟩
    · simp [Value.ownBlock]
    · simp [Value.ownBlock]; exact hd g g' hA rfl)
theorem Own.addr {w : World} {base n c : Nat} {e : TypeId} {A : Option Addr} {xs : List Int} (h : Own w base e A n c xs) : A = none ∨ ∃ g, A = some ⟨g, 0, none⟩ := by
  rcases h.form with ⟨e, _⟩ | ⟨g', cur, e, _⟩
  · exact .inl e
  · exact .inr ⟨g', e⟩
theorem ints_one (w : World) (t : TypeId) (x : Int) : Ints (w.alloc (.cells #[.int .i64 x] t)) (w.heap.size + 1) (some ⟨w.heap.size, 0, none⟩) 1 [x] :=
  ⟨rfl, fun _ => ⟨w.heap.size, 0, rfl, by omega, fun j hj => by
    obtain rfl : j = 0 := by omega
    go_simp⟩⟩
theorem ints_one' (w : World) (t : TypeId) (x : Int) (q : Nat) (hq : w.heap.size = q) : Ints (w.alloc (.cells #[.int .i64 x] t)) (q + 1) (some ⟨q, 0, none⟩) 1 [x] := by
  subst hq; exact ints_one w t x
theorem setCell_size (w : World) (p : Addr) (u : Value) : (w.setCell p u).heap.size = w.heap.size := by simp [World.setCell]
theorem replicate_snoc (k : Nat) (x : Int) : List.replicate k x ++ [x] = List.replicate (k + 1) x := by
  rw [List.replicate_succ']

/-- The state of the loop of bandplanref10.Flat after k rounds. -/
def FlatI (w : World) (W H g p : Int) (wr : World) (k : Nat) : Prop :=
  ∃ A c A2 c2, Box4 wr (w.heap.size + 1) (.int .i64 W) (.int .i64 H) (.slice A k c) (.slice A2 k c2) ∧ Box4 wr w.heap.size (.int .i64 0) (.int .i64 0) (.slice none 0 0) (.slice none 0 0) ∧
    Own wr (w.heap.size + 2) 3 A k c (List.replicate k g) ∧ Own wr (w.heap.size + 2) 3 A2 k c2 (List.replicate k p) ∧ Dis A A2 ∧ Below w.heap.size w wr
set_option maxHeartbeats 1000000 in
theorem refFlat_any (W H g p : Int) (N : Nat) (w : World) (hN : W * H = N) (n2 : N ≤ 4096) :
    Calls Try.prog 27 #[.int .i64 W, .int .i64 H, .int .i64 g, .int .i64 p] w (TerR w W H (List.replicate N g) (List.replicate N p)) := by
  obtain ⟨i0, hi0, hz0, hz1, hz2⟩ := info_parts info3
  have HI0 : Hid (FlatI w W H g p ((w.alloc (.cells #[.int .i64 0, .int .i64 0, .slice none 0 0, .slice none 0 0] 24)).alloc (.cells #[.int .i64 W, .int .i64 H, .slice none 0 0, .slice none 0 0] 24)) 0) :=
    ⟨none, 0, none, 0, by have := Box4.new (w.alloc (.cells #[.int .i64 0, .int .i64 0, .slice none 0 0, .slice none 0 0] 24)) (.int .i64 W) (.int .i64 H) (.slice none 0 0) (.slice none 0 0) 24; rwa [alloc_size] at this,
     (Box4.new w _ _ _ _ _).alloc _, Own.none_, Own.none_, fun _ _ h => (by cases h), ((Below.refl _ _).alloc (Nat.le_refl _) _).alloc (by simp) _⟩
  go_enter Try.func27, Try.ntmps27
  go_wp2
  go_loopw [10] (fun i wr => ∃ k : Nat, k ≤ N ∧ i = .int .i64 k ∧ FlatI w W H g p wr k) (fun i _ => N - (intOf i).toNat)
  case atStart => exact ⟨0, by omega, rfl, HI0.out⟩
  case round =>
    obtain ⟨k, hk, rfl, A, c, A2, c2, hb1, hb0, ho1, ho2, hd, hbl⟩ := hrel
    have HB1 := Lib.hid hb1
    have HB0 := Lib.hid hb0
    have HO1 := Lib.hid ho1
    have HO2 := Lib.hid ho2
    have HD := Lib.hid hd
    have HBL := Lib.hid hbl
    have hl := hb1.lt
    obtain ⟨t0, t1, t2, t3, tf, _⟩ := hb1
    obtain ⟨z0, z1, z2, z3, zf, _⟩ := hb0
    clear ho1 ho2 hd hbl HI0
    by_cases hlt : k < N
    · have x1 : decide ((k : Int) < W * H) = true := decide_eq_true (by omega)
      have r1 : Hid (some (w.heap.size + 1) ≠ (Value.slice A k c).ownBlock) := HO1.out.row_ne (by omega)
      have r0 : Hid (some w.heap.size ≠ (Value.slice A k c).ownBlock) := HO1.out.row_ne (by omega)
      have r3 : Hid (some (w.heap.size + 1) ≠ (Value.slice A2 k c2).ownBlock) := HO2.out.row_ne (by omega)
      have r2 : Hid (some w.heap.size ≠ (Value.slice A2 k c2).ownBlock) := HO2.out.row_ne (by omega)
      have N2 : Hid (∀ b, A2 = some ⟨b, 0, none⟩ → b ≠ w.heap.size + 1) := fun b e => by have := (HO2.out.lt b e).1; omega
      go_wp2_with (first | (at_builtin; refine wpList_append_ints (o := ⟨some 25, _, _, _, _, _⟩) _ rfl (.tmp 22) (.tmp 24) 22 rfl (w.heap.size + 2) 3 i0 Try.underlying22 hi0 hz0 hz1 hz2 A k c (List.replicate k g) (by rfl) (HO1.out.alloc _) _ _ 1 1 [g] (by rfl) (ints_one _ _ _) (by omega) (by simp; omega) ?_; intro A' c' w1 hown1 hg1 hat1; have X1 := Lib.hid ((HB1.out.alloc _).grown hg1 r1.out); have X0 := Lib.hid ((HB0.out.alloc _).grown hg1 r0.out); obtain ⟨d0, d1, d2, d3, df, dl⟩ := X1.out; have Y1 := Lib.hid hown1; have G1 := Lib.hid hg1; have T1 := Lib.hid hat1; clear hown1 hg1 hat1) | (at_builtin; refine wpList_append_ints (o := ⟨some 31, _, _, _, _, _⟩) _ rfl (.tmp 28) (.tmp 30) 22 rfl (w.heap.size + 2) 3 i0 Try.underlying22 hi0 hz0 hz1 hz2 A2 k c2 (List.replicate k p) (by rfl) ((((HO2.out.alloc _).besides G1.out (fun b b' e1 e2 e => HD.out b' b e2 e1 e.symm) HO1.out.addr).far (p := ⟨w.heap.size + 1, 2, none⟩) N2.out _).alloc _) _ (some ⟨w1.heap.size, 0, none⟩) 1 1 [p] (by rfl) (ints_one' _ _ _ w1.heap.size (setCell_size _ _ _)) (by omega) (by simp [World.setCell]; omega) ?_; intro A2' c2' w3 hown2 hg2 hat2; have X3 := Lib.hid (((X1.out.set2 _).alloc _).grown hg2 r3.out); have X4 := Lib.hid (((X0.out.far (p := ⟨w.heap.size + 1, 2, none⟩) (by simp) _).alloc _).grown hg2 r2.out); obtain ⟨d0', d1', d2', d3', df', dl'⟩ := X3.out; have Y2 := Lib.hid hown2; have G2 := Lib.hid hg2; have T2 := Lib.hid hat2; clear hown2 hg2 hat2))
      have S1 : wr.heap.size + 1 ≤ w1.heap.size := by have := G1.out.size; simpa using this
      have S2 : w1.heap.size + 1 ≤ w3.heap.size := by have := G2.out.size; simpa [World.setCell] using this
      have U1 : ∀ b, A' = some ⟨b, 0, none⟩ → A = some ⟨b, 0, none⟩ ∨ b = wr.heap.size + 1 := fun b hb => by have := T1.out b hb; simpa using this
      have U2 : ∀ b, A2' = some ⟨b, 0, none⟩ → A2 = some ⟨b, 0, none⟩ ∨ b = w1.heap.size + 1 := fun b hb => by have := T2.out b hb; simpa [World.setCell] using this
      have M1 : ∀ b, A = some ⟨b, 0, none⟩ → w.heap.size + 2 ≤ b ∧ b < wr.heap.size := HO1.out.lt
      have M2 : ∀ b, A2 = some ⟨b, 0, none⟩ → w.heap.size + 2 ≤ b ∧ b < wr.heap.size := HO2.out.lt
      have M3 : ∀ b, A' = some ⟨b, 0, none⟩ → w.heap.size + 2 ≤ b ∧ b < w1.heap.size := Y1.out.lt
      have Z1 : Own w1 (w.heap.size + 2) 3 A' (k + 1) c' (List.replicate (k + 1) g) := by have := Y1.out; rwa [replicate_snoc] at this
      have Z2 : Own w3 (w.heap.size + 2) 3 A2' (k + 1) c2' (List.replicate (k + 1) p) := by have := Y2.out; rwa [replicate_snoc] at this
      have V : ∀ b b', A' = some ⟨b, 0, none⟩ → A2 = some ⟨b', 0, none⟩ → b ≠ b' := fun b b' e1 e2 => by
        have q2 := M2 b' e2
        rcases U1 b e1 with q | q
        · exact HD.out b b' q e2
        · omega
      have FIN : FlatI w W H g p (w3.setCell ⟨w.heap.size + 1, 3, none⟩ (.slice A2' (k + 1) c2')) (k + 1) := by
        refine ⟨A', c', A2', c2', X3.out.set3 _, X4.out.far (by simp) _, ?_, ?_, ?_, ?_⟩
        · exact (((Z1.far (p := ⟨w.heap.size + 1, 2, none⟩) (fun b e => by have := M3 b e; show b ≠ w.heap.size + 1; omega) _).alloc _).besides G2.out V HO2.out.addr).far (p := ⟨w.heap.size + 1, 3, none⟩) (fun b e => by have := M3 b e; show b ≠ w.heap.size + 1; omega) _
        · exact Z2.far (p := ⟨w.heap.size + 1, 3, none⟩) (fun b e => by have := Z2.lt b e; show b ≠ w.heap.size + 1; omega) _
        · intro b b' e1 e2
          rcases U2 b' e2 with q | q
          · exact V b b' e1 q
          · have := M3 b e1; omega
        · have L1 : ∀ j, (Value.slice A k c).ownBlock = some j → w.heap.size ≤ j := fun j e => by have := HO1.out.row_ge j e; omega
          have L2 : ∀ j, (Value.slice A2 k c2).ownBlock = some j → w.heap.size ≤ j := fun j e => by have := HO2.out.row_ge j e; omega
          exact ((((((HBL.out.alloc (by omega) _).grown G1.out (by simp; omega) L1).setCell (by simp) _).alloc (by simp [World.setCell]; omega) _).grown G2.out (by simp [World.setCell]; omega) L2).setCell (by simp) _)
      have HF := Lib.hid FIN
      clear FIN Z1 Z2 V U1 U2 M1 M2 M3
      go_wp2
      go_roundw
      case rel => exact ⟨k + 1, by omega, by go_num, HF.out⟩
      case measure => simp [intOf]; omega
    · obtain rfl : k = N := by omega
      have x1 : decide ((k : Int) < W * H) = false := decide_eq_false (by omega)
      have q1 : w.heap.size < wr.heap.size := by omega
      go_wp2
      obtain ⟨y0, y1, y2, y3⟩ := set4_at (a := .int .i64 W) (b := .int .i64 H) (c := .slice A k c) (d := .slice A2 k c2) z0 z1 z2 z3
      refine bodyPost_ret (v := .agg #[.int .i64 W, .int .i64 H, .slice A k c, .slice A2 k c2]) (by simp [results, Try.results27, go_sem, y0, y1, y2, y3]) rfl ⟨A, k, c, A2, k, c2, rfl, ?_, ?_, HD.out, ?_⟩
      · exact ((HO1.out.less (by omega)).far4 (fun b hb => by have := (HO1.out.lt b hb).1; omega))
      · exact ((HO2.out.less (by omega)).far4 (fun b hb => by have := (HO2.out.lt b hb).1; omega))
      · exact below_set4 HBL.out (Nat.le_refl _)
end Go.Proofs.Ytpoceidbiamgaaa
