/- Contract of terrain.Set. -/
import Derived.Test.YtpoceidbiamgaaaWc
set_option linter.unusedVariables false
set_option linter.unusedSimpArgs false
namespace Go.Proofs.Ytpoceidbiamgaaa
open Go.RowKit
theorem set_start (W H : Int) (A : Option Addr) (n c : Nat) (A2 : Option Addr) (m c2 : Nat) (x y : Int) (w : World) : Below w.heap.size w (((w.alloc (.cells #[.int .i64 W, .int .i64 H, .slice A n c, .slice A2 m c2] 24)).alloc (.cells #[.int .i64 x, .int .i64 y] 26)).alloc (.cells #[.int .i64 0, .int .i64 0, .slice none 0 0, .slice none 0 0] 24)) ∧ Box4 (((w.alloc (.cells #[.int .i64 W, .int .i64 H, .slice A n c, .slice A2 m c2] 24)).alloc (.cells #[.int .i64 x, .int .i64 y] 26)).alloc (.cells #[.int .i64 0, .int .i64 0, .slice none 0 0, .slice none 0 0] 24)) w.heap.size (.int .i64 W) (.int .i64 H) (.slice A n c) (.slice A2 m c2) ∧ Box2 (((w.alloc (.cells #[.int .i64 W, .int .i64 H, .slice A n c, .slice A2 m c2] 24)).alloc (.cells #[.int .i64 x, .int .i64 y] 26)).alloc (.cells #[.int .i64 0, .int .i64 0, .slice none 0 0, .slice none 0 0] 24)) (w.heap.size + 1) (.int .i64 x) (.int .i64 y) ∧ Box4 (((w.alloc (.cells #[.int .i64 W, .int .i64 H, .slice A n c, .slice A2 m c2] 24)).alloc (.cells #[.int .i64 x, .int .i64 y] 26)).alloc (.cells #[.int .i64 0, .int .i64 0, .slice none 0 0, .slice none 0 0] 24)) (w.heap.size + 2) (.int .i64 0) (.int .i64 0) (.slice none 0 0) (.slice none 0 0) := by
  refine ⟨(((Below.refl _ _).alloc (Nat.le_refl _) _).alloc (by simp) _).alloc (by simp; omega) _, ((Box4.new w _ _ _ _ _).alloc _).alloc _, ?_, ?_⟩
  · have := (Box2.new (w.alloc (.cells #[.int .i64 W, .int .i64 H, .slice A n c, .slice A2 m c2] 24)) (.int .i64 x) (.int .i64 y) 26).alloc (.cells #[.int .i64 0, .int .i64 0, .slice none 0 0, .slice none 0 0] 24)
    rwa [alloc_size] at this
  · have := Box4.new ((w.alloc (.cells #[.int .i64 W, .int .i64 H, .slice A n c, .slice A2 m c2] 24)).alloc (.cells #[.int .i64 x, .int .i64 y] 26)) (.int .i64 0) (.int .i64 0) (.slice none 0 0) (.slice none 0 0) 24
    rwa [alloc_size, alloc_size] at this

set_option maxHeartbeats 1000000 in
theorem set_no (W H : Int) (A : Option Addr) (n c : Nat) (A2 : Option Addr) (m c2 : Nat) (g p : List Int) (x y gr pe : Int) (w : World) (hG : Ints w w.heap.size A n g) (hP : Ints w w.heap.size A2 m p) (hn : n ≤ 4611686018427387904) (hm : m ≤ 4611686018427387904) (h : ¬ (hasB W H g p x y = true ∧ 0 ≤ gr ∧ gr ≤ 9000 ∧ 0 ≤ pe ∧ pe ≤ 1000000)) :
    Calls Try.prog 28 #[.agg #[.int .i64 W, .int .i64 H, .slice A n c, .slice A2 m c2], .agg #[.int .i64 x, .int .i64 y], .int .i64 gr, .int .i64 pe] w (TerNo w) := by
  have HG := Lib.hid hG
  have HP := Lib.hid hP
  clear hG hP
  have S0 := Lib.hid (set_start W H A n c A2 m c2 x y w)
  go_enter Try.func28, Try.ntmps28
  go_wp2_with fail
  obtain ⟨W0, hW0⟩ : ∃ W0, W0 = (((w.alloc (.cells #[.int .i64 W, .int .i64 H, .slice A n c, .slice A2 m c2] 24)).alloc (.cells #[.int .i64 x, .int .i64 y] 26)).alloc (.cells #[.int .i64 0, .int .i64 0, .slice none 0 0, .slice none 0 0] 24)) := ⟨_, rfl⟩
  rw [← hW0] at S0
  rw [← hW0]
  clear hW0
  by_cases hh : hasB W H g p x y = true
  · refine (index_yes W H A n c A2 m c2 g p x y W0 (HG.out.next S0.out.1) (HP.out.next S0.out.1) hn hm hh).mono ?_
    rintro e w1 ⟨rfl, hb1⟩
    have kk : (gr < 0 ∨ 9000 < gr) ∨ ((0 ≤ gr ∧ gr ≤ 9000) ∧ (pe < 0 ∨ 1000000 < pe)) := by
      by_cases k1 : gr < 0 ∨ 9000 < gr
      · exact .inl k1
      · refine .inr ⟨by omega, ?_⟩
        by_cases k2 : pe < 0 ∨ 1000000 < pe
        · exact k2
        · exact absurd ⟨hh, by omega, by omega, by omega, by omega⟩ h
    have B1 := Lib.hid (chain S0.out.1 hb1)
    have Z := Lib.hid (S0.out.2.2.2.next hb1)
    obtain ⟨z0, z1, z2, z3, zf, zl⟩ := Z.out
    clear hb1 S0 h hh
    rcases kk with k1 | ⟨⟨k1, k2⟩, k3⟩
    all_goals
      go_wp2_with (first | (go_at_call 42; (first | refine (within_yes _ _ _ _ (by omega) (by omega)).mono ?_ | refine (within_no _ _ _ _ (by omega)).mono ?_); rintro e w' ⟨rfl, rfl⟩))
      obtain ⟨y0, y1, y2, y3⟩ := set4_at (a := .int .i64 0) (b := .int .i64 0) (c := .slice none 0 0) (d := .slice none 0 0) z0 z1 z2 z3
      refine bodyPost_ret (v := .tuple #[.agg #[.int .i64 0, .int .i64 0, .slice none 0 0, .slice none 0 0], .int .i64 2]) (by simp [results, Try.results28, go_sem, y0, y1, y2, y3]) rfl ⟨rfl, ?_⟩
      exact below_set4 B1.out (by omega)
  · refine (index_no W H A n c A2 m c2 g p x y W0 (HG.out.next S0.out.1) (HP.out.next S0.out.1) hn hm (by simpa using hh)).mono ?_
    rintro e w1 ⟨rfl, hb1⟩
    have B1 := Lib.hid (chain S0.out.1 hb1)
    have Z := Lib.hid (S0.out.2.2.2.next hb1)
    obtain ⟨z0, z1, z2, z3, zf, zl⟩ := Z.out
    clear hb1 S0 h hh
    go_wp2
    obtain ⟨y0, y1, y2, y3⟩ := set4_at (a := .int .i64 0) (b := .int .i64 0) (c := .slice none 0 0) (d := .slice none 0 0) z0 z1 z2 z3
    refine bodyPost_ret (v := .tuple #[.agg #[.int .i64 0, .int .i64 0, .slice none 0 0, .slice none 0 0], .int .i64 2]) (by simp [results, Try.results28, go_sem, y0, y1, y2, y3]) rfl ⟨rfl, ?_⟩
    exact below_set4 B1.out (by omega)

set_option maxHeartbeats 1000000 in
theorem set_yes (W H : Int) (A : Option Addr) (n c : Nat) (A2 : Option Addr) (m c2 : Nat) (g p : List Int) (x y gr pe : Int) (w : World) (hG : Ints w w.heap.size A n g) (hP : Ints w w.heap.size A2 m p) (hn : n ≤ 4096) (hm : m ≤ 4096) (hh : hasB W H g p x y = true) (k1 : 0 ≤ gr) (k2 : gr ≤ 9000) (k3 : 0 ≤ pe) (k4 : pe ≤ 1000000) :
    Calls Try.prog 28 #[.agg #[.int .i64 W, .int .i64 H, .slice A n c, .slice A2 m c2], .agg #[.int .i64 x, .int .i64 y], .int .i64 gr, .int .i64 pe] w (TerRE w W H (g.set (place W (x, y)) gr) (p.set (place W (x, y)) pe)) := by
  have HG := Lib.hid hG
  have HP := Lib.hid hP
  obtain ⟨ht, x0, x1, y0, y1⟩ := hasB_iff.1 hh
  obtain ⟨⟨v1, v2, v3, v4, v5, v6⟩, _⟩ := terB_iff.1 ht
  obtain ⟨w1', w2'⟩ := wh_bd v1 v2 v3 v4
  obtain ⟨r1, r2⟩ := place_bd x0 x1 y0 y1
  obtain ⟨k, hk⟩ : ∃ k : Nat, y * W + x = (k : Int) := ⟨(y * W + x).toNat, by omega⟩
  have hpl : place W (x, y) = k := by show (y * W + x).toNat = k; omega
  rw [hpl]
  rw [hG.1] at v5
  rw [hP.1] at v6
  have hkn : k < n := by omega
  have hkm : k < m := by omega
  have CI := fun W0 a b => index_yes W H A n c A2 m c2 g p x y W0 a b (by omega) (by omega) hh
  rw [hk] at CI
  have HCI := Lib.hid CI
  clear hG hP hpl CI r1 r2 hk w1' w2' v5 v6 ht hh
  have S0 := Lib.hid (set_start W H A n c A2 m c2 x y w)
  go_enter Try.func28, Try.ntmps28
  go_wp2_with fail
  obtain ⟨W0, hW0⟩ : ∃ W0, W0 = (((w.alloc (.cells #[.int .i64 W, .int .i64 H, .slice A n c, .slice A2 m c2] 24)).alloc (.cells #[.int .i64 x, .int .i64 y] 26)).alloc (.cells #[.int .i64 0, .int .i64 0, .slice none 0 0, .slice none 0 0] 24)) := ⟨_, rfl⟩
  rw [← hW0] at S0
  rw [← hW0]
  clear hW0
  refine (HCI.out W0 (HG.out.next S0.out.1) (HP.out.next S0.out.1)).mono ?_
  rintro e w1 ⟨rfl, hb1⟩
  have B1 := Lib.hid (chain S0.out.1 hb1)
  have Z := Lib.hid (S0.out.2.2.2.next hb1)
  have T := Lib.hid (S0.out.2.1.next hb1)
  have HG1 := Lib.hid ((HG.out.next S0.out.1).next hb1)
  have HP1 := Lib.hid ((HP.out.next S0.out.1).next hb1)
  obtain ⟨z0, z1, z2, z3, zf, zl⟩ := Z.out
  obtain ⟨t0, t1, t2, t3, tf, tl⟩ := T.out
  clear hb1 S0 HCI
  go_wp2_with (first | (go_at_call 42; (first | refine (within_yes _ _ _ _ (by omega) (by omega)).mono ?_ | refine (within_no _ _ _ _ (by omega)).mono ?_); rintro e w' ⟨rfl, rfl⟩) | fail)
  refine (copy_any W H A n c A2 m c2 g p w1 HG1.out HP1.out hn hm).mono ?_
  rintro e w2 ⟨A', n', c', A2', m', c2', rfl, o1, o2, hd, hb2⟩
  obtain rfl : n' = n := by have := o1.len; have := HG.out.1; omega
  obtain rfl : m' = m := by have := o2.len; have := HP.out.1; omega
  have B2 := Lib.hid (chain B1.out hb2)
  have Z2 := Lib.hid (Z.out.next hb2)
  obtain ⟨q, cur, rfl, a1, a2, _⟩ : ∃ q cur, A' = some ⟨q, 0, none⟩ ∧ w1.heap.size ≤ q ∧ q < w2.heap.size ∧ w2.heap[q]? = some (.cells cur 3 (0, 0)) := by
    rcases o1.form with ⟨_, e, _⟩ | ⟨q, cur, e, h1, h2, h3, _⟩
    · omega
    · exact ⟨q, cur, e, h1, h2, h3⟩
  obtain ⟨q', cur', rfl, a3, a4, _⟩ : ∃ q cur, A2' = some ⟨q, 0, none⟩ ∧ w1.heap.size ≤ q ∧ q < w2.heap.size ∧ w2.heap[q]? = some (.cells cur 3 (0, 0)) := by
    rcases o2.form with ⟨_, e, _⟩ | ⟨q, cur, e, h1, h2, h3, _⟩
    · omega
    · exact ⟨q, cur, e, h1, h2, h3⟩
  have hqq : q ≠ q' := hd q q' rfl rfl
  have s2 := hb2.size
  have O1 := Lib.hid o1
  have O2 := Lib.hid o2
  have c1 := o1.cell hkn
  have f1 := o1.frozen k
  have d1 := o2.cell hkm
  have f2 := o2.frozen k
  clear o1 o2 hd hb2 z0 z1 z2 z3 zf t0 t1 t2 t3 tf
  obtain ⟨z0, z1, z2, z3, zf, zl2⟩ := Z2.out
  have n1 : q ≠ w2.heap.size := by omega
  have n2 : q' ≠ w2.heap.size := by omega
  have n3 : q ≠ w.heap.size + 2 := by omega
  have n4 : q' ≠ w.heap.size + 2 := by omega
  have n5 : w.heap.size + 2 ≠ w2.heap.size := by omega
  have n6 : q' ≠ q := Ne.symm hqq
  go_wp2
  have Z3 := (Z2.out.far (p := ⟨q, k, none⟩) (Ne.symm n3) (.int .i64 gr)).far (p := ⟨q', k, none⟩) (Ne.symm n4) (.int .i64 pe)
  have yy := set4_at (a := .int .i64 W) (b := .int .i64 H) (c := .slice (some ⟨q, 0, none⟩) n' c') (d := .slice (some ⟨q', 0, none⟩) m' c2') Z3.1 Z3.2.1 Z3.2.2.1 Z3.2.2.2.1
  have n7 : w.heap.size + 1 + 1 < w2.heap.size := by omega
  obtain ⟨y0, y1, y2, y3⟩ := yy
  refine bodyPost_ret (v := .tuple #[.agg #[.int .i64 W, .int .i64 H, .slice (some ⟨q, 0, none⟩) n' c', .slice (some ⟨q', 0, none⟩) m' c2'], .int .i64 0]) (by simp [results, Try.results28, go_sem, y0, y1, y2, y3, n7]) rfl ⟨_, n', c', _, m', c2', rfl, ?_, ?_, ?_, ?_⟩
  · have o := ((O1.out.less (base' := w.heap.size) (by omega)).stored (k := k) gr).far (p := ⟨q', k, none⟩) (fun b e => by injection e with e; injection e with e; subst e; exact hqq) (.int .i64 pe)
    exact (o.far4 (q := w.heap.size + 1 + 1) (fun b e => by injection e with e; injection e with e; subst e; exact n3)).alloc _
  · have o := ((O2.out.less (base' := w.heap.size) (by omega)).far (p := ⟨q, k, none⟩) (fun b e => by injection e with e; injection e with e; subst e; exact n6) (.int .i64 gr)).stored (k := k) pe
    exact (o.far4 (q := w.heap.size + 1 + 1) (fun b e => by injection e with e; injection e with e; subst e; exact n4)).alloc _
  · intro b b' e1 e2
    injection e1 with e1; injection e1 with e1; injection e2 with e2; injection e2 with e2
    omega
  · have b3 := ((B2.out.setCell (p := ⟨q, k, none⟩) (by show w.heap.size ≤ q; omega) (.int .i64 gr)).setCell (p := ⟨q', k, none⟩) (by show w.heap.size ≤ q'; omega) (.int .i64 pe))
    exact (below_set4 (q := w.heap.size + 1 + 1) b3 (by omega)).alloc (by rw [set4_size]; simp [World.setCell]; omega) _
end Go.Proofs.Ytpoceidbiamgaaa
