/- Contract of bandplanref10.Set. -/
import Derived.Test.YtpoceidbiamgaaaWh
set_option linter.unusedVariables false
set_option linter.unusedSimpArgs false
namespace Go.Proofs.Ytpoceidbiamgaaa
open Go.RowKit
set_option maxHeartbeats 4000000 in
set_option maxRecDepth 100000 in
theorem refSet_yes (W H : Int) (A : Option Addr) (n c : Nat) (A2 : Option Addr) (m c2 : Nat) (g p : List Int) (x y gr pe : Int) (w : World) (hG : Ints w w.heap.size A n g) (hP : Ints w w.heap.size A2 m p) (hn : n ≤ 4096) (hm : m ≤ 4096) (hh : hasB W H g p x y = true) :
    Calls Try.prog 29 #[.agg #[.int .i64 W, .int .i64 H, .slice A n c, .slice A2 m c2], .agg #[.int .i64 x, .int .i64 y], .int .i64 gr, .int .i64 pe] w (TerR w W H (g.set (place W (x, y)) gr) (p.set (place W (x, y)) pe)) := by
  obtain ⟨i0, hi0, hz0, hz1, hz2⟩ := info_parts info3
  obtain ⟨ht, x0, x1, y0, y1⟩ := hasB_iff.1 hh
  obtain ⟨⟨v1, v2, v3, v4, v5, v6⟩, _⟩ := terB_iff.1 ht
  obtain ⟨b1, b2⟩ := wh_bd v1 v2 v3 v4
  obtain ⟨z1, z2⟩ := place_bd x0 x1 y0 y1
  obtain ⟨k, hk⟩ : ∃ k : Nat, y * W + x = (k : Int) := ⟨(y * W + x).toNat, by omega⟩
  have hpl : place W (x, y) = k := by show (y * W + x).toNat = k; omega
  rw [hpl]
  rw [hG.1] at v5
  rw [hP.1] at v6
  have hkn0 : k < n := by omega
  have hkm0 : k < m := by omega
  have CI := fun V => refIndex_any W H A n c A2 m c2 x y V v1 v2 x0 (by omega) y0 (by omega)
  rw [hk] at CI
  have HCI := Lib.hid CI
  clear CI hk hpl z1 z2 b1 b2 v5 v6 ht hh
  have HG := Lib.hid hG
  have HP := Lib.hid hP
  clear hG hP
  have S0 := Lib.hid (set_start W H A n c A2 m c2 x y w)
  go_enter Try.func29, Try.ntmps29
  go_upto_region 1 with fail
  obtain ⟨W0, hW0⟩ : ∃ W0, W0 = (((w.alloc (.cells #[.int .i64 W, .int .i64 H, .slice A n c, .slice A2 m c2] 24)).alloc (.cells #[.int .i64 x, .int .i64 y] 26)).alloc (.cells #[.int .i64 0, .int .i64 0, .slice none 0 0, .slice none 0 0] 24)) := ⟨_, rfl⟩
  rw [← hW0] at S0
  rw [← hW0]
  clear hW0
  have HG0 := Lib.hid (HG.out.next S0.out.1)
  have HP0 := Lib.hid (HP.out.next S0.out.1)
  obtain ⟨t0, t1, t2, t3, tf, tl⟩ := S0.out.2.1
  have hS0 : W0.drew.cell? ⟨w.heap.size, 0, none⟩ = some (.int .i64 W) ∧ W0.drew.cell? ⟨w.heap.size, 1, none⟩ = some (.int .i64 H) ∧ W0.drew.cell? ⟨w.heap.size, 2, none⟩ = some (.slice A n c) ∧ W0.drew.cell? ⟨w.heap.size, 3, none⟩ = some (.slice A2 m c2) ∧ Below W0.heap.size W0 W0.drew ∧ w.heap.size < W0.heap.size := ⟨t0, t1, t2, t3, (Below.refl _ _).drew, tl⟩
  go_cut [9] (fun s9 wx => CopS W0 W H g p s9 wx)
  case first =>
    go_region_held3 (fun w' => w'.cell? ⟨w.heap.size, 0, none⟩ = some (.int .i64 W) ∧ w'.cell? ⟨w.heap.size, 1, none⟩ = some (.int .i64 H) ∧ w'.cell? ⟨w.heap.size, 2, none⟩ = some (.slice A n c) ∧ w'.cell? ⟨w.heap.size, 3, none⟩ = some (.slice A2 m c2) ∧ Below W0.heap.size W0 w' ∧ w.heap.size < W0.heap.size)
      (first | (with_reducible assumption) | (with_reducible exact S5_alloc _ (by assumption)) | (with_reducible exact S5_alloc_drew _ (by assumption)) | (with_reducible exact S5_grown (by assumption) hg2) | (with_reducible exact S5_grown (by assumption) hg1) | (with_reducible exact S5_realloc _ _ lw2 (by assumption)) | (with_reducible refine S5_set4 (by assumption) ?_; omega))
      (first | (refine step_append_empty _ (by rfl) (.tmp 14) (.tmp 16) 22 (by rfl) i0 Try.underlying22 hi0 hz0 hz1 hz2 _ (by rfl) W0.heap.size A n c g (by rfl) (HG0.out.below (S5_below (by assumption))) (by omega) ?_; intro A' c' w1 hr1 hg1 ha1; have hB1 := Lib.hid (S5_below (by assumption) : Below W0.heap.size W0 _); obtain ⟨hc1, hf1⟩ := grown_rules hg1; have HR1 := Lib.hid hr1; have HA1 := Lib.hid ha1; have HG1 := Lib.hid hg1; have lw1 : W0.heap.size ≤ w1.heap.size := Nat.le_trans hB1.out.size hg1.size; simp only [alloc_size, drew_size] at hc1 hf1; clear hr1 ha1) | (refine step_append_empty _ (by rfl) (.tmp 18) (.tmp 20) 22 (by rfl) i0 Try.underlying22 hi0 hz0 hz1 hz2 _ (by rfl) W0.heap.size A2 m c2 p (by rfl) (HP0.out.below (S5_below (by assumption))) (by omega) ?_; intro A2' c2' w2 hr2 hg2 ha2; obtain ⟨hc2, hf2⟩ := grown_rules hg2; obtain ⟨hc3, hf3⟩ := rules21 hg2 HG1.out (by first | exact Below.refl _ _ | exact (Below.refl _ _).alloc (Nat.le_refl _) _ | exact ((Below.refl _ _).alloc (Nat.le_refl _) _).alloc (by simp) _); have HR2 := Lib.hid hr2; have HA2 := Lib.hid ha2; have HG2 := Lib.hid hg2; have lw2 : W0.heap.size ≤ w2.heap.size := Nat.le_trans (S5_below (by assumption) : Below W0.heap.size W0 _).size hg2.size; simp only [alloc_size, drew_size] at hc2 hf2 hc3 hf3; clear hr2 ha2))
    all_goals (go_wp2_with fail; go_meet)
    all_goals first | ((with_reducible refine copS_new HR1.out HG1.out HA1.out HR2.out HG2.out HA2.out hB1.out ?_); (next => first | exact Below.refl _ _ | exact (Below.refl _ _).alloc (Nat.le_refl _) _ | exact ((Below.refl _ _).alloc (Nat.le_refl _) _).alloc (by simp) _)) | ((with_reducible refine copS_set (a := .int .i64 0) (b := .int .i64 0) (c' := .slice none 0 0) (d := .slice none 0 0) HR1.out HG1.out HA1.out HR2.out HG2.out HA2.out hB1.out ?_ ?_ ?_ ?_); (next => first | exact Below.refl _ _ | exact (Below.refl _ _).alloc (Nat.le_refl _) _ | exact ((Below.refl _ _).alloc (Nat.le_refl _) _).alloc (by simp) _); (next => repeat (first | ((with_reducible refine Box4.new' _ _ _ _ _ _ _ ?_); (simp; done)) | (with_reducible refine Box4.alloc ?_ _) | (with_reducible refine Box4.drew' ?_) | ((with_reducible refine Box4.grown ?_ HG1.out (by simp))))); (next => omega); (next => first | omega | (simp; done) | (simp; omega)))
  case rest =>
    obtain ⟨q, A', n', c', A2', m', c2', rfl, hbq, r1, r2, hd, hq1, hq2, hq0, hbl⟩ := hcut
    have l1 := HG.out.1
    have l2 := HP.out.1
    obtain rfl : n' = n := by have := r1.1; omega
    obtain rfl : m' = m := by have := r2.1; omega
    have hkn : k < n' := by omega
    have hkm : k < m' := by omega
    have o1 := r1.2 (by omega)
    have o2 := r2.2 (by omega)
    obtain ⟨Q, rfl, a1, a2⟩ : ∃ Q, A' = some ⟨Q, 0, none⟩ ∧ W0.heap.size ≤ Q ∧ Q < wc.heap.size := by
      rcases o1.form with ⟨_, e, _⟩ | ⟨Q, _, e, h1, h2, _⟩
      · omega
      · exact ⟨Q, e, h1, h2⟩
    obtain ⟨R, rfl, a3, a4⟩ : ∃ Q, A2' = some ⟨Q, 0, none⟩ ∧ W0.heap.size ≤ Q ∧ Q < wc.heap.size := by
      rcases o2.form with ⟨_, e, _⟩ | ⟨Q, _, e, h1, h2, _⟩
      · omega
      · exact ⟨Q, e, h1, h2⟩
    have n1 : Q ≠ R := hd Q R (by omega) rfl (by omega) rfl
    have n2 : Q ≠ q := hq1 Q (by omega) rfl
    have n3 : R ≠ q := hq2 R (by omega) rfl
    have s0 : w.heap.size + 3 ≤ W0.heap.size := by have := S0.out.2.2.2.lt; omega
    have BT := Lib.hid (S0.out.2.1.next hbl)
    have BC := Lib.hid (S0.out.2.2.1.next hbl)
    have BZ := Lib.hid (S0.out.2.2.2.next hbl)
    have BQ := Lib.hid hbq
    have O1 := Lib.hid o1
    have O2 := Lib.hid o2
    have BL := Lib.hid (chain S0.out.1 hbl)
    have hqs := hbq.lt
    clear hbq r1 r2 hd hq1 hq2 hbl S0 o1 o2 HG0 HP0 hS0 t0 t1 t2 t3 tf l1 l2 HG HP
    obtain ⟨t0, t1, t2, t3, tf, tl⟩ := BT.out
    obtain ⟨u0, u1, uf, ul⟩ := BC.out
    obtain ⟨p0, p1, p2, p3, pf, pl⟩ := BQ.out
    have d1 := O1.out.cell hkn
    have f1 := O1.out.frozen k
    have ne1 : Q ≠ w.heap.size := by omega
    have ne2 : Q ≠ w.heap.size + 1 := by omega
    have ne3 : R ≠ w.heap.size := by omega
    have ne4 : R ≠ w.heap.size + 1 := by omega
    have i1 : (0 : Int) ≤ (k : Int) := by omega
    have i2 : (k : Int) < (n' : Int) := by omega
    have i3 : (k : Int) < (m' : Int) := by omega
    go_wp2
    go_region_held3 (fun w' => w'.cell? ⟨w.heap.size, 0, none⟩ = some (.int .i64 W) ∧ w'.cell? ⟨w.heap.size, 1, none⟩ = some (.int .i64 H) ∧ w'.cell? ⟨w.heap.size, 2, none⟩ = some (.slice A n' c) ∧ w'.cell? ⟨w.heap.size, 3, none⟩ = some (.slice A2 m' c2) ∧ w'.cell? ⟨w.heap.size + 1, 0, none⟩ = some (.int .i64 x) ∧ w'.cell? ⟨w.heap.size + 1, 1, none⟩ = some (.int .i64 y) ∧ w'.cell? ⟨q, 2, none⟩ = some (.slice (some ⟨Q, 0, none⟩) n' c'))
      (first | go_keep | exact ⟨by assumption, by assumption, by assumption, by assumption, by assumption, by assumption, by assumption⟩)
      (first | (go_at_call 21; refine (HCI.out _).mono ?_; rintro e w1 ⟨rfl, hb1⟩; have HB1 := Lib.hid hb1; obtain ⟨t0, t1, t2, t3, tf, tl⟩ := (Box4.drew' BT.out).next hb1; obtain ⟨u0, u1, uf, ul⟩ := (Box2.drewN BC.out 1).next hb1; obtain ⟨p0, p1, p2, p3, pf, pl⟩ := (Box4.drew' BQ.out).next hb1; have d1 := (O1.out.drewN 1 |>.next hb1).cell hkn; have f1 := (O1.out.drewN 1 |>.next hb1).frozen k; clear hb1))
    go_wp2
    clear t0 t1 t2 t3 tf tl u0 u1 uf ul p0 p1 p2 p3 pf pl d1 f1
    obtain ⟨V2, hV2⟩ : ∃ V2, V2 = w1.setCell ⟨Q, k, none⟩ (.int .i64 gr) := ⟨_, rfl⟩
    have E1 := HB1.out.size
    have E2 : V2.heap.size = w1.heap.size := by rw [hV2]; simp [World.setCell]
    have BT2 := Lib.hid (((Box4.drew' BT.out).next HB1.out).far (p := ⟨Q, k, none⟩) (Ne.symm ne1) (.int .i64 gr))
    have BC2 := Lib.hid (((Box2.drewN BC.out 1).next HB1.out).far (p := ⟨Q, k, none⟩) (Ne.symm ne2) (.int .i64 gr))
    have BZ2 := Lib.hid (((Box4.drew' BZ.out).next HB1.out).far (p := ⟨Q, k, none⟩) (by show _ ≠ Q; omega) (.int .i64 gr))
    have BQ2 := Lib.hid (((Box4.drew' BQ.out).next HB1.out).far (p := ⟨Q, k, none⟩) (Ne.symm n2) (.int .i64 gr))
    have O12 := Lib.hid (((O1.out.drewN 1).next HB1.out).stored (k := k) gr)
    have O22 := Lib.hid (((O2.out.drewN 1).next HB1.out).far (p := ⟨Q, k, none⟩) (fun b e => by injection e with e; injection e with e; subst e; exact Ne.symm n1) (.int .i64 gr))
    have BL2 := Lib.hid ((chain BL.out.drew HB1.out).setCell (p := ⟨Q, k, none⟩) (by show w.heap.size ≤ Q; omega) (.int .i64 gr))
    rw [← hV2] at BT2 BC2 BZ2 BQ2 O12 O22 BL2
    rw [← hV2]
    have E3 : wc.heap.size ≤ w1.heap.size := E1
    have HE2 := Lib.hid E2
    have n8 : Q < V2.heap.size := by omega
    have n9 : R < V2.heap.size := by omega
    clear hV2 E2 BT BC BZ BQ O1 O2 BL HB1
    obtain ⟨t0, t1, t2, t3, tf, tl⟩ := BT2.out
    obtain ⟨u0, u1, uf, ul⟩ := BC2.out
    obtain ⟨p0, p1, p2, p3, pf, pl⟩ := BQ2.out
    have d1 := O22.out.cell hkm
    have f1 := O22.out.frozen k
    go_region_held3 (fun w' => w'.cell? ⟨w.heap.size, 0, none⟩ = some (.int .i64 W) ∧ w'.cell? ⟨w.heap.size, 1, none⟩ = some (.int .i64 H) ∧ w'.cell? ⟨w.heap.size, 2, none⟩ = some (.slice A n' c) ∧ w'.cell? ⟨w.heap.size, 3, none⟩ = some (.slice A2 m' c2) ∧ w'.cell? ⟨w.heap.size + 1, 0, none⟩ = some (.int .i64 x) ∧ w'.cell? ⟨w.heap.size + 1, 1, none⟩ = some (.int .i64 y) ∧ w'.cell? ⟨q, 3, none⟩ = some (.slice (some ⟨R, 0, none⟩) m' c2'))
      (first | go_keep | exact ⟨by assumption, by assumption, by assumption, by assumption, by assumption, by assumption, by assumption⟩)
      (first | (go_at_call 21; refine (HCI.out _).mono ?_; rintro e w3 ⟨rfl, hb3⟩; have HB3 := Lib.hid hb3; obtain ⟨t0, t1, t2, t3, tf, tl⟩ := (Box4.drew' BT2.out).next hb3; obtain ⟨u0, u1, uf, ul⟩ := (Box2.drewN BC2.out 1).next hb3; obtain ⟨p0, p1, p2, p3, pf, pl⟩ := (Box4.drew' BQ2.out).next hb3; have d1 := (O22.out.drewN 1 |>.next hb3).cell hkm; have f1 := (O22.out.drewN 1 |>.next hb3).frozen k; clear hb3))
    have Z3 := ((Box4.drew' BZ2.out).next HB3.out)
    have ne5 : R ≠ w.heap.size + 1 + 1 := by omega
    have ne6 : q ≠ w.heap.size + 1 + 1 := by omega
    obtain ⟨z0, z1, z2, z3, zf, zl⟩ := Z3
    go_wp2
    have E4 : V2.heap.size ≤ w3.heap.size := HB3.out.size
    have e2 := HE2.out
    have Z4 := ((Box4.drew' BZ2.out).next HB3.out).far (p := ⟨R, k, none⟩) (by show _ ≠ R; omega) (.int .i64 pe)
    have yy := set4_at (a := .int .i64 W) (b := .int .i64 H) (c := .slice (some ⟨Q, 0, none⟩) n' c') (d := .slice (some ⟨R, 0, none⟩) m' c2') Z4.1 Z4.2.1 Z4.2.2.1 Z4.2.2.2.1
    obtain ⟨y0, y1, y2, y3⟩ := yy
    refine bodyPost_ret (v := .agg #[.int .i64 W, .int .i64 H, .slice (some ⟨Q, 0, none⟩) n' c', .slice (some ⟨R, 0, none⟩) m' c2']) (by simp [results, Try.results29, go_sem, y0, y1, y2, y3]) rfl ⟨_, n', c', _, m', c2', rfl, ?_, ?_, ?_, ?_⟩
    · have o := (((O12.out.less (base' := w.heap.size) (by omega)).drewN 1).next HB3.out).far (p := ⟨R, k, none⟩) (fun b e => by injection e with e; injection e with e; subst e; exact n1) (.int .i64 pe)
      exact o.far4 (q := w.heap.size + 1 + 1) (fun b e => by injection e with e; injection e with e; subst e; omega)
    · have o := (((O22.out.less (base' := w.heap.size) (by omega)).drewN 1).next HB3.out).stored (k := k) pe
      exact o.far4 (q := w.heap.size + 1 + 1) (fun b e => by injection e with e; injection e with e; subst e; exact ne5)
    · intro b b' e1 e2
      injection e1 with e1; injection e1 with e1; injection e2 with e2; injection e2 with e2
      omega
    · have b3 := (chain BL2.out.drew HB3.out).setCell (p := ⟨R, k, none⟩) (by show w.heap.size ≤ R; omega) (.int .i64 pe)
      exact below_set4 (q := w.heap.size + 1 + 1) b3 (by omega)
end Go.Proofs.Ytpoceidbiamgaaa
