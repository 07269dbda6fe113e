/- TerrainSets: the walk of the law. -/
import Derived.Test.YtpoceidbiamgaaaWs
set_option linter.unusedVariables false
set_option linter.unusedSimpArgs false
namespace Go.Proofs.Ytpoceidbiamgaaa
open Go.RowKit

theorem tc_start6 (W H : Int) (A : Option Addr) (n c : Nat) (A2 : Option Addr) (m c2 : Nat) (g p : List Int) (x y : Int) (w : World) : Below w.heap.size w ((w.alloc (.cells #[.int .i64 W, .int .i64 H, .slice A n c, .slice A2 m c2] 24)).alloc (.cells #[.int .i64 x, .int .i64 y] 26)) ∧ Box4 ((w.alloc (.cells #[.int .i64 W, .int .i64 H, .slice A n c, .slice A2 m c2] 24)).alloc (.cells #[.int .i64 x, .int .i64 y] 26)) w.heap.size (.int .i64 W) (.int .i64 H) (.slice A n c) (.slice A2 m c2) ∧ Box2 ((w.alloc (.cells #[.int .i64 W, .int .i64 H, .slice A n c, .slice A2 m c2] 24)).alloc (.cells #[.int .i64 x, .int .i64 y] 26)) (w.heap.size + 1) (.int .i64 x) (.int .i64 y) := by
  refine ⟨((Below.refl _ _).alloc (Nat.le_refl _) _).alloc (by simp) _, (Box4.new w _ _ _ _ _).alloc _, ?_⟩
  have := Box2.new (w.alloc (.cells #[.int .i64 W, .int .i64 H, .slice A n c, .slice A2 m c2] 24)) (.int .i64 x) (.int .i64 y) 26
  rwa [alloc_size] at this
theorem eq0' : eqT 0 0 [] [] 0 0 [] [] = true := by decide
set_option maxHeartbeats 4000000 in
set_option maxRecDepth 100000 in
theorem law6_big (W H : Int) (A : Option Addr) (n c : Nat) (A2 : Option Addr) (m c2 : Nat) (g p : List Int) (x y gr pe : Int) (w : World) (hG : Ints w w.heap.size A n g) (hP : Ints w w.heap.size A2 m p) (hb : 300 < n ∨ 300 < m) : Calls Try.prog 6 #[.agg #[.int .i64 W, .int .i64 H, .slice A n c, .slice A2 m c2], .agg #[.int .i64 x, .int .i64 y], .int .i64 gr, .int .i64 pe] w (KnownOk w) := by
  have GI0 := Lib.hid hG
  have PI0 := Lib.hid hP
  have S0 := Lib.hid (tc_start6 W H A n c A2 m c2 g p x y w)
  clear hG hP
  go_enter Try.func6, Try.ntmps6
  go_wp2_with fail
  obtain ⟨W0, hW0⟩ : ∃ W0, W0 = ((w.alloc (.cells #[.int .i64 W, .int .i64 H, .slice A n c, .slice A2 m c2] 24)).alloc (.cells #[.int .i64 x, .int .i64 y] 26)) := ⟨_, rfl⟩
  rw [← hW0] at S0
  rw [← hW0]
  clear hW0
  have BL := Lib.hid S0.out.1
  have TB := Lib.hid S0.out.2.1
  have CB := Lib.hid S0.out.2.2
  have GI := Lib.hid (GI0.out.next S0.out.1)
  have PI := Lib.hid (PI0.out.next S0.out.1)
  clear S0 GI0 PI0
  refine (big_any W H A n c A2 m c2 W0).mono ?_
  rintro e w1 ⟨rfl, hb⟩
  have BL := Lib.hid (chain BL.out hb)
  have TB := Lib.hid (Box4.next (w := W0) TB.out hb)
  have CB := Lib.hid (Box2.next (w := W0) CB.out hb)
  have GI := Lib.hid (Ints.next (w := W0) GI.out hb)
  have PI := Lib.hid (Ints.next (w := W0) PI.out hb)
  clear hb
  rw [show bigB n m = true by simp [bigB]; omega]
  go_wp2_with fail
  refine (known_any w1).mono ?_
  rintro e w2 ⟨rfl, hb⟩
  have BL := Lib.hid (chain BL.out hb)
  have TB := Lib.hid (Box4.next (w := w1) TB.out hb)
  have CB := Lib.hid (Box2.next (w := w1) CB.out hb)
  have GI := Lib.hid (Ints.next (w := w1) GI.out hb)
  have PI := Lib.hid (Ints.next (w := w1) PI.out hb)
  clear hb
  go_wp2
  go_ret
  exact ⟨rfl, BL.out⟩
set_option maxHeartbeats 4000000 in
set_option maxRecDepth 100000 in
theorem law6_no (W H : Int) (A : Option Addr) (n c : Nat) (A2 : Option Addr) (m c2 : Nat) (g p : List Int) (x y gr pe : Int) (w : World) (hG : Ints w w.heap.size A n g) (hP : Ints w w.heap.size A2 m p) (hn : n ≤ 300) (hm : m ≤ 300) (h : ¬ (hasB W H g p x y = true ∧ 0 ≤ gr ∧ gr ≤ 9000 ∧ 0 ≤ pe ∧ pe ≤ 1000000)) : Calls Try.prog 6 #[.agg #[.int .i64 W, .int .i64 H, .slice A n c, .slice A2 m c2], .agg #[.int .i64 x, .int .i64 y], .int .i64 gr, .int .i64 pe] w (KnownOk w) := by
  obtain ⟨i0, hi0, hz0, hz1, hz2⟩ := info_parts info3
  have HE0 := Lib.hid eq0'
  have HS := Lib.hid (eqT_self W H g p)
  have HN : Hid (∀ V, Ints V V.heap.size A n g → Ints V V.heap.size A2 m p → Calls Try.prog 28 #[.agg #[.int .i64 W, .int .i64 H, .slice A n c, .slice A2 m c2], .agg #[.int .i64 x, .int .i64 y], .int .i64 gr, .int .i64 pe] V (TerNo V)) := fun V q1 q2 => set_no W H A n c A2 m c2 g p x y gr pe V q1 q2 (by omega) (by omega) h
  obtain ⟨E, hE⟩ : ∃ E, hasB W H g p x y = E := ⟨_, rfl⟩
  have KK : Hid (E = true → gr < 0 ∨ (0 ≤ gr ∧ 9000 < gr) ∨ (0 ≤ gr ∧ gr ≤ 9000 ∧ pe < 0) ∨ (0 ≤ gr ∧ gr ≤ 9000 ∧ 0 ≤ pe ∧ 1000000 < pe)) := fun e => by
    rw [hE] at h
    have h' : ¬ (0 ≤ gr ∧ gr ≤ 9000 ∧ 0 ≤ pe ∧ pe ≤ 1000000) := fun q => h ⟨e, q⟩
    omega
  have HHB := Lib.hid hE
  clear hE h
  have GI0 := Lib.hid hG
  have PI0 := Lib.hid hP
  have S0 := Lib.hid (tc_start6 W H A n c A2 m c2 g p x y w)
  clear hG hP
  go_enter Try.func6, Try.ntmps6
  go_wp2_with fail
  obtain ⟨W0, hW0⟩ : ∃ W0, W0 = ((w.alloc (.cells #[.int .i64 W, .int .i64 H, .slice A n c, .slice A2 m c2] 24)).alloc (.cells #[.int .i64 x, .int .i64 y] 26)) := ⟨_, rfl⟩
  rw [← hW0] at S0
  rw [← hW0]
  clear hW0
  have BL := Lib.hid S0.out.1
  have TB := Lib.hid S0.out.2.1
  have CB := Lib.hid S0.out.2.2
  have GI := Lib.hid (GI0.out.next S0.out.1)
  have PI := Lib.hid (PI0.out.next S0.out.1)
  clear S0 GI0 PI0
  refine (big_any W H A n c A2 m c2 W0).mono ?_
  rintro e w1 ⟨rfl, hb⟩
  have BL := Lib.hid (chain BL.out hb)
  have TB := Lib.hid (Box4.next (w := W0) TB.out hb)
  have CB := Lib.hid (Box2.next (w := W0) CB.out hb)
  have GI := Lib.hid (Ints.next (w := W0) GI.out hb)
  have PI := Lib.hid (Ints.next (w := W0) PI.out hb)
  clear hb
  rw [show bigB n m = false by simp [bigB]; omega]
  go_upto_region 3 with fail
  obtain ⟨W0, hW0⟩ : ∃ W0, W0 = w1 := ⟨_, rfl⟩
  rw [← hW0] at BL TB CB GI PI
  rw [← hW0]
  clear hW0
  have HG0 := GI
  have HP0 := PI
  obtain ⟨t0, t1, t2, t3, tf, tl⟩ := TB.out
  have hS0 : W0.drew.cell? ⟨w.heap.size, 0, none⟩ = some (.int .i64 W) ∧ W0.drew.cell? ⟨w.heap.size, 1, none⟩ = some (.int .i64 H) ∧ W0.drew.cell? ⟨w.heap.size, 2, none⟩ = some (.slice A n c) ∧ W0.drew.cell? ⟨w.heap.size, 3, none⟩ = some (.slice A2 m c2) ∧ Below W0.heap.size W0 W0.drew ∧ w.heap.size < W0.heap.size := ⟨t0, t1, t2, t3, (Below.refl _ _).drew, tl⟩
  go_cut [9] (fun s9 wx => CopS W0 W H g p s9 wx)
  case first =>
    go_region_held3 (fun w' => w'.cell? ⟨w.heap.size, 0, none⟩ = some (.int .i64 W) ∧ w'.cell? ⟨w.heap.size, 1, none⟩ = some (.int .i64 H) ∧ w'.cell? ⟨w.heap.size, 2, none⟩ = some (.slice A n c) ∧ w'.cell? ⟨w.heap.size, 3, none⟩ = some (.slice A2 m c2) ∧ Below W0.heap.size W0 w' ∧ w.heap.size < W0.heap.size)
      (first | (with_reducible assumption) | (with_reducible exact S5_alloc _ (by assumption)) | (with_reducible exact S5_alloc_drew _ (by assumption)) | (with_reducible exact S5_grown (by assumption) hg2) | (with_reducible exact S5_grown (by assumption) hg1) | (with_reducible exact S5_realloc _ _ lw2 (by assumption)) | (with_reducible refine S5_set4 (by assumption) ?_; omega))
      (first | (refine step_append_empty _ (by rfl) (.tmp 20) (.tmp 22) 22 (by rfl) i0 Try.underlying22 hi0 hz0 hz1 hz2 _ (by rfl) W0.heap.size A n c g (by rfl) (HG0.out.below (S5_below (by assumption))) (by omega) ?_; intro A' c' w1 hr1 hg1 ha1; have hB1 := Lib.hid (S5_below (by assumption) : Below W0.heap.size W0 _); obtain ⟨hc1, hf1⟩ := grown_rules hg1; have HR1 := Lib.hid hr1; have HA1 := Lib.hid ha1; have HG1 := Lib.hid hg1; have lw1 : W0.heap.size ≤ w1.heap.size := Nat.le_trans hB1.out.size hg1.size; simp only [alloc_size, drew_size] at hc1 hf1; clear hr1 ha1) | (refine step_append_empty _ (by rfl) (.tmp 24) (.tmp 26) 22 (by rfl) i0 Try.underlying22 hi0 hz0 hz1 hz2 _ (by rfl) W0.heap.size A2 m c2 p (by rfl) (HP0.out.below (S5_below (by assumption))) (by omega) ?_; intro A2' c2' w2 hr2 hg2 ha2; obtain ⟨hc2, hf2⟩ := grown_rules hg2; obtain ⟨hc3, hf3⟩ := rules21 hg2 HG1.out (by first | exact Below.refl _ _ | exact (Below.refl _ _).alloc (Nat.le_refl _) _ | exact ((Below.refl _ _).alloc (Nat.le_refl _) _).alloc (by simp) _); have HR2 := Lib.hid hr2; have HA2 := Lib.hid ha2; have HG2 := Lib.hid hg2; have lw2 : W0.heap.size ≤ w2.heap.size := Nat.le_trans (S5_below (by assumption) : Below W0.heap.size W0 _).size hg2.size; simp only [alloc_size, drew_size] at hc2 hf2 hc3 hf3; clear hr2 ha2))
    all_goals (go_wp2_with fail; go_meet)
    all_goals first | ((with_reducible refine copS_new HR1.out HG1.out HA1.out HR2.out HG2.out HA2.out hB1.out ?_); (next => first | exact Below.refl _ _ | exact (Below.refl _ _).alloc (Nat.le_refl _) _ | exact ((Below.refl _ _).alloc (Nat.le_refl _) _).alloc (by simp) _)) | ((with_reducible refine copS_set (a := .int .i64 0) (b := .int .i64 0) (c' := .slice none 0 0) (d := .slice none 0 0) HR1.out HG1.out HA1.out HR2.out HG2.out HA2.out hB1.out ?_ ?_ ?_ ?_); (next => first | exact Below.refl _ _ | exact (Below.refl _ _).alloc (Nat.le_refl _) _ | exact ((Below.refl _ _).alloc (Nat.le_refl _) _).alloc (by simp) _); (next => repeat (first | ((with_reducible refine Box4.new' _ _ _ _ _ _ _ ?_); (simp; done)) | (with_reducible refine Box4.alloc ?_ _) | (with_reducible refine Box4.drew' ?_) | ((with_reducible refine Box4.grown ?_ HG1.out (by simp))))); (next => omega); (next => first | omega | (simp; done) | (simp; omega)))
  case rest =>
    obtain ⟨q5, A5, n5, c5, A6, m6, c6, rfl, hbq, r1, r2, _, _, _, hq0, hbl⟩ := hcut
    obtain ⟨wB, hwB⟩ : ∃ wB, wB = wc := ⟨_, rfl⟩
    rw [← hwB] at hbq r1 r2 hbl
    rw [← hwB]
    clear hwB t0 t1 t2 t3 tf tl hS0 HG0 HP0
    have BL := Lib.hid (chain BL.out hbl)
    have TB := Lib.hid (TB.out.next hbl)
    have CB := Lib.hid (CB.out.next hbl)
    have GI := Lib.hid (GI.out.next hbl)
    have PI := Lib.hid (PI.out.next hbl)
    have SB := Lib.hid hbq
    have WG := Lib.hid r1.ints
    have WP := Lib.hid r2.ints
    obtain rfl : n5 = n := by have e1 := r1.1; have e2 := GI.out.1; omega
    obtain rfl : m6 = m := by have e1 := r2.1; have e2 := PI.out.1; omega
    clear hbq r1 r2 hbl
    obtain ⟨t0, t1, t2, t3, tf, tl⟩ := TB.out
    obtain ⟨u0, u1, uf, ul⟩ := CB.out
    go_wp2_with fail
    clear t0 t1 t2 t3 tf tl u0 u1 uf ul
    refine (HN.out wB GI.out PI.out).mono ?_
    rintro e w7 ⟨rfl, hb⟩
    have BL := Lib.hid (chain BL.out hb)
    have TB := Lib.hid (Box4.next (w := wB) TB.out hb)
    have CB := Lib.hid (Box2.next (w := wB) CB.out hb)
    have SB := Lib.hid (Box4.next (w := wB) SB.out hb)
    have GI := Lib.hid (Ints.next (w := wB) GI.out hb)
    have PI := Lib.hid (Ints.next (w := wB) PI.out hb)
    have WG := Lib.hid (Ints.next (w := wB) WG.out hb)
    have WP := Lib.hid (Ints.next (w := wB) WP.out hb)
    clear hb
    obtain ⟨t0, t1, t2, t3, tf, tl⟩ := TB.out
    obtain ⟨u0, u1, uf, ul⟩ := CB.out
    go_wp2_with fail
    clear t0 t1 t2 t3 tf tl u0 u1 uf ul
    obtain ⟨V7, hV7⟩ : ∃ V, V = w7.alloc (.cells #[.int .i64 0, .int .i64 0, .slice none 0 0, .slice none 0 0] 24) := ⟨_, rfl⟩
    have hb : Below w7.heap.size w7 V7 := by rw [hV7]; exact (Below.refl _ _).alloc (Nat.le_refl _) _
    have BL := Lib.hid (chain BL.out hb)
    have TB := Lib.hid (Box4.next (w := w7) TB.out hb)
    have CB := Lib.hid (Box2.next (w := w7) CB.out hb)
    have SB := Lib.hid (Box4.next (w := w7) SB.out hb)
    have GI := Lib.hid (Ints.next (w := w7) GI.out hb)
    have PI := Lib.hid (Ints.next (w := w7) PI.out hb)
    have WG := Lib.hid (Ints.next (w := w7) WG.out hb)
    have WP := Lib.hid (Ints.next (w := w7) WP.out hb)
    clear hb
    have UB : Hid (Box4 V7 w7.heap.size (.int .i64 0) (.int .i64 0) (.slice none 0 0) (.slice none 0 0)) := by rw [hV7]; exact Box4.new _ _ _ _ _ _
    rw [← hV7]
    clear hV7
    refine (refHas_any W H A n5 c A2 m6 c2 g p x y V7 GI.out PI.out (by omega) (by omega)).mono ?_
    rintro e w8 ⟨he, hb⟩
    rw [HHB.out] at he
    subst he
    have BL := Lib.hid (chain BL.out hb)
    have TB := Lib.hid (Box4.next (w := V7) TB.out hb)
    have CB := Lib.hid (Box2.next (w := V7) CB.out hb)
    have SB := Lib.hid (Box4.next (w := V7) SB.out hb)
    have GI := Lib.hid (Ints.next (w := V7) GI.out hb)
    have PI := Lib.hid (Ints.next (w := V7) PI.out hb)
    have WG := Lib.hid (Ints.next (w := V7) WG.out hb)
    have WP := Lib.hid (Ints.next (w := V7) WP.out hb)
    have UB := Lib.hid (Box4.next (w := V7) UB.out hb)
    clear hb
    cases E
    all_goals try (rcases KK.out rfl with k1 | ⟨k1, k2⟩ | ⟨k1, k2, k3⟩ | ⟨k1, k2, k3, k4⟩)
    all_goals
      obtain ⟨v0, v1, v2, v3, vf, vl⟩ := UB.out
      go_wp2_with fail
      clear v0 v1 v2 v3 vf vl
      refine (refEqual_any 0 0 none 0 0 none 0 0 [] [] 0 0 none 0 0 none 0 0 [] [] w8 Ints.nil Ints.nil (by omega) (by omega) Ints.nil Ints.nil (by omega) (by omega)).mono ?_
      rintro e w9 ⟨he, hb⟩
      rw [HE0.out] at he
      subst he
      have BL := Lib.hid (chain BL.out hb)
      have TB := Lib.hid (Box4.next (w := w8) TB.out hb)
      have CB := Lib.hid (Box2.next (w := w8) CB.out hb)
      have SB := Lib.hid (Box4.next (w := w8) SB.out hb)
      have GI := Lib.hid (Ints.next (w := w8) GI.out hb)
      have PI := Lib.hid (Ints.next (w := w8) PI.out hb)
      have WG := Lib.hid (Ints.next (w := w8) WG.out hb)
      have WP := Lib.hid (Ints.next (w := w8) WP.out hb)
      have UB := Lib.hid (Box4.next (w := w8) UB.out hb)
      clear hb
      obtain ⟨t0, t1, t2, t3, tf, tl⟩ := TB.out
      obtain ⟨s0, s1, s2, s3, sf, sl⟩ := SB.out
      go_wp2_with fail
      clear t0 t1 t2 t3 tf tl s0 s1 s2 s3 sf sl
      refine (refEqual_any W H A n5 c A2 m6 c2 g p W H A5 n5 c5 A6 m6 c6 g p w9 GI.out PI.out (by omega) (by omega) WG.out WP.out (by omega) (by omega)).mono ?_
      rintro e w10 ⟨he, hb⟩
      rw [HS.out] at he
      subst he
      have BL := Lib.hid (chain BL.out hb)
      have TB := Lib.hid (Box4.next (w := w9) TB.out hb)
      have CB := Lib.hid (Box2.next (w := w9) CB.out hb)
      have SB := Lib.hid (Box4.next (w := w9) SB.out hb)
      have GI := Lib.hid (Ints.next (w := w9) GI.out hb)
      have PI := Lib.hid (Ints.next (w := w9) PI.out hb)
      have WG := Lib.hid (Ints.next (w := w9) WG.out hb)
      have WP := Lib.hid (Ints.next (w := w9) WP.out hb)
      have UB := Lib.hid (Box4.next (w := w9) UB.out hb)
      clear hb
      go_wp2_with fail
      refine (known_any w10).mono ?_
      rintro e w11 ⟨rfl, hb⟩
      have BL := Lib.hid (chain BL.out hb)
      have TB := Lib.hid (Box4.next (w := w10) TB.out hb)
      have CB := Lib.hid (Box2.next (w := w10) CB.out hb)
      have SB := Lib.hid (Box4.next (w := w10) SB.out hb)
      have GI := Lib.hid (Ints.next (w := w10) GI.out hb)
      have PI := Lib.hid (Ints.next (w := w10) PI.out hb)
      have WG := Lib.hid (Ints.next (w := w10) WG.out hb)
      have WP := Lib.hid (Ints.next (w := w10) WP.out hb)
      have UB := Lib.hid (Box4.next (w := w10) UB.out hb)
      clear hb
      go_wp2
      go_ret
      exact ⟨rfl, BL.out⟩
set_option maxHeartbeats 4000000 in
set_option maxRecDepth 100000 in
theorem law6_yes (W H : Int) (A : Option Addr) (n c : Nat) (A2 : Option Addr) (m c2 : Nat) (g p : List Int) (x y gr pe : Int) (w : World) (hG : Ints w w.heap.size A n g) (hP : Ints w w.heap.size A2 m p) (hn : n ≤ 300) (hm : m ≤ 300) (hh : hasB W H g p x y = true) (k1 : 0 ≤ gr) (k2 : gr ≤ 9000) (k3 : 0 ≤ pe) (k4 : pe ≤ 1000000) : Calls Try.prog 6 #[.agg #[.int .i64 W, .int .i64 H, .slice A n c, .slice A2 m c2], .agg #[.int .i64 x, .int .i64 y], .int .i64 gr, .int .i64 pe] w (KnownOk w) := by
  obtain ⟨i0, hi0, hz0, hz1, hz2⟩ := info_parts info3
  have HS := Lib.hid (eqT_self W H g p)
  have HS2 := Lib.hid (eqT_self W H (g.set (place W (x, y)) gr) (p.set (place W (x, y)) pe))
  have HY : Hid (∀ V, Ints V V.heap.size A n g → Ints V V.heap.size A2 m p → Calls Try.prog 28 #[.agg #[.int .i64 W, .int .i64 H, .slice A n c, .slice A2 m c2], .agg #[.int .i64 x, .int .i64 y], .int .i64 gr, .int .i64 pe] V (TerRE V W H (g.set (place W (x, y)) gr) (p.set (place W (x, y)) pe))) := fun V q1 q2 => set_yes W H A n c A2 m c2 g p x y gr pe V q1 q2 (by omega) (by omega) hh k1 k2 k3 k4
  have HRS : Hid (∀ V, Ints V V.heap.size A n g → Ints V V.heap.size A2 m p → Calls Try.prog 29 #[.agg #[.int .i64 W, .int .i64 H, .slice A n c, .slice A2 m c2], .agg #[.int .i64 x, .int .i64 y], .int .i64 gr, .int .i64 pe] V (TerR V W H (g.set (place W (x, y)) gr) (p.set (place W (x, y)) pe))) := fun V q1 q2 => refSet_yes W H A n c A2 m c2 g p x y gr pe V q1 q2 (by omega) (by omega) hh
  have HHB := Lib.hid hh
  have HMN : Hid (n = m) := by
    obtain ⟨ht, _⟩ := hasB_iff.1 hh
    obtain ⟨⟨_, _, _, _, v5, v6⟩, _⟩ := terB_iff.1 ht
    rw [hG.1] at v5
    rw [hP.1] at v6
    show n = m
    omega
  clear hh
  have GI0 := Lib.hid hG
  have PI0 := Lib.hid hP
  have S0 := Lib.hid (tc_start6 W H A n c A2 m c2 g p x y w)
  clear hG hP
  go_enter Try.func6, Try.ntmps6
  go_wp2_with fail
  obtain ⟨W0, hW0⟩ : ∃ W0, W0 = ((w.alloc (.cells #[.int .i64 W, .int .i64 H, .slice A n c, .slice A2 m c2] 24)).alloc (.cells #[.int .i64 x, .int .i64 y] 26)) := ⟨_, rfl⟩
  rw [← hW0] at S0
  rw [← hW0]
  clear hW0
  have BL := Lib.hid S0.out.1
  have TB := Lib.hid S0.out.2.1
  have CB := Lib.hid S0.out.2.2
  have GI := Lib.hid (GI0.out.next S0.out.1)
  have PI := Lib.hid (PI0.out.next S0.out.1)
  clear S0 GI0 PI0
  refine (big_any W H A n c A2 m c2 W0).mono ?_
  rintro e w1 ⟨rfl, hb⟩
  have BL := Lib.hid (chain BL.out hb)
  have TB := Lib.hid (Box4.next (w := W0) TB.out hb)
  have CB := Lib.hid (Box2.next (w := W0) CB.out hb)
  have GI := Lib.hid (Ints.next (w := W0) GI.out hb)
  have PI := Lib.hid (Ints.next (w := W0) PI.out hb)
  clear hb
  rw [show bigB n m = false by simp [bigB]; omega]
  go_upto_region 3 with fail
  obtain ⟨W0, hW0⟩ : ∃ W0, W0 = w1 := ⟨_, rfl⟩
  rw [← hW0] at BL TB CB GI PI
  rw [← hW0]
  clear hW0
  have HG0 := GI
  have HP0 := PI
  obtain ⟨t0, t1, t2, t3, tf, tl⟩ := TB.out
  have hS0 : W0.drew.cell? ⟨w.heap.size, 0, none⟩ = some (.int .i64 W) ∧ W0.drew.cell? ⟨w.heap.size, 1, none⟩ = some (.int .i64 H) ∧ W0.drew.cell? ⟨w.heap.size, 2, none⟩ = some (.slice A n c) ∧ W0.drew.cell? ⟨w.heap.size, 3, none⟩ = some (.slice A2 m c2) ∧ Below W0.heap.size W0 W0.drew ∧ w.heap.size < W0.heap.size := ⟨t0, t1, t2, t3, (Below.refl _ _).drew, tl⟩
  go_cut [9] (fun s9 wx => CopS W0 W H g p s9 wx)
  case first =>
    go_region_held3 (fun w' => w'.cell? ⟨w.heap.size, 0, none⟩ = some (.int .i64 W) ∧ w'.cell? ⟨w.heap.size, 1, none⟩ = some (.int .i64 H) ∧ w'.cell? ⟨w.heap.size, 2, none⟩ = some (.slice A n c) ∧ w'.cell? ⟨w.heap.size, 3, none⟩ = some (.slice A2 m c2) ∧ Below W0.heap.size W0 w' ∧ w.heap.size < W0.heap.size)
      (first | (with_reducible assumption) | (with_reducible exact S5_alloc _ (by assumption)) | (with_reducible exact S5_alloc_drew _ (by assumption)) | (with_reducible exact S5_grown (by assumption) hg2) | (with_reducible exact S5_grown (by assumption) hg1) | (with_reducible exact S5_realloc _ _ lw2 (by assumption)) | (with_reducible refine S5_set4 (by assumption) ?_; omega))
      (first | (refine step_append_empty _ (by rfl) (.tmp 20) (.tmp 22) 22 (by rfl) i0 Try.underlying22 hi0 hz0 hz1 hz2 _ (by rfl) W0.heap.size A n c g (by rfl) (HG0.out.below (S5_below (by assumption))) (by omega) ?_; intro A' c' w1 hr1 hg1 ha1; have hB1 := Lib.hid (S5_below (by assumption) : Below W0.heap.size W0 _); obtain ⟨hc1, hf1⟩ := grown_rules hg1; have HR1 := Lib.hid hr1; have HA1 := Lib.hid ha1; have HG1 := Lib.hid hg1; have lw1 : W0.heap.size ≤ w1.heap.size := Nat.le_trans hB1.out.size hg1.size; simp only [alloc_size, drew_size] at hc1 hf1; clear hr1 ha1) | (refine step_append_empty _ (by rfl) (.tmp 24) (.tmp 26) 22 (by rfl) i0 Try.underlying22 hi0 hz0 hz1 hz2 _ (by rfl) W0.heap.size A2 m c2 p (by rfl) (HP0.out.below (S5_below (by assumption))) (by omega) ?_; intro A2' c2' w2 hr2 hg2 ha2; obtain ⟨hc2, hf2⟩ := grown_rules hg2; obtain ⟨hc3, hf3⟩ := rules21 hg2 HG1.out (by first | exact Below.refl _ _ | exact (Below.refl _ _).alloc (Nat.le_refl _) _ | exact ((Below.refl _ _).alloc (Nat.le_refl _) _).alloc (by simp) _); have HR2 := Lib.hid hr2; have HA2 := Lib.hid ha2; have HG2 := Lib.hid hg2; have lw2 : W0.heap.size ≤ w2.heap.size := Nat.le_trans (S5_below (by assumption) : Below W0.heap.size W0 _).size hg2.size; simp only [alloc_size, drew_size] at hc2 hf2 hc3 hf3; clear hr2 ha2))
    all_goals (go_wp2_with fail; go_meet)
    all_goals first | ((with_reducible refine copS_new HR1.out HG1.out HA1.out HR2.out HG2.out HA2.out hB1.out ?_); (next => first | exact Below.refl _ _ | exact (Below.refl _ _).alloc (Nat.le_refl _) _ | exact ((Below.refl _ _).alloc (Nat.le_refl _) _).alloc (by simp) _)) | ((with_reducible refine copS_set (a := .int .i64 0) (b := .int .i64 0) (c' := .slice none 0 0) (d := .slice none 0 0) HR1.out HG1.out HA1.out HR2.out HG2.out HA2.out hB1.out ?_ ?_ ?_ ?_); (next => first | exact Below.refl _ _ | exact (Below.refl _ _).alloc (Nat.le_refl _) _ | exact ((Below.refl _ _).alloc (Nat.le_refl _) _).alloc (by simp) _); (next => repeat (first | ((with_reducible refine Box4.new' _ _ _ _ _ _ _ ?_); (simp; done)) | (with_reducible refine Box4.alloc ?_ _) | (with_reducible refine Box4.drew' ?_) | ((with_reducible refine Box4.grown ?_ HG1.out (by simp))))); (next => omega); (next => first | omega | (simp; done) | (simp; omega)))
  case rest =>
    obtain ⟨q5, A5, n5, c5, A6, m6, c6, rfl, hbq, r1, r2, _, _, _, hq0, hbl⟩ := hcut
    obtain ⟨wB, hwB⟩ : ∃ wB, wB = wc := ⟨_, rfl⟩
    rw [← hwB] at hbq r1 r2 hbl
    rw [← hwB]
    clear hwB t0 t1 t2 t3 tf tl hS0 HG0 HP0
    have BL := Lib.hid (chain BL.out hbl)
    have TB := Lib.hid (TB.out.next hbl)
    have CB := Lib.hid (CB.out.next hbl)
    have GI := Lib.hid (GI.out.next hbl)
    have PI := Lib.hid (PI.out.next hbl)
    have SB := Lib.hid hbq
    have WG := Lib.hid r1.ints
    have WP := Lib.hid r2.ints
    obtain rfl : n5 = n := by have e1 := r1.1; have e2 := GI.out.1; omega
    obtain rfl : m6 = m := by have e1 := r2.1; have e2 := PI.out.1; omega
    clear hbq r1 r2 hbl
    obtain ⟨t0, t1, t2, t3, tf, tl⟩ := TB.out
    obtain ⟨u0, u1, uf, ul⟩ := CB.out
    go_wp2_with fail
    clear t0 t1 t2 t3 tf tl u0 u1 uf ul
    refine (HY.out wB GI.out PI.out).mono ?_
    rintro e w7 ⟨R, n7, c7, R2, m7, d7, rfl, o1, o2, hd, hb⟩
    obtain rfl : n7 = n5 := by have e1 := o1.len; have e2 := GI.out.1; rw [List.length_set] at e1; omega
    obtain rfl : m7 = m6 := by have e1 := o2.len; have e2 := PI.out.1; rw [List.length_set] at e1; omega
    obtain ⟨V7, hV7⟩ : ∃ V, V = w7.alloc (.cells #[.int .i64 W, .int .i64 H, .slice R n7 c7, .slice R2 m7 d7] 24) := ⟨_, rfl⟩
    have hb7 : Below w7.heap.size w7 V7 := by rw [hV7]; exact (Below.refl _ _).alloc (Nat.le_refl _) _
    have CP : Hid (CpI wB w7.heap.size W H R n7 c7 R2 m7 d7 V7) := ⟨_, _, o1.next hb7, o2.next hb7, by rw [hV7]; exact Box4.new _ _ _ _ _ _, chain hb hb7⟩
    have CG := Lib.hid (o1.next hb7).ints
    have CPI := Lib.hid (o2.next hb7).ints
    have HR1 : Hid (∀ b, R = some ⟨b, 0, none⟩ → b ≠ w7.heap.size) := fun b e => by have := (o1.lt b e).2; omega
    have HR2 : Hid (∀ b, R2 = some ⟨b, 0, none⟩ → b ≠ w7.heap.size) := fun b e => by have := (o2.lt b e).2; omega
    have HD := Lib.hid hd
    have TB7 := Lib.hid (TB.out.next hb)
    have CB7 := Lib.hid (CB.out.next hb)
    have hlt7 : w.heap.size + 1 < w7.heap.size := CB7.out.lt
    have hne1 : w.heap.size ≠ w7.heap.size := by omega
    have hne2 : w.heap.size + 1 ≠ w7.heap.size := by omega
    have hlt8 : w.heap.size < w7.heap.size := by omega
    obtain ⟨t0, t1, t2, t3, tf, tl⟩ := TB7.out
    obtain ⟨u0, u1, uf, ul⟩ := CB7.out
    clear o1 o2 hd hb hb7
    go_wp2_with fail
    rw [← hV7]
    clear hV7 t0 t1 t2 t3 tf tl u0 u1 uf ul TB7 CB7
    obtain ⟨Q, hQ⟩ : ∃ Q, w7.heap.size = Q := ⟨_, rfl⟩
    rw [hQ] at CP HR1 HR2
    rw [hQ]
    clear hQ hlt7 hne1 hne2 hlt8
    have TBb := TB
    have SBb := SB
    have GIb := GI
    have PIb := PI
    have WGb := WG
    have WPb := WP
    have BLb := BL
    have hb := CP.out.bl
    have BL := Lib.hid (chain BL.out hb)
    have TB := Lib.hid (Box4.next (w := wB) TB.out hb)
    have CB := Lib.hid (Box2.next (w := wB) CB.out hb)
    have SB := Lib.hid (Box4.next (w := wB) SB.out hb)
    have GI := Lib.hid (Ints.next (w := wB) GI.out hb)
    have PI := Lib.hid (Ints.next (w := wB) PI.out hb)
    have WG := Lib.hid (Ints.next (w := wB) WG.out hb)
    have WP := Lib.hid (Ints.next (w := wB) WP.out hb)
    clear hb
    refine (refHas_any W H A n7 c A2 m7 c2 g p x y V7 GI.out PI.out (by omega) (by omega)).mono ?_
    rintro e w8 ⟨he, hb⟩
    rw [HHB.out] at he
    subst he
    have BL := Lib.hid (chain BL.out hb)
    have TB := Lib.hid (Box4.next (w := V7) TB.out hb)
    have CB := Lib.hid (Box2.next (w := V7) CB.out hb)
    have SB := Lib.hid (Box4.next (w := V7) SB.out hb)
    have GI := Lib.hid (Ints.next (w := V7) GI.out hb)
    have PI := Lib.hid (Ints.next (w := V7) PI.out hb)
    have WG := Lib.hid (Ints.next (w := V7) WG.out hb)
    have WP := Lib.hid (Ints.next (w := V7) WP.out hb)
    have CG := Lib.hid (Ints.next (w := V7) CG.out hb)
    have CPI := Lib.hid (Ints.next (w := V7) CPI.out hb)
    have CP := Lib.hid (CpI.next CP.out hb)
    clear hb
    have UB := Lib.hid CP.out.box
    obtain ⟨t0, t1, t2, t3, tf, tl⟩ := TB.out
    obtain ⟨u0, u1, uf, ul⟩ := CB.out
    obtain ⟨v0, v1, v2, v3, vf, vl⟩ := UB.out
    obtain ⟨s0, s1, s2, s3, sf, sl⟩ := SB.out
    go_wp2
    have tok : True := trivial
    go_region_held3 (fun w' => w'.cell? ⟨w.heap.size, 0, none⟩ = some (.int .i64 W) ∧ w'.cell? ⟨w.heap.size, 1, none⟩ = some (.int .i64 H) ∧ w'.cell? ⟨w.heap.size, 2, none⟩ = some (.slice A n7 c) ∧ w'.cell? ⟨w.heap.size, 3, none⟩ = some (.slice A2 m7 c2) ∧ w'.cell? ⟨w.heap.size + 1, 0, none⟩ = some (.int .i64 x) ∧ w'.cell? ⟨w.heap.size + 1, 1, none⟩ = some (.int .i64 y) ∧ w'.cell? ⟨Q, 0, none⟩ = some (.int .i64 W) ∧ w'.cell? ⟨Q, 1, none⟩ = some (.int .i64 H) ∧ w'.cell? ⟨Q, 2, none⟩ = some (.slice R n7 c7) ∧ w'.cell? ⟨Q, 3, none⟩ = some (.slice R2 m7 d7) ∧ w'.cell? ⟨q5, 0, none⟩ = some (.int .i64 W) ∧ w'.cell? ⟨q5, 1, none⟩ = some (.int .i64 H) ∧ w'.cell? ⟨q5, 2, none⟩ = some (.slice A5 n7 c5) ∧ w'.cell? ⟨q5, 3, none⟩ = some (.slice A6 m7 c6))
      (first | go_keep | exact ⟨by assumption, by assumption, by assumption, by assumption, by assumption, by assumption, by assumption, by assumption, by assumption, by assumption, by assumption, by assumption, by assumption, by assumption⟩)
      (first | (go_at_call 29; refine (HRS.out _ (Ints.drw GI.out) (Ints.drw PI.out)).mono ?_; rintro e w9 ⟨K1, n9, f1, K2, m9, f2, rfl, o1, o2, hd, hb⟩; obtain rfl : n9 = n7 := (by have e1 := o1.len; have e2 := GI.out.1; rw [List.length_set] at e1; omega); obtain rfl : m9 = m7 := (by have e1 := o2.len; have e2 := PI.out.1; rw [List.length_set] at e1; omega); have KG := Lib.hid o1.ints; have KP := Lib.hid o2.ints; have BL := Lib.hid (chain BL.out.drew hb); have TB := Lib.hid (Box4.next (w := w8.drew) TB.out hb); have CB := Lib.hid (Box2.next (w := w8.drew) CB.out hb); have SB := Lib.hid (Box4.next (w := w8.drew) SB.out hb); have GI := Lib.hid (Ints.next (w := w8.drew) GI.out hb); have PI := Lib.hid (Ints.next (w := w8.drew) PI.out hb); have WG := Lib.hid (Ints.next (w := w8.drew) WG.out hb); have WP := Lib.hid (Ints.next (w := w8.drew) WP.out hb); have CG := Lib.hid (Ints.next (w := w8.drew) CG.out hb); have CPI := Lib.hid (Ints.next (w := w8.drew) CPI.out hb); have UB := Lib.hid (Box4.next (w := w8.drew) UB.out hb); have CP := Lib.hid (CpI.next (CpI.drw CP.out) hb); clear hb; obtain ⟨t0, t1, t2, t3, tf, tl⟩ := TB.out; obtain ⟨u0, u1, uf, ul⟩ := CB.out; obtain ⟨v0, v1, v2, v3, vf, vl⟩ := UB.out; obtain ⟨s0, s1, s2, s3, sf, sl⟩ := SB.out; clear o1 o2 hd) | (go_at_call 24; have _t := tok; refine (refEqual_any W H R n9 c7 R2 m9 d7 _ _ W H K1 n9 f1 K2 m9 f2 _ _ w9 CG.out CPI.out (by omega) (by omega) KG.out KP.out (by omega) (by omega)).mono ?_; clear tok; rintro e w10 ⟨he, hb⟩; rw [HS2.out] at he; subst he; have BL := Lib.hid (chain BL.out hb); have TB := Lib.hid (Box4.next (w := w9) TB.out hb); have CB := Lib.hid (Box2.next (w := w9) CB.out hb); have SB := Lib.hid (Box4.next (w := w9) SB.out hb); have GI := Lib.hid (Ints.next (w := w9) GI.out hb); have PI := Lib.hid (Ints.next (w := w9) PI.out hb); have WG := Lib.hid (Ints.next (w := w9) WG.out hb); have WP := Lib.hid (Ints.next (w := w9) WP.out hb); have CG := Lib.hid (Ints.next (w := w9) CG.out hb); have CPI := Lib.hid (Ints.next (w := w9) CPI.out hb); have UB := Lib.hid (Box4.next (w := w9) UB.out hb); have CP := Lib.hid (CpI.next CP.out hb); clear hb; obtain ⟨t0, t1, t2, t3, tf, tl⟩ := TB.out; obtain ⟨u0, u1, uf, ul⟩ := CB.out; obtain ⟨v0, v1, v2, v3, vf, vl⟩ := UB.out; obtain ⟨s0, s1, s2, s3, sf, sl⟩ := SB.out) | (go_at_call 24; refine (refEqual_any W H A n9 c A2 m9 c2 g p W H A5 n9 c5 A6 m9 c6 g p w10 GI.out PI.out (by omega) (by omega) WG.out WP.out (by omega) (by omega)).mono ?_; rintro e w11 ⟨he, hb⟩; rw [HS.out] at he; subst he; have BL := Lib.hid (chain BL.out hb); have TB := Lib.hid (Box4.next (w := w10) TB.out hb); have CB := Lib.hid (Box2.next (w := w10) CB.out hb); have SB := Lib.hid (Box4.next (w := w10) SB.out hb); have GI := Lib.hid (Ints.next (w := w10) GI.out hb); have PI := Lib.hid (Ints.next (w := w10) PI.out hb); have WG := Lib.hid (Ints.next (w := w10) WG.out hb); have WP := Lib.hid (Ints.next (w := w10) WP.out hb); have CG := Lib.hid (Ints.next (w := w10) CG.out hb); have CPI := Lib.hid (Ints.next (w := w10) CPI.out hb); have UB := Lib.hid (Box4.next (w := w10) UB.out hb); have CP := Lib.hid (CpI.next CP.out hb); clear hb; obtain ⟨t0, t1, t2, t3, tf, tl⟩ := TB.out; obtain ⟨u0, u1, uf, ul⟩ := CB.out; obtain ⟨v0, v1, v2, v3, vf, vl⟩ := UB.out; obtain ⟨s0, s1, s2, s3, sf, sl⟩ := SB.out))
    clear t0 t1 t2 t3 tf tl u0 u1 uf ul v0 v1 v2 v3 vf vl s0 s1 s2 s3 sf sl
    have hmn : m9 = n9 := by have := HMN.out; omega
    go_wp2
    go_loopw [12] (fun i wr => ∃ j : Nat, j ≤ n9 ∧ i = .int .i64 j ∧ CpI wB Q W H R n9 c7 R2 m9 d7 wr ) (fun i _ => n9 - (intOf i).toNat)
    case atStart => exact ⟨0, Nat.zero_le _, rfl, CP.out⟩
    case round =>
      clear CP UB
      obtain ⟨j, hj, rfl, hcp⟩ := hrel
      have CP := Lib.hid hcp
      obtain ⟨z0, z1, z2, z3, zf, zl⟩ := hcp.box
      clear hcp
      by_cases hlt : j < n9
      · obtain ⟨b, y1, rfl, hb0, c1, f1⟩ := CP.out.row1 hlt
        obtain ⟨b', y2, rfl, hb0', c1', f1'⟩ := CP.out.row2 (show j < m9 by omega)
        have hbq := HR1.out b rfl
        have hbq' := HR2.out b' rfl
        have hbb : b ≠ b' := HD.out b b' rfl rfl
        have hbb' : b' ≠ b := Ne.symm hbb
        have i1 : (0 : Int) ≤ (j : Int) := by omega
        have i2 : (j : Int) < (n9 : Int) := by omega
        have i3 : (j : Int) < (m9 : Int) := by omega
        clear hmn
        go_wp2
        go_roundw
        case rel => exact ⟨j + 1, by omega, by go_num, (CP.out.st1 HD.out hbq hb0 j _).st2 HD.out hbq' hb0' j _⟩
        case measure => simp [intOf]; omega
      · obtain rfl : j = n9 := by omega
        clear hmn
        obtain ⟨t0, t1, t2, t3, tf, tl⟩ := TBb.out.next CP.out.bl
        obtain ⟨s0, s1, s2, s3, sf, sl⟩ := SBb.out.next CP.out.bl
        go_wp2_with fail
        clear t0 t1 t2 t3 tf tl s0 s1 s2 s3 sf sl z0 z1 z2 z3 zf zl
        refine (refEqual_any W H A j c A2 m9 c2 g p W H A5 j c5 A6 m9 c6 g p wr (GIb.out.next CP.out.bl) (PIb.out.next CP.out.bl) (by omega) (by omega) (WGb.out.next CP.out.bl) (WPb.out.next CP.out.bl) (by omega) (by omega)).mono ?_
        rintro e w12 ⟨he, hb⟩
        rw [HS.out] at he
        subst he
        have BL := Lib.hid (chain (chain BLb.out CP.out.bl) hb)
        clear hb
        go_wp2_with fail
        refine (known_any w12).mono ?_
        rintro e w13 ⟨rfl, hb⟩
        have BL := Lib.hid (chain BL.out hb)
        clear hb
        go_wp2
        go_ret
        exact ⟨rfl, BL.out⟩

theorem law6 (W H : Int) (A : Option Addr) (n c : Nat) (A2 : Option Addr) (m c2 : Nat) (g p : List Int) (x y gr pe : Int) (w : World) (hG : Ints w w.heap.size A n g) (hP : Ints w w.heap.size A2 m p) : Calls Try.prog 6 #[.agg #[.int .i64 W, .int .i64 H, .slice A n c, .slice A2 m c2], .agg #[.int .i64 x, .int .i64 y], .int .i64 gr, .int .i64 pe] w (KnownOk w) := by
  by_cases hb : 300 < n ∨ 300 < m
  · exact law6_big W H A n c A2 m c2 g p x y gr pe w hG hP hb
  · by_cases h : hasB W H g p x y = true ∧ 0 ≤ gr ∧ gr ≤ 9000 ∧ 0 ≤ pe ∧ pe ≤ 1000000
    · exact law6_yes W H A n c A2 m c2 g p x y gr pe w hG hP (by omega) (by omega) h.1 h.2.1 h.2.2.1 h.2.2.2.1 h.2.2.2.2
    · exact law6_no W H A n c A2 m c2 g p x y gr pe w hG hP (by omega) (by omega) h
end Go.Proofs.Ytpoceidbiamgaaa
