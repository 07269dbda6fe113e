/- TerrainSymmetry, where no cell lies between. -/
import Derived.Test.YtpoceidbiamgaaaWu
set_option linter.unusedVariables false
set_option linter.unusedSimpArgs false
namespace Go.Proofs.Ytpoceidbiamgaaa
open Go.RowKit
attribute [local go_sem ↓ high] eql_cell neq_cell
set_option maxHeartbeats 8000000 in
set_option maxRecDepth 100000 in
theorem law10_zero (W H : Int) (A : Option Addr) (n c : Nat) (A2 : Option Addr) (m c2 : Nat) (g p : List Int) (a1 a2 b1 b2 col : Int) (w : World) (hG : Ints w w.heap.size A n g) (hP : Ints w w.heap.size A2 m p) (hn : n ≤ 300) (hm : m ≤ 300) (ha : hasB W H g p a1 a2 = true) (hb : hasB W H g p b1 b2 = true) (h0 : ∀ N, N = lineN a1 a2 b1 b2 → N = 0) : Calls Try.prog 10 #[.agg #[.int .i64 W, .int .i64 H, .slice A n c, .slice A2 m c2], .agg #[.int .i64 a1, .int .i64 a2], .agg #[.int .i64 b1, .int .i64 b2], .int .i64 col] w (KnownOk w) := by
  obtain ⟨ht, k1, k2, k3, k4⟩ := hasB_iff.1 ha
  obtain ⟨_, k5, k6, k7, k8⟩ := hasB_iff.1 hb
  obtain ⟨⟨v1, v2, v3, v4, v5, v6⟩, _⟩ := terB_iff.1 ht
  have CL := Lib.hid (fun V => line_yes a1 a2 b1 b2 V ⟨k1, by omega, k3, by omega⟩ ⟨k5, by omega, k7, by omega⟩)
  have CM := Lib.hid (fun V => line_yes b1 b2 a1 a2 V ⟨k5, by omega, k7, by omega⟩ ⟨k1, by omega, k3, by omega⟩)
  have hs1 := span_le (a1 := a1) (a2 := a2) (b1 := b1) (b2 := b2) k1 (by omega) k3 (by omega) k5 (by omega) k7 (by omega)
  have hN62 : lineN a1 a2 b1 b2 ≤ 62 := by unfold lineN; omega
  obtain ⟨N, hN⟩ : ∃ N, lineN a1 a2 b1 b2 = N := ⟨_, rfl⟩
  have HLL : Hid ((lineL a1 a2 b1 b2).length = N) := (lineL_len a1 a2 b1 b2).trans hN
  have HLM : Hid ((lineL b1 b2 a1 a2).length = N) := (lineL_len b1 b2 a1 a2).trans ((lineN_comm a1 a2 b1 b2).trans hN)
  rw [hN] at hN62
  have HN := Lib.hid hN
  have HA := Lib.hid ha
  have HB := Lib.hid hb
  clear ha hb ht v5 v6 hN hs1
  have GI0 := Lib.hid hG
  have PI0 := Lib.hid hP
  have S0 := Lib.hid (t3_start W H A n c A2 m c2 a1 a2 b1 b2 w)
  clear hG hP
  go_enter Try.func10, Try.ntmps10
  go_wp2_with fail
  obtain ⟨W0, hW0⟩ : ∃ W0, W0 = (((w.alloc (.cells #[.int .i64 W, .int .i64 H, .slice A n c, .slice A2 m c2] 24)).alloc (.cells #[.int .i64 a1, .int .i64 a2] 26)).alloc (.cells #[.int .i64 b1, .int .i64 b2] 26)) := ⟨_, rfl⟩
  rw [← hW0] at S0
  rw [← hW0]
  clear hW0
  have BL := Lib.hid S0.out.1
  have TB := Lib.hid S0.out.2.1
  have CB := Lib.hid S0.out.2.2.1
  have DB := Lib.hid S0.out.2.2.2
  have GI := Lib.hid (GI0.out.next S0.out.1)
  have PI := Lib.hid (PI0.out.next S0.out.1)
  clear S0 GI0 PI0
  refine (big_any W H A n c A2 m c2 W0).mono ?_
  rintro e w1 ⟨rfl, hb⟩
  have BL := Lib.hid (chain BL.out hb)
  have TB := Lib.hid (Box4.next (w := W0) TB.out hb)
  have CB := Lib.hid (Box2.next (w := W0) CB.out hb)
  have DB := Lib.hid (Box2.next (w := W0) DB.out hb)
  have GI := Lib.hid (Ints.next (w := W0) GI.out hb)
  have PI := Lib.hid (Ints.next (w := W0) PI.out hb)
  clear hb
  rw [show bigB n m = false by simp [bigB]; omega]
  obtain ⟨t0, t1, t2, t3, tf, tl⟩ := TB.out
  obtain ⟨u0, u1, uf, ul⟩ := CB.out
  obtain ⟨v0, v1, vf, vl⟩ := DB.out
  go_wp2_with fail
  clear t0 t1 t2 t3 tf tl u0 u1 uf ul v0 v1 vf vl
  refine (refHas_any W H A n c A2 m c2 g p a1 a2 w1 GI.out PI.out (by omega) (by omega)).mono ?_
  rintro e w2 ⟨he, hb⟩
  rw [HA.out] at he
  subst he
  have BL := Lib.hid (chain BL.out hb)
  have TB := Lib.hid (Box4.next (w := w1) TB.out hb)
  have CB := Lib.hid (Box2.next (w := w1) CB.out hb)
  have DB := Lib.hid (Box2.next (w := w1) DB.out hb)
  have GI := Lib.hid (Ints.next (w := w1) GI.out hb)
  have PI := Lib.hid (Ints.next (w := w1) PI.out hb)
  clear hb
  obtain ⟨t0, t1, t2, t3, tf, tl⟩ := TB.out
  obtain ⟨u0, u1, uf, ul⟩ := CB.out
  obtain ⟨v0, v1, vf, vl⟩ := DB.out
  go_wp2_with fail
  clear t0 t1 t2 t3 tf tl u0 u1 uf ul v0 v1 vf vl
  refine (refHas_any W H A n c A2 m c2 g p b1 b2 w2 GI.out PI.out (by omega) (by omega)).mono ?_
  rintro e w3 ⟨he, hb⟩
  rw [HB.out] at he
  subst he
  have BL := Lib.hid (chain BL.out hb)
  have TB := Lib.hid (Box4.next (w := w2) TB.out hb)
  have CB := Lib.hid (Box2.next (w := w2) CB.out hb)
  have DB := Lib.hid (Box2.next (w := w2) DB.out hb)
  have GI := Lib.hid (Ints.next (w := w2) GI.out hb)
  have PI := Lib.hid (Ints.next (w := w2) PI.out hb)
  clear hb
  obtain ⟨t0, t1, t2, t3, tf, tl⟩ := TB.out
  obtain ⟨u0, u1, uf, ul⟩ := CB.out
  obtain ⟨v0, v1, vf, vl⟩ := DB.out
  go_wp2_with fail
  clear t0 t1 t2 t3 tf tl u0 u1 uf ul v0 v1 vf vl
  refine (CL.out w3).mono ?_
  rintro e w4 ⟨lA, ln, lc, rfl, o, hb⟩
  obtain rfl : ln = N := by have := o.len; have := HLL.out; omega
  have LC := Lib.hid o.cels
  clear o
  have BL := Lib.hid (chain BL.out hb)
  have TB := Lib.hid (Box4.next (w := w3) TB.out hb)
  have CB := Lib.hid (Box2.next (w := w3) CB.out hb)
  have DB := Lib.hid (Box2.next (w := w3) DB.out hb)
  have GI := Lib.hid (Ints.next (w := w3) GI.out hb)
  have PI := Lib.hid (Ints.next (w := w3) PI.out hb)
  clear hb
  obtain ⟨t0, t1, t2, t3, tf, tl⟩ := TB.out
  obtain ⟨u0, u1, uf, ul⟩ := CB.out
  obtain ⟨v0, v1, vf, vl⟩ := DB.out
  go_wp2_with fail
  clear t0 t1 t2 t3 tf tl u0 u1 uf ul v0 v1 vf vl
  refine (CM.out w4).mono ?_
  rintro e w5 ⟨mA, mn, mc, rfl, o, hb⟩
  obtain rfl : mn = ln := by have := o.len; have := HLM.out; omega
  have MC := Lib.hid o.cels
  clear o
  have BL := Lib.hid (chain BL.out hb)
  have TB := Lib.hid (Box4.next (w := w4) TB.out hb)
  have CB := Lib.hid (Box2.next (w := w4) CB.out hb)
  have DB := Lib.hid (Box2.next (w := w4) DB.out hb)
  have GI := Lib.hid (Ints.next (w := w4) GI.out hb)
  have PI := Lib.hid (Ints.next (w := w4) PI.out hb)
  have LC := Lib.hid (Cels.next (w := w4) LC.out hb)
  clear hb
  have HM0 : Hid (mn = 0) := h0 _ HN.out.symm
  have hz1' : ((mn : Int) == 0) = true := by have := HM0.out; simp; omega
  have hz2' : decide ((0 : Int) < (mn : Int)) = false := decide_eq_false (by have := HM0.out; omega)
  have hz3' : decide (0 < mn) = false := decide_eq_false (by have := HM0.out; omega)
  have hz4' : ¬ (0 < mn) := (by have := HM0.out; omega)
  obtain ⟨t0, t1, t2, t3, tf, tl⟩ := TB.out
  obtain ⟨u0, u1, uf, ul⟩ := CB.out
  obtain ⟨v0, v1, vf, vl⟩ := DB.out
  go_wp2_with fail
  clear t0 t1 t2 t3 tf tl u0 u1 uf ul v0 v1 vf vl
  refine (near_any a1 a2 b1 b2 w5 k1 (by omega) k3 (by omega) k5 (by omega) k7 (by omega)).mono ?_
  rintro e w6 ⟨he, hb⟩
  rw [show decide (span a1 a2 b1 b2 ≤ 1) = true from decide_eq_true (lineN_zero (HN.out.trans HM0.out))] at he
  subst he
  have BL := Lib.hid (chain BL.out hb)
  have TB := Lib.hid (Box4.next (w := w5) TB.out hb)
  have CB := Lib.hid (Box2.next (w := w5) CB.out hb)
  have DB := Lib.hid (Box2.next (w := w5) DB.out hb)
  have GI := Lib.hid (Ints.next (w := w5) GI.out hb)
  have PI := Lib.hid (Ints.next (w := w5) PI.out hb)
  have LC := Lib.hid (Cels.next (w := w5) LC.out hb)
  have MC := Lib.hid (Cels.next (w := w5) MC.out hb)
  clear hb
  go_wp2
  go_loopw [13] (fun i wr => i = .int .i64 0 ∧ wr = w6) (fun _ _ => 0)
  case atStart => exact ⟨rfl, rfl⟩
  case round =>
    obtain ⟨rfl, rfl⟩ := hrel
    obtain ⟨wq, hwq⟩ : ∃ wq, wq = wr := ⟨_, rfl⟩
    rw [← hwq] at BL TB CB DB GI PI LC MC
    rw [← hwq]
    clear hwq
    go_wp2
    obtain ⟨t0, t1, t2, t3, tf, tl⟩ := TB.out
    obtain ⟨u0, u1, uf, ul⟩ := CB.out
    obtain ⟨v0, v1, vf, vl⟩ := DB.out
    go_quiet (fail)
    clear t0 t1 t2 t3 tf tl u0 u1 uf ul v0 v1 vf vl
    obtain ⟨V5, hV5⟩ : ∃ V, V = wq.drewN nq := ⟨_, rfl⟩
    have hb : Below wq.heap.size wq V5 := by rw [hV5]; exact below_drewN (Below.refl _ _) _
    have BL := Lib.hid (chain BL.out hb)
    have TB := Lib.hid (Box4.next (w := wq) TB.out hb)
    have CB := Lib.hid (Box2.next (w := wq) CB.out hb)
    have DB := Lib.hid (Box2.next (w := wq) DB.out hb)
    have GI := Lib.hid (Ints.next (w := wq) GI.out hb)
    have PI := Lib.hid (Ints.next (w := wq) PI.out hb)
    have LC := Lib.hid (Cels.next (w := wq) LC.out hb)
    have MC := Lib.hid (Cels.next (w := wq) MC.out hb)
    clear hb
    rw [← hV5]
    clear hV5
    go_wp2
    obtain ⟨t0, t1, t2, t3, tf, tl⟩ := TB.out
    obtain ⟨u0, u1, uf, ul⟩ := CB.out
    obtain ⟨v0, v1, vf, vl⟩ := DB.out
    go_quiet (fail)
    clear t0 t1 t2 t3 tf tl u0 u1 uf ul v0 v1 vf vl
    obtain ⟨V0, hV0⟩ : ∃ V, V = V5.drewN nq := ⟨_, rfl⟩
    have hb : Below V5.heap.size V5 V0 := by rw [hV0]; exact below_drewN (Below.refl _ _) _
    have BL := Lib.hid (chain BL.out hb)
    have TB := Lib.hid (Box4.next (w := V5) TB.out hb)
    have CB := Lib.hid (Box2.next (w := V5) CB.out hb)
    have DB := Lib.hid (Box2.next (w := V5) DB.out hb)
    have GI := Lib.hid (Ints.next (w := V5) GI.out hb)
    have PI := Lib.hid (Ints.next (w := V5) PI.out hb)
    have LC := Lib.hid (Cels.next (w := V5) LC.out hb)
    have MC := Lib.hid (Cels.next (w := V5) MC.out hb)
    clear hb
    rw [← hV0]
    clear hV0
    by_cases hle : a1 ≤ b1
    · have hsw : decide (b1 < a1) = false := decide_eq_false (by omega)
      have kk : col < a1 ∨ (a1 ≤ col ∧ b1 ≤ col) ∨ (a1 ≤ col ∧ col < b1) := by omega
      rcases kk with kk | ⟨kk, k2'⟩ | ⟨kk, k2'⟩
      · skip
        go_wp2_with fail
        refine (known_any V0).mono ?_
        rintro e wz ⟨rfl, hb⟩
        have BL := Lib.hid (chain BL.out hb)
        have TB := Lib.hid (Box4.next (w := V0) TB.out hb)
        have CB := Lib.hid (Box2.next (w := V0) CB.out hb)
        have DB := Lib.hid (Box2.next (w := V0) DB.out hb)
        have GI := Lib.hid (Ints.next (w := V0) GI.out hb)
        have PI := Lib.hid (Ints.next (w := V0) PI.out hb)
        have LC := Lib.hid (Cels.next (w := V0) LC.out hb)
        have MC := Lib.hid (Cels.next (w := V0) MC.out hb)
        clear hb
        go_wp2
        go_ret
        exact ⟨rfl, BL.out⟩
      · skip
        have d1' : decide (col < a1) = false := decide_eq_false (by omega)
        have d2' : decide (b1 ≤ col) = true := decide_eq_true k2'
        go_wp2_with fail
        refine (known_any V0).mono ?_
        rintro e wz ⟨rfl, hb⟩
        have BL := Lib.hid (chain BL.out hb)
        have TB := Lib.hid (Box4.next (w := V0) TB.out hb)
        have CB := Lib.hid (Box2.next (w := V0) CB.out hb)
        have DB := Lib.hid (Box2.next (w := V0) DB.out hb)
        have GI := Lib.hid (Ints.next (w := V0) GI.out hb)
        have PI := Lib.hid (Ints.next (w := V0) PI.out hb)
        have LC := Lib.hid (Cels.next (w := V0) LC.out hb)
        have MC := Lib.hid (Cels.next (w := V0) MC.out hb)
        clear hb
        go_wp2
        go_ret
        exact ⟨rfl, BL.out⟩
      · have HPT := Lib.hid (parts_of W H A n c A2 m c2 g p a1 a2 b1 b2 a1 b1 col (by omega) (by omega) HA.out HB.out (by omega) (by omega) kk k2')
        have d1' : decide (col < a1) = false := decide_eq_false (by omega)
        have d2' : decide (b1 ≤ col) = false := decide_eq_false (by omega)
        obtain ⟨R1, R2, R3, t1, t2, t3, hL, hL1, hT, ⟨x1, x2⟩, ⟨x3, x4⟩, c1, c2', c3, c4, c5, c6⟩ := HPT.out
        have C1 := Lib.hid c1
        have C2 := Lib.hid c2'
        have C3 := Lib.hid c3
        have C4 := Lib.hid c4
        have C5 := Lib.hid c5
        have C6 := Lib.hid c6
        have HL := Lib.hid hL
        have HT := Lib.hid hT
        clear c1 c2' c3 c4 c5 c6 hL hT HPT
        obtain ⟨t0, t1, t2, t3, tf, tl⟩ := TB.out
        obtain ⟨u0, u1, uf, ul⟩ := CB.out
        obtain ⟨v0, v1, vf, vl⟩ := DB.out
        go_wp2_with fail
        clear t0 t1 t2 t3 tf tl u0 u1 uf ul v0 v1 vf vl
        refine (C1.out V0 GI.out PI.out).mono ?_
        rintro e y1 ⟨Q1, q1, d1, rfl, o, hb⟩
        have J1 := Lib.hid o.ints
        have hq1 := Lib.hid o.len
        clear o
        have BL := Lib.hid (chain BL.out hb)
        have TB := Lib.hid (Box4.next (w := V0) TB.out hb)
        have CB := Lib.hid (Box2.next (w := V0) CB.out hb)
        have DB := Lib.hid (Box2.next (w := V0) DB.out hb)
        have GI := Lib.hid (Ints.next (w := V0) GI.out hb)
        have PI := Lib.hid (Ints.next (w := V0) PI.out hb)
        have LC := Lib.hid (Cels.next (w := V0) LC.out hb)
        have MC := Lib.hid (Cels.next (w := V0) MC.out hb)
        clear hb
        obtain ⟨t0, t1, t2, t3, tf, tl⟩ := TB.out
        obtain ⟨u0, u1, uf, ul⟩ := CB.out
        obtain ⟨v0, v1, vf, vl⟩ := DB.out
        go_wp2_with fail
        clear t0 t1 t2 t3 tf tl u0 u1 uf ul v0 v1 vf vl
        refine (C2.out y1 GI.out PI.out).mono ?_
        rintro e y2 ⟨Q2, q2, d2, rfl, o, hb⟩
        have J2 := Lib.hid o.ints
        have hq2 := Lib.hid o.len
        clear o
        have BL := Lib.hid (chain BL.out hb)
        have TB := Lib.hid (Box4.next (w := y1) TB.out hb)
        have CB := Lib.hid (Box2.next (w := y1) CB.out hb)
        have DB := Lib.hid (Box2.next (w := y1) DB.out hb)
        have GI := Lib.hid (Ints.next (w := y1) GI.out hb)
        have PI := Lib.hid (Ints.next (w := y1) PI.out hb)
        have LC := Lib.hid (Cels.next (w := y1) LC.out hb)
        have MC := Lib.hid (Cels.next (w := y1) MC.out hb)
        have J1 := Lib.hid (Ints.next (w := y1) J1.out hb)
        clear hb
        obtain ⟨t0, t1, t2, t3, tf, tl⟩ := TB.out
        obtain ⟨u0, u1, uf, ul⟩ := CB.out
        obtain ⟨v0, v1, vf, vl⟩ := DB.out
        go_wp2_with fail
        clear t0 t1 t2 t3 tf tl u0 u1 uf ul v0 v1 vf vl
        refine (C3.out y2 GI.out PI.out).mono ?_
        rintro e y3 ⟨Q3, q3, d3, rfl, o, hb⟩
        have J3 := Lib.hid o.ints
        have hq3 := Lib.hid o.len
        clear o
        have BL := Lib.hid (chain BL.out hb)
        have TB := Lib.hid (Box4.next (w := y2) TB.out hb)
        have CB := Lib.hid (Box2.next (w := y2) CB.out hb)
        have DB := Lib.hid (Box2.next (w := y2) DB.out hb)
        have GI := Lib.hid (Ints.next (w := y2) GI.out hb)
        have PI := Lib.hid (Ints.next (w := y2) PI.out hb)
        have LC := Lib.hid (Cels.next (w := y2) LC.out hb)
        have MC := Lib.hid (Cels.next (w := y2) MC.out hb)
        have J1 := Lib.hid (Ints.next (w := y2) J1.out hb)
        have J2 := Lib.hid (Ints.next (w := y2) J2.out hb)
        clear hb
        obtain ⟨t0, t1, t2, t3, tf, tl⟩ := TB.out
        obtain ⟨u0, u1, uf, ul⟩ := CB.out
        obtain ⟨v0, v1, vf, vl⟩ := DB.out
        go_wp2_with fail
        clear t0 t1 t2 t3 tf tl u0 u1 uf ul v0 v1 vf vl
        refine (C4.out y3 Q1 q1 d1 GI.out PI.out J1.out).mono ?_
        rintro e y4 ⟨rfl, hb⟩
        have BL := Lib.hid (chain BL.out hb)
        have TB := Lib.hid (Box4.next (w := y3) TB.out hb)
        have CB := Lib.hid (Box2.next (w := y3) CB.out hb)
        have DB := Lib.hid (Box2.next (w := y3) DB.out hb)
        have GI := Lib.hid (Ints.next (w := y3) GI.out hb)
        have PI := Lib.hid (Ints.next (w := y3) PI.out hb)
        have LC := Lib.hid (Cels.next (w := y3) LC.out hb)
        have MC := Lib.hid (Cels.next (w := y3) MC.out hb)
        have J1 := Lib.hid (Ints.next (w := y3) J1.out hb)
        have J2 := Lib.hid (Ints.next (w := y3) J2.out hb)
        have J3 := Lib.hid (Ints.next (w := y3) J3.out hb)
        clear hb
        obtain ⟨t0, t1, t2, t3, tf, tl⟩ := TB.out
        obtain ⟨u0, u1, uf, ul⟩ := CB.out
        obtain ⟨v0, v1, vf, vl⟩ := DB.out
        go_wp2_with fail
        clear t0 t1 t2 t3 tf tl u0 u1 uf ul v0 v1 vf vl
        refine (C5.out y4 Q2 q2 d2 GI.out PI.out J2.out).mono ?_
        rintro e y5 ⟨rfl, hb⟩
        have BL := Lib.hid (chain BL.out hb)
        have TB := Lib.hid (Box4.next (w := y4) TB.out hb)
        have CB := Lib.hid (Box2.next (w := y4) CB.out hb)
        have DB := Lib.hid (Box2.next (w := y4) DB.out hb)
        have GI := Lib.hid (Ints.next (w := y4) GI.out hb)
        have PI := Lib.hid (Ints.next (w := y4) PI.out hb)
        have LC := Lib.hid (Cels.next (w := y4) LC.out hb)
        have MC := Lib.hid (Cels.next (w := y4) MC.out hb)
        have J1 := Lib.hid (Ints.next (w := y4) J1.out hb)
        have J2 := Lib.hid (Ints.next (w := y4) J2.out hb)
        have J3 := Lib.hid (Ints.next (w := y4) J3.out hb)
        clear hb
        obtain ⟨t0, t1, t2, t3, tf, tl⟩ := TB.out
        obtain ⟨u0, u1, uf, ul⟩ := CB.out
        obtain ⟨v0, v1, vf, vl⟩ := DB.out
        go_wp2_with fail
        clear t0 t1 t2 t3 tf tl u0 u1 uf ul v0 v1 vf vl
        refine (C6.out y5 Q3 q3 d3 GI.out PI.out J3.out).mono ?_
        rintro e y6 ⟨rfl, hb⟩
        have BL := Lib.hid (chain BL.out hb)
        have TB := Lib.hid (Box4.next (w := y5) TB.out hb)
        have CB := Lib.hid (Box2.next (w := y5) CB.out hb)
        have DB := Lib.hid (Box2.next (w := y5) DB.out hb)
        have GI := Lib.hid (Ints.next (w := y5) GI.out hb)
        have PI := Lib.hid (Ints.next (w := y5) PI.out hb)
        have LC := Lib.hid (Cels.next (w := y5) LC.out hb)
        have MC := Lib.hid (Cels.next (w := y5) MC.out hb)
        have J1 := Lib.hid (Ints.next (w := y5) J1.out hb)
        have J2 := Lib.hid (Ints.next (w := y5) J2.out hb)
        have J3 := Lib.hid (Ints.next (w := y5) J3.out hb)
        clear hb
        obtain rfl : q1 = q2 + q3 := by have := HL.out; have := hq1.out; have := hq2.out; have := hq3.out; omega
        have hT := HT.out
        subst hT
        have hq5 : q2 + q3 ≤ 4096 := by have := hq1.out; omega
        clear HT HL hq1 hq2 hq3
        go_wp2_with fail
        refine (known_any y6).mono ?_
        rintro e y7 ⟨rfl, hb⟩
        have BL := Lib.hid (chain BL.out hb)
        have TB := Lib.hid (Box4.next (w := y6) TB.out hb)
        have CB := Lib.hid (Box2.next (w := y6) CB.out hb)
        have DB := Lib.hid (Box2.next (w := y6) DB.out hb)
        have GI := Lib.hid (Ints.next (w := y6) GI.out hb)
        have PI := Lib.hid (Ints.next (w := y6) PI.out hb)
        have LC := Lib.hid (Cels.next (w := y6) LC.out hb)
        have MC := Lib.hid (Cels.next (w := y6) MC.out hb)
        have J1 := Lib.hid (Ints.next (w := y6) J1.out hb)
        have J2 := Lib.hid (Ints.next (w := y6) J2.out hb)
        have J3 := Lib.hid (Ints.next (w := y6) J3.out hb)
        clear hb
        go_wp2
        go_ret
        exact ⟨rfl, BL.out⟩
    · have hsw : decide (b1 < a1) = true := decide_eq_true (by omega)
      have kk : col < b1 ∨ (b1 ≤ col ∧ a1 ≤ col) ∨ (b1 ≤ col ∧ col < a1) := by omega
      rcases kk with kk | ⟨kk, k2'⟩ | ⟨kk, k2'⟩
      · skip
        go_wp2_with fail
        refine (known_any V0).mono ?_
        rintro e wz ⟨rfl, hb⟩
        have BL := Lib.hid (chain BL.out hb)
        have TB := Lib.hid (Box4.next (w := V0) TB.out hb)
        have CB := Lib.hid (Box2.next (w := V0) CB.out hb)
        have DB := Lib.hid (Box2.next (w := V0) DB.out hb)
        have GI := Lib.hid (Ints.next (w := V0) GI.out hb)
        have PI := Lib.hid (Ints.next (w := V0) PI.out hb)
        have LC := Lib.hid (Cels.next (w := V0) LC.out hb)
        have MC := Lib.hid (Cels.next (w := V0) MC.out hb)
        clear hb
        go_wp2
        go_ret
        exact ⟨rfl, BL.out⟩
      · skip
        have d1' : decide (col < b1) = false := decide_eq_false (by omega)
        have d2' : decide (a1 ≤ col) = true := decide_eq_true k2'
        go_wp2_with fail
        refine (known_any V0).mono ?_
        rintro e wz ⟨rfl, hb⟩
        have BL := Lib.hid (chain BL.out hb)
        have TB := Lib.hid (Box4.next (w := V0) TB.out hb)
        have CB := Lib.hid (Box2.next (w := V0) CB.out hb)
        have DB := Lib.hid (Box2.next (w := V0) DB.out hb)
        have GI := Lib.hid (Ints.next (w := V0) GI.out hb)
        have PI := Lib.hid (Ints.next (w := V0) PI.out hb)
        have LC := Lib.hid (Cels.next (w := V0) LC.out hb)
        have MC := Lib.hid (Cels.next (w := V0) MC.out hb)
        clear hb
        go_wp2
        go_ret
        exact ⟨rfl, BL.out⟩
      · have HPT := Lib.hid (parts_of W H A n c A2 m c2 g p a1 a2 b1 b2 b1 a1 col (by omega) (by omega) HA.out HB.out (by omega) (by omega) kk k2')
        have d1' : decide (col < b1) = false := decide_eq_false (by omega)
        have d2' : decide (a1 ≤ col) = false := decide_eq_false (by omega)
        obtain ⟨R1, R2, R3, t1, t2, t3, hL, hL1, hT, ⟨x1, x2⟩, ⟨x3, x4⟩, c1, c2', c3, c4, c5, c6⟩ := HPT.out
        have C1 := Lib.hid c1
        have C2 := Lib.hid c2'
        have C3 := Lib.hid c3
        have C4 := Lib.hid c4
        have C5 := Lib.hid c5
        have C6 := Lib.hid c6
        have HL := Lib.hid hL
        have HT := Lib.hid hT
        clear c1 c2' c3 c4 c5 c6 hL hT HPT
        obtain ⟨t0, t1, t2, t3, tf, tl⟩ := TB.out
        obtain ⟨u0, u1, uf, ul⟩ := CB.out
        obtain ⟨v0, v1, vf, vl⟩ := DB.out
        go_wp2_with fail
        clear t0 t1 t2 t3 tf tl u0 u1 uf ul v0 v1 vf vl
        refine (C1.out V0 GI.out PI.out).mono ?_
        rintro e y1 ⟨Q1, q1, d1, rfl, o, hb⟩
        have J1 := Lib.hid o.ints
        have hq1 := Lib.hid o.len
        clear o
        have BL := Lib.hid (chain BL.out hb)
        have TB := Lib.hid (Box4.next (w := V0) TB.out hb)
        have CB := Lib.hid (Box2.next (w := V0) CB.out hb)
        have DB := Lib.hid (Box2.next (w := V0) DB.out hb)
        have GI := Lib.hid (Ints.next (w := V0) GI.out hb)
        have PI := Lib.hid (Ints.next (w := V0) PI.out hb)
        have LC := Lib.hid (Cels.next (w := V0) LC.out hb)
        have MC := Lib.hid (Cels.next (w := V0) MC.out hb)
        clear hb
        obtain ⟨t0, t1, t2, t3, tf, tl⟩ := TB.out
        obtain ⟨u0, u1, uf, ul⟩ := CB.out
        obtain ⟨v0, v1, vf, vl⟩ := DB.out
        go_wp2_with fail
        clear t0 t1 t2 t3 tf tl u0 u1 uf ul v0 v1 vf vl
        refine (C2.out y1 GI.out PI.out).mono ?_
        rintro e y2 ⟨Q2, q2, d2, rfl, o, hb⟩
        have J2 := Lib.hid o.ints
        have hq2 := Lib.hid o.len
        clear o
        have BL := Lib.hid (chain BL.out hb)
        have TB := Lib.hid (Box4.next (w := y1) TB.out hb)
        have CB := Lib.hid (Box2.next (w := y1) CB.out hb)
        have DB := Lib.hid (Box2.next (w := y1) DB.out hb)
        have GI := Lib.hid (Ints.next (w := y1) GI.out hb)
        have PI := Lib.hid (Ints.next (w := y1) PI.out hb)
        have LC := Lib.hid (Cels.next (w := y1) LC.out hb)
        have MC := Lib.hid (Cels.next (w := y1) MC.out hb)
        have J1 := Lib.hid (Ints.next (w := y1) J1.out hb)
        clear hb
        obtain ⟨t0, t1, t2, t3, tf, tl⟩ := TB.out
        obtain ⟨u0, u1, uf, ul⟩ := CB.out
        obtain ⟨v0, v1, vf, vl⟩ := DB.out
        go_wp2_with fail
        clear t0 t1 t2 t3 tf tl u0 u1 uf ul v0 v1 vf vl
        refine (C3.out y2 GI.out PI.out).mono ?_
        rintro e y3 ⟨Q3, q3, d3, rfl, o, hb⟩
        have J3 := Lib.hid o.ints
        have hq3 := Lib.hid o.len
        clear o
        have BL := Lib.hid (chain BL.out hb)
        have TB := Lib.hid (Box4.next (w := y2) TB.out hb)
        have CB := Lib.hid (Box2.next (w := y2) CB.out hb)
        have DB := Lib.hid (Box2.next (w := y2) DB.out hb)
        have GI := Lib.hid (Ints.next (w := y2) GI.out hb)
        have PI := Lib.hid (Ints.next (w := y2) PI.out hb)
        have LC := Lib.hid (Cels.next (w := y2) LC.out hb)
        have MC := Lib.hid (Cels.next (w := y2) MC.out hb)
        have J1 := Lib.hid (Ints.next (w := y2) J1.out hb)
        have J2 := Lib.hid (Ints.next (w := y2) J2.out hb)
        clear hb
        obtain ⟨t0, t1, t2, t3, tf, tl⟩ := TB.out
        obtain ⟨u0, u1, uf, ul⟩ := CB.out
        obtain ⟨v0, v1, vf, vl⟩ := DB.out
        go_wp2_with fail
        clear t0 t1 t2 t3 tf tl u0 u1 uf ul v0 v1 vf vl
        refine (C4.out y3 Q1 q1 d1 GI.out PI.out J1.out).mono ?_
        rintro e y4 ⟨rfl, hb⟩
        have BL := Lib.hid (chain BL.out hb)
        have TB := Lib.hid (Box4.next (w := y3) TB.out hb)
        have CB := Lib.hid (Box2.next (w := y3) CB.out hb)
        have DB := Lib.hid (Box2.next (w := y3) DB.out hb)
        have GI := Lib.hid (Ints.next (w := y3) GI.out hb)
        have PI := Lib.hid (Ints.next (w := y3) PI.out hb)
        have LC := Lib.hid (Cels.next (w := y3) LC.out hb)
        have MC := Lib.hid (Cels.next (w := y3) MC.out hb)
        have J1 := Lib.hid (Ints.next (w := y3) J1.out hb)
        have J2 := Lib.hid (Ints.next (w := y3) J2.out hb)
        have J3 := Lib.hid (Ints.next (w := y3) J3.out hb)
        clear hb
        obtain ⟨t0, t1, t2, t3, tf, tl⟩ := TB.out
        obtain ⟨u0, u1, uf, ul⟩ := CB.out
        obtain ⟨v0, v1, vf, vl⟩ := DB.out
        go_wp2_with fail
        clear t0 t1 t2 t3 tf tl u0 u1 uf ul v0 v1 vf vl
        refine (C5.out y4 Q2 q2 d2 GI.out PI.out J2.out).mono ?_
        rintro e y5 ⟨rfl, hb⟩
        have BL := Lib.hid (chain BL.out hb)
        have TB := Lib.hid (Box4.next (w := y4) TB.out hb)
        have CB := Lib.hid (Box2.next (w := y4) CB.out hb)
        have DB := Lib.hid (Box2.next (w := y4) DB.out hb)
        have GI := Lib.hid (Ints.next (w := y4) GI.out hb)
        have PI := Lib.hid (Ints.next (w := y4) PI.out hb)
        have LC := Lib.hid (Cels.next (w := y4) LC.out hb)
        have MC := Lib.hid (Cels.next (w := y4) MC.out hb)
        have J1 := Lib.hid (Ints.next (w := y4) J1.out hb)
        have J2 := Lib.hid (Ints.next (w := y4) J2.out hb)
        have J3 := Lib.hid (Ints.next (w := y4) J3.out hb)
        clear hb
        obtain ⟨t0, t1, t2, t3, tf, tl⟩ := TB.out
        obtain ⟨u0, u1, uf, ul⟩ := CB.out
        obtain ⟨v0, v1, vf, vl⟩ := DB.out
        go_wp2_with fail
        clear t0 t1 t2 t3 tf tl u0 u1 uf ul v0 v1 vf vl
        refine (C6.out y5 Q3 q3 d3 GI.out PI.out J3.out).mono ?_
        rintro e y6 ⟨rfl, hb⟩
        have BL := Lib.hid (chain BL.out hb)
        have TB := Lib.hid (Box4.next (w := y5) TB.out hb)
        have CB := Lib.hid (Box2.next (w := y5) CB.out hb)
        have DB := Lib.hid (Box2.next (w := y5) DB.out hb)
        have GI := Lib.hid (Ints.next (w := y5) GI.out hb)
        have PI := Lib.hid (Ints.next (w := y5) PI.out hb)
        have LC := Lib.hid (Cels.next (w := y5) LC.out hb)
        have MC := Lib.hid (Cels.next (w := y5) MC.out hb)
        have J1 := Lib.hid (Ints.next (w := y5) J1.out hb)
        have J2 := Lib.hid (Ints.next (w := y5) J2.out hb)
        have J3 := Lib.hid (Ints.next (w := y5) J3.out hb)
        clear hb
        obtain rfl : q1 = q2 + q3 := by have := HL.out; have := hq1.out; have := hq2.out; have := hq3.out; omega
        have hT := HT.out
        subst hT
        have hq5 : q2 + q3 ≤ 4096 := by have := hq1.out; omega
        clear HT HL hq1 hq2 hq3
        go_wp2_with fail
        refine (known_any y6).mono ?_
        rintro e y7 ⟨rfl, hb⟩
        have BL := Lib.hid (chain BL.out hb)
        have TB := Lib.hid (Box4.next (w := y6) TB.out hb)
        have CB := Lib.hid (Box2.next (w := y6) CB.out hb)
        have DB := Lib.hid (Box2.next (w := y6) DB.out hb)
        have GI := Lib.hid (Ints.next (w := y6) GI.out hb)
        have PI := Lib.hid (Ints.next (w := y6) PI.out hb)
        have LC := Lib.hid (Cels.next (w := y6) LC.out hb)
        have MC := Lib.hid (Cels.next (w := y6) MC.out hb)
        have J1 := Lib.hid (Ints.next (w := y6) J1.out hb)
        have J2 := Lib.hid (Ints.next (w := y6) J2.out hb)
        have J3 := Lib.hid (Ints.next (w := y6) J3.out hb)
        clear hb
        go_wp2
        go_ret
        exact ⟨rfl, BL.out⟩
end Go.Proofs.Ytpoceidbiamgaaa
