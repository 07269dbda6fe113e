/- TerrainSymmetry, where cells lie between. -/
import Derived.Test.YtpoceidbiamgaaaWu
import Derived.Lib.QuietBelow
set_option linter.unusedVariables false
set_option linter.unusedSimpArgs false
namespace Go.Proofs.Ytpoceidbiamgaaa
open Go.RowKit
attribute [local go_sem ↓ high] eql_cell neq_cell
set_option maxHeartbeats 8000000 in
set_option maxRecDepth 100000 in
theorem law10_pos (W H : Int) (A : Option Addr) (n c : Nat) (A2 : Option Addr) (m c2 : Nat) (g p : List Int) (a1 a2 b1 b2 col : Int) (w : World) (hG : Ints w w.heap.size A n g) (hP : Ints w w.heap.size A2 m p) (hn : n ≤ 300) (hm : m ≤ 300) (ha : hasB W H g p a1 a2 = true) (hb : hasB W H g p b1 b2 = true) (h0 : ¬ lineN a1 a2 b1 b2 = 0) : Calls Try.prog 10 #[.agg #[.int .i64 W, .int .i64 H, .slice A n c, .slice A2 m c2], .agg #[.int .i64 a1, .int .i64 a2], .agg #[.int .i64 b1, .int .i64 b2], .int .i64 col] w (KnownOk w) := by
  obtain ⟨ht, k1, k2, k3, k4⟩ := hasB_iff.1 ha
  obtain ⟨_, k5, k6, k7, k8⟩ := hasB_iff.1 hb
  obtain ⟨⟨v1, v2, v3, v4, v5, v6⟩, _⟩ := terB_iff.1 ht
  have CL := Lib.hid (fun V => line_yes a1 a2 b1 b2 V ⟨k1, by omega, k3, by omega⟩ ⟨k5, by omega, k7, by omega⟩)
  have CM := Lib.hid (fun V => line_yes b1 b2 a1 a2 V ⟨k5, by omega, k7, by omega⟩ ⟨k1, by omega, k3, by omega⟩)
  have hs1 := span_le (a1 := a1) (a2 := a2) (b1 := b1) (b2 := b2) k1 (by omega) k3 (by omega) k5 (by omega) k7 (by omega)
  have hN62 : lineN a1 a2 b1 b2 ≤ 62 := by unfold lineN; omega
  obtain ⟨N, hN⟩ : ∃ N, lineN a1 a2 b1 b2 = N := ⟨_, rfl⟩
  have HLL : Hid ((lineL a1 a2 b1 b2).length = N) := (lineL_len a1 a2 b1 b2).trans hN
  have HLM : Hid ((lineL b1 b2 a1 a2).length = N) := (lineL_len b1 b2 a1 a2).trans ((lineN_comm a1 a2 b1 b2).trans hN)
  rw [hN] at hN62
  have HN := Lib.hid hN
  have HA := Lib.hid ha
  have HB := Lib.hid hb
  clear ha hb ht v5 v6 hN hs1
  have GI0 := Lib.hid hG
  have PI0 := Lib.hid hP
  have S0 := Lib.hid (t3_start W H A n c A2 m c2 a1 a2 b1 b2 w)
  clear hG hP
  go_enter Try.func10, Try.ntmps10
  go_wp2_with fail
  obtain ⟨W0, hW0⟩ : ∃ W0, W0 = (((w.alloc (.cells #[.int .i64 W, .int .i64 H, .slice A n c, .slice A2 m c2] 24)).alloc (.cells #[.int .i64 a1, .int .i64 a2] 26)).alloc (.cells #[.int .i64 b1, .int .i64 b2] 26)) := ⟨_, rfl⟩
  rw [← hW0] at S0
  rw [← hW0]
  clear hW0
  have BL := Lib.hid S0.out.1
  have TB := Lib.hid S0.out.2.1
  have CB := Lib.hid S0.out.2.2.1
  have DB := Lib.hid S0.out.2.2.2
  have GI := Lib.hid (GI0.out.next S0.out.1)
  have PI := Lib.hid (PI0.out.next S0.out.1)
  clear S0 GI0 PI0
  refine (big_any W H A n c A2 m c2 W0).mono ?_
  rintro e w1 ⟨rfl, hb⟩
  have BL := Lib.hid (chain BL.out hb)
  have TB := Lib.hid (Box4.next (w := W0) TB.out hb)
  have CB := Lib.hid (Box2.next (w := W0) CB.out hb)
  have DB := Lib.hid (Box2.next (w := W0) DB.out hb)
  have GI := Lib.hid (Ints.next (w := W0) GI.out hb)
  have PI := Lib.hid (Ints.next (w := W0) PI.out hb)
  clear hb
  rw [show bigB n m = false by simp [bigB]; omega]
  obtain ⟨t0, t1, t2, t3, tf, tl⟩ := TB.out
  obtain ⟨u0, u1, uf, ul⟩ := CB.out
  obtain ⟨v0, v1, vf, vl⟩ := DB.out
  go_wp2_with fail
  clear t0 t1 t2 t3 tf tl u0 u1 uf ul v0 v1 vf vl
  refine (refHas_any W H A n c A2 m c2 g p a1 a2 w1 GI.out PI.out (by omega) (by omega)).mono ?_
  rintro e w2 ⟨he, hb⟩
  rw [HA.out] at he
  subst he
  have BL := Lib.hid (chain BL.out hb)
  have TB := Lib.hid (Box4.next (w := w1) TB.out hb)
  have CB := Lib.hid (Box2.next (w := w1) CB.out hb)
  have DB := Lib.hid (Box2.next (w := w1) DB.out hb)
  have GI := Lib.hid (Ints.next (w := w1) GI.out hb)
  have PI := Lib.hid (Ints.next (w := w1) PI.out hb)
  clear hb
  obtain ⟨t0, t1, t2, t3, tf, tl⟩ := TB.out
  obtain ⟨u0, u1, uf, ul⟩ := CB.out
  obtain ⟨v0, v1, vf, vl⟩ := DB.out
  go_wp2_with fail
  clear t0 t1 t2 t3 tf tl u0 u1 uf ul v0 v1 vf vl
  refine (refHas_any W H A n c A2 m c2 g p b1 b2 w2 GI.out PI.out (by omega) (by omega)).mono ?_
  rintro e w3 ⟨he, hb⟩
  rw [HB.out] at he
  subst he
  have BL := Lib.hid (chain BL.out hb)
  have TB := Lib.hid (Box4.next (w := w2) TB.out hb)
  have CB := Lib.hid (Box2.next (w := w2) CB.out hb)
  have DB := Lib.hid (Box2.next (w := w2) DB.out hb)
  have GI := Lib.hid (Ints.next (w := w2) GI.out hb)
  have PI := Lib.hid (Ints.next (w := w2) PI.out hb)
  clear hb
  obtain ⟨t0, t1, t2, t3, tf, tl⟩ := TB.out
  obtain ⟨u0, u1, uf, ul⟩ := CB.out
  obtain ⟨v0, v1, vf, vl⟩ := DB.out
  go_wp2_with fail
  clear t0 t1 t2 t3 tf tl u0 u1 uf ul v0 v1 vf vl
  refine (CL.out w3).mono ?_
  rintro e w4 ⟨lA, ln, lc, rfl, o, hb⟩
  obtain rfl : ln = N := by have := o.len; have := HLL.out; omega
  have LC := Lib.hid o.cels
  clear o
  have BL := Lib.hid (chain BL.out hb)
  have TB := Lib.hid (Box4.next (w := w3) TB.out hb)
  have CB := Lib.hid (Box2.next (w := w3) CB.out hb)
  have DB := Lib.hid (Box2.next (w := w3) DB.out hb)
  have GI := Lib.hid (Ints.next (w := w3) GI.out hb)
  have PI := Lib.hid (Ints.next (w := w3) PI.out hb)
  clear hb
  obtain ⟨t0, t1, t2, t3, tf, tl⟩ := TB.out
  obtain ⟨u0, u1, uf, ul⟩ := CB.out
  obtain ⟨v0, v1, vf, vl⟩ := DB.out
  go_wp2_with fail
  clear t0 t1 t2 t3 tf tl u0 u1 uf ul v0 v1 vf vl
  refine (CM.out w4).mono ?_
  rintro e w5 ⟨mA, mn, mc, rfl, o, hb⟩
  obtain rfl : mn = ln := by have := o.len; have := HLM.out; omega
  have MC := Lib.hid o.cels
  clear o
  have BL := Lib.hid (chain BL.out hb)
  have TB := Lib.hid (Box4.next (w := w4) TB.out hb)
  have CB := Lib.hid (Box2.next (w := w4) CB.out hb)
  have DB := Lib.hid (Box2.next (w := w4) DB.out hb)
  have GI := Lib.hid (Ints.next (w := w4) GI.out hb)
  have PI := Lib.hid (Ints.next (w := w4) PI.out hb)
  have LC := Lib.hid (Cels.next (w := w4) LC.out hb)
  clear hb
  have hpos : 0 < mn := Nat.pos_of_ne_zero (fun e => h0 (HN.out.trans e))
  have hz1' : ((mn : Int) == 0) = false := by simp; omega
  have hz2' : decide ((0 : Int) < (mn : Int)) = true := decide_eq_true (by omega)
  go_wp2
  go_loopw [13] (fun i wr => ∃ k : Nat, k ≤ mn ∧ i = .int .i64 k ∧ Below w5.heap.size w5 wr) (fun i _ => mn - (intOf i).toNat)
  case atStart => exact ⟨0, Nat.zero_le _, rfl, Below.refl _ _⟩
  case round =>
    obtain ⟨k, hk, rfl, hbr⟩ := hrel
    have hb := hbr
    have BW := Lib.hid hbr
    clear hbr
    have BL := Lib.hid (chain BL.out hb)
    have TB := Lib.hid (Box4.next (w := w5) TB.out hb)
    have CB := Lib.hid (Box2.next (w := w5) CB.out hb)
    have DB := Lib.hid (Box2.next (w := w5) DB.out hb)
    have GI := Lib.hid (Ints.next (w := w5) GI.out hb)
    have PI := Lib.hid (Ints.next (w := w5) PI.out hb)
    have LC := Lib.hid (Cels.next (w := w5) LC.out hb)
    have MC := Lib.hid (Cels.next (w := w5) MC.out hb)
    clear hb
    by_cases hlt : k < mn
    · obtain ⟨lb, rfl, hlb, hlc⟩ := LC.out.2 (by omega)
      obtain ⟨mb, rfl, hmb, hmc⟩ := MC.out.2 (by omega)
      obtain ⟨j, hj⟩ : ∃ j, j = mn - 1 - k := ⟨_, rfl⟩
      have HLK : Hid (k < lineN a1 a2 b1 b2) := by rw [HN.out]; exact hlt
      have e1 := hlc k hlt
      have e2 := hmc j (by omega)
      rw [lineL_at HLK.out] at e1
      rw [lineL_at (by rw [lineN_comm, HN.out]; omega), show lineC b1 b2 a1 a2 j = lineC a1 a2 b1 b2 k by rw [hj, ← HN.out]; exact lineC_swap HLK.out] at e2
      simp only [Option.getD_some] at e1 e2
      have hA := eqP_no (lineC_a HLK.out)
      have hB := eqP_no (lineC_b HLK.out)
      have hbd := lineC_bd HLK.out
      obtain ⟨Cc, hC⟩ : ∃ C, lineC a1 a2 b1 b2 k = C := ⟨_, rfl⟩
      rw [hC] at e1 e2 hA hB hbd
      have HCx := Lib.hid hC
      obtain ⟨cx, cy⟩ := Cc
      simp only at e1 e2 hbd
      obtain ⟨c0, c1⟩ := e1
      obtain ⟨d0, d1⟩ := e2
      have HCH : Hid (hasB W H g p cx cy = true) := hasB_iff.2 ⟨(hasB_iff.1 HA.out).1, by omega, by omega, by omega, by omega⟩
      have wj : IntKind.i64.wrap ((mn : Int) - 1 - (k : Int)) = (j : Int) := by rw [IntKind.wrap_i64]; omega
      have wj1 : IntKind.i64.wrap ((mn : Int) - 1) = (mn : Int) - 1 := by rw [IntKind.wrap_i64]; omega
      have wj2 : (mn : Int) - 1 - (k : Int) = (j : Int) := by omega
      have hyy := eqP_yes (cx, cy)
      clear hlc hmc hC hbd hj
      have r0 := cell_regrown TB.out.1
      have r1 := cell_regrown TB.out.2.1
      have r2 := cell_regrown TB.out.2.2.1
      have r3 := cell_regrown TB.out.2.2.2.1
      have r4 := cell_regrown CB.out.1
      have r5 := cell_regrown CB.out.2.1
      have r6 := cell_regrown DB.out.1
      have r7 := cell_regrown DB.out.2.1
      have r8 := cell_regrown c0
      have r9 := cell_regrown c1
      have s0 := cell_regrown d0
      have s1 := cell_regrown d1
      have cH : Hid (∀ d os, Calls Try.prog 20 #[.agg #[.int .i64 W, .int .i64 H, .slice A n c, .slice A2 m c2], .agg #[.int .i64 cx, .int .i64 cy]] (Sort.grow (redrawn wr d) os) fun e w'' => e = .returned (.bool true) ∧ ∃ p : Regrown, w'' = Sort.grow (redrawn wr p.d) p.os) := fun d os => Calls.regrown_of (by
        have := has_any W H A n c A2 m c2 g p cx cy (Sort.grow (redrawn wr d) os) (GI.out.next (below_regrown wr d os)) (PI.out.next (below_regrown wr d os)) (by omega) (by omega)
        rw [HCH.out] at this
        exact this)
      have ik0 : (0 : Int) ≤ (k : Int) := by omega
      have ik1 : (k : Int) < (mn : Int) := by omega
      have ij0 : (0 : Int) ≤ (j : Int) := by omega
      have ij1 : (j : Int) < (mn : Int) := by omega
      go_wp2
      refine wp_region_quiet_below (by kernel_rfl) (by kernel_rfl) ?_
      repeat (first | go_big_quiet_step (exact cH.out _ _) | quiet_step (exact cH.out _ _))
      refine wpQuiet_nil ?_
      intro _ hw'
      obtain ⟨⟨dq, osq⟩, hw''⟩ := hw'
      subst hw''
      obtain ⟨V1, hV1⟩ : ∃ V, V = Sort.grow (redrawn wr dq) osq := ⟨_, rfl⟩
      have hb : Below wr.heap.size wr V1 := by rw [hV1]; exact below_regrown wr dq osq
      rw [← hV1]
      clear hV1
      clear r0 r1 r2 r3 r4 r5 r6 r7 r8 r9 s0 s1 cH d0 d1 wj wj1 wj2 hA hB hyy HCH
      have c0 := gcell hb (by omega) c0
      have c1 := gcell hb (by omega) c1
      have hlb2 : lb < V1.heap.size := by have := hb.size; omega
      have BW := Lib.hid (chain BW.out hb)
      have BL := Lib.hid (chain BL.out hb)
      have TB := Lib.hid (Box4.next (w := wr) TB.out hb)
      have CB := Lib.hid (Box2.next (w := wr) CB.out hb)
      have DB := Lib.hid (Box2.next (w := wr) DB.out hb)
      have GI := Lib.hid (Ints.next (w := wr) GI.out hb)
      have PI := Lib.hid (Ints.next (w := wr) PI.out hb)
      have LC := Lib.hid (Cels.next (w := wr) LC.out hb)
      have MC := Lib.hid (Cels.next (w := wr) MC.out hb)
      clear hb
      by_cases hk0 : 0 < k
      · obtain ⟨j1, hj1⟩ : ∃ j1, j1 + 1 = k := ⟨k - 1, by omega⟩
        obtain ⟨lb', e', _, hlc⟩ := LC.out.2 (by omega)
        injection e' with e'
        injection e' with e'
        subst e'
        have e1 := hlc j1 (by omega)
        have HJ : Hid (j1 + 1 < lineN a1 a2 b1 b2) := by show j1 + 1 < lineN a1 a2 b1 b2; rw [HN.out]; omega
        rw [lineL_at (Nat.lt_of_succ_lt HJ.out)] at e1
        simp only [Option.getD_some] at e1
        have hNr := lineC_near HJ.out
        have hNe := eqP_no (lineC_ne HJ.out)
        have hbd := lineC_bd (Nat.lt_of_succ_lt HJ.out)
        have hbd2 := lineC_bd HJ.out
        rw [hj1] at hNr hNe hbd2
        rw [HCx.out] at hNr hNe hbd2
        obtain ⟨Cc, hC⟩ : ∃ C, lineC a1 a2 b1 b2 j1 = C := ⟨_, rfl⟩
        rw [hC] at e1 hNr hNe hbd
        obtain ⟨px, py⟩ := Cc
        simp only at e1 hNr hbd hbd2
        obtain ⟨d0, d1⟩ := e1
        have r0 := cell_regrown c0
        have r1 := cell_regrown c1
        have r2 := cell_regrown d0
        have r3 := cell_regrown d1
        have cH : Hid (∀ d os, Calls Try.prog 40 #[.agg #[.int .i64 px, .int .i64 py], .agg #[.int .i64 cx, .int .i64 cy]] (Sort.grow (redrawn V1 d) os) fun e w'' => e = .returned (.bool true) ∧ ∃ p : Regrown, w'' = Sort.grow (redrawn V1 p.d) p.os) := fun d os => Calls.regrown_of (by
          have := near_any px py cx cy (Sort.grow (redrawn V1 d) os) (by omega) (by omega) (by omega) (by omega) (by omega) (by omega) (by omega) (by omega)
          rw [decide_eq_true hNr] at this
          exact this)
        have wk : IntKind.i64.wrap ((k : Int) - 1) = (j1 : Int) := by rw [IntKind.wrap_i64]; omega
        have wk2 : (k : Int) - 1 = (j1 : Int) := by omega
        have hk1 : decide ((0 : Int) < (k : Int)) = true := decide_eq_true (by omega)
        have ij0 : (0 : Int) ≤ (j1 : Int) := by omega
        have ij1 : (j1 : Int) < (mn : Int) := by omega
        clear hNr hbd hbd2 hC hlc hj1
        go_wp2
        refine wp_region_quiet_below (by kernel_rfl) (by kernel_rfl) ?_
        repeat (first | go_big_quiet_step (exact cH.out _ _) | quiet_step (exact cH.out _ _))
        refine wpQuiet_nil ?_
        intro _ hw'
        obtain ⟨⟨dq, osq⟩, hw''⟩ := hw'
        subst hw''
        obtain ⟨V2, hV2⟩ : ∃ V, V = Sort.grow (redrawn V1 dq) osq := ⟨_, rfl⟩
        have hb : Below V1.heap.size V1 V2 := by rw [hV2]; exact below_regrown V1 dq osq
        rw [← hV2]
        clear hV2
        have BW := Lib.hid (chain BW.out hb)
        clear hb wk wk2 hk1 ij0 ij1 r0 r1 r2 r3
        go_wp2
        go_roundw
        case rel => first | exact ⟨k + 1, by omega, by go_num, BW.out⟩ | ((repeat apply Exists.intro); exact ⟨⟨k + 1, by omega, by go_num, BW.out⟩, rfl⟩)
        case measure => simp [intOf]; omega
      · have hk1 : decide ((0 : Int) < (k : Int)) = false := decide_eq_false (by omega)
        have hk2 : decide (0 < k) = false := decide_eq_false hk0
        go_wp2
        go_quiet (fail)
        go_wp2
        go_roundw
        case rel => first | exact ⟨k + 1, by omega, by go_num, below_drewN BW.out _⟩ | ((repeat apply Exists.intro); exact ⟨⟨k + 1, by omega, by go_num, below_drewN BW.out _⟩, rfl⟩)
        case measure => simp [intOf]; omega
    · obtain rfl : k = mn := by omega
      obtain ⟨lb, rfl, hlb, hlc⟩ := LC.out.2 (by omega)
      obtain ⟨j, hj⟩ : ∃ j, j + 1 = k := ⟨k - 1, by omega⟩
      have e1 := hlc 0 (by omega)
      have e2 := hlc j (by omega)
      have H0 : Hid (0 < lineN a1 a2 b1 b2) := by rw [HN.out]; exact hpos
      have HJ : Hid (j + 1 = lineN a1 a2 b1 b2) := by rw [HN.out]; exact hj
      rw [lineL_at H0.out] at e1
      rw [lineL_at (show j < lineN a1 a2 b1 b2 by have := HJ.out; omega)] at e2
      simp only [Option.getD_some] at e1 e2
      have n1 := lineC_first H0.out
      have n2 := lineC_last HJ.out
      have b1' := lineC_bd H0.out
      have b2' := lineC_bd (show j < lineN a1 a2 b1 b2 by have := HJ.out; omega)
      obtain ⟨C1, hC1⟩ : ∃ C, lineC a1 a2 b1 b2 0 = C := ⟨_, rfl⟩
      obtain ⟨C2, hC2⟩ : ∃ C, lineC a1 a2 b1 b2 j = C := ⟨_, rfl⟩
      rw [hC1] at e1 n1 b1'
      rw [hC2] at e2 n2 b2'
      obtain ⟨fx, fy⟩ := C1
      obtain ⟨lx, ly⟩ := C2
      simp only at e1 e2 n1 n2 b1' b2'
      obtain ⟨c0, c1⟩ := e1
      obtain ⟨d0, d1⟩ := e2
      rw [Nat.zero_mul] at c0 c1
      have r4 := cell_regrown CB.out.1
      have r5 := cell_regrown CB.out.2.1
      have r6 := cell_regrown DB.out.1
      have r7 := cell_regrown DB.out.2.1
      have r8 := cell_regrown c0
      have r9 := cell_regrown c1
      have s0 := cell_regrown d0
      have s1 := cell_regrown d1
      have cF : Hid (∀ d os, Calls Try.prog 40 #[.agg #[.int .i64 a1, .int .i64 a2], .agg #[.int .i64 fx, .int .i64 fy]] (Sort.grow (redrawn wr d) os) fun e w'' => e = .returned (.bool true) ∧ ∃ p : Regrown, w'' = Sort.grow (redrawn wr p.d) p.os) := fun d os => Calls.regrown_of (by
        have := near_any a1 a2 fx fy (Sort.grow (redrawn wr d) os) (by omega) (by omega) (by omega) (by omega) (by omega) (by omega) (by omega) (by omega)
        rw [decide_eq_true n1] at this
        exact this)
      have cG : Hid (∀ d os, Calls Try.prog 40 #[.agg #[.int .i64 lx, .int .i64 ly], .agg #[.int .i64 b1, .int .i64 b2]] (Sort.grow (redrawn wr d) os) fun e w'' => e = .returned (.bool true) ∧ ∃ p : Regrown, w'' = Sort.grow (redrawn wr p.d) p.os) := fun d os => Calls.regrown_of (by
        have := near_any lx ly b1 b2 (Sort.grow (redrawn wr d) os) (by omega) (by omega) (by omega) (by omega) (by omega) (by omega) (by omega) (by omega)
        rw [decide_eq_true n2] at this
        exact this)
      have wk : IntKind.i64.wrap ((k : Int) - 1) = (j : Int) := by rw [IntKind.wrap_i64]; omega
      have wk2 : (k : Int) - 1 = (j : Int) := by omega
      have ij0 : (0 : Int) ≤ (j : Int) := by omega
      have ij1 : (j : Int) < (k : Int) := by omega
      have hpos' : (0 : Int) < (k : Int) := by omega
      clear n1 n2 b1' b2' hC1 hC2 hlc hj HJ
      go_wp2
      refine wp_region_quiet_below (by kernel_rfl) (by kernel_rfl) ?_
      repeat (first | go_big_quiet_step (first | exact cF.out _ _ | exact cG.out _ _) | quiet_step (first | exact cF.out _ _ | exact cG.out _ _))
      refine wpQuiet_nil ?_
      intro _ hw'
      obtain ⟨⟨dq, osq⟩, hw''⟩ := hw'
      subst hw''
      obtain ⟨V3, hV3⟩ : ∃ V, V = Sort.grow (redrawn wr dq) osq := ⟨_, rfl⟩
      have hb : Below wr.heap.size wr V3 := by rw [hV3]; exact below_regrown wr dq osq
      rw [← hV3]
      clear hV3
      clear r4 r5 r6 r7 r8 r9 s0 s1 cF cG c0 c1 d0 d1 wk wk2 ij0 ij1 hz1' hz2' BW
      have BL := Lib.hid (chain BL.out hb)
      have TB := Lib.hid (Box4.next (w := wr) TB.out hb)
      have CB := Lib.hid (Box2.next (w := wr) CB.out hb)
      have DB := Lib.hid (Box2.next (w := wr) DB.out hb)
      have GI := Lib.hid (Ints.next (w := wr) GI.out hb)
      have PI := Lib.hid (Ints.next (w := wr) PI.out hb)
      have LC := Lib.hid (Cels.next (w := wr) LC.out hb)
      have MC := Lib.hid (Cels.next (w := wr) MC.out hb)
      clear hb
      go_wp2
      obtain ⟨t0, t1, t2, t3, tf, tl⟩ := TB.out
      obtain ⟨u0, u1, uf, ul⟩ := CB.out
      obtain ⟨v0, v1, vf, vl⟩ := DB.out
      go_quiet (fail)
      clear t0 t1 t2 t3 tf tl u0 u1 uf ul v0 v1 vf vl
      obtain ⟨V0, hV0⟩ : ∃ V, V = V3.drewN nq := ⟨_, rfl⟩
      have hb : Below V3.heap.size V3 V0 := by rw [hV0]; exact below_drewN (Below.refl _ _) _
      have BL := Lib.hid (chain BL.out hb)
      have TB := Lib.hid (Box4.next (w := V3) TB.out hb)
      have CB := Lib.hid (Box2.next (w := V3) CB.out hb)
      have DB := Lib.hid (Box2.next (w := V3) DB.out hb)
      have GI := Lib.hid (Ints.next (w := V3) GI.out hb)
      have PI := Lib.hid (Ints.next (w := V3) PI.out hb)
      have LC := Lib.hid (Cels.next (w := V3) LC.out hb)
      have MC := Lib.hid (Cels.next (w := V3) MC.out hb)
      clear hb
      rw [← hV0]
      clear hV0
      by_cases hle : a1 ≤ b1
      · have hsw : decide (b1 < a1) = false := decide_eq_false (by omega)
        have kk : col < a1 ∨ (a1 ≤ col ∧ b1 ≤ col) ∨ (a1 ≤ col ∧ col < b1) := by omega
        rcases kk with kk | ⟨kk, k2'⟩ | ⟨kk, k2'⟩
        · skip
          go_wp2_with fail
          refine (known_any V0).mono ?_
          rintro e wz ⟨rfl, hb⟩
          have BL := Lib.hid (chain BL.out hb)
          have TB := Lib.hid (Box4.next (w := V0) TB.out hb)
          have CB := Lib.hid (Box2.next (w := V0) CB.out hb)
          have DB := Lib.hid (Box2.next (w := V0) DB.out hb)
          have GI := Lib.hid (Ints.next (w := V0) GI.out hb)
          have PI := Lib.hid (Ints.next (w := V0) PI.out hb)
          have LC := Lib.hid (Cels.next (w := V0) LC.out hb)
          have MC := Lib.hid (Cels.next (w := V0) MC.out hb)
          clear hb
          go_wp2
          go_ret
          exact ⟨rfl, BL.out⟩
        · skip
          have d1' : decide (col < a1) = false := decide_eq_false (by omega)
          have d2' : decide (b1 ≤ col) = true := decide_eq_true k2'
          go_wp2_with fail
          refine (known_any V0).mono ?_
          rintro e wz ⟨rfl, hb⟩
          have BL := Lib.hid (chain BL.out hb)
          have TB := Lib.hid (Box4.next (w := V0) TB.out hb)
          have CB := Lib.hid (Box2.next (w := V0) CB.out hb)
          have DB := Lib.hid (Box2.next (w := V0) DB.out hb)
          have GI := Lib.hid (Ints.next (w := V0) GI.out hb)
          have PI := Lib.hid (Ints.next (w := V0) PI.out hb)
          have LC := Lib.hid (Cels.next (w := V0) LC.out hb)
          have MC := Lib.hid (Cels.next (w := V0) MC.out hb)
          clear hb
          go_wp2
          go_ret
          exact ⟨rfl, BL.out⟩
        · have HPT := Lib.hid (parts_of W H A n c A2 m c2 g p a1 a2 b1 b2 a1 b1 col (by omega) (by omega) HA.out HB.out (by omega) (by omega) kk k2')
          have d1' : decide (col < a1) = false := decide_eq_false (by omega)
          have d2' : decide (b1 ≤ col) = false := decide_eq_false (by omega)
          obtain ⟨R1, R2, R3, t1, t2, t3, hL, hL1, hT, ⟨x1, x2⟩, ⟨x3, x4⟩, c1, c2', c3, c4, c5, c6⟩ := HPT.out
          have C1 := Lib.hid c1
          have C2 := Lib.hid c2'
          have C3 := Lib.hid c3
          have C4 := Lib.hid c4
          have C5 := Lib.hid c5
          have C6 := Lib.hid c6
          have HL := Lib.hid hL
          have HT := Lib.hid hT
          clear c1 c2' c3 c4 c5 c6 hL hT HPT
          obtain ⟨t0, t1, t2, t3, tf, tl⟩ := TB.out
          obtain ⟨u0, u1, uf, ul⟩ := CB.out
          obtain ⟨v0, v1, vf, vl⟩ := DB.out
          go_wp2_with fail
          clear t0 t1 t2 t3 tf tl u0 u1 uf ul v0 v1 vf vl
          refine (C1.out V0 GI.out PI.out).mono ?_
          rintro e y1 ⟨Q1, q1, d1, rfl, o, hb⟩
          have J1 := Lib.hid o.ints
          have hq1 := Lib.hid o.len
          clear o
          have BL := Lib.hid (chain BL.out hb)
          have TB := Lib.hid (Box4.next (w := V0) TB.out hb)
          have CB := Lib.hid (Box2.next (w := V0) CB.out hb)
          have DB := Lib.hid (Box2.next (w := V0) DB.out hb)
          have GI := Lib.hid (Ints.next (w := V0) GI.out hb)
          have PI := Lib.hid (Ints.next (w := V0) PI.out hb)
          have LC := Lib.hid (Cels.next (w := V0) LC.out hb)
          have MC := Lib.hid (Cels.next (w := V0) MC.out hb)
          clear hb
          obtain ⟨t0, t1, t2, t3, tf, tl⟩ := TB.out
          obtain ⟨u0, u1, uf, ul⟩ := CB.out
          obtain ⟨v0, v1, vf, vl⟩ := DB.out
          go_wp2_with fail
          clear t0 t1 t2 t3 tf tl u0 u1 uf ul v0 v1 vf vl
          refine (C2.out y1 GI.out PI.out).mono ?_
          rintro e y2 ⟨Q2, q2, d2, rfl, o, hb⟩
          have J2 := Lib.hid o.ints
          have hq2 := Lib.hid o.len
          clear o
          have BL := Lib.hid (chain BL.out hb)
          have TB := Lib.hid (Box4.next (w := y1) TB.out hb)
          have CB := Lib.hid (Box2.next (w := y1) CB.out hb)
          have DB := Lib.hid (Box2.next (w := y1) DB.out hb)
          have GI := Lib.hid (Ints.next (w := y1) GI.out hb)
          have PI := Lib.hid (Ints.next (w := y1) PI.out hb)
          have LC := Lib.hid (Cels.next (w := y1) LC.out hb)
          have MC := Lib.hid (Cels.next (w := y1) MC.out hb)
          have J1 := Lib.hid (Ints.next (w := y1) J1.out hb)
          clear hb
          obtain ⟨t0, t1, t2, t3, tf, tl⟩ := TB.out
          obtain ⟨u0, u1, uf, ul⟩ := CB.out
          obtain ⟨v0, v1, vf, vl⟩ := DB.out
          go_wp2_with fail
          clear t0 t1 t2 t3 tf tl u0 u1 uf ul v0 v1 vf vl
          refine (C3.out y2 GI.out PI.out).mono ?_
          rintro e y3 ⟨Q3, q3, d3, rfl, o, hb⟩
          have J3 := Lib.hid o.ints
          have hq3 := Lib.hid o.len
          clear o
          have BL := Lib.hid (chain BL.out hb)
          have TB := Lib.hid (Box4.next (w := y2) TB.out hb)
          have CB := Lib.hid (Box2.next (w := y2) CB.out hb)
          have DB := Lib.hid (Box2.next (w := y2) DB.out hb)
          have GI := Lib.hid (Ints.next (w := y2) GI.out hb)
          have PI := Lib.hid (Ints.next (w := y2) PI.out hb)
          have LC := Lib.hid (Cels.next (w := y2) LC.out hb)
          have MC := Lib.hid (Cels.next (w := y2) MC.out hb)
          have J1 := Lib.hid (Ints.next (w := y2) J1.out hb)
          have J2 := Lib.hid (Ints.next (w := y2) J2.out hb)
          clear hb
          obtain ⟨t0, t1, t2, t3, tf, tl⟩ := TB.out
          obtain ⟨u0, u1, uf, ul⟩ := CB.out
          obtain ⟨v0, v1, vf, vl⟩ := DB.out
          go_wp2_with fail
          clear t0 t1 t2 t3 tf tl u0 u1 uf ul v0 v1 vf vl
          refine (C4.out y3 Q1 q1 d1 GI.out PI.out J1.out).mono ?_
          rintro e y4 ⟨rfl, hb⟩
          have BL := Lib.hid (chain BL.out hb)
          have TB := Lib.hid (Box4.next (w := y3) TB.out hb)
          have CB := Lib.hid (Box2.next (w := y3) CB.out hb)
          have DB := Lib.hid (Box2.next (w := y3) DB.out hb)
          have GI := Lib.hid (Ints.next (w := y3) GI.out hb)
          have PI := Lib.hid (Ints.next (w := y3) PI.out hb)
          have LC := Lib.hid (Cels.next (w := y3) LC.out hb)
          have MC := Lib.hid (Cels.next (w := y3) MC.out hb)
          have J1 := Lib.hid (Ints.next (w := y3) J1.out hb)
          have J2 := Lib.hid (Ints.next (w := y3) J2.out hb)
          have J3 := Lib.hid (Ints.next (w := y3) J3.out hb)
          clear hb
          obtain ⟨t0, t1, t2, t3, tf, tl⟩ := TB.out
          obtain ⟨u0, u1, uf, ul⟩ := CB.out
          obtain ⟨v0, v1, vf, vl⟩ := DB.out
          go_wp2_with fail
          clear t0 t1 t2 t3 tf tl u0 u1 uf ul v0 v1 vf vl
          refine (C5.out y4 Q2 q2 d2 GI.out PI.out J2.out).mono ?_
          rintro e y5 ⟨rfl, hb⟩
          have BL := Lib.hid (chain BL.out hb)
          have TB := Lib.hid (Box4.next (w := y4) TB.out hb)
          have CB := Lib.hid (Box2.next (w := y4) CB.out hb)
          have DB := Lib.hid (Box2.next (w := y4) DB.out hb)
          have GI := Lib.hid (Ints.next (w := y4) GI.out hb)
          have PI := Lib.hid (Ints.next (w := y4) PI.out hb)
          have LC := Lib.hid (Cels.next (w := y4) LC.out hb)
          have MC := Lib.hid (Cels.next (w := y4) MC.out hb)
          have J1 := Lib.hid (Ints.next (w := y4) J1.out hb)
          have J2 := Lib.hid (Ints.next (w := y4) J2.out hb)
          have J3 := Lib.hid (Ints.next (w := y4) J3.out hb)
          clear hb
          obtain ⟨t0, t1, t2, t3, tf, tl⟩ := TB.out
          obtain ⟨u0, u1, uf, ul⟩ := CB.out
          obtain ⟨v0, v1, vf, vl⟩ := DB.out
          go_wp2_with fail
          clear t0 t1 t2 t3 tf tl u0 u1 uf ul v0 v1 vf vl
          refine (C6.out y5 Q3 q3 d3 GI.out PI.out J3.out).mono ?_
          rintro e y6 ⟨rfl, hb⟩
          have BL := Lib.hid (chain BL.out hb)
          have TB := Lib.hid (Box4.next (w := y5) TB.out hb)
          have CB := Lib.hid (Box2.next (w := y5) CB.out hb)
          have DB := Lib.hid (Box2.next (w := y5) DB.out hb)
          have GI := Lib.hid (Ints.next (w := y5) GI.out hb)
          have PI := Lib.hid (Ints.next (w := y5) PI.out hb)
          have LC := Lib.hid (Cels.next (w := y5) LC.out hb)
          have MC := Lib.hid (Cels.next (w := y5) MC.out hb)
          have J1 := Lib.hid (Ints.next (w := y5) J1.out hb)
          have J2 := Lib.hid (Ints.next (w := y5) J2.out hb)
          have J3 := Lib.hid (Ints.next (w := y5) J3.out hb)
          clear hb
          obtain rfl : q1 = q2 + q3 := by have := HL.out; have := hq1.out; have := hq2.out; have := hq3.out; omega
          have hT := HT.out
          subst hT
          have hq5 : q2 + q3 ≤ 4096 := by have := hq1.out; omega
          clear HT HL hq1 hq2 hq3
          go_wp2_with fail
          refine (known_any y6).mono ?_
          rintro e y7 ⟨rfl, hb⟩
          have BL := Lib.hid (chain BL.out hb)
          have TB := Lib.hid (Box4.next (w := y6) TB.out hb)
          have CB := Lib.hid (Box2.next (w := y6) CB.out hb)
          have DB := Lib.hid (Box2.next (w := y6) DB.out hb)
          have GI := Lib.hid (Ints.next (w := y6) GI.out hb)
          have PI := Lib.hid (Ints.next (w := y6) PI.out hb)
          have LC := Lib.hid (Cels.next (w := y6) LC.out hb)
          have MC := Lib.hid (Cels.next (w := y6) MC.out hb)
          have J1 := Lib.hid (Ints.next (w := y6) J1.out hb)
          have J2 := Lib.hid (Ints.next (w := y6) J2.out hb)
          have J3 := Lib.hid (Ints.next (w := y6) J3.out hb)
          clear hb
          go_wp2
          go_ret
          exact ⟨rfl, BL.out⟩
      · have hsw : decide (b1 < a1) = true := decide_eq_true (by omega)
        have kk : col < b1 ∨ (b1 ≤ col ∧ a1 ≤ col) ∨ (b1 ≤ col ∧ col < a1) := by omega
        rcases kk with kk | ⟨kk, k2'⟩ | ⟨kk, k2'⟩
        · skip
          go_wp2_with fail
          refine (known_any V0).mono ?_
          rintro e wz ⟨rfl, hb⟩
          have BL := Lib.hid (chain BL.out hb)
          have TB := Lib.hid (Box4.next (w := V0) TB.out hb)
          have CB := Lib.hid (Box2.next (w := V0) CB.out hb)
          have DB := Lib.hid (Box2.next (w := V0) DB.out hb)
          have GI := Lib.hid (Ints.next (w := V0) GI.out hb)
          have PI := Lib.hid (Ints.next (w := V0) PI.out hb)
          have LC := Lib.hid (Cels.next (w := V0) LC.out hb)
          have MC := Lib.hid (Cels.next (w := V0) MC.out hb)
          clear hb
          go_wp2
          go_ret
          exact ⟨rfl, BL.out⟩
        · skip
          have d1' : decide (col < b1) = false := decide_eq_false (by omega)
          have d2' : decide (a1 ≤ col) = true := decide_eq_true k2'
          go_wp2_with fail
          refine (known_any V0).mono ?_
          rintro e wz ⟨rfl, hb⟩
          have BL := Lib.hid (chain BL.out hb)
          have TB := Lib.hid (Box4.next (w := V0) TB.out hb)
          have CB := Lib.hid (Box2.next (w := V0) CB.out hb)
          have DB := Lib.hid (Box2.next (w := V0) DB.out hb)
          have GI := Lib.hid (Ints.next (w := V0) GI.out hb)
          have PI := Lib.hid (Ints.next (w := V0) PI.out hb)
          have LC := Lib.hid (Cels.next (w := V0) LC.out hb)
          have MC := Lib.hid (Cels.next (w := V0) MC.out hb)
          clear hb
          go_wp2
          go_ret
          exact ⟨rfl, BL.out⟩
        · have HPT := Lib.hid (parts_of W H A n c A2 m c2 g p a1 a2 b1 b2 b1 a1 col (by omega) (by omega) HA.out HB.out (by omega) (by omega) kk k2')
          have d1' : decide (col < b1) = false := decide_eq_false (by omega)
          have d2' : decide (a1 ≤ col) = false := decide_eq_false (by omega)
          obtain ⟨R1, R2, R3, t1, t2, t3, hL, hL1, hT, ⟨x1, x2⟩, ⟨x3, x4⟩, c1, c2', c3, c4, c5, c6⟩ := HPT.out
          have C1 := Lib.hid c1
          have C2 := Lib.hid c2'
          have C3 := Lib.hid c3
          have C4 := Lib.hid c4
          have C5 := Lib.hid c5
          have C6 := Lib.hid c6
          have HL := Lib.hid hL
          have HT := Lib.hid hT
          clear c1 c2' c3 c4 c5 c6 hL hT HPT
          obtain ⟨t0, t1, t2, t3, tf, tl⟩ := TB.out
          obtain ⟨u0, u1, uf, ul⟩ := CB.out
          obtain ⟨v0, v1, vf, vl⟩ := DB.out
          go_wp2_with fail
          clear t0 t1 t2 t3 tf tl u0 u1 uf ul v0 v1 vf vl
          refine (C1.out V0 GI.out PI.out).mono ?_
          rintro e y1 ⟨Q1, q1, d1, rfl, o, hb⟩
          have J1 := Lib.hid o.ints
          have hq1 := Lib.hid o.len
          clear o
          have BL := Lib.hid (chain BL.out hb)
          have TB := Lib.hid (Box4.next (w := V0) TB.out hb)
          have CB := Lib.hid (Box2.next (w := V0) CB.out hb)
          have DB := Lib.hid (Box2.next (w := V0) DB.out hb)
          have GI := Lib.hid (Ints.next (w := V0) GI.out hb)
          have PI := Lib.hid (Ints.next (w := V0) PI.out hb)
          have LC := Lib.hid (Cels.next (w := V0) LC.out hb)
          have MC := Lib.hid (Cels.next (w := V0) MC.out hb)
          clear hb
          obtain ⟨t0, t1, t2, t3, tf, tl⟩ := TB.out
          obtain ⟨u0, u1, uf, ul⟩ := CB.out
          obtain ⟨v0, v1, vf, vl⟩ := DB.out
          go_wp2_with fail
          clear t0 t1 t2 t3 tf tl u0 u1 uf ul v0 v1 vf vl
          refine (C2.out y1 GI.out PI.out).mono ?_
          rintro e y2 ⟨Q2, q2, d2, rfl, o, hb⟩
          have J2 := Lib.hid o.ints
          have hq2 := Lib.hid o.len
          clear o
          have BL := Lib.hid (chain BL.out hb)
          have TB := Lib.hid (Box4.next (w := y1) TB.out hb)
          have CB := Lib.hid (Box2.next (w := y1) CB.out hb)
          have DB := Lib.hid (Box2.next (w := y1) DB.out hb)
          have GI := Lib.hid (Ints.next (w := y1) GI.out hb)
          have PI := Lib.hid (Ints.next (w := y1) PI.out hb)
          have LC := Lib.hid (Cels.next (w := y1) LC.out hb)
          have MC := Lib.hid (Cels.next (w := y1) MC.out hb)
          have J1 := Lib.hid (Ints.next (w := y1) J1.out hb)
          clear hb
          obtain ⟨t0, t1, t2, t3, tf, tl⟩ := TB.out
          obtain ⟨u0, u1, uf, ul⟩ := CB.out
          obtain ⟨v0, v1, vf, vl⟩ := DB.out
          go_wp2_with fail
          clear t0 t1 t2 t3 tf tl u0 u1 uf ul v0 v1 vf vl
          refine (C3.out y2 GI.out PI.out).mono ?_
          rintro e y3 ⟨Q3, q3, d3, rfl, o, hb⟩
          have J3 := Lib.hid o.ints
          have hq3 := Lib.hid o.len
          clear o
          have BL := Lib.hid (chain BL.out hb)
          have TB := Lib.hid (Box4.next (w := y2) TB.out hb)
          have CB := Lib.hid (Box2.next (w := y2) CB.out hb)
          have DB := Lib.hid (Box2.next (w := y2) DB.out hb)
          have GI := Lib.hid (Ints.next (w := y2) GI.out hb)
          have PI := Lib.hid (Ints.next (w := y2) PI.out hb)
          have LC := Lib.hid (Cels.next (w := y2) LC.out hb)
          have MC := Lib.hid (Cels.next (w := y2) MC.out hb)
          have J1 := Lib.hid (Ints.next (w := y2) J1.out hb)
          have J2 := Lib.hid (Ints.next (w := y2) J2.out hb)
          clear hb
          obtain ⟨t0, t1, t2, t3, tf, tl⟩ := TB.out
          obtain ⟨u0, u1, uf, ul⟩ := CB.out
          obtain ⟨v0, v1, vf, vl⟩ := DB.out
          go_wp2_with fail
          clear t0 t1 t2 t3 tf tl u0 u1 uf ul v0 v1 vf vl
          refine (C4.out y3 Q1 q1 d1 GI.out PI.out J1.out).mono ?_
          rintro e y4 ⟨rfl, hb⟩
          have BL := Lib.hid (chain BL.out hb)
          have TB := Lib.hid (Box4.next (w := y3) TB.out hb)
          have CB := Lib.hid (Box2.next (w := y3) CB.out hb)
          have DB := Lib.hid (Box2.next (w := y3) DB.out hb)
          have GI := Lib.hid (Ints.next (w := y3) GI.out hb)
          have PI := Lib.hid (Ints.next (w := y3) PI.out hb)
          have LC := Lib.hid (Cels.next (w := y3) LC.out hb)
          have MC := Lib.hid (Cels.next (w := y3) MC.out hb)
          have J1 := Lib.hid (Ints.next (w := y3) J1.out hb)
          have J2 := Lib.hid (Ints.next (w := y3) J2.out hb)
          have J3 := Lib.hid (Ints.next (w := y3) J3.out hb)
          clear hb
          obtain ⟨t0, t1, t2, t3, tf, tl⟩ := TB.out
          obtain ⟨u0, u1, uf, ul⟩ := CB.out
          obtain ⟨v0, v1, vf, vl⟩ := DB.out
          go_wp2_with fail
          clear t0 t1 t2 t3 tf tl u0 u1 uf ul v0 v1 vf vl
          refine (C5.out y4 Q2 q2 d2 GI.out PI.out J2.out).mono ?_
          rintro e y5 ⟨rfl, hb⟩
          have BL := Lib.hid (chain BL.out hb)
          have TB := Lib.hid (Box4.next (w := y4) TB.out hb)
          have CB := Lib.hid (Box2.next (w := y4) CB.out hb)
          have DB := Lib.hid (Box2.next (w := y4) DB.out hb)
          have GI := Lib.hid (Ints.next (w := y4) GI.out hb)
          have PI := Lib.hid (Ints.next (w := y4) PI.out hb)
          have LC := Lib.hid (Cels.next (w := y4) LC.out hb)
          have MC := Lib.hid (Cels.next (w := y4) MC.out hb)
          have J1 := Lib.hid (Ints.next (w := y4) J1.out hb)
          have J2 := Lib.hid (Ints.next (w := y4) J2.out hb)
          have J3 := Lib.hid (Ints.next (w := y4) J3.out hb)
          clear hb
          obtain ⟨t0, t1, t2, t3, tf, tl⟩ := TB.out
          obtain ⟨u0, u1, uf, ul⟩ := CB.out
          obtain ⟨v0, v1, vf, vl⟩ := DB.out
          go_wp2_with fail
          clear t0 t1 t2 t3 tf tl u0 u1 uf ul v0 v1 vf vl
          refine (C6.out y5 Q3 q3 d3 GI.out PI.out J3.out).mono ?_
          rintro e y6 ⟨rfl, hb⟩
          have BL := Lib.hid (chain BL.out hb)
          have TB := Lib.hid (Box4.next (w := y5) TB.out hb)
          have CB := Lib.hid (Box2.next (w := y5) CB.out hb)
          have DB := Lib.hid (Box2.next (w := y5) DB.out hb)
          have GI := Lib.hid (Ints.next (w := y5) GI.out hb)
          have PI := Lib.hid (Ints.next (w := y5) PI.out hb)
          have LC := Lib.hid (Cels.next (w := y5) LC.out hb)
          have MC := Lib.hid (Cels.next (w := y5) MC.out hb)
          have J1 := Lib.hid (Ints.next (w := y5) J1.out hb)
          have J2 := Lib.hid (Ints.next (w := y5) J2.out hb)
          have J3 := Lib.hid (Ints.next (w := y5) J3.out hb)
          clear hb
          obtain rfl : q1 = q2 + q3 := by have := HL.out; have := hq1.out; have := hq2.out; have := hq3.out; omega
          have hT := HT.out
          subst hT
          have hq5 : q2 + q3 ≤ 4096 := by have := hq1.out; omega
          clear HT HL hq1 hq2 hq3
          go_wp2_with fail
          refine (known_any y6).mono ?_
          rintro e y7 ⟨rfl, hb⟩
          have BL := Lib.hid (chain BL.out hb)
          have TB := Lib.hid (Box4.next (w := y6) TB.out hb)
          have CB := Lib.hid (Box2.next (w := y6) CB.out hb)
          have DB := Lib.hid (Box2.next (w := y6) DB.out hb)
          have GI := Lib.hid (Ints.next (w := y6) GI.out hb)
          have PI := Lib.hid (Ints.next (w := y6) PI.out hb)
          have LC := Lib.hid (Cels.next (w := y6) LC.out hb)
          have MC := Lib.hid (Cels.next (w := y6) MC.out hb)
          have J1 := Lib.hid (Ints.next (w := y6) J1.out hb)
          have J2 := Lib.hid (Ints.next (w := y6) J2.out hb)
          have J3 := Lib.hid (Ints.next (w := y6) J3.out hb)
          clear hb
          go_wp2
          go_ret
          exact ⟨rfl, BL.out⟩
end Go.Proofs.Ytpoceidbiamgaaa
