/- TerrainProfiles: the walk of the law. -/
import Derived.Test.YtpoceidbiamgaaaWn
import Derived.Test.YtpoceidbiamgaaaWr
set_option linter.unusedVariables false
set_option linter.unusedSimpArgs false
namespace Go.Proofs.Ytpoceidbiamgaaa
open Go.RowKit
set_option maxHeartbeats 2000000 in
set_option maxRecDepth 100000 in
theorem law8_big (W H : Int) (A : Option Addr) (n c : Nat) (A2 : Option Addr) (m c2 : Nat) (g p : List Int) (a1 a2 b1 b2 : Int) (w : World) (hG : Ints w w.heap.size A n g) (hP : Ints w w.heap.size A2 m p) (hb : 300 < n ∨ 300 < m) : Calls Try.prog 8 #[.agg #[.int .i64 W, .int .i64 H, .slice A n c, .slice A2 m c2], .agg #[.int .i64 a1, .int .i64 a2], .agg #[.int .i64 b1, .int .i64 b2]] w (KnownOk w) := by
  have GI0 := Lib.hid hG
  have PI0 := Lib.hid hP
  have S0 := Lib.hid (t3_start W H A n c A2 m c2 a1 a2 b1 b2 w)
  clear hG hP
  go_enter Try.func8, Try.ntmps8
  go_wp2_with fail
  obtain ⟨W0, hW0⟩ : ∃ W0, W0 = (((w.alloc (.cells #[.int .i64 W, .int .i64 H, .slice A n c, .slice A2 m c2] 24)).alloc (.cells #[.int .i64 a1, .int .i64 a2] 26)).alloc (.cells #[.int .i64 b1, .int .i64 b2] 26)) := ⟨_, rfl⟩
  rw [← hW0] at S0
  rw [← hW0]
  clear hW0
  have BL := Lib.hid S0.out.1
  have TB := Lib.hid S0.out.2.1
  have CB := Lib.hid S0.out.2.2.1
  have DB := Lib.hid S0.out.2.2.2
  have GI := Lib.hid (GI0.out.next S0.out.1)
  have PI := Lib.hid (PI0.out.next S0.out.1)
  clear S0 GI0 PI0
  refine (big_any W H A n c A2 m c2 W0).mono ?_
  rintro e w1 ⟨rfl, hb⟩
  have BL := Lib.hid (chain BL.out hb)
  have TB := Lib.hid (Box4.next (w := W0) TB.out hb)
  have CB := Lib.hid (Box2.next (w := W0) CB.out hb)
  have DB := Lib.hid (Box2.next (w := W0) DB.out hb)
  have GI := Lib.hid (Ints.next (w := W0) GI.out hb)
  have PI := Lib.hid (Ints.next (w := W0) PI.out hb)
  clear hb
  rw [show bigB n m = true by simp [bigB]; omega]
  go_wp2_with fail
  refine (known_any w1).mono ?_
  rintro e w2 ⟨rfl, hb⟩
  have BL := Lib.hid (chain BL.out hb)
  have TB := Lib.hid (Box4.next (w := w1) TB.out hb)
  have CB := Lib.hid (Box2.next (w := w1) CB.out hb)
  have DB := Lib.hid (Box2.next (w := w1) DB.out hb)
  have GI := Lib.hid (Ints.next (w := w1) GI.out hb)
  have PI := Lib.hid (Ints.next (w := w1) PI.out hb)
  clear hb
  go_wp2
  go_ret
  exact ⟨rfl, BL.out⟩
set_option maxHeartbeats 2000000 in
set_option maxRecDepth 100000 in
theorem law8_n1 (W H : Int) (A : Option Addr) (n c : Nat) (A2 : Option Addr) (m c2 : Nat) (g p : List Int) (a1 a2 b1 b2 : Int) (w : World) (hG : Ints w w.heap.size A n g) (hP : Ints w w.heap.size A2 m p) (hn : n ≤ 300) (hm : m ≤ 300) (ha : hasB W H g p a1 a2 = false) : Calls Try.prog 8 #[.agg #[.int .i64 W, .int .i64 H, .slice A n c, .slice A2 m c2], .agg #[.int .i64 a1, .int .i64 a2], .agg #[.int .i64 b1, .int .i64 b2]] w (KnownOk w) := by
  have HA := Lib.hid ha
  have HN : Hid (¬ (hasB W H g p a1 a2 = true ∧ hasB W H g p b1 b2 = true)) := fun h => by rw [ha] at h; cases h.1
  clear ha
  have GI0 := Lib.hid hG
  have PI0 := Lib.hid hP
  have S0 := Lib.hid (t3_start W H A n c A2 m c2 a1 a2 b1 b2 w)
  clear hG hP
  go_enter Try.func8, Try.ntmps8
  go_wp2_with fail
  obtain ⟨W0, hW0⟩ : ∃ W0, W0 = (((w.alloc (.cells #[.int .i64 W, .int .i64 H, .slice A n c, .slice A2 m c2] 24)).alloc (.cells #[.int .i64 a1, .int .i64 a2] 26)).alloc (.cells #[.int .i64 b1, .int .i64 b2] 26)) := ⟨_, rfl⟩
  rw [← hW0] at S0
  rw [← hW0]
  clear hW0
  have BL := Lib.hid S0.out.1
  have TB := Lib.hid S0.out.2.1
  have CB := Lib.hid S0.out.2.2.1
  have DB := Lib.hid S0.out.2.2.2
  have GI := Lib.hid (GI0.out.next S0.out.1)
  have PI := Lib.hid (PI0.out.next S0.out.1)
  clear S0 GI0 PI0
  refine (big_any W H A n c A2 m c2 W0).mono ?_
  rintro e w1 ⟨rfl, hb⟩
  have BL := Lib.hid (chain BL.out hb)
  have TB := Lib.hid (Box4.next (w := W0) TB.out hb)
  have CB := Lib.hid (Box2.next (w := W0) CB.out hb)
  have DB := Lib.hid (Box2.next (w := W0) DB.out hb)
  have GI := Lib.hid (Ints.next (w := W0) GI.out hb)
  have PI := Lib.hid (Ints.next (w := W0) PI.out hb)
  clear hb
  rw [show bigB n m = false by simp [bigB]; omega]
  obtain ⟨t0, t1, t2, t3, tf, tl⟩ := TB.out
  obtain ⟨u0, u1, uf, ul⟩ := CB.out
  obtain ⟨v0, v1, vf, vl⟩ := DB.out
  go_wp2_with fail
  clear t0 t1 t2 t3 tf tl u0 u1 uf ul v0 v1 vf vl
  refine (profile_no W H A n c A2 m c2 g p a1 a2 b1 b2 w1 GI.out PI.out (by omega) (by omega) HN.out).mono ?_
  rintro e w2 ⟨rfl, hb⟩
  have BL := Lib.hid (chain BL.out hb)
  have TB := Lib.hid (Box4.next (w := w1) TB.out hb)
  have CB := Lib.hid (Box2.next (w := w1) CB.out hb)
  have DB := Lib.hid (Box2.next (w := w1) DB.out hb)
  have GI := Lib.hid (Ints.next (w := w1) GI.out hb)
  have PI := Lib.hid (Ints.next (w := w1) PI.out hb)
  clear hb
  obtain ⟨t0, t1, t2, t3, tf, tl⟩ := TB.out
  obtain ⟨u0, u1, uf, ul⟩ := CB.out
  obtain ⟨v0, v1, vf, vl⟩ := DB.out
  go_wp2_with fail
  clear t0 t1 t2 t3 tf tl u0 u1 uf ul v0 v1 vf vl
  refine (rect_no W H A n c A2 m c2 g p a1 a2 b1 b2 w2 GI.out PI.out (by omega) (by omega) HN.out).mono ?_
  rintro e w3 ⟨rfl, hb⟩
  have BL := Lib.hid (chain BL.out hb)
  have TB := Lib.hid (Box4.next (w := w2) TB.out hb)
  have CB := Lib.hid (Box2.next (w := w2) CB.out hb)
  have DB := Lib.hid (Box2.next (w := w2) DB.out hb)
  have GI := Lib.hid (Ints.next (w := w2) GI.out hb)
  have PI := Lib.hid (Ints.next (w := w2) PI.out hb)
  clear hb
  obtain ⟨t0, t1, t2, t3, tf, tl⟩ := TB.out
  obtain ⟨u0, u1, uf, ul⟩ := CB.out
  obtain ⟨v0, v1, vf, vl⟩ := DB.out
  go_wp2_with fail
  clear t0 t1 t2 t3 tf tl u0 u1 uf ul v0 v1 vf vl
  refine (refHas_any W H A n c A2 m c2 g p a1 a2 w3 GI.out PI.out (by omega) (by omega)).mono ?_
  rintro e w4 ⟨he, hb⟩
  rw [HA.out] at he
  subst he
  have BL := Lib.hid (chain BL.out hb)
  have TB := Lib.hid (Box4.next (w := w3) TB.out hb)
  have CB := Lib.hid (Box2.next (w := w3) CB.out hb)
  have DB := Lib.hid (Box2.next (w := w3) DB.out hb)
  have GI := Lib.hid (Ints.next (w := w3) GI.out hb)
  have PI := Lib.hid (Ints.next (w := w3) PI.out hb)
  clear hb
  go_wp2_with fail
  refine (known_any w4).mono ?_
  rintro e w6 ⟨rfl, hb⟩
  have BL := Lib.hid (chain BL.out hb)
  have TB := Lib.hid (Box4.next (w := w4) TB.out hb)
  have CB := Lib.hid (Box2.next (w := w4) CB.out hb)
  have DB := Lib.hid (Box2.next (w := w4) DB.out hb)
  have GI := Lib.hid (Ints.next (w := w4) GI.out hb)
  have PI := Lib.hid (Ints.next (w := w4) PI.out hb)
  clear hb
  go_wp2
  go_ret
  exact ⟨rfl, BL.out⟩
set_option maxHeartbeats 2000000 in
set_option maxRecDepth 100000 in
theorem law8_n2 (W H : Int) (A : Option Addr) (n c : Nat) (A2 : Option Addr) (m c2 : Nat) (g p : List Int) (a1 a2 b1 b2 : Int) (w : World) (hG : Ints w w.heap.size A n g) (hP : Ints w w.heap.size A2 m p) (hn : n ≤ 300) (hm : m ≤ 300) (ha : hasB W H g p a1 a2 = true) (hb : hasB W H g p b1 b2 = false) : Calls Try.prog 8 #[.agg #[.int .i64 W, .int .i64 H, .slice A n c, .slice A2 m c2], .agg #[.int .i64 a1, .int .i64 a2], .agg #[.int .i64 b1, .int .i64 b2]] w (KnownOk w) := by
  have HA := Lib.hid ha
  have HB := Lib.hid hb
  have HN : Hid (¬ (hasB W H g p a1 a2 = true ∧ hasB W H g p b1 b2 = true)) := fun h => by rw [hb] at h; cases h.2
  clear ha hb
  have GI0 := Lib.hid hG
  have PI0 := Lib.hid hP
  have S0 := Lib.hid (t3_start W H A n c A2 m c2 a1 a2 b1 b2 w)
  clear hG hP
  go_enter Try.func8, Try.ntmps8
  go_wp2_with fail
  obtain ⟨W0, hW0⟩ : ∃ W0, W0 = (((w.alloc (.cells #[.int .i64 W, .int .i64 H, .slice A n c, .slice A2 m c2] 24)).alloc (.cells #[.int .i64 a1, .int .i64 a2] 26)).alloc (.cells #[.int .i64 b1, .int .i64 b2] 26)) := ⟨_, rfl⟩
  rw [← hW0] at S0
  rw [← hW0]
  clear hW0
  have BL := Lib.hid S0.out.1
  have TB := Lib.hid S0.out.2.1
  have CB := Lib.hid S0.out.2.2.1
  have DB := Lib.hid S0.out.2.2.2
  have GI := Lib.hid (GI0.out.next S0.out.1)
  have PI := Lib.hid (PI0.out.next S0.out.1)
  clear S0 GI0 PI0
  refine (big_any W H A n c A2 m c2 W0).mono ?_
  rintro e w1 ⟨rfl, hb⟩
  have BL := Lib.hid (chain BL.out hb)
  have TB := Lib.hid (Box4.next (w := W0) TB.out hb)
  have CB := Lib.hid (Box2.next (w := W0) CB.out hb)
  have DB := Lib.hid (Box2.next (w := W0) DB.out hb)
  have GI := Lib.hid (Ints.next (w := W0) GI.out hb)
  have PI := Lib.hid (Ints.next (w := W0) PI.out hb)
  clear hb
  rw [show bigB n m = false by simp [bigB]; omega]
  obtain ⟨t0, t1, t2, t3, tf, tl⟩ := TB.out
  obtain ⟨u0, u1, uf, ul⟩ := CB.out
  obtain ⟨v0, v1, vf, vl⟩ := DB.out
  go_wp2_with fail
  clear t0 t1 t2 t3 tf tl u0 u1 uf ul v0 v1 vf vl
  refine (profile_no W H A n c A2 m c2 g p a1 a2 b1 b2 w1 GI.out PI.out (by omega) (by omega) HN.out).mono ?_
  rintro e w2 ⟨rfl, hb⟩
  have BL := Lib.hid (chain BL.out hb)
  have TB := Lib.hid (Box4.next (w := w1) TB.out hb)
  have CB := Lib.hid (Box2.next (w := w1) CB.out hb)
  have DB := Lib.hid (Box2.next (w := w1) DB.out hb)
  have GI := Lib.hid (Ints.next (w := w1) GI.out hb)
  have PI := Lib.hid (Ints.next (w := w1) PI.out hb)
  clear hb
  obtain ⟨t0, t1, t2, t3, tf, tl⟩ := TB.out
  obtain ⟨u0, u1, uf, ul⟩ := CB.out
  obtain ⟨v0, v1, vf, vl⟩ := DB.out
  go_wp2_with fail
  clear t0 t1 t2 t3 tf tl u0 u1 uf ul v0 v1 vf vl
  refine (rect_no W H A n c A2 m c2 g p a1 a2 b1 b2 w2 GI.out PI.out (by omega) (by omega) HN.out).mono ?_
  rintro e w3 ⟨rfl, hb⟩
  have BL := Lib.hid (chain BL.out hb)
  have TB := Lib.hid (Box4.next (w := w2) TB.out hb)
  have CB := Lib.hid (Box2.next (w := w2) CB.out hb)
  have DB := Lib.hid (Box2.next (w := w2) DB.out hb)
  have GI := Lib.hid (Ints.next (w := w2) GI.out hb)
  have PI := Lib.hid (Ints.next (w := w2) PI.out hb)
  clear hb
  obtain ⟨t0, t1, t2, t3, tf, tl⟩ := TB.out
  obtain ⟨u0, u1, uf, ul⟩ := CB.out
  obtain ⟨v0, v1, vf, vl⟩ := DB.out
  go_wp2_with fail
  clear t0 t1 t2 t3 tf tl u0 u1 uf ul v0 v1 vf vl
  refine (refHas_any W H A n c A2 m c2 g p a1 a2 w3 GI.out PI.out (by omega) (by omega)).mono ?_
  rintro e w4 ⟨he, hb⟩
  rw [HA.out] at he
  subst he
  have BL := Lib.hid (chain BL.out hb)
  have TB := Lib.hid (Box4.next (w := w3) TB.out hb)
  have CB := Lib.hid (Box2.next (w := w3) CB.out hb)
  have DB := Lib.hid (Box2.next (w := w3) DB.out hb)
  have GI := Lib.hid (Ints.next (w := w3) GI.out hb)
  have PI := Lib.hid (Ints.next (w := w3) PI.out hb)
  clear hb
  obtain ⟨t0, t1, t2, t3, tf, tl⟩ := TB.out
  obtain ⟨u0, u1, uf, ul⟩ := CB.out
  obtain ⟨v0, v1, vf, vl⟩ := DB.out
  go_wp2_with fail
  clear t0 t1 t2 t3 tf tl u0 u1 uf ul v0 v1 vf vl
  refine (refHas_any W H A n c A2 m c2 g p b1 b2 w4 GI.out PI.out (by omega) (by omega)).mono ?_
  rintro e w5 ⟨he, hb⟩
  rw [HB.out] at he
  subst he
  have BL := Lib.hid (chain BL.out hb)
  have TB := Lib.hid (Box4.next (w := w4) TB.out hb)
  have CB := Lib.hid (Box2.next (w := w4) CB.out hb)
  have DB := Lib.hid (Box2.next (w := w4) DB.out hb)
  have GI := Lib.hid (Ints.next (w := w4) GI.out hb)
  have PI := Lib.hid (Ints.next (w := w4) PI.out hb)
  clear hb
  go_wp2_with fail
  refine (known_any w5).mono ?_
  rintro e w6 ⟨rfl, hb⟩
  have BL := Lib.hid (chain BL.out hb)
  have TB := Lib.hid (Box4.next (w := w5) TB.out hb)
  have CB := Lib.hid (Box2.next (w := w5) CB.out hb)
  have DB := Lib.hid (Box2.next (w := w5) DB.out hb)
  have GI := Lib.hid (Ints.next (w := w5) GI.out hb)
  have PI := Lib.hid (Ints.next (w := w5) PI.out hb)
  clear hb
  go_wp2
  go_ret
  exact ⟨rfl, BL.out⟩
set_option maxHeartbeats 2000000 in
set_option maxRecDepth 100000 in
theorem law8_yes (W H : Int) (A : Option Addr) (n c : Nat) (A2 : Option Addr) (m c2 : Nat) (g p : List Int) (a1 a2 b1 b2 : Int) (w : World) (hG : Ints w w.heap.size A n g) (hP : Ints w w.heap.size A2 m p) (hn : n ≤ 300) (hm : m ≤ 300) (ha : hasB W H g p a1 a2 = true) (hb : hasB W H g p b1 b2 = true) : Calls Try.prog 8 #[.agg #[.int .i64 W, .int .i64 H, .slice A n c, .slice A2 m c2], .agg #[.int .i64 a1, .int .i64 a2], .agg #[.int .i64 b1, .int .i64 b2]] w (KnownOk w) := by
  obtain ⟨hv, k1, k2, k3, k4⟩ := hasB_iff.1 ha
  obtain ⟨_, k5, k6, k7, k8⟩ := hasB_iff.1 hb
  obtain ⟨⟨v1, v2, v3, v4, v5, v6⟩, _⟩ := terB_iff.1 hv
  obtain ⟨wb1, wb2⟩ := wh_bd v1 v2 v3 v4
  obtain ⟨N, hN⟩ : ∃ N : Nat, W * H = (N : Int) := ⟨(W * H).toNat, by omega⟩
  have HRR : Hid (∀ V, Calls Try.prog 37 #[.agg #[.int .i64 W, .int .i64 H, .slice A n c, .slice A2 m c2], .agg #[.int .i64 a1, .int .i64 a2], .agg #[.int .i64 b1, .int .i64 b2]] V (IntsR1 V (rectAB W a1 a2 b1 b2))) := fun V => by
    rw [← filK_rect v1 hN k1 k2 k3 k4 k5 k6 k7 k8]
    exact refRect_any W H A n c A2 m c2 a1 a2 b1 b2 V N v1 v2 v3 v4 hN
  have HL1 : Hid ((profL g W a1 a2 b1 b2).length ≤ 70) := by
    show _ ≤ _
    have hs1 := span_le (a1 := a1) (a2 := a2) (b1 := b1) (b2 := b2) k1 (by omega) k3 (by omega) k5 (by omega) k7 (by omega)
    rw [profL_eq, List.length_append, pfK, List.length_cons, List.length_map, lineK_len]
    have : lineN a1 a2 b1 b2 ≤ 62 := by unfold lineN; omega
    split <;> simp <;> omega
  have HL2 : Hid ((rectAB W a1 a2 b1 b2).length ≤ 4096) := by
    show _ ≤ _
    rw [← filK_rect v1 hN k1 k2 k3 k4 k5 k6 k7 k8]
    have := filK_len W a1 a2 b1 b2 N
    omega
  have HE1 : Hid (eqB (profL g W a1 a2 b1 b2) (profL g W a1 a2 b1 b2) = true) := decide_eq_true rfl
  have HE2 : Hid (eqB (rectAB W a1 a2 b1 b2) (rectAB W a1 a2 b1 b2) = true) := decide_eq_true rfl
  have HA := Lib.hid ha
  have HB := Lib.hid hb
  clear ha hb hv v5 v6 hN
  have GI0 := Lib.hid hG
  have PI0 := Lib.hid hP
  have S0 := Lib.hid (t3_start W H A n c A2 m c2 a1 a2 b1 b2 w)
  clear hG hP
  go_enter Try.func8, Try.ntmps8
  go_wp2_with fail
  obtain ⟨W0, hW0⟩ : ∃ W0, W0 = (((w.alloc (.cells #[.int .i64 W, .int .i64 H, .slice A n c, .slice A2 m c2] 24)).alloc (.cells #[.int .i64 a1, .int .i64 a2] 26)).alloc (.cells #[.int .i64 b1, .int .i64 b2] 26)) := ⟨_, rfl⟩
  rw [← hW0] at S0
  rw [← hW0]
  clear hW0
  have BL := Lib.hid S0.out.1
  have TB := Lib.hid S0.out.2.1
  have CB := Lib.hid S0.out.2.2.1
  have DB := Lib.hid S0.out.2.2.2
  have GI := Lib.hid (GI0.out.next S0.out.1)
  have PI := Lib.hid (PI0.out.next S0.out.1)
  clear S0 GI0 PI0
  refine (big_any W H A n c A2 m c2 W0).mono ?_
  rintro e w1 ⟨rfl, hb⟩
  have BL := Lib.hid (chain BL.out hb)
  have TB := Lib.hid (Box4.next (w := W0) TB.out hb)
  have CB := Lib.hid (Box2.next (w := W0) CB.out hb)
  have DB := Lib.hid (Box2.next (w := W0) DB.out hb)
  have GI := Lib.hid (Ints.next (w := W0) GI.out hb)
  have PI := Lib.hid (Ints.next (w := W0) PI.out hb)
  clear hb
  rw [show bigB n m = false by simp [bigB]; omega]
  obtain ⟨t0, t1, t2, t3, tf, tl⟩ := TB.out
  obtain ⟨u0, u1, uf, ul⟩ := CB.out
  obtain ⟨v0, v1, vf, vl⟩ := DB.out
  go_wp2_with fail
  clear t0 t1 t2 t3 tf tl u0 u1 uf ul v0 v1 vf vl
  refine (profile_yes W H A n c A2 m c2 g p a1 a2 b1 b2 w1 GI.out PI.out (by omega) (by omega) HA.out HB.out).mono ?_
  rintro e w2 ⟨R, rn, rc, rfl, o, hb⟩
  have LR := HL1.out
  have hrn : rn ≤ 70 := by have := o.len; omega
  have RI := Lib.hid o.ints
  clear o LR
  have BL := Lib.hid (chain BL.out hb)
  have TB := Lib.hid (Box4.next (w := w1) TB.out hb)
  have CB := Lib.hid (Box2.next (w := w1) CB.out hb)
  have DB := Lib.hid (Box2.next (w := w1) DB.out hb)
  have GI := Lib.hid (Ints.next (w := w1) GI.out hb)
  have PI := Lib.hid (Ints.next (w := w1) PI.out hb)
  clear hb
  obtain ⟨t0, t1, t2, t3, tf, tl⟩ := TB.out
  obtain ⟨u0, u1, uf, ul⟩ := CB.out
  obtain ⟨v0, v1, vf, vl⟩ := DB.out
  go_wp2_with fail
  clear t0 t1 t2 t3 tf tl u0 u1 uf ul v0 v1 vf vl
  refine (rect_yes W H A n c A2 m c2 g p a1 a2 b1 b2 w2 GI.out PI.out (by omega) (by omega) HA.out HB.out).mono ?_
  rintro e w3 ⟨Q, qn, qc, rfl, o, hb⟩
  have LR := HL2.out
  have hqn : qn ≤ 4096 := by have := o.len; omega
  have QI := Lib.hid o.ints
  clear o LR
  have BL := Lib.hid (chain BL.out hb)
  have TB := Lib.hid (Box4.next (w := w2) TB.out hb)
  have CB := Lib.hid (Box2.next (w := w2) CB.out hb)
  have DB := Lib.hid (Box2.next (w := w2) DB.out hb)
  have GI := Lib.hid (Ints.next (w := w2) GI.out hb)
  have PI := Lib.hid (Ints.next (w := w2) PI.out hb)
  have RI := Lib.hid (Ints.next (w := w2) RI.out hb)
  clear hb
  obtain ⟨t0, t1, t2, t3, tf, tl⟩ := TB.out
  obtain ⟨u0, u1, uf, ul⟩ := CB.out
  obtain ⟨v0, v1, vf, vl⟩ := DB.out
  go_wp2_with fail
  clear t0 t1 t2 t3 tf tl u0 u1 uf ul v0 v1 vf vl
  refine (refHas_any W H A n c A2 m c2 g p a1 a2 w3 GI.out PI.out (by omega) (by omega)).mono ?_
  rintro e w4 ⟨he, hb⟩
  rw [HA.out] at he
  subst he
  have BL := Lib.hid (chain BL.out hb)
  have TB := Lib.hid (Box4.next (w := w3) TB.out hb)
  have CB := Lib.hid (Box2.next (w := w3) CB.out hb)
  have DB := Lib.hid (Box2.next (w := w3) DB.out hb)
  have GI := Lib.hid (Ints.next (w := w3) GI.out hb)
  have PI := Lib.hid (Ints.next (w := w3) PI.out hb)
  have RI := Lib.hid (Ints.next (w := w3) RI.out hb)
  have QI := Lib.hid (Ints.next (w := w3) QI.out hb)
  clear hb
  obtain ⟨t0, t1, t2, t3, tf, tl⟩ := TB.out
  obtain ⟨u0, u1, uf, ul⟩ := CB.out
  obtain ⟨v0, v1, vf, vl⟩ := DB.out
  go_wp2_with fail
  clear t0 t1 t2 t3 tf tl u0 u1 uf ul v0 v1 vf vl
  refine (refHas_any W H A n c A2 m c2 g p b1 b2 w4 GI.out PI.out (by omega) (by omega)).mono ?_
  rintro e w5 ⟨he, hb⟩
  rw [HB.out] at he
  subst he
  have BL := Lib.hid (chain BL.out hb)
  have TB := Lib.hid (Box4.next (w := w4) TB.out hb)
  have CB := Lib.hid (Box2.next (w := w4) CB.out hb)
  have DB := Lib.hid (Box2.next (w := w4) DB.out hb)
  have GI := Lib.hid (Ints.next (w := w4) GI.out hb)
  have PI := Lib.hid (Ints.next (w := w4) PI.out hb)
  have RI := Lib.hid (Ints.next (w := w4) RI.out hb)
  have QI := Lib.hid (Ints.next (w := w4) QI.out hb)
  clear hb
  obtain ⟨t0, t1, t2, t3, tf, tl⟩ := TB.out
  obtain ⟨u0, u1, uf, ul⟩ := CB.out
  obtain ⟨v0, v1, vf, vl⟩ := DB.out
  go_wp2_with fail
  clear t0 t1 t2 t3 tf tl u0 u1 uf ul v0 v1 vf vl
  refine (refProfile_yes W H A n c A2 m c2 g p a1 a2 b1 b2 w5 GI.out PI.out (by omega) (by omega) HA.out HB.out).mono ?_
  rintro e w6 ⟨R2, r2, d2, rfl, o, hb⟩
  have LR := HL1.out
  have hr2 : r2 ≤ 70 := by have := o.len; omega
  have RJ := Lib.hid o.ints
  clear o LR
  have BL := Lib.hid (chain BL.out hb)
  have TB := Lib.hid (Box4.next (w := w5) TB.out hb)
  have CB := Lib.hid (Box2.next (w := w5) CB.out hb)
  have DB := Lib.hid (Box2.next (w := w5) DB.out hb)
  have GI := Lib.hid (Ints.next (w := w5) GI.out hb)
  have PI := Lib.hid (Ints.next (w := w5) PI.out hb)
  have RI := Lib.hid (Ints.next (w := w5) RI.out hb)
  have QI := Lib.hid (Ints.next (w := w5) QI.out hb)
  clear hb
  obtain ⟨t0, t1, t2, t3, tf, tl⟩ := TB.out
  obtain ⟨u0, u1, uf, ul⟩ := CB.out
  obtain ⟨v0, v1, vf, vl⟩ := DB.out
  go_wp2_with fail
  clear t0 t1 t2 t3 tf tl u0 u1 uf ul v0 v1 vf vl
  refine (lawEqual_any R rn rc _ R2 r2 d2 _ w6 RI.out RJ.out (by omega) (by omega)).mono ?_
  rintro e w7 ⟨he, hb⟩
  rw [HE1.out] at he
  subst he
  have BL := Lib.hid (chain BL.out hb)
  have TB := Lib.hid (Box4.next (w := w6) TB.out hb)
  have CB := Lib.hid (Box2.next (w := w6) CB.out hb)
  have DB := Lib.hid (Box2.next (w := w6) DB.out hb)
  have GI := Lib.hid (Ints.next (w := w6) GI.out hb)
  have PI := Lib.hid (Ints.next (w := w6) PI.out hb)
  have RI := Lib.hid (Ints.next (w := w6) RI.out hb)
  have QI := Lib.hid (Ints.next (w := w6) QI.out hb)
  have RJ := Lib.hid (Ints.next (w := w6) RJ.out hb)
  clear hb
  obtain ⟨t0, t1, t2, t3, tf, tl⟩ := TB.out
  obtain ⟨u0, u1, uf, ul⟩ := CB.out
  obtain ⟨v0, v1, vf, vl⟩ := DB.out
  go_wp2_with fail
  clear t0 t1 t2 t3 tf tl u0 u1 uf ul v0 v1 vf vl
  refine (HRR.out w7).mono ?_
  rintro e w8 ⟨Q2, q2, e2, rfl, o, hb⟩
  have LR := HL2.out
  have hq2 : q2 ≤ 4096 := by have := o.len; omega
  have QJ := Lib.hid o.ints
  clear o LR
  have BL := Lib.hid (chain BL.out hb)
  have TB := Lib.hid (Box4.next (w := w7) TB.out hb)
  have CB := Lib.hid (Box2.next (w := w7) CB.out hb)
  have DB := Lib.hid (Box2.next (w := w7) DB.out hb)
  have GI := Lib.hid (Ints.next (w := w7) GI.out hb)
  have PI := Lib.hid (Ints.next (w := w7) PI.out hb)
  have RI := Lib.hid (Ints.next (w := w7) RI.out hb)
  have QI := Lib.hid (Ints.next (w := w7) QI.out hb)
  have RJ := Lib.hid (Ints.next (w := w7) RJ.out hb)
  clear hb
  obtain ⟨t0, t1, t2, t3, tf, tl⟩ := TB.out
  obtain ⟨u0, u1, uf, ul⟩ := CB.out
  obtain ⟨v0, v1, vf, vl⟩ := DB.out
  go_wp2_with fail
  clear t0 t1 t2 t3 tf tl u0 u1 uf ul v0 v1 vf vl
  refine (lawEqual_any Q qn qc _ Q2 q2 e2 _ w8 QI.out QJ.out (by omega) (by omega)).mono ?_
  rintro e w9 ⟨he, hb⟩
  rw [HE2.out] at he
  subst he
  have BL := Lib.hid (chain BL.out hb)
  have TB := Lib.hid (Box4.next (w := w8) TB.out hb)
  have CB := Lib.hid (Box2.next (w := w8) CB.out hb)
  have DB := Lib.hid (Box2.next (w := w8) DB.out hb)
  have GI := Lib.hid (Ints.next (w := w8) GI.out hb)
  have PI := Lib.hid (Ints.next (w := w8) PI.out hb)
  have RI := Lib.hid (Ints.next (w := w8) RI.out hb)
  have QI := Lib.hid (Ints.next (w := w8) QI.out hb)
  have RJ := Lib.hid (Ints.next (w := w8) RJ.out hb)
  have QJ := Lib.hid (Ints.next (w := w8) QJ.out hb)
  clear hb
  go_wp2_with fail
  refine (known_any w9).mono ?_
  rintro e w10 ⟨rfl, hb⟩
  have BL := Lib.hid (chain BL.out hb)
  have TB := Lib.hid (Box4.next (w := w9) TB.out hb)
  have CB := Lib.hid (Box2.next (w := w9) CB.out hb)
  have DB := Lib.hid (Box2.next (w := w9) DB.out hb)
  have GI := Lib.hid (Ints.next (w := w9) GI.out hb)
  have PI := Lib.hid (Ints.next (w := w9) PI.out hb)
  have RI := Lib.hid (Ints.next (w := w9) RI.out hb)
  have QI := Lib.hid (Ints.next (w := w9) QI.out hb)
  have RJ := Lib.hid (Ints.next (w := w9) RJ.out hb)
  have QJ := Lib.hid (Ints.next (w := w9) QJ.out hb)
  clear hb
  go_wp2
  go_ret
  exact ⟨rfl, BL.out⟩

theorem law8 (W H : Int) (A : Option Addr) (n c : Nat) (A2 : Option Addr) (m c2 : Nat) (g p : List Int) (a1 a2 b1 b2 : Int) (w : World) (hG : Ints w w.heap.size A n g) (hP : Ints w w.heap.size A2 m p) : Calls Try.prog 8 #[.agg #[.int .i64 W, .int .i64 H, .slice A n c, .slice A2 m c2], .agg #[.int .i64 a1, .int .i64 a2], .agg #[.int .i64 b1, .int .i64 b2]] w (KnownOk w) := by
  by_cases hb : 300 < n ∨ 300 < m
  · exact law8_big W H A n c A2 m c2 g p a1 a2 b1 b2 w hG hP hb
  · by_cases h1 : hasB W H g p a1 a2 = true
    · by_cases h2 : hasB W H g p b1 b2 = true
      · exact law8_yes W H A n c A2 m c2 g p a1 a2 b1 b2 w hG hP (by omega) (by omega) h1 h2
      · exact law8_n2 W H A n c A2 m c2 g p a1 a2 b1 b2 w hG hP (by omega) (by omega) h1 (by simpa using h2)
    · exact law8_n1 W H A n c A2 m c2 g p a1 a2 b1 b2 w hG hP (by omega) (by omega) (by simpa using h1)
end Go.Proofs.Ytpoceidbiamgaaa
