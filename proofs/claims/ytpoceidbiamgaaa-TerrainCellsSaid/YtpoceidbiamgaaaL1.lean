/- TerrainCells: the walk of the law. -/
import Derived.Test.YtpoceidbiamgaaaWn
set_option linter.unusedVariables false
set_option linter.unusedSimpArgs false
namespace Go.Proofs.Ytpoceidbiamgaaa
open Go.RowKit

theorem Ints.drewN {w : World} {B n : Nat} {A : Option Addr} {xs : List Int} (h : Ints w B A n xs) : Ints w.drew B A n xs := h
theorem Ints.at0 {w : World} {B n : Nat} {A : Option Addr} {xs : List Int} (h : Ints w B A n xs) (k : Nat) (hk : k < n) : ∃ b off, A = some ⟨b, off, none⟩ ∧ w.cell? ⟨b, off + k, none⟩ = some (.int .i64 (xs[k]?.getD 0)) := by
  obtain ⟨b, off, e, _, hc⟩ := h.2 (by omega)
  exact ⟨b, off, e, hc k hk⟩

theorem tc_start (W H : Int) (A : Option Addr) (n c : Nat) (A2 : Option Addr) (m c2 : Nat) (g p : List Int) (x y : Int) (w : World) : Below w.heap.size w ((w.alloc (.cells #[.int .i64 W, .int .i64 H, .slice A n c, .slice A2 m c2] 24)).alloc (.cells #[.int .i64 x, .int .i64 y] 26)) ∧ Box4 ((w.alloc (.cells #[.int .i64 W, .int .i64 H, .slice A n c, .slice A2 m c2] 24)).alloc (.cells #[.int .i64 x, .int .i64 y] 26)) w.heap.size (.int .i64 W) (.int .i64 H) (.slice A n c) (.slice A2 m c2) ∧ Box2 ((w.alloc (.cells #[.int .i64 W, .int .i64 H, .slice A n c, .slice A2 m c2] 24)).alloc (.cells #[.int .i64 x, .int .i64 y] 26)) (w.heap.size + 1) (.int .i64 x) (.int .i64 y) := by
  refine ⟨((Below.refl _ _).alloc (Nat.le_refl _) _).alloc (by simp) _, (Box4.new w _ _ _ _ _).alloc _, ?_⟩
  have := Box2.new (w.alloc (.cells #[.int .i64 W, .int .i64 H, .slice A n c, .slice A2 m c2] 24)) (.int .i64 x) (.int .i64 y) 26
  rwa [alloc_size] at this

set_option maxHeartbeats 1000000 in
set_option maxRecDepth 100000 in
theorem law3_big (W H : Int) (A : Option Addr) (n c : Nat) (A2 : Option Addr) (m c2 : Nat) (g p : List Int) (x y i : Int) (w : World) (hG : Ints w w.heap.size A n g) (hP : Ints w w.heap.size A2 m p) (hb : 300 < n ∨ 300 < m) : Calls Try.prog 3 #[.agg #[.int .i64 W, .int .i64 H, .slice A n c, .slice A2 m c2], .agg #[.int .i64 x, .int .i64 y], .int .i64 i] w (KnownOk w) := by
  have GI0 := Lib.hid hG
  have PI0 := Lib.hid hP
  have S0 := Lib.hid (tc_start W H A n c A2 m c2 g p x y w)
  clear hG hP
  go_enter Try.func3, Try.ntmps3
  go_wp2_with fail
  obtain ⟨W0, hW0⟩ : ∃ W0, W0 = ((w.alloc (.cells #[.int .i64 W, .int .i64 H, .slice A n c, .slice A2 m c2] 24)).alloc (.cells #[.int .i64 x, .int .i64 y] 26)) := ⟨_, rfl⟩
  rw [← hW0] at S0
  rw [← hW0]
  clear hW0
  have BL := Lib.hid S0.out.1
  have TB := Lib.hid S0.out.2.1
  have CB := Lib.hid S0.out.2.2
  have GI := Lib.hid (GI0.out.next S0.out.1)
  have PI := Lib.hid (PI0.out.next S0.out.1)
  clear S0 GI0 PI0
  refine (big_any W H A n c A2 m c2 W0).mono ?_
  rintro e w1 ⟨rfl, hb⟩
  have BL := Lib.hid (chain BL.out hb)
  have TB := Lib.hid (Box4.next (w := W0) TB.out hb)
  have CB := Lib.hid (Box2.next (w := W0) CB.out hb)
  have GI := Lib.hid (Ints.next (w := W0) GI.out hb)
  have PI := Lib.hid (Ints.next (w := W0) PI.out hb)
  clear hb
  rw [show bigB n m = true by simp [bigB]; omega]
  go_wp2_with fail
  refine (known_any w1).mono ?_
  rintro e w2 ⟨rfl, hb⟩
  have BL := Lib.hid (chain BL.out hb)
  clear hb
  go_wp2
  go_ret
  exact ⟨rfl, BL.out⟩

set_option maxHeartbeats 4000000 in
set_option maxRecDepth 100000 in
theorem law3_yi (W H : Int) (A : Option Addr) (n c : Nat) (A2 : Option Addr) (m c2 : Nat) (g p : List Int) (x y i : Int) (w : World) (hG : Ints w w.heap.size A n g) (hP : Ints w w.heap.size A2 m p) (hn : n ≤ 300) (hm : m ≤ 300) (hhas : hasB W H g p x y = true) (hi0 : 0 ≤ i) (hi1 : i < W * H) : Calls Try.prog 3 #[.agg #[.int .i64 W, .int .i64 H, .slice A n c, .slice A2 m c2], .agg #[.int .i64 x, .int .i64 y], .int .i64 i] w (KnownOk w) := by
  obtain ⟨hter, x0, x1, y0, y1⟩ := hasB_iff.1 hhas
  obtain ⟨⟨v1, v2, v3, v4, v5, v6⟩, _⟩ := terB_iff.1 hter
  obtain ⟨b1, b2⟩ := wh_bd v1 v2 v3 v4
  rw [hG.1] at v5
  rw [hP.1] at v6
  obtain ⟨z1, z2⟩ := place_bd x0 x1 y0 y1
  obtain ⟨k, hk⟩ : ∃ k : Nat, y * W + x = (k : Int) := ⟨(y * W + x).toNat, by omega⟩
  have hkn : k < n := by omega
  have hkm : k < m := by omega
  obtain ⟨vG, hvG⟩ : ∃ vG, g[k]?.getD 0 = vG := ⟨_, rfl⟩
  obtain ⟨vP, hvP⟩ : ∃ vP, p[k]?.getD 0 = vP := ⟨_, rfl⟩
  have HI : Hid (∀ V, Ints V V.heap.size A n g → Ints V V.heap.size A2 m p → Calls Try.prog 14 #[.agg #[.int .i64 W, .int .i64 H, .slice A n c, .slice A2 m c2], .agg #[.int .i64 x, .int .i64 y]] V fun e w' => e = .returned (.tuple #[.int .i64 (k : Int), .int .i64 0]) ∧ Below V.heap.size V w') := fun V q1 q2 => by rw [← hk]; exact index_yes W H A n c A2 m c2 g p x y V q1 q2 (by omega) (by omega) hhas
  have HGr : Hid (∀ V, Ints V V.heap.size A n g → Ints V V.heap.size A2 m p → Calls Try.prog 15 #[.agg #[.int .i64 W, .int .i64 H, .slice A n c, .slice A2 m c2], .agg #[.int .i64 x, .int .i64 y]] V fun e w' => e = .returned (.tuple #[.int .i64 vG, .int .i64 0]) ∧ Below V.heap.size V w') := fun V q1 q2 => by rw [← hvG]; exact ground_yes W H A n c A2 m c2 g p x y V q1 q2 (by omega) (by omega) hhas k hk
  have HPe : Hid (∀ V, Ints V V.heap.size A n g → Ints V V.heap.size A2 m p → Calls Try.prog 16 #[.agg #[.int .i64 W, .int .i64 H, .slice A n c, .slice A2 m c2], .agg #[.int .i64 x, .int .i64 y]] V fun e w' => e = .returned (.tuple #[.int .i64 vP, .int .i64 0]) ∧ Below V.heap.size V w') := fun V q1 q2 => by rw [← hvP]; exact people_yes W H A n c A2 m c2 g p x y V q1 q2 (by omega) (by omega) hhas k hk
  have HX : Hid (∀ V, Calls Try.prog 21 #[.agg #[.int .i64 W, .int .i64 H, .slice A n c, .slice A2 m c2], .agg #[.int .i64 x, .int .i64 y]] V fun e w' => e = .returned (.int .i64 (k : Int)) ∧ Below V.heap.size V w') := fun V => by rw [← hk]; exact refIndex_any W H A n c A2 m c2 x y V v1 v2 x0 (by omega) y0 (by omega)
  have HvG := Lib.hid hvG
  have HvP := Lib.hid hvP
  obtain ⟨d1, hd1⟩ : ∃ d, i % W = d := ⟨_, rfl⟩
  obtain ⟨d2, hd2⟩ : ∃ d, i / W = d := ⟨_, rfl⟩
  have HA : Hid (∀ V, Ints V V.heap.size A n g → Ints V V.heap.size A2 m p → Calls Try.prog 17 #[.agg #[.int .i64 W, .int .i64 H, .slice A n c, .slice A2 m c2], .int .i64 i] V fun e w' => e = .returned (.tuple #[.agg #[.int .i64 d1, .int .i64 d2], .int .i64 0]) ∧ Below V.heap.size V w') := fun V q1 q2 => by rw [← hd1, ← hd2]; exact at_yes W H A n c A2 m c2 g p i V q1 q2 (by omega) (by omega) hter (by omega) (by omega)
  have HRA : Hid (∀ V, Calls Try.prog 22 #[.agg #[.int .i64 W, .int .i64 H, .slice A n c, .slice A2 m c2], .int .i64 i] V fun e w' => e = .returned (.agg #[.int .i64 d1, .int .i64 d2]) ∧ Below V.heap.size V w') := fun V => by rw [← hd1, ← hd2]; exact refAt_any W H A n c A2 m c2 i V v1 (by omega) (by omega)
  have HH : Hid (∀ V, Ints V V.heap.size A n g → Ints V V.heap.size A2 m p → Calls Try.prog 13 #[.agg #[.int .i64 W, .int .i64 H, .slice A n c, .slice A2 m c2], .agg #[.int .i64 x, .int .i64 y]] V fun e w' => e = .returned (.bool true) ∧ Below V.heap.size V w') := fun V q1 q2 => by rw [← hhas]; exact refHas_any W H A n c A2 m c2 g p x y V q1 q2 (by omega) (by omega)
  have HHs : Hid (∀ V, Ints V V.heap.size A n g → Ints V V.heap.size A2 m p → Calls Try.prog 20 #[.agg #[.int .i64 W, .int .i64 H, .slice A n c, .slice A2 m c2], .agg #[.int .i64 x, .int .i64 y]] V fun e w' => e = .returned (.bool true) ∧ Below V.heap.size V w') := fun V q1 q2 => by rw [← hhas]; exact has_any W H A n c A2 m c2 g p x y V q1 q2 (by omega) (by omega)
  have HV : Hid (∀ V, Ints V V.heap.size A n g → Ints V V.heap.size A2 m p → Calls Try.prog 18 #[.agg #[.int .i64 W, .int .i64 H, .slice A n c, .slice A2 m c2]] V fun e w' => e = .returned (.bool true) ∧ Below V.heap.size V w') := fun V q1 q2 => by rw [← hter]; exact valid_any W H A n c A2 m c2 g p V q1 q2 (by omega) (by omega)
  have HRV : Hid (∀ V, Ints V V.heap.size A n g → Ints V V.heap.size A2 m p → Calls Try.prog 19 #[.agg #[.int .i64 W, .int .i64 H, .slice A n c, .slice A2 m c2]] V fun e w' => e = .returned (.bool true) ∧ Below V.heap.size V w') := fun V q1 q2 => by rw [← hter]; exact refValid_any W H A n c A2 m c2 g p V q1 q2 (by omega) (by omega)
  clear hhas hk z1 z2 v5 v6 hvG hvP hter hd1 hd2
  have GI0 := Lib.hid hG
  have PI0 := Lib.hid hP
  have S0 := Lib.hid (tc_start W H A n c A2 m c2 g p x y w)
  clear hG hP
  go_enter Try.func3, Try.ntmps3
  go_wp2_with fail
  obtain ⟨W0, hW0⟩ : ∃ W0, W0 = ((w.alloc (.cells #[.int .i64 W, .int .i64 H, .slice A n c, .slice A2 m c2] 24)).alloc (.cells #[.int .i64 x, .int .i64 y] 26)) := ⟨_, rfl⟩
  rw [← hW0] at S0
  rw [← hW0]
  clear hW0
  have BL := Lib.hid S0.out.1
  have TB := Lib.hid S0.out.2.1
  have CB := Lib.hid S0.out.2.2
  have GI := Lib.hid (GI0.out.next S0.out.1)
  have PI := Lib.hid (PI0.out.next S0.out.1)
  clear S0 GI0 PI0
  refine (big_any W H A n c A2 m c2 W0).mono ?_
  rintro e w1 ⟨rfl, hb⟩
  have BL := Lib.hid (chain BL.out hb)
  have TB := Lib.hid (Box4.next (w := W0) TB.out hb)
  have CB := Lib.hid (Box2.next (w := W0) CB.out hb)
  have GI := Lib.hid (Ints.next (w := W0) GI.out hb)
  have PI := Lib.hid (Ints.next (w := W0) PI.out hb)
  clear hb
  rw [show bigB n m = false by simp [bigB]; omega]
  obtain ⟨t0, t1, t2, t3, tf, tl⟩ := TB.out
  obtain ⟨u0, u1, uf, ul⟩ := CB.out
  go_wp2_with fail
  clear t0 t1 t2 t3 tf tl u0 u1 uf ul
  refine (HH.out w1 GI.out PI.out).mono ?_
  rintro e w2 ⟨rfl, hb⟩
  have BL := Lib.hid (chain BL.out hb)
  have TB := Lib.hid (Box4.next (w := w1) TB.out hb)
  have CB := Lib.hid (Box2.next (w := w1) CB.out hb)
  have GI := Lib.hid (Ints.next (w := w1) GI.out hb)
  have PI := Lib.hid (Ints.next (w := w1) PI.out hb)
  clear hb
  obtain ⟨t0, t1, t2, t3, tf, tl⟩ := TB.out
  obtain ⟨u0, u1, uf, ul⟩ := CB.out
  go_wp2_with fail
  clear t0 t1 t2 t3 tf tl u0 u1 uf ul
  refine (HI.out w2 GI.out PI.out).mono ?_
  rintro e w3 ⟨rfl, hb⟩
  have BL := Lib.hid (chain BL.out hb)
  have TB := Lib.hid (Box4.next (w := w2) TB.out hb)
  have CB := Lib.hid (Box2.next (w := w2) CB.out hb)
  have GI := Lib.hid (Ints.next (w := w2) GI.out hb)
  have PI := Lib.hid (Ints.next (w := w2) PI.out hb)
  clear hb
  obtain ⟨t0, t1, t2, t3, tf, tl⟩ := TB.out
  obtain ⟨u0, u1, uf, ul⟩ := CB.out
  go_wp2_with fail
  clear t0 t1 t2 t3 tf tl u0 u1 uf ul
  refine (HGr.out w3 GI.out PI.out).mono ?_
  rintro e w4 ⟨rfl, hb⟩
  have BL := Lib.hid (chain BL.out hb)
  have TB := Lib.hid (Box4.next (w := w3) TB.out hb)
  have CB := Lib.hid (Box2.next (w := w3) CB.out hb)
  have GI := Lib.hid (Ints.next (w := w3) GI.out hb)
  have PI := Lib.hid (Ints.next (w := w3) PI.out hb)
  clear hb
  obtain ⟨t0, t1, t2, t3, tf, tl⟩ := TB.out
  obtain ⟨u0, u1, uf, ul⟩ := CB.out
  go_wp2_with fail
  clear t0 t1 t2 t3 tf tl u0 u1 uf ul
  refine (HPe.out w4 GI.out PI.out).mono ?_
  rintro e w5 ⟨rfl, hb⟩
  have BL := Lib.hid (chain BL.out hb)
  have TB := Lib.hid (Box4.next (w := w4) TB.out hb)
  have CB := Lib.hid (Box2.next (w := w4) CB.out hb)
  have GI := Lib.hid (Ints.next (w := w4) GI.out hb)
  have PI := Lib.hid (Ints.next (w := w4) PI.out hb)
  clear hb
  obtain ⟨t0, t1, t2, t3, tf, tl⟩ := TB.out
  obtain ⟨u0, u1, uf, ul⟩ := CB.out
  go_wp2_with fail
  clear t0 t1 t2 t3 tf tl u0 u1 uf ul
  refine (HA.out w5 GI.out PI.out).mono ?_
  rintro e w6 ⟨rfl, hb⟩
  have BL := Lib.hid (chain BL.out hb)
  have TB := Lib.hid (Box4.next (w := w5) TB.out hb)
  have CB := Lib.hid (Box2.next (w := w5) CB.out hb)
  have GI := Lib.hid (Ints.next (w := w5) GI.out hb)
  have PI := Lib.hid (Ints.next (w := w5) PI.out hb)
  clear hb
  obtain ⟨t0, t1, t2, t3, tf, tl⟩ := TB.out
  obtain ⟨u0, u1, uf, ul⟩ := CB.out
  go_wp2
  clear t0 t1 t2 t3 tf tl u0 u1 uf ul
  obtain ⟨V6, hV6⟩ : ∃ V, V = w6.alloc (.cells #[.int .i64 d1, .int .i64 d2] 26) := ⟨_, rfl⟩
  have hb : Below w6.heap.size w6 V6 := by rw [hV6]; exact (Below.refl _ _).alloc (Nat.le_refl _) _
  have BL := Lib.hid (chain BL.out hb)
  have TB := Lib.hid (Box4.next (w := w6) TB.out hb)
  have CB := Lib.hid (Box2.next (w := w6) CB.out hb)
  have GI := Lib.hid (Ints.next (w := w6) GI.out hb)
  have PI := Lib.hid (Ints.next (w := w6) PI.out hb)
  clear hb
  have DB : Hid (Box2 V6 w6.heap.size (.int .i64 d1) (.int .i64 d2)) := by rw [hV6]; exact Box2.new _ _ _ _
  rw [← hV6]
  clear hV6
  obtain ⟨t0, t1, t2, t3, tf, tl⟩ := TB.out
  obtain ⟨u0, u1, uf, ul⟩ := CB.out
  go_region_held3 (fun w' => w'.cell? ⟨w.heap.size, 0, none⟩ = some (.int .i64 W) ∧ w'.cell? ⟨w.heap.size, 1, none⟩ = some (.int .i64 H) ∧ w'.cell? ⟨w.heap.size, 2, none⟩ = some (.slice A n c) ∧ w'.cell? ⟨w.heap.size, 3, none⟩ = some (.slice A2 m c2) ∧ w'.cell? ⟨w.heap.size + 1, 0, none⟩ = some (.int .i64 x) ∧ w'.cell? ⟨w.heap.size + 1, 1, none⟩ = some (.int .i64 y))
    (first | go_keep | exact ⟨by assumption, by assumption, by assumption, by assumption, by assumption, by assumption⟩)
    (first | (go_at_call 18; refine (HV.out _ (Ints.drewN GI.out) (Ints.drewN PI.out)).mono ?_; rintro e w7 ⟨rfl, hb⟩; have BL := Lib.hid (chain BL.out.drew hb); have TB := Lib.hid (Box4.next (w := V6.drew) TB.out hb); have CB := Lib.hid (Box2.next (w := V6.drew) CB.out hb); have GI := Lib.hid (Ints.next (w := V6.drew) GI.out hb); have PI := Lib.hid (Ints.next (w := V6.drew) PI.out hb); have DB := Lib.hid (Box2.next (w := V6.drew) DB.out hb); clear hb; obtain ⟨t0, t1, t2, t3, tf, tl⟩ := TB.out; obtain ⟨u0, u1, uf, ul⟩ := CB.out) | (go_at_call 19; refine (HRV.out w7 GI.out PI.out).mono ?_; rintro e w8 ⟨rfl, hb⟩; have BL := Lib.hid (chain BL.out hb); have TB := Lib.hid (Box4.next (w := w7) TB.out hb); have CB := Lib.hid (Box2.next (w := w7) CB.out hb); have GI := Lib.hid (Ints.next (w := w7) GI.out hb); have PI := Lib.hid (Ints.next (w := w7) PI.out hb); have DB := Lib.hid (Box2.next (w := w7) DB.out hb); clear hb; obtain ⟨t0, t1, t2, t3, tf, tl⟩ := TB.out; obtain ⟨u0, u1, uf, ul⟩ := CB.out) | (go_at_call 20; refine (HHs.out w8 GI.out PI.out).mono ?_; rintro e w9 ⟨rfl, hb⟩; have BL := Lib.hid (chain BL.out hb); have TB := Lib.hid (Box4.next (w := w8) TB.out hb); have CB := Lib.hid (Box2.next (w := w8) CB.out hb); have GI := Lib.hid (Ints.next (w := w8) GI.out hb); have PI := Lib.hid (Ints.next (w := w8) PI.out hb); have DB := Lib.hid (Box2.next (w := w8) DB.out hb); clear hb; obtain ⟨t0, t1, t2, t3, tf, tl⟩ := TB.out; obtain ⟨u0, u1, uf, ul⟩ := CB.out))
  go_wp2_with fail
  clear t0 t1 t2 t3 tf tl u0 u1 uf ul
  refine (HX.out w9).mono ?_
  rintro e w10 ⟨rfl, hb⟩
  have BL := Lib.hid (chain BL.out hb)
  have TB := Lib.hid (Box4.next (w := w9) TB.out hb)
  have CB := Lib.hid (Box2.next (w := w9) CB.out hb)
  have GI := Lib.hid (Ints.next (w := w9) GI.out hb)
  have PI := Lib.hid (Ints.next (w := w9) PI.out hb)
  have DB := Lib.hid (Box2.next (w := w9) DB.out hb)
  clear hb
  obtain ⟨t0, t1, t2, t3, tf, tl⟩ := TB.out
  obtain ⟨u0, u1, uf, ul⟩ := CB.out
  have gc := Ints.at0 GI.out k hkn
  have pc := Ints.at0 PI.out k hkm
  rw [HvG.out] at gc
  rw [HvP.out] at pc
  obtain ⟨gb, go, rfl, gc⟩ := gc
  obtain ⟨pb, po, rfl, pc⟩ := pc
  go_wp2_with fail
  clear t0 t1 t2 t3 tf tl u0 u1 uf ul
  clear gc pc
  refine (HRV.out w10 GI.out PI.out).mono ?_
  rintro e w11 ⟨rfl, hb⟩
  have BL := Lib.hid (chain BL.out hb)
  have TB := Lib.hid (Box4.next (w := w10) TB.out hb)
  have CB := Lib.hid (Box2.next (w := w10) CB.out hb)
  have GI := Lib.hid (Ints.next (w := w10) GI.out hb)
  have PI := Lib.hid (Ints.next (w := w10) PI.out hb)
  have DB := Lib.hid (Box2.next (w := w10) DB.out hb)
  clear hb
  obtain ⟨t0, t1, t2, t3, tf, tl⟩ := TB.out
  obtain ⟨u0, u1, uf, ul⟩ := CB.out
  obtain ⟨v0, v1, vf, vl⟩ := DB.out
  go_wp2
  go_region_held3 (fun w' => w'.cell? ⟨w.heap.size, 0, none⟩ = some (.int .i64 W) ∧ w'.cell? ⟨w.heap.size, 1, none⟩ = some (.int .i64 H) ∧ w'.cell? ⟨w.heap.size, 2, none⟩ = some (.slice (some ⟨gb, go, none⟩) n c) ∧ w'.cell? ⟨w.heap.size, 3, none⟩ = some (.slice (some ⟨pb, po, none⟩) m c2) ∧ w'.cell? ⟨w6.heap.size, 0, none⟩ = some (.int .i64 d1) ∧ w'.cell? ⟨w6.heap.size, 1, none⟩ = some (.int .i64 d2))
    (first | go_keep | exact ⟨by assumption, by assumption, by assumption, by assumption, by assumption, by assumption⟩)
    (first | (go_at_call 22; refine (HRA.out _).mono ?_; rintro e w12 ⟨rfl, hb⟩; have BL := Lib.hid (chain BL.out.drew hb); have TB := Lib.hid (Box4.next (w := w11.drew) TB.out hb); have CB := Lib.hid (Box2.next (w := w11.drew) CB.out hb); have GI := Lib.hid (Ints.next (w := w11.drew) GI.out hb); have PI := Lib.hid (Ints.next (w := w11.drew) PI.out hb); have DB := Lib.hid (Box2.next (w := w11.drew) DB.out hb); clear hb; obtain ⟨t0, t1, t2, t3, tf, tl⟩ := TB.out; obtain ⟨v0, v1, vf, vl⟩ := DB.out) | (go_at_call 12; refine (known_any w12).mono ?_; rintro e w13 ⟨rfl, hb⟩; have BL := Lib.hid (chain BL.out hb); have TB := Lib.hid (Box4.next (w := w12) TB.out hb); have CB := Lib.hid (Box2.next (w := w12) CB.out hb); have GI := Lib.hid (Ints.next (w := w12) GI.out hb); have PI := Lib.hid (Ints.next (w := w12) PI.out hb); have DB := Lib.hid (Box2.next (w := w12) DB.out hb); clear hb; obtain ⟨t0, t1, t2, t3, tf, tl⟩ := TB.out; obtain ⟨v0, v1, vf, vl⟩ := DB.out))
  go_wp2
  go_ret
  exact ⟨rfl, BL.out⟩

set_option maxHeartbeats 4000000 in
set_option maxRecDepth 100000 in
theorem law3_yo1 (W H : Int) (A : Option Addr) (n c : Nat) (A2 : Option Addr) (m c2 : Nat) (g p : List Int) (x y i : Int) (w : World) (hG : Ints w w.heap.size A n g) (hP : Ints w w.heap.size A2 m p) (hn : n ≤ 300) (hm : m ≤ 300) (hhas : hasB W H g p x y = true) (hir : i < 0) : Calls Try.prog 3 #[.agg #[.int .i64 W, .int .i64 H, .slice A n c, .slice A2 m c2], .agg #[.int .i64 x, .int .i64 y], .int .i64 i] w (KnownOk w) := by
  obtain ⟨hter, x0, x1, y0, y1⟩ := hasB_iff.1 hhas
  obtain ⟨⟨v1, v2, v3, v4, v5, v6⟩, _⟩ := terB_iff.1 hter
  obtain ⟨b1, b2⟩ := wh_bd v1 v2 v3 v4
  rw [hG.1] at v5
  rw [hP.1] at v6
  obtain ⟨z1, z2⟩ := place_bd x0 x1 y0 y1
  obtain ⟨k, hk⟩ : ∃ k : Nat, y * W + x = (k : Int) := ⟨(y * W + x).toNat, by omega⟩
  have hkn : k < n := by omega
  have hkm : k < m := by omega
  obtain ⟨vG, hvG⟩ : ∃ vG, g[k]?.getD 0 = vG := ⟨_, rfl⟩
  obtain ⟨vP, hvP⟩ : ∃ vP, p[k]?.getD 0 = vP := ⟨_, rfl⟩
  have HI : Hid (∀ V, Ints V V.heap.size A n g → Ints V V.heap.size A2 m p → Calls Try.prog 14 #[.agg #[.int .i64 W, .int .i64 H, .slice A n c, .slice A2 m c2], .agg #[.int .i64 x, .int .i64 y]] V fun e w' => e = .returned (.tuple #[.int .i64 (k : Int), .int .i64 0]) ∧ Below V.heap.size V w') := fun V q1 q2 => by rw [← hk]; exact index_yes W H A n c A2 m c2 g p x y V q1 q2 (by omega) (by omega) hhas
  have HGr : Hid (∀ V, Ints V V.heap.size A n g → Ints V V.heap.size A2 m p → Calls Try.prog 15 #[.agg #[.int .i64 W, .int .i64 H, .slice A n c, .slice A2 m c2], .agg #[.int .i64 x, .int .i64 y]] V fun e w' => e = .returned (.tuple #[.int .i64 vG, .int .i64 0]) ∧ Below V.heap.size V w') := fun V q1 q2 => by rw [← hvG]; exact ground_yes W H A n c A2 m c2 g p x y V q1 q2 (by omega) (by omega) hhas k hk
  have HPe : Hid (∀ V, Ints V V.heap.size A n g → Ints V V.heap.size A2 m p → Calls Try.prog 16 #[.agg #[.int .i64 W, .int .i64 H, .slice A n c, .slice A2 m c2], .agg #[.int .i64 x, .int .i64 y]] V fun e w' => e = .returned (.tuple #[.int .i64 vP, .int .i64 0]) ∧ Below V.heap.size V w') := fun V q1 q2 => by rw [← hvP]; exact people_yes W H A n c A2 m c2 g p x y V q1 q2 (by omega) (by omega) hhas k hk
  have HX : Hid (∀ V, Calls Try.prog 21 #[.agg #[.int .i64 W, .int .i64 H, .slice A n c, .slice A2 m c2], .agg #[.int .i64 x, .int .i64 y]] V fun e w' => e = .returned (.int .i64 (k : Int)) ∧ Below V.heap.size V w') := fun V => by rw [← hk]; exact refIndex_any W H A n c A2 m c2 x y V v1 v2 x0 (by omega) y0 (by omega)
  have HvG := Lib.hid hvG
  have HvP := Lib.hid hvP
  have HA : Hid (∀ V, Ints V V.heap.size A n g → Ints V V.heap.size A2 m p → Calls Try.prog 17 #[.agg #[.int .i64 W, .int .i64 H, .slice A n c, .slice A2 m c2], .int .i64 i] V fun e w' => e = .returned (.tuple #[.agg #[.int .i64 0, .int .i64 0], .int .i64 2]) ∧ Below V.heap.size V w') := fun V q1 q2 => at_out W H A n c A2 m c2 g p i V q1 q2 (by omega) (by omega) hter (by omega)
  have HH : Hid (∀ V, Ints V V.heap.size A n g → Ints V V.heap.size A2 m p → Calls Try.prog 13 #[.agg #[.int .i64 W, .int .i64 H, .slice A n c, .slice A2 m c2], .agg #[.int .i64 x, .int .i64 y]] V fun e w' => e = .returned (.bool true) ∧ Below V.heap.size V w') := fun V q1 q2 => by rw [← hhas]; exact refHas_any W H A n c A2 m c2 g p x y V q1 q2 (by omega) (by omega)
  have HHs : Hid (∀ V, Ints V V.heap.size A n g → Ints V V.heap.size A2 m p → Calls Try.prog 20 #[.agg #[.int .i64 W, .int .i64 H, .slice A n c, .slice A2 m c2], .agg #[.int .i64 x, .int .i64 y]] V fun e w' => e = .returned (.bool true) ∧ Below V.heap.size V w') := fun V q1 q2 => by rw [← hhas]; exact has_any W H A n c A2 m c2 g p x y V q1 q2 (by omega) (by omega)
  have HV : Hid (∀ V, Ints V V.heap.size A n g → Ints V V.heap.size A2 m p → Calls Try.prog 18 #[.agg #[.int .i64 W, .int .i64 H, .slice A n c, .slice A2 m c2]] V fun e w' => e = .returned (.bool true) ∧ Below V.heap.size V w') := fun V q1 q2 => by rw [← hter]; exact valid_any W H A n c A2 m c2 g p V q1 q2 (by omega) (by omega)
  have HRV : Hid (∀ V, Ints V V.heap.size A n g → Ints V V.heap.size A2 m p → Calls Try.prog 19 #[.agg #[.int .i64 W, .int .i64 H, .slice A n c, .slice A2 m c2]] V fun e w' => e = .returned (.bool true) ∧ Below V.heap.size V w') := fun V q1 q2 => by rw [← hter]; exact refValid_any W H A n c A2 m c2 g p V q1 q2 (by omega) (by omega)
  clear hhas hk z1 z2 v5 v6 hvG hvP hter
  have GI0 := Lib.hid hG
  have PI0 := Lib.hid hP
  have S0 := Lib.hid (tc_start W H A n c A2 m c2 g p x y w)
  clear hG hP
  go_enter Try.func3, Try.ntmps3
  go_wp2_with fail
  obtain ⟨W0, hW0⟩ : ∃ W0, W0 = ((w.alloc (.cells #[.int .i64 W, .int .i64 H, .slice A n c, .slice A2 m c2] 24)).alloc (.cells #[.int .i64 x, .int .i64 y] 26)) := ⟨_, rfl⟩
  rw [← hW0] at S0
  rw [← hW0]
  clear hW0
  have BL := Lib.hid S0.out.1
  have TB := Lib.hid S0.out.2.1
  have CB := Lib.hid S0.out.2.2
  have GI := Lib.hid (GI0.out.next S0.out.1)
  have PI := Lib.hid (PI0.out.next S0.out.1)
  clear S0 GI0 PI0
  refine (big_any W H A n c A2 m c2 W0).mono ?_
  rintro e w1 ⟨rfl, hb⟩
  have BL := Lib.hid (chain BL.out hb)
  have TB := Lib.hid (Box4.next (w := W0) TB.out hb)
  have CB := Lib.hid (Box2.next (w := W0) CB.out hb)
  have GI := Lib.hid (Ints.next (w := W0) GI.out hb)
  have PI := Lib.hid (Ints.next (w := W0) PI.out hb)
  clear hb
  rw [show bigB n m = false by simp [bigB]; omega]
  obtain ⟨t0, t1, t2, t3, tf, tl⟩ := TB.out
  obtain ⟨u0, u1, uf, ul⟩ := CB.out
  go_wp2_with fail
  clear t0 t1 t2 t3 tf tl u0 u1 uf ul
  refine (HH.out w1 GI.out PI.out).mono ?_
  rintro e w2 ⟨rfl, hb⟩
  have BL := Lib.hid (chain BL.out hb)
  have TB := Lib.hid (Box4.next (w := w1) TB.out hb)
  have CB := Lib.hid (Box2.next (w := w1) CB.out hb)
  have GI := Lib.hid (Ints.next (w := w1) GI.out hb)
  have PI := Lib.hid (Ints.next (w := w1) PI.out hb)
  clear hb
  obtain ⟨t0, t1, t2, t3, tf, tl⟩ := TB.out
  obtain ⟨u0, u1, uf, ul⟩ := CB.out
  go_wp2_with fail
  clear t0 t1 t2 t3 tf tl u0 u1 uf ul
  refine (HI.out w2 GI.out PI.out).mono ?_
  rintro e w3 ⟨rfl, hb⟩
  have BL := Lib.hid (chain BL.out hb)
  have TB := Lib.hid (Box4.next (w := w2) TB.out hb)
  have CB := Lib.hid (Box2.next (w := w2) CB.out hb)
  have GI := Lib.hid (Ints.next (w := w2) GI.out hb)
  have PI := Lib.hid (Ints.next (w := w2) PI.out hb)
  clear hb
  obtain ⟨t0, t1, t2, t3, tf, tl⟩ := TB.out
  obtain ⟨u0, u1, uf, ul⟩ := CB.out
  go_wp2_with fail
  clear t0 t1 t2 t3 tf tl u0 u1 uf ul
  refine (HGr.out w3 GI.out PI.out).mono ?_
  rintro e w4 ⟨rfl, hb⟩
  have BL := Lib.hid (chain BL.out hb)
  have TB := Lib.hid (Box4.next (w := w3) TB.out hb)
  have CB := Lib.hid (Box2.next (w := w3) CB.out hb)
  have GI := Lib.hid (Ints.next (w := w3) GI.out hb)
  have PI := Lib.hid (Ints.next (w := w3) PI.out hb)
  clear hb
  obtain ⟨t0, t1, t2, t3, tf, tl⟩ := TB.out
  obtain ⟨u0, u1, uf, ul⟩ := CB.out
  go_wp2_with fail
  clear t0 t1 t2 t3 tf tl u0 u1 uf ul
  refine (HPe.out w4 GI.out PI.out).mono ?_
  rintro e w5 ⟨rfl, hb⟩
  have BL := Lib.hid (chain BL.out hb)
  have TB := Lib.hid (Box4.next (w := w4) TB.out hb)
  have CB := Lib.hid (Box2.next (w := w4) CB.out hb)
  have GI := Lib.hid (Ints.next (w := w4) GI.out hb)
  have PI := Lib.hid (Ints.next (w := w4) PI.out hb)
  clear hb
  obtain ⟨t0, t1, t2, t3, tf, tl⟩ := TB.out
  obtain ⟨u0, u1, uf, ul⟩ := CB.out
  go_wp2_with fail
  clear t0 t1 t2 t3 tf tl u0 u1 uf ul
  refine (HA.out w5 GI.out PI.out).mono ?_
  rintro e w6 ⟨rfl, hb⟩
  have BL := Lib.hid (chain BL.out hb)
  have TB := Lib.hid (Box4.next (w := w5) TB.out hb)
  have CB := Lib.hid (Box2.next (w := w5) CB.out hb)
  have GI := Lib.hid (Ints.next (w := w5) GI.out hb)
  have PI := Lib.hid (Ints.next (w := w5) PI.out hb)
  clear hb
  obtain ⟨t0, t1, t2, t3, tf, tl⟩ := TB.out
  obtain ⟨u0, u1, uf, ul⟩ := CB.out
  go_wp2
  clear t0 t1 t2 t3 tf tl u0 u1 uf ul
  obtain ⟨V6, hV6⟩ : ∃ V, V = w6.alloc (.cells #[.int .i64 0, .int .i64 0] 26) := ⟨_, rfl⟩
  have hb : Below w6.heap.size w6 V6 := by rw [hV6]; exact (Below.refl _ _).alloc (Nat.le_refl _) _
  have BL := Lib.hid (chain BL.out hb)
  have TB := Lib.hid (Box4.next (w := w6) TB.out hb)
  have CB := Lib.hid (Box2.next (w := w6) CB.out hb)
  have GI := Lib.hid (Ints.next (w := w6) GI.out hb)
  have PI := Lib.hid (Ints.next (w := w6) PI.out hb)
  clear hb
  have DB : Hid (Box2 V6 w6.heap.size (.int .i64 0) (.int .i64 0)) := by rw [hV6]; exact Box2.new _ _ _ _
  rw [← hV6]
  clear hV6
  obtain ⟨t0, t1, t2, t3, tf, tl⟩ := TB.out
  obtain ⟨u0, u1, uf, ul⟩ := CB.out
  go_region_held3 (fun w' => w'.cell? ⟨w.heap.size, 0, none⟩ = some (.int .i64 W) ∧ w'.cell? ⟨w.heap.size, 1, none⟩ = some (.int .i64 H) ∧ w'.cell? ⟨w.heap.size, 2, none⟩ = some (.slice A n c) ∧ w'.cell? ⟨w.heap.size, 3, none⟩ = some (.slice A2 m c2) ∧ w'.cell? ⟨w.heap.size + 1, 0, none⟩ = some (.int .i64 x) ∧ w'.cell? ⟨w.heap.size + 1, 1, none⟩ = some (.int .i64 y))
    (first | go_keep | exact ⟨by assumption, by assumption, by assumption, by assumption, by assumption, by assumption⟩)
    (first | (go_at_call 18; refine (HV.out _ (Ints.drewN GI.out) (Ints.drewN PI.out)).mono ?_; rintro e w7 ⟨rfl, hb⟩; have BL := Lib.hid (chain BL.out.drew hb); have TB := Lib.hid (Box4.next (w := V6.drew) TB.out hb); have CB := Lib.hid (Box2.next (w := V6.drew) CB.out hb); have GI := Lib.hid (Ints.next (w := V6.drew) GI.out hb); have PI := Lib.hid (Ints.next (w := V6.drew) PI.out hb); have DB := Lib.hid (Box2.next (w := V6.drew) DB.out hb); clear hb; obtain ⟨t0, t1, t2, t3, tf, tl⟩ := TB.out; obtain ⟨u0, u1, uf, ul⟩ := CB.out) | (go_at_call 19; refine (HRV.out w7 GI.out PI.out).mono ?_; rintro e w8 ⟨rfl, hb⟩; have BL := Lib.hid (chain BL.out hb); have TB := Lib.hid (Box4.next (w := w7) TB.out hb); have CB := Lib.hid (Box2.next (w := w7) CB.out hb); have GI := Lib.hid (Ints.next (w := w7) GI.out hb); have PI := Lib.hid (Ints.next (w := w7) PI.out hb); have DB := Lib.hid (Box2.next (w := w7) DB.out hb); clear hb; obtain ⟨t0, t1, t2, t3, tf, tl⟩ := TB.out; obtain ⟨u0, u1, uf, ul⟩ := CB.out) | (go_at_call 20; refine (HHs.out w8 GI.out PI.out).mono ?_; rintro e w9 ⟨rfl, hb⟩; have BL := Lib.hid (chain BL.out hb); have TB := Lib.hid (Box4.next (w := w8) TB.out hb); have CB := Lib.hid (Box2.next (w := w8) CB.out hb); have GI := Lib.hid (Ints.next (w := w8) GI.out hb); have PI := Lib.hid (Ints.next (w := w8) PI.out hb); have DB := Lib.hid (Box2.next (w := w8) DB.out hb); clear hb; obtain ⟨t0, t1, t2, t3, tf, tl⟩ := TB.out; obtain ⟨u0, u1, uf, ul⟩ := CB.out))
  go_wp2_with fail
  clear t0 t1 t2 t3 tf tl u0 u1 uf ul
  refine (HX.out w9).mono ?_
  rintro e w10 ⟨rfl, hb⟩
  have BL := Lib.hid (chain BL.out hb)
  have TB := Lib.hid (Box4.next (w := w9) TB.out hb)
  have CB := Lib.hid (Box2.next (w := w9) CB.out hb)
  have GI := Lib.hid (Ints.next (w := w9) GI.out hb)
  have PI := Lib.hid (Ints.next (w := w9) PI.out hb)
  have DB := Lib.hid (Box2.next (w := w9) DB.out hb)
  clear hb
  obtain ⟨t0, t1, t2, t3, tf, tl⟩ := TB.out
  obtain ⟨u0, u1, uf, ul⟩ := CB.out
  have gc := Ints.at0 GI.out k hkn
  have pc := Ints.at0 PI.out k hkm
  rw [HvG.out] at gc
  rw [HvP.out] at pc
  obtain ⟨gb, go, rfl, gc⟩ := gc
  obtain ⟨pb, po, rfl, pc⟩ := pc
  go_wp2_with fail
  clear t0 t1 t2 t3 tf tl u0 u1 uf ul
  clear gc pc
  refine (HRV.out w10 GI.out PI.out).mono ?_
  rintro e w11 ⟨rfl, hb⟩
  have BL := Lib.hid (chain BL.out hb)
  have TB := Lib.hid (Box4.next (w := w10) TB.out hb)
  have CB := Lib.hid (Box2.next (w := w10) CB.out hb)
  have GI := Lib.hid (Ints.next (w := w10) GI.out hb)
  have PI := Lib.hid (Ints.next (w := w10) PI.out hb)
  have DB := Lib.hid (Box2.next (w := w10) DB.out hb)
  clear hb
  obtain ⟨t0, t1, t2, t3, tf, tl⟩ := TB.out
  obtain ⟨u0, u1, uf, ul⟩ := CB.out
  obtain ⟨v0, v1, vf, vl⟩ := DB.out
  go_wp2_with fail
  refine (known_any w11).mono ?_
  rintro e w12 ⟨rfl, hb⟩
  have BL := Lib.hid (chain BL.out hb)
  have TB := Lib.hid (Box4.next (w := w11) TB.out hb)
  have CB := Lib.hid (Box2.next (w := w11) CB.out hb)
  have GI := Lib.hid (Ints.next (w := w11) GI.out hb)
  have PI := Lib.hid (Ints.next (w := w11) PI.out hb)
  have DB := Lib.hid (Box2.next (w := w11) DB.out hb)
  clear hb
  go_wp2
  go_ret
  exact ⟨rfl, BL.out⟩

set_option maxHeartbeats 4000000 in
set_option maxRecDepth 100000 in
theorem law3_yo2 (W H : Int) (A : Option Addr) (n c : Nat) (A2 : Option Addr) (m c2 : Nat) (g p : List Int) (x y i : Int) (w : World) (hG : Ints w w.heap.size A n g) (hP : Ints w w.heap.size A2 m p) (hn : n ≤ 300) (hm : m ≤ 300) (hhas : hasB W H g p x y = true) (hir : 0 ≤ i) (hir2 : W * H ≤ i) : Calls Try.prog 3 #[.agg #[.int .i64 W, .int .i64 H, .slice A n c, .slice A2 m c2], .agg #[.int .i64 x, .int .i64 y], .int .i64 i] w (KnownOk w) := by
  obtain ⟨hter, x0, x1, y0, y1⟩ := hasB_iff.1 hhas
  obtain ⟨⟨v1, v2, v3, v4, v5, v6⟩, _⟩ := terB_iff.1 hter
  obtain ⟨b1, b2⟩ := wh_bd v1 v2 v3 v4
  rw [hG.1] at v5
  rw [hP.1] at v6
  obtain ⟨z1, z2⟩ := place_bd x0 x1 y0 y1
  obtain ⟨k, hk⟩ : ∃ k : Nat, y * W + x = (k : Int) := ⟨(y * W + x).toNat, by omega⟩
  have hkn : k < n := by omega
  have hkm : k < m := by omega
  obtain ⟨vG, hvG⟩ : ∃ vG, g[k]?.getD 0 = vG := ⟨_, rfl⟩
  obtain ⟨vP, hvP⟩ : ∃ vP, p[k]?.getD 0 = vP := ⟨_, rfl⟩
  have HI : Hid (∀ V, Ints V V.heap.size A n g → Ints V V.heap.size A2 m p → Calls Try.prog 14 #[.agg #[.int .i64 W, .int .i64 H, .slice A n c, .slice A2 m c2], .agg #[.int .i64 x, .int .i64 y]] V fun e w' => e = .returned (.tuple #[.int .i64 (k : Int), .int .i64 0]) ∧ Below V.heap.size V w') := fun V q1 q2 => by rw [← hk]; exact index_yes W H A n c A2 m c2 g p x y V q1 q2 (by omega) (by omega) hhas
  have HGr : Hid (∀ V, Ints V V.heap.size A n g → Ints V V.heap.size A2 m p → Calls Try.prog 15 #[.agg #[.int .i64 W, .int .i64 H, .slice A n c, .slice A2 m c2], .agg #[.int .i64 x, .int .i64 y]] V fun e w' => e = .returned (.tuple #[.int .i64 vG, .int .i64 0]) ∧ Below V.heap.size V w') := fun V q1 q2 => by rw [← hvG]; exact ground_yes W H A n c A2 m c2 g p x y V q1 q2 (by omega) (by omega) hhas k hk
  have HPe : Hid (∀ V, Ints V V.heap.size A n g → Ints V V.heap.size A2 m p → Calls Try.prog 16 #[.agg #[.int .i64 W, .int .i64 H, .slice A n c, .slice A2 m c2], .agg #[.int .i64 x, .int .i64 y]] V fun e w' => e = .returned (.tuple #[.int .i64 vP, .int .i64 0]) ∧ Below V.heap.size V w') := fun V q1 q2 => by rw [← hvP]; exact people_yes W H A n c A2 m c2 g p x y V q1 q2 (by omega) (by omega) hhas k hk
  have HX : Hid (∀ V, Calls Try.prog 21 #[.agg #[.int .i64 W, .int .i64 H, .slice A n c, .slice A2 m c2], .agg #[.int .i64 x, .int .i64 y]] V fun e w' => e = .returned (.int .i64 (k : Int)) ∧ Below V.heap.size V w') := fun V => by rw [← hk]; exact refIndex_any W H A n c A2 m c2 x y V v1 v2 x0 (by omega) y0 (by omega)
  have HvG := Lib.hid hvG
  have HvP := Lib.hid hvP
  have HA : Hid (∀ V, Ints V V.heap.size A n g → Ints V V.heap.size A2 m p → Calls Try.prog 17 #[.agg #[.int .i64 W, .int .i64 H, .slice A n c, .slice A2 m c2], .int .i64 i] V fun e w' => e = .returned (.tuple #[.agg #[.int .i64 0, .int .i64 0], .int .i64 2]) ∧ Below V.heap.size V w') := fun V q1 q2 => at_out W H A n c A2 m c2 g p i V q1 q2 (by omega) (by omega) hter (by omega)
  have HH : Hid (∀ V, Ints V V.heap.size A n g → Ints V V.heap.size A2 m p → Calls Try.prog 13 #[.agg #[.int .i64 W, .int .i64 H, .slice A n c, .slice A2 m c2], .agg #[.int .i64 x, .int .i64 y]] V fun e w' => e = .returned (.bool true) ∧ Below V.heap.size V w') := fun V q1 q2 => by rw [← hhas]; exact refHas_any W H A n c A2 m c2 g p x y V q1 q2 (by omega) (by omega)
  have HHs : Hid (∀ V, Ints V V.heap.size A n g → Ints V V.heap.size A2 m p → Calls Try.prog 20 #[.agg #[.int .i64 W, .int .i64 H, .slice A n c, .slice A2 m c2], .agg #[.int .i64 x, .int .i64 y]] V fun e w' => e = .returned (.bool true) ∧ Below V.heap.size V w') := fun V q1 q2 => by rw [← hhas]; exact has_any W H A n c A2 m c2 g p x y V q1 q2 (by omega) (by omega)
  have HV : Hid (∀ V, Ints V V.heap.size A n g → Ints V V.heap.size A2 m p → Calls Try.prog 18 #[.agg #[.int .i64 W, .int .i64 H, .slice A n c, .slice A2 m c2]] V fun e w' => e = .returned (.bool true) ∧ Below V.heap.size V w') := fun V q1 q2 => by rw [← hter]; exact valid_any W H A n c A2 m c2 g p V q1 q2 (by omega) (by omega)
  have HRV : Hid (∀ V, Ints V V.heap.size A n g → Ints V V.heap.size A2 m p → Calls Try.prog 19 #[.agg #[.int .i64 W, .int .i64 H, .slice A n c, .slice A2 m c2]] V fun e w' => e = .returned (.bool true) ∧ Below V.heap.size V w') := fun V q1 q2 => by rw [← hter]; exact refValid_any W H A n c A2 m c2 g p V q1 q2 (by omega) (by omega)
  clear hhas hk z1 z2 v5 v6 hvG hvP hter
  have GI0 := Lib.hid hG
  have PI0 := Lib.hid hP
  have S0 := Lib.hid (tc_start W H A n c A2 m c2 g p x y w)
  clear hG hP
  go_enter Try.func3, Try.ntmps3
  go_wp2_with fail
  obtain ⟨W0, hW0⟩ : ∃ W0, W0 = ((w.alloc (.cells #[.int .i64 W, .int .i64 H, .slice A n c, .slice A2 m c2] 24)).alloc (.cells #[.int .i64 x, .int .i64 y] 26)) := ⟨_, rfl⟩
  rw [← hW0] at S0
  rw [← hW0]
  clear hW0
  have BL := Lib.hid S0.out.1
  have TB := Lib.hid S0.out.2.1
  have CB := Lib.hid S0.out.2.2
  have GI := Lib.hid (GI0.out.next S0.out.1)
  have PI := Lib.hid (PI0.out.next S0.out.1)
  clear S0 GI0 PI0
  refine (big_any W H A n c A2 m c2 W0).mono ?_
  rintro e w1 ⟨rfl, hb⟩
  have BL := Lib.hid (chain BL.out hb)
  have TB := Lib.hid (Box4.next (w := W0) TB.out hb)
  have CB := Lib.hid (Box2.next (w := W0) CB.out hb)
  have GI := Lib.hid (Ints.next (w := W0) GI.out hb)
  have PI := Lib.hid (Ints.next (w := W0) PI.out hb)
  clear hb
  rw [show bigB n m = false by simp [bigB]; omega]
  obtain ⟨t0, t1, t2, t3, tf, tl⟩ := TB.out
  obtain ⟨u0, u1, uf, ul⟩ := CB.out
  go_wp2_with fail
  clear t0 t1 t2 t3 tf tl u0 u1 uf ul
  refine (HH.out w1 GI.out PI.out).mono ?_
  rintro e w2 ⟨rfl, hb⟩
  have BL := Lib.hid (chain BL.out hb)
  have TB := Lib.hid (Box4.next (w := w1) TB.out hb)
  have CB := Lib.hid (Box2.next (w := w1) CB.out hb)
  have GI := Lib.hid (Ints.next (w := w1) GI.out hb)
  have PI := Lib.hid (Ints.next (w := w1) PI.out hb)
  clear hb
  obtain ⟨t0, t1, t2, t3, tf, tl⟩ := TB.out
  obtain ⟨u0, u1, uf, ul⟩ := CB.out
  go_wp2_with fail
  clear t0 t1 t2 t3 tf tl u0 u1 uf ul
  refine (HI.out w2 GI.out PI.out).mono ?_
  rintro e w3 ⟨rfl, hb⟩
  have BL := Lib.hid (chain BL.out hb)
  have TB := Lib.hid (Box4.next (w := w2) TB.out hb)
  have CB := Lib.hid (Box2.next (w := w2) CB.out hb)
  have GI := Lib.hid (Ints.next (w := w2) GI.out hb)
  have PI := Lib.hid (Ints.next (w := w2) PI.out hb)
  clear hb
  obtain ⟨t0, t1, t2, t3, tf, tl⟩ := TB.out
  obtain ⟨u0, u1, uf, ul⟩ := CB.out
  go_wp2_with fail
  clear t0 t1 t2 t3 tf tl u0 u1 uf ul
  refine (HGr.out w3 GI.out PI.out).mono ?_
  rintro e w4 ⟨rfl, hb⟩
  have BL := Lib.hid (chain BL.out hb)
  have TB := Lib.hid (Box4.next (w := w3) TB.out hb)
  have CB := Lib.hid (Box2.next (w := w3) CB.out hb)
  have GI := Lib.hid (Ints.next (w := w3) GI.out hb)
  have PI := Lib.hid (Ints.next (w := w3) PI.out hb)
  clear hb
  obtain ⟨t0, t1, t2, t3, tf, tl⟩ := TB.out
  obtain ⟨u0, u1, uf, ul⟩ := CB.out
  go_wp2_with fail
  clear t0 t1 t2 t3 tf tl u0 u1 uf ul
  refine (HPe.out w4 GI.out PI.out).mono ?_
  rintro e w5 ⟨rfl, hb⟩
  have BL := Lib.hid (chain BL.out hb)
  have TB := Lib.hid (Box4.next (w := w4) TB.out hb)
  have CB := Lib.hid (Box2.next (w := w4) CB.out hb)
  have GI := Lib.hid (Ints.next (w := w4) GI.out hb)
  have PI := Lib.hid (Ints.next (w := w4) PI.out hb)
  clear hb
  obtain ⟨t0, t1, t2, t3, tf, tl⟩ := TB.out
  obtain ⟨u0, u1, uf, ul⟩ := CB.out
  go_wp2_with fail
  clear t0 t1 t2 t3 tf tl u0 u1 uf ul
  refine (HA.out w5 GI.out PI.out).mono ?_
  rintro e w6 ⟨rfl, hb⟩
  have BL := Lib.hid (chain BL.out hb)
  have TB := Lib.hid (Box4.next (w := w5) TB.out hb)
  have CB := Lib.hid (Box2.next (w := w5) CB.out hb)
  have GI := Lib.hid (Ints.next (w := w5) GI.out hb)
  have PI := Lib.hid (Ints.next (w := w5) PI.out hb)
  clear hb
  obtain ⟨t0, t1, t2, t3, tf, tl⟩ := TB.out
  obtain ⟨u0, u1, uf, ul⟩ := CB.out
  go_wp2
  clear t0 t1 t2 t3 tf tl u0 u1 uf ul
  obtain ⟨V6, hV6⟩ : ∃ V, V = w6.alloc (.cells #[.int .i64 0, .int .i64 0] 26) := ⟨_, rfl⟩
  have hb : Below w6.heap.size w6 V6 := by rw [hV6]; exact (Below.refl _ _).alloc (Nat.le_refl _) _
  have BL := Lib.hid (chain BL.out hb)
  have TB := Lib.hid (Box4.next (w := w6) TB.out hb)
  have CB := Lib.hid (Box2.next (w := w6) CB.out hb)
  have GI := Lib.hid (Ints.next (w := w6) GI.out hb)
  have PI := Lib.hid (Ints.next (w := w6) PI.out hb)
  clear hb
  have DB : Hid (Box2 V6 w6.heap.size (.int .i64 0) (.int .i64 0)) := by rw [hV6]; exact Box2.new _ _ _ _
  rw [← hV6]
  clear hV6
  obtain ⟨t0, t1, t2, t3, tf, tl⟩ := TB.out
  obtain ⟨u0, u1, uf, ul⟩ := CB.out
  go_region_held3 (fun w' => w'.cell? ⟨w.heap.size, 0, none⟩ = some (.int .i64 W) ∧ w'.cell? ⟨w.heap.size, 1, none⟩ = some (.int .i64 H) ∧ w'.cell? ⟨w.heap.size, 2, none⟩ = some (.slice A n c) ∧ w'.cell? ⟨w.heap.size, 3, none⟩ = some (.slice A2 m c2) ∧ w'.cell? ⟨w.heap.size + 1, 0, none⟩ = some (.int .i64 x) ∧ w'.cell? ⟨w.heap.size + 1, 1, none⟩ = some (.int .i64 y))
    (first | go_keep | exact ⟨by assumption, by assumption, by assumption, by assumption, by assumption, by assumption⟩)
    (first | (go_at_call 18; refine (HV.out _ (Ints.drewN GI.out) (Ints.drewN PI.out)).mono ?_; rintro e w7 ⟨rfl, hb⟩; have BL := Lib.hid (chain BL.out.drew hb); have TB := Lib.hid (Box4.next (w := V6.drew) TB.out hb); have CB := Lib.hid (Box2.next (w := V6.drew) CB.out hb); have GI := Lib.hid (Ints.next (w := V6.drew) GI.out hb); have PI := Lib.hid (Ints.next (w := V6.drew) PI.out hb); have DB := Lib.hid (Box2.next (w := V6.drew) DB.out hb); clear hb; obtain ⟨t0, t1, t2, t3, tf, tl⟩ := TB.out; obtain ⟨u0, u1, uf, ul⟩ := CB.out) | (go_at_call 19; refine (HRV.out w7 GI.out PI.out).mono ?_; rintro e w8 ⟨rfl, hb⟩; have BL := Lib.hid (chain BL.out hb); have TB := Lib.hid (Box4.next (w := w7) TB.out hb); have CB := Lib.hid (Box2.next (w := w7) CB.out hb); have GI := Lib.hid (Ints.next (w := w7) GI.out hb); have PI := Lib.hid (Ints.next (w := w7) PI.out hb); have DB := Lib.hid (Box2.next (w := w7) DB.out hb); clear hb; obtain ⟨t0, t1, t2, t3, tf, tl⟩ := TB.out; obtain ⟨u0, u1, uf, ul⟩ := CB.out) | (go_at_call 20; refine (HHs.out w8 GI.out PI.out).mono ?_; rintro e w9 ⟨rfl, hb⟩; have BL := Lib.hid (chain BL.out hb); have TB := Lib.hid (Box4.next (w := w8) TB.out hb); have CB := Lib.hid (Box2.next (w := w8) CB.out hb); have GI := Lib.hid (Ints.next (w := w8) GI.out hb); have PI := Lib.hid (Ints.next (w := w8) PI.out hb); have DB := Lib.hid (Box2.next (w := w8) DB.out hb); clear hb; obtain ⟨t0, t1, t2, t3, tf, tl⟩ := TB.out; obtain ⟨u0, u1, uf, ul⟩ := CB.out))
  go_wp2_with fail
  clear t0 t1 t2 t3 tf tl u0 u1 uf ul
  refine (HX.out w9).mono ?_
  rintro e w10 ⟨rfl, hb⟩
  have BL := Lib.hid (chain BL.out hb)
  have TB := Lib.hid (Box4.next (w := w9) TB.out hb)
  have CB := Lib.hid (Box2.next (w := w9) CB.out hb)
  have GI := Lib.hid (Ints.next (w := w9) GI.out hb)
  have PI := Lib.hid (Ints.next (w := w9) PI.out hb)
  have DB := Lib.hid (Box2.next (w := w9) DB.out hb)
  clear hb
  obtain ⟨t0, t1, t2, t3, tf, tl⟩ := TB.out
  obtain ⟨u0, u1, uf, ul⟩ := CB.out
  have gc := Ints.at0 GI.out k hkn
  have pc := Ints.at0 PI.out k hkm
  rw [HvG.out] at gc
  rw [HvP.out] at pc
  obtain ⟨gb, go, rfl, gc⟩ := gc
  obtain ⟨pb, po, rfl, pc⟩ := pc
  go_wp2_with fail
  clear t0 t1 t2 t3 tf tl u0 u1 uf ul
  clear gc pc
  refine (HRV.out w10 GI.out PI.out).mono ?_
  rintro e w11 ⟨rfl, hb⟩
  have BL := Lib.hid (chain BL.out hb)
  have TB := Lib.hid (Box4.next (w := w10) TB.out hb)
  have CB := Lib.hid (Box2.next (w := w10) CB.out hb)
  have GI := Lib.hid (Ints.next (w := w10) GI.out hb)
  have PI := Lib.hid (Ints.next (w := w10) PI.out hb)
  have DB := Lib.hid (Box2.next (w := w10) DB.out hb)
  clear hb
  obtain ⟨t0, t1, t2, t3, tf, tl⟩ := TB.out
  obtain ⟨u0, u1, uf, ul⟩ := CB.out
  obtain ⟨v0, v1, vf, vl⟩ := DB.out
  go_wp2_with fail
  refine (known_any w11).mono ?_
  rintro e w12 ⟨rfl, hb⟩
  have BL := Lib.hid (chain BL.out hb)
  have TB := Lib.hid (Box4.next (w := w11) TB.out hb)
  have CB := Lib.hid (Box2.next (w := w11) CB.out hb)
  have GI := Lib.hid (Ints.next (w := w11) GI.out hb)
  have PI := Lib.hid (Ints.next (w := w11) PI.out hb)
  have DB := Lib.hid (Box2.next (w := w11) DB.out hb)
  clear hb
  go_wp2
  go_ret
  exact ⟨rfl, BL.out⟩

set_option maxHeartbeats 4000000 in
set_option maxRecDepth 100000 in
theorem law3_ni (W H : Int) (A : Option Addr) (n c : Nat) (A2 : Option Addr) (m c2 : Nat) (g p : List Int) (x y i : Int) (w : World) (hG : Ints w w.heap.size A n g) (hP : Ints w w.heap.size A2 m p) (hn : n ≤ 300) (hm : m ≤ 300) (hhas : hasB W H g p x y = false) (hter : terB W H g p = true) (hi0 : 0 ≤ i) (hi1 : i < W * H) : Calls Try.prog 3 #[.agg #[.int .i64 W, .int .i64 H, .slice A n c, .slice A2 m c2], .agg #[.int .i64 x, .int .i64 y], .int .i64 i] w (KnownOk w) := by
  obtain ⟨⟨v1, v2, v3, v4, v5, v6⟩, _⟩ := terB_iff.1 hter
  obtain ⟨b1, b2⟩ := wh_bd v1 v2 v3 v4
  have HI : Hid (∀ V, Ints V V.heap.size A n g → Ints V V.heap.size A2 m p → Calls Try.prog 14 #[.agg #[.int .i64 W, .int .i64 H, .slice A n c, .slice A2 m c2], .agg #[.int .i64 x, .int .i64 y]] V fun e w' => e = .returned (.tuple #[.int .i64 0, .int .i64 2]) ∧ Below V.heap.size V w') := fun V q1 q2 => index_no W H A n c A2 m c2 g p x y V q1 q2 (by omega) (by omega) hhas
  have HGr : Hid (∀ V, Ints V V.heap.size A n g → Ints V V.heap.size A2 m p → Calls Try.prog 15 #[.agg #[.int .i64 W, .int .i64 H, .slice A n c, .slice A2 m c2], .agg #[.int .i64 x, .int .i64 y]] V fun e w' => e = .returned (.tuple #[.int .i64 0, .int .i64 2]) ∧ Below V.heap.size V w') := fun V q1 q2 => ground_no W H A n c A2 m c2 g p x y V q1 q2 (by omega) (by omega) hhas
  have HPe : Hid (∀ V, Ints V V.heap.size A n g → Ints V V.heap.size A2 m p → Calls Try.prog 16 #[.agg #[.int .i64 W, .int .i64 H, .slice A n c, .slice A2 m c2], .agg #[.int .i64 x, .int .i64 y]] V fun e w' => e = .returned (.tuple #[.int .i64 0, .int .i64 2]) ∧ Below V.heap.size V w') := fun V q1 q2 => people_no W H A n c A2 m c2 g p x y V q1 q2 (by omega) (by omega) hhas
  obtain ⟨d1, hd1⟩ : ∃ d, i % W = d := ⟨_, rfl⟩
  obtain ⟨d2, hd2⟩ : ∃ d, i / W = d := ⟨_, rfl⟩
  have HA : Hid (∀ V, Ints V V.heap.size A n g → Ints V V.heap.size A2 m p → Calls Try.prog 17 #[.agg #[.int .i64 W, .int .i64 H, .slice A n c, .slice A2 m c2], .int .i64 i] V fun e w' => e = .returned (.tuple #[.agg #[.int .i64 d1, .int .i64 d2], .int .i64 0]) ∧ Below V.heap.size V w') := fun V q1 q2 => by rw [← hd1, ← hd2]; exact at_yes W H A n c A2 m c2 g p i V q1 q2 (by omega) (by omega) hter (by omega) (by omega)
  have HRA : Hid (∀ V, Calls Try.prog 22 #[.agg #[.int .i64 W, .int .i64 H, .slice A n c, .slice A2 m c2], .int .i64 i] V fun e w' => e = .returned (.agg #[.int .i64 d1, .int .i64 d2]) ∧ Below V.heap.size V w') := fun V => by rw [← hd1, ← hd2]; exact refAt_any W H A n c A2 m c2 i V v1 (by omega) (by omega)
  have HH : Hid (∀ V, Ints V V.heap.size A n g → Ints V V.heap.size A2 m p → Calls Try.prog 13 #[.agg #[.int .i64 W, .int .i64 H, .slice A n c, .slice A2 m c2], .agg #[.int .i64 x, .int .i64 y]] V fun e w' => e = .returned (.bool false) ∧ Below V.heap.size V w') := fun V q1 q2 => by rw [← hhas]; exact refHas_any W H A n c A2 m c2 g p x y V q1 q2 (by omega) (by omega)
  have HHs : Hid (∀ V, Ints V V.heap.size A n g → Ints V V.heap.size A2 m p → Calls Try.prog 20 #[.agg #[.int .i64 W, .int .i64 H, .slice A n c, .slice A2 m c2], .agg #[.int .i64 x, .int .i64 y]] V fun e w' => e = .returned (.bool false) ∧ Below V.heap.size V w') := fun V q1 q2 => by rw [← hhas]; exact has_any W H A n c A2 m c2 g p x y V q1 q2 (by omega) (by omega)
  have HV : Hid (∀ V, Ints V V.heap.size A n g → Ints V V.heap.size A2 m p → Calls Try.prog 18 #[.agg #[.int .i64 W, .int .i64 H, .slice A n c, .slice A2 m c2]] V fun e w' => e = .returned (.bool true) ∧ Below V.heap.size V w') := fun V q1 q2 => by rw [← hter]; exact valid_any W H A n c A2 m c2 g p V q1 q2 (by omega) (by omega)
  have HRV : Hid (∀ V, Ints V V.heap.size A n g → Ints V V.heap.size A2 m p → Calls Try.prog 19 #[.agg #[.int .i64 W, .int .i64 H, .slice A n c, .slice A2 m c2]] V fun e w' => e = .returned (.bool true) ∧ Below V.heap.size V w') := fun V q1 q2 => by rw [← hter]; exact refValid_any W H A n c A2 m c2 g p V q1 q2 (by omega) (by omega)
  clear hhas v5 v6 hter hd1 hd2
  have GI0 := Lib.hid hG
  have PI0 := Lib.hid hP
  have S0 := Lib.hid (tc_start W H A n c A2 m c2 g p x y w)
  clear hG hP
  go_enter Try.func3, Try.ntmps3
  go_wp2_with fail
  obtain ⟨W0, hW0⟩ : ∃ W0, W0 = ((w.alloc (.cells #[.int .i64 W, .int .i64 H, .slice A n c, .slice A2 m c2] 24)).alloc (.cells #[.int .i64 x, .int .i64 y] 26)) := ⟨_, rfl⟩
  rw [← hW0] at S0
  rw [← hW0]
  clear hW0
  have BL := Lib.hid S0.out.1
  have TB := Lib.hid S0.out.2.1
  have CB := Lib.hid S0.out.2.2
  have GI := Lib.hid (GI0.out.next S0.out.1)
  have PI := Lib.hid (PI0.out.next S0.out.1)
  clear S0 GI0 PI0
  refine (big_any W H A n c A2 m c2 W0).mono ?_
  rintro e w1 ⟨rfl, hb⟩
  have BL := Lib.hid (chain BL.out hb)
  have TB := Lib.hid (Box4.next (w := W0) TB.out hb)
  have CB := Lib.hid (Box2.next (w := W0) CB.out hb)
  have GI := Lib.hid (Ints.next (w := W0) GI.out hb)
  have PI := Lib.hid (Ints.next (w := W0) PI.out hb)
  clear hb
  rw [show bigB n m = false by simp [bigB]; omega]
  obtain ⟨t0, t1, t2, t3, tf, tl⟩ := TB.out
  obtain ⟨u0, u1, uf, ul⟩ := CB.out
  go_wp2_with fail
  clear t0 t1 t2 t3 tf tl u0 u1 uf ul
  refine (HH.out w1 GI.out PI.out).mono ?_
  rintro e w2 ⟨rfl, hb⟩
  have BL := Lib.hid (chain BL.out hb)
  have TB := Lib.hid (Box4.next (w := w1) TB.out hb)
  have CB := Lib.hid (Box2.next (w := w1) CB.out hb)
  have GI := Lib.hid (Ints.next (w := w1) GI.out hb)
  have PI := Lib.hid (Ints.next (w := w1) PI.out hb)
  clear hb
  obtain ⟨t0, t1, t2, t3, tf, tl⟩ := TB.out
  obtain ⟨u0, u1, uf, ul⟩ := CB.out
  go_wp2_with fail
  clear t0 t1 t2 t3 tf tl u0 u1 uf ul
  refine (HI.out w2 GI.out PI.out).mono ?_
  rintro e w3 ⟨rfl, hb⟩
  have BL := Lib.hid (chain BL.out hb)
  have TB := Lib.hid (Box4.next (w := w2) TB.out hb)
  have CB := Lib.hid (Box2.next (w := w2) CB.out hb)
  have GI := Lib.hid (Ints.next (w := w2) GI.out hb)
  have PI := Lib.hid (Ints.next (w := w2) PI.out hb)
  clear hb
  obtain ⟨t0, t1, t2, t3, tf, tl⟩ := TB.out
  obtain ⟨u0, u1, uf, ul⟩ := CB.out
  go_wp2_with fail
  clear t0 t1 t2 t3 tf tl u0 u1 uf ul
  refine (HGr.out w3 GI.out PI.out).mono ?_
  rintro e w4 ⟨rfl, hb⟩
  have BL := Lib.hid (chain BL.out hb)
  have TB := Lib.hid (Box4.next (w := w3) TB.out hb)
  have CB := Lib.hid (Box2.next (w := w3) CB.out hb)
  have GI := Lib.hid (Ints.next (w := w3) GI.out hb)
  have PI := Lib.hid (Ints.next (w := w3) PI.out hb)
  clear hb
  obtain ⟨t0, t1, t2, t3, tf, tl⟩ := TB.out
  obtain ⟨u0, u1, uf, ul⟩ := CB.out
  go_wp2_with fail
  clear t0 t1 t2 t3 tf tl u0 u1 uf ul
  refine (HPe.out w4 GI.out PI.out).mono ?_
  rintro e w5 ⟨rfl, hb⟩
  have BL := Lib.hid (chain BL.out hb)
  have TB := Lib.hid (Box4.next (w := w4) TB.out hb)
  have CB := Lib.hid (Box2.next (w := w4) CB.out hb)
  have GI := Lib.hid (Ints.next (w := w4) GI.out hb)
  have PI := Lib.hid (Ints.next (w := w4) PI.out hb)
  clear hb
  obtain ⟨t0, t1, t2, t3, tf, tl⟩ := TB.out
  obtain ⟨u0, u1, uf, ul⟩ := CB.out
  go_wp2_with fail
  clear t0 t1 t2 t3 tf tl u0 u1 uf ul
  refine (HA.out w5 GI.out PI.out).mono ?_
  rintro e w6 ⟨rfl, hb⟩
  have BL := Lib.hid (chain BL.out hb)
  have TB := Lib.hid (Box4.next (w := w5) TB.out hb)
  have CB := Lib.hid (Box2.next (w := w5) CB.out hb)
  have GI := Lib.hid (Ints.next (w := w5) GI.out hb)
  have PI := Lib.hid (Ints.next (w := w5) PI.out hb)
  clear hb
  obtain ⟨t0, t1, t2, t3, tf, tl⟩ := TB.out
  obtain ⟨u0, u1, uf, ul⟩ := CB.out
  go_wp2
  clear t0 t1 t2 t3 tf tl u0 u1 uf ul
  obtain ⟨V6, hV6⟩ : ∃ V, V = w6.alloc (.cells #[.int .i64 d1, .int .i64 d2] 26) := ⟨_, rfl⟩
  have hb : Below w6.heap.size w6 V6 := by rw [hV6]; exact (Below.refl _ _).alloc (Nat.le_refl _) _
  have BL := Lib.hid (chain BL.out hb)
  have TB := Lib.hid (Box4.next (w := w6) TB.out hb)
  have CB := Lib.hid (Box2.next (w := w6) CB.out hb)
  have GI := Lib.hid (Ints.next (w := w6) GI.out hb)
  have PI := Lib.hid (Ints.next (w := w6) PI.out hb)
  clear hb
  have DB : Hid (Box2 V6 w6.heap.size (.int .i64 d1) (.int .i64 d2)) := by rw [hV6]; exact Box2.new _ _ _ _
  rw [← hV6]
  clear hV6
  obtain ⟨t0, t1, t2, t3, tf, tl⟩ := TB.out
  obtain ⟨u0, u1, uf, ul⟩ := CB.out
  go_region_held3 (fun w' => w'.cell? ⟨w.heap.size, 0, none⟩ = some (.int .i64 W) ∧ w'.cell? ⟨w.heap.size, 1, none⟩ = some (.int .i64 H) ∧ w'.cell? ⟨w.heap.size, 2, none⟩ = some (.slice A n c) ∧ w'.cell? ⟨w.heap.size, 3, none⟩ = some (.slice A2 m c2) ∧ w'.cell? ⟨w.heap.size + 1, 0, none⟩ = some (.int .i64 x) ∧ w'.cell? ⟨w.heap.size + 1, 1, none⟩ = some (.int .i64 y))
    (first | go_keep | exact ⟨by assumption, by assumption, by assumption, by assumption, by assumption, by assumption⟩)
    (first | (go_at_call 18; refine (HV.out _ (Ints.drewN GI.out) (Ints.drewN PI.out)).mono ?_; rintro e w7 ⟨rfl, hb⟩; have BL := Lib.hid (chain BL.out.drew hb); have TB := Lib.hid (Box4.next (w := V6.drew) TB.out hb); have CB := Lib.hid (Box2.next (w := V6.drew) CB.out hb); have GI := Lib.hid (Ints.next (w := V6.drew) GI.out hb); have PI := Lib.hid (Ints.next (w := V6.drew) PI.out hb); have DB := Lib.hid (Box2.next (w := V6.drew) DB.out hb); clear hb; obtain ⟨t0, t1, t2, t3, tf, tl⟩ := TB.out; obtain ⟨u0, u1, uf, ul⟩ := CB.out) | (go_at_call 19; refine (HRV.out w7 GI.out PI.out).mono ?_; rintro e w8 ⟨rfl, hb⟩; have BL := Lib.hid (chain BL.out hb); have TB := Lib.hid (Box4.next (w := w7) TB.out hb); have CB := Lib.hid (Box2.next (w := w7) CB.out hb); have GI := Lib.hid (Ints.next (w := w7) GI.out hb); have PI := Lib.hid (Ints.next (w := w7) PI.out hb); have DB := Lib.hid (Box2.next (w := w7) DB.out hb); clear hb; obtain ⟨t0, t1, t2, t3, tf, tl⟩ := TB.out; obtain ⟨u0, u1, uf, ul⟩ := CB.out) | (go_at_call 20; refine (HHs.out w8 GI.out PI.out).mono ?_; rintro e w9 ⟨rfl, hb⟩; have BL := Lib.hid (chain BL.out hb); have TB := Lib.hid (Box4.next (w := w8) TB.out hb); have CB := Lib.hid (Box2.next (w := w8) CB.out hb); have GI := Lib.hid (Ints.next (w := w8) GI.out hb); have PI := Lib.hid (Ints.next (w := w8) PI.out hb); have DB := Lib.hid (Box2.next (w := w8) DB.out hb); clear hb; obtain ⟨t0, t1, t2, t3, tf, tl⟩ := TB.out; obtain ⟨u0, u1, uf, ul⟩ := CB.out))
  go_wp2_with fail
  clear t0 t1 t2 t3 tf tl u0 u1 uf ul
  refine (HRV.out w9 GI.out PI.out).mono ?_
  rintro e w11 ⟨rfl, hb⟩
  have BL := Lib.hid (chain BL.out hb)
  have TB := Lib.hid (Box4.next (w := w9) TB.out hb)
  have CB := Lib.hid (Box2.next (w := w9) CB.out hb)
  have GI := Lib.hid (Ints.next (w := w9) GI.out hb)
  have PI := Lib.hid (Ints.next (w := w9) PI.out hb)
  have DB := Lib.hid (Box2.next (w := w9) DB.out hb)
  clear hb
  obtain ⟨t0, t1, t2, t3, tf, tl⟩ := TB.out
  obtain ⟨u0, u1, uf, ul⟩ := CB.out
  obtain ⟨v0, v1, vf, vl⟩ := DB.out
  go_wp2
  go_region_held3 (fun w' => w'.cell? ⟨w.heap.size, 0, none⟩ = some (.int .i64 W) ∧ w'.cell? ⟨w.heap.size, 1, none⟩ = some (.int .i64 H) ∧ w'.cell? ⟨w.heap.size, 2, none⟩ = some (.slice A n c) ∧ w'.cell? ⟨w.heap.size, 3, none⟩ = some (.slice A2 m c2) ∧ w'.cell? ⟨w6.heap.size, 0, none⟩ = some (.int .i64 d1) ∧ w'.cell? ⟨w6.heap.size, 1, none⟩ = some (.int .i64 d2))
    (first | go_keep | exact ⟨by assumption, by assumption, by assumption, by assumption, by assumption, by assumption⟩)
    (first | (go_at_call 22; refine (HRA.out _).mono ?_; rintro e w12 ⟨rfl, hb⟩; have BL := Lib.hid (chain BL.out.drew hb); have TB := Lib.hid (Box4.next (w := w11.drew) TB.out hb); have CB := Lib.hid (Box2.next (w := w11.drew) CB.out hb); have GI := Lib.hid (Ints.next (w := w11.drew) GI.out hb); have PI := Lib.hid (Ints.next (w := w11.drew) PI.out hb); have DB := Lib.hid (Box2.next (w := w11.drew) DB.out hb); clear hb; obtain ⟨t0, t1, t2, t3, tf, tl⟩ := TB.out; obtain ⟨v0, v1, vf, vl⟩ := DB.out) | (go_at_call 12; refine (known_any w12).mono ?_; rintro e w13 ⟨rfl, hb⟩; have BL := Lib.hid (chain BL.out hb); have TB := Lib.hid (Box4.next (w := w12) TB.out hb); have CB := Lib.hid (Box2.next (w := w12) CB.out hb); have GI := Lib.hid (Ints.next (w := w12) GI.out hb); have PI := Lib.hid (Ints.next (w := w12) PI.out hb); have DB := Lib.hid (Box2.next (w := w12) DB.out hb); clear hb; obtain ⟨t0, t1, t2, t3, tf, tl⟩ := TB.out; obtain ⟨v0, v1, vf, vl⟩ := DB.out))
  go_wp2
  go_ret
  exact ⟨rfl, BL.out⟩

set_option maxHeartbeats 4000000 in
set_option maxRecDepth 100000 in
theorem law3_no1 (W H : Int) (A : Option Addr) (n c : Nat) (A2 : Option Addr) (m c2 : Nat) (g p : List Int) (x y i : Int) (w : World) (hG : Ints w w.heap.size A n g) (hP : Ints w w.heap.size A2 m p) (hn : n ≤ 300) (hm : m ≤ 300) (hhas : hasB W H g p x y = false) (hter : terB W H g p = true) (hir : i < 0) : Calls Try.prog 3 #[.agg #[.int .i64 W, .int .i64 H, .slice A n c, .slice A2 m c2], .agg #[.int .i64 x, .int .i64 y], .int .i64 i] w (KnownOk w) := by
  obtain ⟨⟨v1, v2, v3, v4, v5, v6⟩, _⟩ := terB_iff.1 hter
  obtain ⟨b1, b2⟩ := wh_bd v1 v2 v3 v4
  have HI : Hid (∀ V, Ints V V.heap.size A n g → Ints V V.heap.size A2 m p → Calls Try.prog 14 #[.agg #[.int .i64 W, .int .i64 H, .slice A n c, .slice A2 m c2], .agg #[.int .i64 x, .int .i64 y]] V fun e w' => e = .returned (.tuple #[.int .i64 0, .int .i64 2]) ∧ Below V.heap.size V w') := fun V q1 q2 => index_no W H A n c A2 m c2 g p x y V q1 q2 (by omega) (by omega) hhas
  have HGr : Hid (∀ V, Ints V V.heap.size A n g → Ints V V.heap.size A2 m p → Calls Try.prog 15 #[.agg #[.int .i64 W, .int .i64 H, .slice A n c, .slice A2 m c2], .agg #[.int .i64 x, .int .i64 y]] V fun e w' => e = .returned (.tuple #[.int .i64 0, .int .i64 2]) ∧ Below V.heap.size V w') := fun V q1 q2 => ground_no W H A n c A2 m c2 g p x y V q1 q2 (by omega) (by omega) hhas
  have HPe : Hid (∀ V, Ints V V.heap.size A n g → Ints V V.heap.size A2 m p → Calls Try.prog 16 #[.agg #[.int .i64 W, .int .i64 H, .slice A n c, .slice A2 m c2], .agg #[.int .i64 x, .int .i64 y]] V fun e w' => e = .returned (.tuple #[.int .i64 0, .int .i64 2]) ∧ Below V.heap.size V w') := fun V q1 q2 => people_no W H A n c A2 m c2 g p x y V q1 q2 (by omega) (by omega) hhas
  have HA : Hid (∀ V, Ints V V.heap.size A n g → Ints V V.heap.size A2 m p → Calls Try.prog 17 #[.agg #[.int .i64 W, .int .i64 H, .slice A n c, .slice A2 m c2], .int .i64 i] V fun e w' => e = .returned (.tuple #[.agg #[.int .i64 0, .int .i64 0], .int .i64 2]) ∧ Below V.heap.size V w') := fun V q1 q2 => at_out W H A n c A2 m c2 g p i V q1 q2 (by omega) (by omega) hter (by omega)
  have HH : Hid (∀ V, Ints V V.heap.size A n g → Ints V V.heap.size A2 m p → Calls Try.prog 13 #[.agg #[.int .i64 W, .int .i64 H, .slice A n c, .slice A2 m c2], .agg #[.int .i64 x, .int .i64 y]] V fun e w' => e = .returned (.bool false) ∧ Below V.heap.size V w') := fun V q1 q2 => by rw [← hhas]; exact refHas_any W H A n c A2 m c2 g p x y V q1 q2 (by omega) (by omega)
  have HHs : Hid (∀ V, Ints V V.heap.size A n g → Ints V V.heap.size A2 m p → Calls Try.prog 20 #[.agg #[.int .i64 W, .int .i64 H, .slice A n c, .slice A2 m c2], .agg #[.int .i64 x, .int .i64 y]] V fun e w' => e = .returned (.bool false) ∧ Below V.heap.size V w') := fun V q1 q2 => by rw [← hhas]; exact has_any W H A n c A2 m c2 g p x y V q1 q2 (by omega) (by omega)
  have HV : Hid (∀ V, Ints V V.heap.size A n g → Ints V V.heap.size A2 m p → Calls Try.prog 18 #[.agg #[.int .i64 W, .int .i64 H, .slice A n c, .slice A2 m c2]] V fun e w' => e = .returned (.bool true) ∧ Below V.heap.size V w') := fun V q1 q2 => by rw [← hter]; exact valid_any W H A n c A2 m c2 g p V q1 q2 (by omega) (by omega)
  have HRV : Hid (∀ V, Ints V V.heap.size A n g → Ints V V.heap.size A2 m p → Calls Try.prog 19 #[.agg #[.int .i64 W, .int .i64 H, .slice A n c, .slice A2 m c2]] V fun e w' => e = .returned (.bool true) ∧ Below V.heap.size V w') := fun V q1 q2 => by rw [← hter]; exact refValid_any W H A n c A2 m c2 g p V q1 q2 (by omega) (by omega)
  clear hhas v5 v6 hter
  have GI0 := Lib.hid hG
  have PI0 := Lib.hid hP
  have S0 := Lib.hid (tc_start W H A n c A2 m c2 g p x y w)
  clear hG hP
  go_enter Try.func3, Try.ntmps3
  go_wp2_with fail
  obtain ⟨W0, hW0⟩ : ∃ W0, W0 = ((w.alloc (.cells #[.int .i64 W, .int .i64 H, .slice A n c, .slice A2 m c2] 24)).alloc (.cells #[.int .i64 x, .int .i64 y] 26)) := ⟨_, rfl⟩
  rw [← hW0] at S0
  rw [← hW0]
  clear hW0
  have BL := Lib.hid S0.out.1
  have TB := Lib.hid S0.out.2.1
  have CB := Lib.hid S0.out.2.2
  have GI := Lib.hid (GI0.out.next S0.out.1)
  have PI := Lib.hid (PI0.out.next S0.out.1)
  clear S0 GI0 PI0
  refine (big_any W H A n c A2 m c2 W0).mono ?_
  rintro e w1 ⟨rfl, hb⟩
  have BL := Lib.hid (chain BL.out hb)
  have TB := Lib.hid (Box4.next (w := W0) TB.out hb)
  have CB := Lib.hid (Box2.next (w := W0) CB.out hb)
  have GI := Lib.hid (Ints.next (w := W0) GI.out hb)
  have PI := Lib.hid (Ints.next (w := W0) PI.out hb)
  clear hb
  rw [show bigB n m = false by simp [bigB]; omega]
  obtain ⟨t0, t1, t2, t3, tf, tl⟩ := TB.out
  obtain ⟨u0, u1, uf, ul⟩ := CB.out
  go_wp2_with fail
  clear t0 t1 t2 t3 tf tl u0 u1 uf ul
  refine (HH.out w1 GI.out PI.out).mono ?_
  rintro e w2 ⟨rfl, hb⟩
  have BL := Lib.hid (chain BL.out hb)
  have TB := Lib.hid (Box4.next (w := w1) TB.out hb)
  have CB := Lib.hid (Box2.next (w := w1) CB.out hb)
  have GI := Lib.hid (Ints.next (w := w1) GI.out hb)
  have PI := Lib.hid (Ints.next (w := w1) PI.out hb)
  clear hb
  obtain ⟨t0, t1, t2, t3, tf, tl⟩ := TB.out
  obtain ⟨u0, u1, uf, ul⟩ := CB.out
  go_wp2_with fail
  clear t0 t1 t2 t3 tf tl u0 u1 uf ul
  refine (HI.out w2 GI.out PI.out).mono ?_
  rintro e w3 ⟨rfl, hb⟩
  have BL := Lib.hid (chain BL.out hb)
  have TB := Lib.hid (Box4.next (w := w2) TB.out hb)
  have CB := Lib.hid (Box2.next (w := w2) CB.out hb)
  have GI := Lib.hid (Ints.next (w := w2) GI.out hb)
  have PI := Lib.hid (Ints.next (w := w2) PI.out hb)
  clear hb
  obtain ⟨t0, t1, t2, t3, tf, tl⟩ := TB.out
  obtain ⟨u0, u1, uf, ul⟩ := CB.out
  go_wp2_with fail
  clear t0 t1 t2 t3 tf tl u0 u1 uf ul
  refine (HGr.out w3 GI.out PI.out).mono ?_
  rintro e w4 ⟨rfl, hb⟩
  have BL := Lib.hid (chain BL.out hb)
  have TB := Lib.hid (Box4.next (w := w3) TB.out hb)
  have CB := Lib.hid (Box2.next (w := w3) CB.out hb)
  have GI := Lib.hid (Ints.next (w := w3) GI.out hb)
  have PI := Lib.hid (Ints.next (w := w3) PI.out hb)
  clear hb
  obtain ⟨t0, t1, t2, t3, tf, tl⟩ := TB.out
  obtain ⟨u0, u1, uf, ul⟩ := CB.out
  go_wp2_with fail
  clear t0 t1 t2 t3 tf tl u0 u1 uf ul
  refine (HPe.out w4 GI.out PI.out).mono ?_
  rintro e w5 ⟨rfl, hb⟩
  have BL := Lib.hid (chain BL.out hb)
  have TB := Lib.hid (Box4.next (w := w4) TB.out hb)
  have CB := Lib.hid (Box2.next (w := w4) CB.out hb)
  have GI := Lib.hid (Ints.next (w := w4) GI.out hb)
  have PI := Lib.hid (Ints.next (w := w4) PI.out hb)
  clear hb
  obtain ⟨t0, t1, t2, t3, tf, tl⟩ := TB.out
  obtain ⟨u0, u1, uf, ul⟩ := CB.out
  go_wp2_with fail
  clear t0 t1 t2 t3 tf tl u0 u1 uf ul
  refine (HA.out w5 GI.out PI.out).mono ?_
  rintro e w6 ⟨rfl, hb⟩
  have BL := Lib.hid (chain BL.out hb)
  have TB := Lib.hid (Box4.next (w := w5) TB.out hb)
  have CB := Lib.hid (Box2.next (w := w5) CB.out hb)
  have GI := Lib.hid (Ints.next (w := w5) GI.out hb)
  have PI := Lib.hid (Ints.next (w := w5) PI.out hb)
  clear hb
  obtain ⟨t0, t1, t2, t3, tf, tl⟩ := TB.out
  obtain ⟨u0, u1, uf, ul⟩ := CB.out
  go_wp2
  clear t0 t1 t2 t3 tf tl u0 u1 uf ul
  obtain ⟨V6, hV6⟩ : ∃ V, V = w6.alloc (.cells #[.int .i64 0, .int .i64 0] 26) := ⟨_, rfl⟩
  have hb : Below w6.heap.size w6 V6 := by rw [hV6]; exact (Below.refl _ _).alloc (Nat.le_refl _) _
  have BL := Lib.hid (chain BL.out hb)
  have TB := Lib.hid (Box4.next (w := w6) TB.out hb)
  have CB := Lib.hid (Box2.next (w := w6) CB.out hb)
  have GI := Lib.hid (Ints.next (w := w6) GI.out hb)
  have PI := Lib.hid (Ints.next (w := w6) PI.out hb)
  clear hb
  have DB : Hid (Box2 V6 w6.heap.size (.int .i64 0) (.int .i64 0)) := by rw [hV6]; exact Box2.new _ _ _ _
  rw [← hV6]
  clear hV6
  obtain ⟨t0, t1, t2, t3, tf, tl⟩ := TB.out
  obtain ⟨u0, u1, uf, ul⟩ := CB.out
  go_region_held3 (fun w' => w'.cell? ⟨w.heap.size, 0, none⟩ = some (.int .i64 W) ∧ w'.cell? ⟨w.heap.size, 1, none⟩ = some (.int .i64 H) ∧ w'.cell? ⟨w.heap.size, 2, none⟩ = some (.slice A n c) ∧ w'.cell? ⟨w.heap.size, 3, none⟩ = some (.slice A2 m c2) ∧ w'.cell? ⟨w.heap.size + 1, 0, none⟩ = some (.int .i64 x) ∧ w'.cell? ⟨w.heap.size + 1, 1, none⟩ = some (.int .i64 y))
    (first | go_keep | exact ⟨by assumption, by assumption, by assumption, by assumption, by assumption, by assumption⟩)
    (first | (go_at_call 18; refine (HV.out _ (Ints.drewN GI.out) (Ints.drewN PI.out)).mono ?_; rintro e w7 ⟨rfl, hb⟩; have BL := Lib.hid (chain BL.out.drew hb); have TB := Lib.hid (Box4.next (w := V6.drew) TB.out hb); have CB := Lib.hid (Box2.next (w := V6.drew) CB.out hb); have GI := Lib.hid (Ints.next (w := V6.drew) GI.out hb); have PI := Lib.hid (Ints.next (w := V6.drew) PI.out hb); have DB := Lib.hid (Box2.next (w := V6.drew) DB.out hb); clear hb; obtain ⟨t0, t1, t2, t3, tf, tl⟩ := TB.out; obtain ⟨u0, u1, uf, ul⟩ := CB.out) | (go_at_call 19; refine (HRV.out w7 GI.out PI.out).mono ?_; rintro e w8 ⟨rfl, hb⟩; have BL := Lib.hid (chain BL.out hb); have TB := Lib.hid (Box4.next (w := w7) TB.out hb); have CB := Lib.hid (Box2.next (w := w7) CB.out hb); have GI := Lib.hid (Ints.next (w := w7) GI.out hb); have PI := Lib.hid (Ints.next (w := w7) PI.out hb); have DB := Lib.hid (Box2.next (w := w7) DB.out hb); clear hb; obtain ⟨t0, t1, t2, t3, tf, tl⟩ := TB.out; obtain ⟨u0, u1, uf, ul⟩ := CB.out) | (go_at_call 20; refine (HHs.out w8 GI.out PI.out).mono ?_; rintro e w9 ⟨rfl, hb⟩; have BL := Lib.hid (chain BL.out hb); have TB := Lib.hid (Box4.next (w := w8) TB.out hb); have CB := Lib.hid (Box2.next (w := w8) CB.out hb); have GI := Lib.hid (Ints.next (w := w8) GI.out hb); have PI := Lib.hid (Ints.next (w := w8) PI.out hb); have DB := Lib.hid (Box2.next (w := w8) DB.out hb); clear hb; obtain ⟨t0, t1, t2, t3, tf, tl⟩ := TB.out; obtain ⟨u0, u1, uf, ul⟩ := CB.out))
  go_wp2_with fail
  clear t0 t1 t2 t3 tf tl u0 u1 uf ul
  refine (HRV.out w9 GI.out PI.out).mono ?_
  rintro e w11 ⟨rfl, hb⟩
  have BL := Lib.hid (chain BL.out hb)
  have TB := Lib.hid (Box4.next (w := w9) TB.out hb)
  have CB := Lib.hid (Box2.next (w := w9) CB.out hb)
  have GI := Lib.hid (Ints.next (w := w9) GI.out hb)
  have PI := Lib.hid (Ints.next (w := w9) PI.out hb)
  have DB := Lib.hid (Box2.next (w := w9) DB.out hb)
  clear hb
  obtain ⟨t0, t1, t2, t3, tf, tl⟩ := TB.out
  obtain ⟨u0, u1, uf, ul⟩ := CB.out
  obtain ⟨v0, v1, vf, vl⟩ := DB.out
  go_wp2_with fail
  refine (known_any w11).mono ?_
  rintro e w12 ⟨rfl, hb⟩
  have BL := Lib.hid (chain BL.out hb)
  have TB := Lib.hid (Box4.next (w := w11) TB.out hb)
  have CB := Lib.hid (Box2.next (w := w11) CB.out hb)
  have GI := Lib.hid (Ints.next (w := w11) GI.out hb)
  have PI := Lib.hid (Ints.next (w := w11) PI.out hb)
  have DB := Lib.hid (Box2.next (w := w11) DB.out hb)
  clear hb
  go_wp2
  go_ret
  exact ⟨rfl, BL.out⟩

set_option maxHeartbeats 4000000 in
set_option maxRecDepth 100000 in
theorem law3_no2 (W H : Int) (A : Option Addr) (n c : Nat) (A2 : Option Addr) (m c2 : Nat) (g p : List Int) (x y i : Int) (w : World) (hG : Ints w w.heap.size A n g) (hP : Ints w w.heap.size A2 m p) (hn : n ≤ 300) (hm : m ≤ 300) (hhas : hasB W H g p x y = false) (hter : terB W H g p = true) (hir : 0 ≤ i) (hir2 : W * H ≤ i) : Calls Try.prog 3 #[.agg #[.int .i64 W, .int .i64 H, .slice A n c, .slice A2 m c2], .agg #[.int .i64 x, .int .i64 y], .int .i64 i] w (KnownOk w) := by
  obtain ⟨⟨v1, v2, v3, v4, v5, v6⟩, _⟩ := terB_iff.1 hter
  obtain ⟨b1, b2⟩ := wh_bd v1 v2 v3 v4
  have HI : Hid (∀ V, Ints V V.heap.size A n g → Ints V V.heap.size A2 m p → Calls Try.prog 14 #[.agg #[.int .i64 W, .int .i64 H, .slice A n c, .slice A2 m c2], .agg #[.int .i64 x, .int .i64 y]] V fun e w' => e = .returned (.tuple #[.int .i64 0, .int .i64 2]) ∧ Below V.heap.size V w') := fun V q1 q2 => index_no W H A n c A2 m c2 g p x y V q1 q2 (by omega) (by omega) hhas
  have HGr : Hid (∀ V, Ints V V.heap.size A n g → Ints V V.heap.size A2 m p → Calls Try.prog 15 #[.agg #[.int .i64 W, .int .i64 H, .slice A n c, .slice A2 m c2], .agg #[.int .i64 x, .int .i64 y]] V fun e w' => e = .returned (.tuple #[.int .i64 0, .int .i64 2]) ∧ Below V.heap.size V w') := fun V q1 q2 => ground_no W H A n c A2 m c2 g p x y V q1 q2 (by omega) (by omega) hhas
  have HPe : Hid (∀ V, Ints V V.heap.size A n g → Ints V V.heap.size A2 m p → Calls Try.prog 16 #[.agg #[.int .i64 W, .int .i64 H, .slice A n c, .slice A2 m c2], .agg #[.int .i64 x, .int .i64 y]] V fun e w' => e = .returned (.tuple #[.int .i64 0, .int .i64 2]) ∧ Below V.heap.size V w') := fun V q1 q2 => people_no W H A n c A2 m c2 g p x y V q1 q2 (by omega) (by omega) hhas
  have HA : Hid (∀ V, Ints V V.heap.size A n g → Ints V V.heap.size A2 m p → Calls Try.prog 17 #[.agg #[.int .i64 W, .int .i64 H, .slice A n c, .slice A2 m c2], .int .i64 i] V fun e w' => e = .returned (.tuple #[.agg #[.int .i64 0, .int .i64 0], .int .i64 2]) ∧ Below V.heap.size V w') := fun V q1 q2 => at_out W H A n c A2 m c2 g p i V q1 q2 (by omega) (by omega) hter (by omega)
  have HH : Hid (∀ V, Ints V V.heap.size A n g → Ints V V.heap.size A2 m p → Calls Try.prog 13 #[.agg #[.int .i64 W, .int .i64 H, .slice A n c, .slice A2 m c2], .agg #[.int .i64 x, .int .i64 y]] V fun e w' => e = .returned (.bool false) ∧ Below V.heap.size V w') := fun V q1 q2 => by rw [← hhas]; exact refHas_any W H A n c A2 m c2 g p x y V q1 q2 (by omega) (by omega)
  have HHs : Hid (∀ V, Ints V V.heap.size A n g → Ints V V.heap.size A2 m p → Calls Try.prog 20 #[.agg #[.int .i64 W, .int .i64 H, .slice A n c, .slice A2 m c2], .agg #[.int .i64 x, .int .i64 y]] V fun e w' => e = .returned (.bool false) ∧ Below V.heap.size V w') := fun V q1 q2 => by rw [← hhas]; exact has_any W H A n c A2 m c2 g p x y V q1 q2 (by omega) (by omega)
  have HV : Hid (∀ V, Ints V V.heap.size A n g → Ints V V.heap.size A2 m p → Calls Try.prog 18 #[.agg #[.int .i64 W, .int .i64 H, .slice A n c, .slice A2 m c2]] V fun e w' => e = .returned (.bool true) ∧ Below V.heap.size V w') := fun V q1 q2 => by rw [← hter]; exact valid_any W H A n c A2 m c2 g p V q1 q2 (by omega) (by omega)
  have HRV : Hid (∀ V, Ints V V.heap.size A n g → Ints V V.heap.size A2 m p → Calls Try.prog 19 #[.agg #[.int .i64 W, .int .i64 H, .slice A n c, .slice A2 m c2]] V fun e w' => e = .returned (.bool true) ∧ Below V.heap.size V w') := fun V q1 q2 => by rw [← hter]; exact refValid_any W H A n c A2 m c2 g p V q1 q2 (by omega) (by omega)
  clear hhas v5 v6 hter
  have GI0 := Lib.hid hG
  have PI0 := Lib.hid hP
  have S0 := Lib.hid (tc_start W H A n c A2 m c2 g p x y w)
  clear hG hP
  go_enter Try.func3, Try.ntmps3
  go_wp2_with fail
  obtain ⟨W0, hW0⟩ : ∃ W0, W0 = ((w.alloc (.cells #[.int .i64 W, .int .i64 H, .slice A n c, .slice A2 m c2] 24)).alloc (.cells #[.int .i64 x, .int .i64 y] 26)) := ⟨_, rfl⟩
  rw [← hW0] at S0
  rw [← hW0]
  clear hW0
  have BL := Lib.hid S0.out.1
  have TB := Lib.hid S0.out.2.1
  have CB := Lib.hid S0.out.2.2
  have GI := Lib.hid (GI0.out.next S0.out.1)
  have PI := Lib.hid (PI0.out.next S0.out.1)
  clear S0 GI0 PI0
  refine (big_any W H A n c A2 m c2 W0).mono ?_
  rintro e w1 ⟨rfl, hb⟩
  have BL := Lib.hid (chain BL.out hb)
  have TB := Lib.hid (Box4.next (w := W0) TB.out hb)
  have CB := Lib.hid (Box2.next (w := W0) CB.out hb)
  have GI := Lib.hid (Ints.next (w := W0) GI.out hb)
  have PI := Lib.hid (Ints.next (w := W0) PI.out hb)
  clear hb
  rw [show bigB n m = false by simp [bigB]; omega]
  obtain ⟨t0, t1, t2, t3, tf, tl⟩ := TB.out
  obtain ⟨u0, u1, uf, ul⟩ := CB.out
  go_wp2_with fail
  clear t0 t1 t2 t3 tf tl u0 u1 uf ul
  refine (HH.out w1 GI.out PI.out).mono ?_
  rintro e w2 ⟨rfl, hb⟩
  have BL := Lib.hid (chain BL.out hb)
  have TB := Lib.hid (Box4.next (w := w1) TB.out hb)
  have CB := Lib.hid (Box2.next (w := w1) CB.out hb)
  have GI := Lib.hid (Ints.next (w := w1) GI.out hb)
  have PI := Lib.hid (Ints.next (w := w1) PI.out hb)
  clear hb
  obtain ⟨t0, t1, t2, t3, tf, tl⟩ := TB.out
  obtain ⟨u0, u1, uf, ul⟩ := CB.out
  go_wp2_with fail
  clear t0 t1 t2 t3 tf tl u0 u1 uf ul
  refine (HI.out w2 GI.out PI.out).mono ?_
  rintro e w3 ⟨rfl, hb⟩
  have BL := Lib.hid (chain BL.out hb)
  have TB := Lib.hid (Box4.next (w := w2) TB.out hb)
  have CB := Lib.hid (Box2.next (w := w2) CB.out hb)
  have GI := Lib.hid (Ints.next (w := w2) GI.out hb)
  have PI := Lib.hid (Ints.next (w := w2) PI.out hb)
  clear hb
  obtain ⟨t0, t1, t2, t3, tf, tl⟩ := TB.out
  obtain ⟨u0, u1, uf, ul⟩ := CB.out
  go_wp2_with fail
  clear t0 t1 t2 t3 tf tl u0 u1 uf ul
  refine (HGr.out w3 GI.out PI.out).mono ?_
  rintro e w4 ⟨rfl, hb⟩
  have BL := Lib.hid (chain BL.out hb)
  have TB := Lib.hid (Box4.next (w := w3) TB.out hb)
  have CB := Lib.hid (Box2.next (w := w3) CB.out hb)
  have GI := Lib.hid (Ints.next (w := w3) GI.out hb)
  have PI := Lib.hid (Ints.next (w := w3) PI.out hb)
  clear hb
  obtain ⟨t0, t1, t2, t3, tf, tl⟩ := TB.out
  obtain ⟨u0, u1, uf, ul⟩ := CB.out
  go_wp2_with fail
  clear t0 t1 t2 t3 tf tl u0 u1 uf ul
  refine (HPe.out w4 GI.out PI.out).mono ?_
  rintro e w5 ⟨rfl, hb⟩
  have BL := Lib.hid (chain BL.out hb)
  have TB := Lib.hid (Box4.next (w := w4) TB.out hb)
  have CB := Lib.hid (Box2.next (w := w4) CB.out hb)
  have GI := Lib.hid (Ints.next (w := w4) GI.out hb)
  have PI := Lib.hid (Ints.next (w := w4) PI.out hb)
  clear hb
  obtain ⟨t0, t1, t2, t3, tf, tl⟩ := TB.out
  obtain ⟨u0, u1, uf, ul⟩ := CB.out
  go_wp2_with fail
  clear t0 t1 t2 t3 tf tl u0 u1 uf ul
  refine (HA.out w5 GI.out PI.out).mono ?_
  rintro e w6 ⟨rfl, hb⟩
  have BL := Lib.hid (chain BL.out hb)
  have TB := Lib.hid (Box4.next (w := w5) TB.out hb)
  have CB := Lib.hid (Box2.next (w := w5) CB.out hb)
  have GI := Lib.hid (Ints.next (w := w5) GI.out hb)
  have PI := Lib.hid (Ints.next (w := w5) PI.out hb)
  clear hb
  obtain ⟨t0, t1, t2, t3, tf, tl⟩ := TB.out
  obtain ⟨u0, u1, uf, ul⟩ := CB.out
  go_wp2
  clear t0 t1 t2 t3 tf tl u0 u1 uf ul
  obtain ⟨V6, hV6⟩ : ∃ V, V = w6.alloc (.cells #[.int .i64 0, .int .i64 0] 26) := ⟨_, rfl⟩
  have hb : Below w6.heap.size w6 V6 := by rw [hV6]; exact (Below.refl _ _).alloc (Nat.le_refl _) _
  have BL := Lib.hid (chain BL.out hb)
  have TB := Lib.hid (Box4.next (w := w6) TB.out hb)
  have CB := Lib.hid (Box2.next (w := w6) CB.out hb)
  have GI := Lib.hid (Ints.next (w := w6) GI.out hb)
  have PI := Lib.hid (Ints.next (w := w6) PI.out hb)
  clear hb
  have DB : Hid (Box2 V6 w6.heap.size (.int .i64 0) (.int .i64 0)) := by rw [hV6]; exact Box2.new _ _ _ _
  rw [← hV6]
  clear hV6
  obtain ⟨t0, t1, t2, t3, tf, tl⟩ := TB.out
  obtain ⟨u0, u1, uf, ul⟩ := CB.out
  go_region_held3 (fun w' => w'.cell? ⟨w.heap.size, 0, none⟩ = some (.int .i64 W) ∧ w'.cell? ⟨w.heap.size, 1, none⟩ = some (.int .i64 H) ∧ w'.cell? ⟨w.heap.size, 2, none⟩ = some (.slice A n c) ∧ w'.cell? ⟨w.heap.size, 3, none⟩ = some (.slice A2 m c2) ∧ w'.cell? ⟨w.heap.size + 1, 0, none⟩ = some (.int .i64 x) ∧ w'.cell? ⟨w.heap.size + 1, 1, none⟩ = some (.int .i64 y))
    (first | go_keep | exact ⟨by assumption, by assumption, by assumption, by assumption, by assumption, by assumption⟩)
    (first | (go_at_call 18; refine (HV.out _ (Ints.drewN GI.out) (Ints.drewN PI.out)).mono ?_; rintro e w7 ⟨rfl, hb⟩; have BL := Lib.hid (chain BL.out.drew hb); have TB := Lib.hid (Box4.next (w := V6.drew) TB.out hb); have CB := Lib.hid (Box2.next (w := V6.drew) CB.out hb); have GI := Lib.hid (Ints.next (w := V6.drew) GI.out hb); have PI := Lib.hid (Ints.next (w := V6.drew) PI.out hb); have DB := Lib.hid (Box2.next (w := V6.drew) DB.out hb); clear hb; obtain ⟨t0, t1, t2, t3, tf, tl⟩ := TB.out; obtain ⟨u0, u1, uf, ul⟩ := CB.out) | (go_at_call 19; refine (HRV.out w7 GI.out PI.out).mono ?_; rintro e w8 ⟨rfl, hb⟩; have BL := Lib.hid (chain BL.out hb); have TB := Lib.hid (Box4.next (w := w7) TB.out hb); have CB := Lib.hid (Box2.next (w := w7) CB.out hb); have GI := Lib.hid (Ints.next (w := w7) GI.out hb); have PI := Lib.hid (Ints.next (w := w7) PI.out hb); have DB := Lib.hid (Box2.next (w := w7) DB.out hb); clear hb; obtain ⟨t0, t1, t2, t3, tf, tl⟩ := TB.out; obtain ⟨u0, u1, uf, ul⟩ := CB.out) | (go_at_call 20; refine (HHs.out w8 GI.out PI.out).mono ?_; rintro e w9 ⟨rfl, hb⟩; have BL := Lib.hid (chain BL.out hb); have TB := Lib.hid (Box4.next (w := w8) TB.out hb); have CB := Lib.hid (Box2.next (w := w8) CB.out hb); have GI := Lib.hid (Ints.next (w := w8) GI.out hb); have PI := Lib.hid (Ints.next (w := w8) PI.out hb); have DB := Lib.hid (Box2.next (w := w8) DB.out hb); clear hb; obtain ⟨t0, t1, t2, t3, tf, tl⟩ := TB.out; obtain ⟨u0, u1, uf, ul⟩ := CB.out))
  go_wp2_with fail
  clear t0 t1 t2 t3 tf tl u0 u1 uf ul
  refine (HRV.out w9 GI.out PI.out).mono ?_
  rintro e w11 ⟨rfl, hb⟩
  have BL := Lib.hid (chain BL.out hb)
  have TB := Lib.hid (Box4.next (w := w9) TB.out hb)
  have CB := Lib.hid (Box2.next (w := w9) CB.out hb)
  have GI := Lib.hid (Ints.next (w := w9) GI.out hb)
  have PI := Lib.hid (Ints.next (w := w9) PI.out hb)
  have DB := Lib.hid (Box2.next (w := w9) DB.out hb)
  clear hb
  obtain ⟨t0, t1, t2, t3, tf, tl⟩ := TB.out
  obtain ⟨u0, u1, uf, ul⟩ := CB.out
  obtain ⟨v0, v1, vf, vl⟩ := DB.out
  go_wp2_with fail
  refine (known_any w11).mono ?_
  rintro e w12 ⟨rfl, hb⟩
  have BL := Lib.hid (chain BL.out hb)
  have TB := Lib.hid (Box4.next (w := w11) TB.out hb)
  have CB := Lib.hid (Box2.next (w := w11) CB.out hb)
  have GI := Lib.hid (Ints.next (w := w11) GI.out hb)
  have PI := Lib.hid (Ints.next (w := w11) PI.out hb)
  have DB := Lib.hid (Box2.next (w := w11) DB.out hb)
  clear hb
  go_wp2
  go_ret
  exact ⟨rfl, BL.out⟩

set_option maxHeartbeats 4000000 in
set_option maxRecDepth 100000 in
theorem law3_nb (W H : Int) (A : Option Addr) (n c : Nat) (A2 : Option Addr) (m c2 : Nat) (g p : List Int) (x y i : Int) (w : World) (hG : Ints w w.heap.size A n g) (hP : Ints w w.heap.size A2 m p) (hn : n ≤ 300) (hm : m ≤ 300) (hhas : hasB W H g p x y = false) (hter : terB W H g p = false) : Calls Try.prog 3 #[.agg #[.int .i64 W, .int .i64 H, .slice A n c, .slice A2 m c2], .agg #[.int .i64 x, .int .i64 y], .int .i64 i] w (KnownOk w) := by
  have HI : Hid (∀ V, Ints V V.heap.size A n g → Ints V V.heap.size A2 m p → Calls Try.prog 14 #[.agg #[.int .i64 W, .int .i64 H, .slice A n c, .slice A2 m c2], .agg #[.int .i64 x, .int .i64 y]] V fun e w' => e = .returned (.tuple #[.int .i64 0, .int .i64 2]) ∧ Below V.heap.size V w') := fun V q1 q2 => index_no W H A n c A2 m c2 g p x y V q1 q2 (by omega) (by omega) hhas
  have HGr : Hid (∀ V, Ints V V.heap.size A n g → Ints V V.heap.size A2 m p → Calls Try.prog 15 #[.agg #[.int .i64 W, .int .i64 H, .slice A n c, .slice A2 m c2], .agg #[.int .i64 x, .int .i64 y]] V fun e w' => e = .returned (.tuple #[.int .i64 0, .int .i64 2]) ∧ Below V.heap.size V w') := fun V q1 q2 => ground_no W H A n c A2 m c2 g p x y V q1 q2 (by omega) (by omega) hhas
  have HPe : Hid (∀ V, Ints V V.heap.size A n g → Ints V V.heap.size A2 m p → Calls Try.prog 16 #[.agg #[.int .i64 W, .int .i64 H, .slice A n c, .slice A2 m c2], .agg #[.int .i64 x, .int .i64 y]] V fun e w' => e = .returned (.tuple #[.int .i64 0, .int .i64 2]) ∧ Below V.heap.size V w') := fun V q1 q2 => people_no W H A n c A2 m c2 g p x y V q1 q2 (by omega) (by omega) hhas
  have HA : Hid (∀ V, Ints V V.heap.size A n g → Ints V V.heap.size A2 m p → Calls Try.prog 17 #[.agg #[.int .i64 W, .int .i64 H, .slice A n c, .slice A2 m c2], .int .i64 i] V fun e w' => e = .returned (.tuple #[.agg #[.int .i64 0, .int .i64 0], .int .i64 2]) ∧ Below V.heap.size V w') := fun V q1 q2 => at_bad W H A n c A2 m c2 g p i V q1 q2 (by omega) (by omega) hter
  have HH : Hid (∀ V, Ints V V.heap.size A n g → Ints V V.heap.size A2 m p → Calls Try.prog 13 #[.agg #[.int .i64 W, .int .i64 H, .slice A n c, .slice A2 m c2], .agg #[.int .i64 x, .int .i64 y]] V fun e w' => e = .returned (.bool false) ∧ Below V.heap.size V w') := fun V q1 q2 => by rw [← hhas]; exact refHas_any W H A n c A2 m c2 g p x y V q1 q2 (by omega) (by omega)
  have HHs : Hid (∀ V, Ints V V.heap.size A n g → Ints V V.heap.size A2 m p → Calls Try.prog 20 #[.agg #[.int .i64 W, .int .i64 H, .slice A n c, .slice A2 m c2], .agg #[.int .i64 x, .int .i64 y]] V fun e w' => e = .returned (.bool false) ∧ Below V.heap.size V w') := fun V q1 q2 => by rw [← hhas]; exact has_any W H A n c A2 m c2 g p x y V q1 q2 (by omega) (by omega)
  have HV : Hid (∀ V, Ints V V.heap.size A n g → Ints V V.heap.size A2 m p → Calls Try.prog 18 #[.agg #[.int .i64 W, .int .i64 H, .slice A n c, .slice A2 m c2]] V fun e w' => e = .returned (.bool false) ∧ Below V.heap.size V w') := fun V q1 q2 => by rw [← hter]; exact valid_any W H A n c A2 m c2 g p V q1 q2 (by omega) (by omega)
  have HRV : Hid (∀ V, Ints V V.heap.size A n g → Ints V V.heap.size A2 m p → Calls Try.prog 19 #[.agg #[.int .i64 W, .int .i64 H, .slice A n c, .slice A2 m c2]] V fun e w' => e = .returned (.bool false) ∧ Below V.heap.size V w') := fun V q1 q2 => by rw [← hter]; exact refValid_any W H A n c A2 m c2 g p V q1 q2 (by omega) (by omega)
  clear hhas hter
  have GI0 := Lib.hid hG
  have PI0 := Lib.hid hP
  have S0 := Lib.hid (tc_start W H A n c A2 m c2 g p x y w)
  clear hG hP
  go_enter Try.func3, Try.ntmps3
  go_wp2_with fail
  obtain ⟨W0, hW0⟩ : ∃ W0, W0 = ((w.alloc (.cells #[.int .i64 W, .int .i64 H, .slice A n c, .slice A2 m c2] 24)).alloc (.cells #[.int .i64 x, .int .i64 y] 26)) := ⟨_, rfl⟩
  rw [← hW0] at S0
  rw [← hW0]
  clear hW0
  have BL := Lib.hid S0.out.1
  have TB := Lib.hid S0.out.2.1
  have CB := Lib.hid S0.out.2.2
  have GI := Lib.hid (GI0.out.next S0.out.1)
  have PI := Lib.hid (PI0.out.next S0.out.1)
  clear S0 GI0 PI0
  refine (big_any W H A n c A2 m c2 W0).mono ?_
  rintro e w1 ⟨rfl, hb⟩
  have BL := Lib.hid (chain BL.out hb)
  have TB := Lib.hid (Box4.next (w := W0) TB.out hb)
  have CB := Lib.hid (Box2.next (w := W0) CB.out hb)
  have GI := Lib.hid (Ints.next (w := W0) GI.out hb)
  have PI := Lib.hid (Ints.next (w := W0) PI.out hb)
  clear hb
  rw [show bigB n m = false by simp [bigB]; omega]
  obtain ⟨t0, t1, t2, t3, tf, tl⟩ := TB.out
  obtain ⟨u0, u1, uf, ul⟩ := CB.out
  go_wp2_with fail
  clear t0 t1 t2 t3 tf tl u0 u1 uf ul
  refine (HH.out w1 GI.out PI.out).mono ?_
  rintro e w2 ⟨rfl, hb⟩
  have BL := Lib.hid (chain BL.out hb)
  have TB := Lib.hid (Box4.next (w := w1) TB.out hb)
  have CB := Lib.hid (Box2.next (w := w1) CB.out hb)
  have GI := Lib.hid (Ints.next (w := w1) GI.out hb)
  have PI := Lib.hid (Ints.next (w := w1) PI.out hb)
  clear hb
  obtain ⟨t0, t1, t2, t3, tf, tl⟩ := TB.out
  obtain ⟨u0, u1, uf, ul⟩ := CB.out
  go_wp2_with fail
  clear t0 t1 t2 t3 tf tl u0 u1 uf ul
  refine (HI.out w2 GI.out PI.out).mono ?_
  rintro e w3 ⟨rfl, hb⟩
  have BL := Lib.hid (chain BL.out hb)
  have TB := Lib.hid (Box4.next (w := w2) TB.out hb)
  have CB := Lib.hid (Box2.next (w := w2) CB.out hb)
  have GI := Lib.hid (Ints.next (w := w2) GI.out hb)
  have PI := Lib.hid (Ints.next (w := w2) PI.out hb)
  clear hb
  obtain ⟨t0, t1, t2, t3, tf, tl⟩ := TB.out
  obtain ⟨u0, u1, uf, ul⟩ := CB.out
  go_wp2_with fail
  clear t0 t1 t2 t3 tf tl u0 u1 uf ul
  refine (HGr.out w3 GI.out PI.out).mono ?_
  rintro e w4 ⟨rfl, hb⟩
  have BL := Lib.hid (chain BL.out hb)
  have TB := Lib.hid (Box4.next (w := w3) TB.out hb)
  have CB := Lib.hid (Box2.next (w := w3) CB.out hb)
  have GI := Lib.hid (Ints.next (w := w3) GI.out hb)
  have PI := Lib.hid (Ints.next (w := w3) PI.out hb)
  clear hb
  obtain ⟨t0, t1, t2, t3, tf, tl⟩ := TB.out
  obtain ⟨u0, u1, uf, ul⟩ := CB.out
  go_wp2_with fail
  clear t0 t1 t2 t3 tf tl u0 u1 uf ul
  refine (HPe.out w4 GI.out PI.out).mono ?_
  rintro e w5 ⟨rfl, hb⟩
  have BL := Lib.hid (chain BL.out hb)
  have TB := Lib.hid (Box4.next (w := w4) TB.out hb)
  have CB := Lib.hid (Box2.next (w := w4) CB.out hb)
  have GI := Lib.hid (Ints.next (w := w4) GI.out hb)
  have PI := Lib.hid (Ints.next (w := w4) PI.out hb)
  clear hb
  obtain ⟨t0, t1, t2, t3, tf, tl⟩ := TB.out
  obtain ⟨u0, u1, uf, ul⟩ := CB.out
  go_wp2_with fail
  clear t0 t1 t2 t3 tf tl u0 u1 uf ul
  refine (HA.out w5 GI.out PI.out).mono ?_
  rintro e w6 ⟨rfl, hb⟩
  have BL := Lib.hid (chain BL.out hb)
  have TB := Lib.hid (Box4.next (w := w5) TB.out hb)
  have CB := Lib.hid (Box2.next (w := w5) CB.out hb)
  have GI := Lib.hid (Ints.next (w := w5) GI.out hb)
  have PI := Lib.hid (Ints.next (w := w5) PI.out hb)
  clear hb
  obtain ⟨t0, t1, t2, t3, tf, tl⟩ := TB.out
  obtain ⟨u0, u1, uf, ul⟩ := CB.out
  go_wp2
  clear t0 t1 t2 t3 tf tl u0 u1 uf ul
  obtain ⟨V6, hV6⟩ : ∃ V, V = w6.alloc (.cells #[.int .i64 0, .int .i64 0] 26) := ⟨_, rfl⟩
  have hb : Below w6.heap.size w6 V6 := by rw [hV6]; exact (Below.refl _ _).alloc (Nat.le_refl _) _
  have BL := Lib.hid (chain BL.out hb)
  have TB := Lib.hid (Box4.next (w := w6) TB.out hb)
  have CB := Lib.hid (Box2.next (w := w6) CB.out hb)
  have GI := Lib.hid (Ints.next (w := w6) GI.out hb)
  have PI := Lib.hid (Ints.next (w := w6) PI.out hb)
  clear hb
  have DB : Hid (Box2 V6 w6.heap.size (.int .i64 0) (.int .i64 0)) := by rw [hV6]; exact Box2.new _ _ _ _
  rw [← hV6]
  clear hV6
  obtain ⟨t0, t1, t2, t3, tf, tl⟩ := TB.out
  obtain ⟨u0, u1, uf, ul⟩ := CB.out
  go_region_held3 (fun w' => w'.cell? ⟨w.heap.size, 0, none⟩ = some (.int .i64 W) ∧ w'.cell? ⟨w.heap.size, 1, none⟩ = some (.int .i64 H) ∧ w'.cell? ⟨w.heap.size, 2, none⟩ = some (.slice A n c) ∧ w'.cell? ⟨w.heap.size, 3, none⟩ = some (.slice A2 m c2) ∧ w'.cell? ⟨w.heap.size + 1, 0, none⟩ = some (.int .i64 x) ∧ w'.cell? ⟨w.heap.size + 1, 1, none⟩ = some (.int .i64 y))
    (first | go_keep | exact ⟨by assumption, by assumption, by assumption, by assumption, by assumption, by assumption⟩)
    (first | (go_at_call 18; refine (HV.out _ (Ints.drewN GI.out) (Ints.drewN PI.out)).mono ?_; rintro e w7 ⟨rfl, hb⟩; have BL := Lib.hid (chain BL.out.drew hb); have TB := Lib.hid (Box4.next (w := V6.drew) TB.out hb); have CB := Lib.hid (Box2.next (w := V6.drew) CB.out hb); have GI := Lib.hid (Ints.next (w := V6.drew) GI.out hb); have PI := Lib.hid (Ints.next (w := V6.drew) PI.out hb); have DB := Lib.hid (Box2.next (w := V6.drew) DB.out hb); clear hb; obtain ⟨t0, t1, t2, t3, tf, tl⟩ := TB.out; obtain ⟨u0, u1, uf, ul⟩ := CB.out) | (go_at_call 19; refine (HRV.out w7 GI.out PI.out).mono ?_; rintro e w8 ⟨rfl, hb⟩; have BL := Lib.hid (chain BL.out hb); have TB := Lib.hid (Box4.next (w := w7) TB.out hb); have CB := Lib.hid (Box2.next (w := w7) CB.out hb); have GI := Lib.hid (Ints.next (w := w7) GI.out hb); have PI := Lib.hid (Ints.next (w := w7) PI.out hb); have DB := Lib.hid (Box2.next (w := w7) DB.out hb); clear hb; obtain ⟨t0, t1, t2, t3, tf, tl⟩ := TB.out; obtain ⟨u0, u1, uf, ul⟩ := CB.out) | (go_at_call 20; refine (HHs.out w8 GI.out PI.out).mono ?_; rintro e w9 ⟨rfl, hb⟩; have BL := Lib.hid (chain BL.out hb); have TB := Lib.hid (Box4.next (w := w8) TB.out hb); have CB := Lib.hid (Box2.next (w := w8) CB.out hb); have GI := Lib.hid (Ints.next (w := w8) GI.out hb); have PI := Lib.hid (Ints.next (w := w8) PI.out hb); have DB := Lib.hid (Box2.next (w := w8) DB.out hb); clear hb; obtain ⟨t0, t1, t2, t3, tf, tl⟩ := TB.out; obtain ⟨u0, u1, uf, ul⟩ := CB.out))
  go_wp2_with fail
  clear t0 t1 t2 t3 tf tl u0 u1 uf ul
  refine (HRV.out w9 GI.out PI.out).mono ?_
  rintro e w11 ⟨rfl, hb⟩
  have BL := Lib.hid (chain BL.out hb)
  have TB := Lib.hid (Box4.next (w := w9) TB.out hb)
  have CB := Lib.hid (Box2.next (w := w9) CB.out hb)
  have GI := Lib.hid (Ints.next (w := w9) GI.out hb)
  have PI := Lib.hid (Ints.next (w := w9) PI.out hb)
  have DB := Lib.hid (Box2.next (w := w9) DB.out hb)
  clear hb
  obtain ⟨t0, t1, t2, t3, tf, tl⟩ := TB.out
  obtain ⟨u0, u1, uf, ul⟩ := CB.out
  obtain ⟨v0, v1, vf, vl⟩ := DB.out
  go_wp2_with fail
  refine (known_any w11).mono ?_
  rintro e w12 ⟨rfl, hb⟩
  have BL := Lib.hid (chain BL.out hb)
  have TB := Lib.hid (Box4.next (w := w11) TB.out hb)
  have CB := Lib.hid (Box2.next (w := w11) CB.out hb)
  have GI := Lib.hid (Ints.next (w := w11) GI.out hb)
  have PI := Lib.hid (Ints.next (w := w11) PI.out hb)
  have DB := Lib.hid (Box2.next (w := w11) DB.out hb)
  clear hb
  go_wp2
  go_ret
  exact ⟨rfl, BL.out⟩

theorem law3 (W H : Int) (A : Option Addr) (n c : Nat) (A2 : Option Addr) (m c2 : Nat) (g p : List Int) (x y i : Int) (w : World) (hG : Ints w w.heap.size A n g) (hP : Ints w w.heap.size A2 m p) : Calls Try.prog 3 #[.agg #[.int .i64 W, .int .i64 H, .slice A n c, .slice A2 m c2], .agg #[.int .i64 x, .int .i64 y], .int .i64 i] w (KnownOk w) := by
  by_cases hb : 300 < n ∨ 300 < m
  · exact law3_big W H A n c A2 m c2 g p x y i w hG hP hb
  · have hn : n ≤ 300 := by omega
    have hm : m ≤ 300 := by omega
    by_cases hh : hasB W H g p x y = true
    · by_cases hi : 0 ≤ i ∧ i < W * H
      · exact law3_yi W H A n c A2 m c2 g p x y i w hG hP hn hm hh hi.1 hi.2
      · by_cases hi0 : i < 0
        · exact law3_yo1 W H A n c A2 m c2 g p x y i w hG hP hn hm hh hi0
        · exact law3_yo2 W H A n c A2 m c2 g p x y i w hG hP hn hm hh (by omega) (by omega)
    · have hh' : hasB W H g p x y = false := by simpa using hh
      by_cases ht : terB W H g p = true
      · by_cases hi : 0 ≤ i ∧ i < W * H
        · exact law3_ni W H A n c A2 m c2 g p x y i w hG hP hn hm hh' ht hi.1 hi.2
        · by_cases hi0 : i < 0
          · exact law3_no1 W H A n c A2 m c2 g p x y i w hG hP hn hm hh' ht hi0
          · exact law3_no2 W H A n c A2 m c2 g p x y i w hG hP hn hm hh' ht (by omega) (by omega)
      · exact law3_nb W H A n c A2 m c2 g p x y i w hG hP hn hm hh' (by simpa using ht)
end Go.Proofs.Ytpoceidbiamgaaa
