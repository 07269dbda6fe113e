/- TerrainFlat: the walk of the law. -/
import Derived.Test.YtpoceidbiamgaaaWn
set_option linter.unusedVariables false
set_option linter.unusedSimpArgs false
namespace Go.Proofs.Ytpoceidbiamgaaa
open Go.RowKit

theorem eq0 : eqT 0 0 [] [] 0 0 [] [] = true := by decide
set_option maxHeartbeats 4000000 in
set_option maxRecDepth 100000 in
theorem law5_no (W H g p : Int) (w : World) (h : ¬ (1 ≤ W ∧ W ≤ 64 ∧ 1 ≤ H ∧ H ≤ 64 ∧ 0 ≤ g ∧ g ≤ 9000 ∧ 0 ≤ p ∧ p ≤ 1000000)) : Calls Try.prog 5 #[.int .i64 W, .int .i64 H, .int .i64 g, .int .i64 p] w (KnownOk w) := by
  have CN := Lib.hid (flat_no W H g p w h)
  have HE0 := Lib.hid eq0
  have kk : (W < 1) ∨ (1 ≤ W ∧ 64 < W) ∨ (1 ≤ W ∧ W ≤ 64 ∧ H < 1) ∨ (1 ≤ W ∧ W ≤ 64 ∧ 1 ≤ H ∧ 64 < H) ∨ (1 ≤ W ∧ W ≤ 64 ∧ 1 ≤ H ∧ H ≤ 64 ∧ g < 0) ∨ (1 ≤ W ∧ W ≤ 64 ∧ 1 ≤ H ∧ H ≤ 64 ∧ 0 ≤ g ∧ 9000 < g) ∨ (1 ≤ W ∧ W ≤ 64 ∧ 1 ≤ H ∧ H ≤ 64 ∧ 0 ≤ g ∧ g ≤ 9000 ∧ p < 0) ∨ (1 ≤ W ∧ W ≤ 64 ∧ 1 ≤ H ∧ H ≤ 64 ∧ 0 ≤ g ∧ g ≤ 9000 ∧ 0 ≤ p ∧ 1000000 < p) := by omega
  clear h
  rcases kk with k | ⟨k, l⟩ | ⟨k, l, k1⟩ | ⟨k, l, k1, l1⟩ | ⟨k, l, k1, l1, k2⟩ | ⟨k, l, k1, l1, k2, l2⟩ | ⟨k, l, k1, l1, k2, l2, k3⟩ | ⟨k, l, k1, l1, k2, l2, k3, l3⟩
  all_goals
    go_enter Try.func5, Try.ntmps5
    go_wp2_with fail
    refine CN.out.mono ?_
    rintro e w1 ⟨rfl, hb⟩
    have BL := Lib.hid hb
    clear hb
    go_wp2_with fail
    obtain ⟨V1, hV1⟩ : ∃ V, V = w1.alloc (.cells #[.int .i64 0, .int .i64 0, .slice none 0 0, .slice none 0 0] 24) := ⟨_, rfl⟩
    have BL : Hid (Below w.heap.size w V1) := by rw [hV1]; exact BL.out.alloc BL.out.size _
    rw [← hV1]
    clear hV1
    refine (refEqual_any 0 0 none 0 0 none 0 0 [] [] 0 0 none 0 0 none 0 0 [] [] V1 Ints.nil Ints.nil (by omega) (by omega) Ints.nil Ints.nil (by omega) (by omega)).mono ?_
    rintro e w2 ⟨he, hb⟩
    rw [HE0.out] at he
    subst he
    have BL := Lib.hid (chain BL.out hb)
    clear hb
    go_wp2_with fail
    refine (known_any w2).mono ?_
    rintro e w3 ⟨rfl, hb⟩
    have BL := Lib.hid (chain BL.out hb)
    clear hb
    go_wp2
    go_ret
    exact ⟨rfl, BL.out⟩

theorem terB_flat {W H g p : Int} {N : Nat} (k1 : 1 ≤ W) (k2 : W ≤ 64) (k3 : 1 ≤ H) (k4 : H ≤ 64) (k5 : 0 ≤ g) (k6 : g ≤ 9000) (k7 : 0 ≤ p) (k8 : p ≤ 1000000) (hN : W * H = N) : terB W H (List.replicate N g) (List.replicate N p) = true := by
  refine terB_iff.2 ⟨⟨k1, k2, k3, k4, by simp [hN], by simp [hN]⟩, allB_iff.2 fun x hx => ?_, allB_iff.2 fun x hx => ?_⟩
  · rw [(List.mem_replicate.1 hx).2]; exact ⟨k5, k6⟩
  · rw [(List.mem_replicate.1 hx).2]; exact ⟨k7, k8⟩
set_option maxHeartbeats 4000000 in
set_option maxRecDepth 100000 in
theorem law5_yes (W H g p : Int) (w : World) (k1 : 1 ≤ W) (k2 : W ≤ 64) (k3 : 1 ≤ H) (k4 : H ≤ 64) (k5 : 0 ≤ g) (k6 : g ≤ 9000) (k7 : 0 ≤ p) (k8 : p ≤ 1000000) : Calls Try.prog 5 #[.int .i64 W, .int .i64 H, .int .i64 g, .int .i64 p] w (KnownOk w) := by
  obtain ⟨b1, b2⟩ := wh_bd k1 k2 k3 k4
  obtain ⟨N, hN⟩ : ∃ N : Nat, W * H = (N : Int) := ⟨(W * H).toNat, by omega⟩
  have CF := Lib.hid (flat_yes W H g p N w k1 k2 k3 k4 k5 k6 k7 k8 hN)
  have CR := Lib.hid (fun V => refFlat_any W H g p N V hN (by omega))
  have HTB := Lib.hid (terB_flat k1 k2 k3 k4 k5 k6 k7 k8 hN)
  have n2 : N ≤ 4096 := by omega
  have HEQ := Lib.hid (eqT_self W H (List.replicate N g) (List.replicate N p))
  clear hN b1 b2
  go_enter Try.func5, Try.ntmps5
  go_wp2_with fail
  refine CF.out.mono ?_
  rintro e w1 ⟨A, n, c, A2, m, c2, rfl, o1, o2, hd, hb⟩
  obtain rfl : n = N := by have := o1.len; simpa using this.symm
  obtain rfl : m = n := by have := o2.len; simpa using this.symm
  have BL := Lib.hid hb
  have GI := Lib.hid o1.ints
  have PI := Lib.hid o2.ints
  clear o1 o2 hd hb
  go_wp2
  obtain ⟨V1, hV1⟩ : ∃ V, V = w1.alloc (.cells #[.int .i64 W, .int .i64 H, .slice A m c, .slice A2 m c2] 24) := ⟨_, rfl⟩
  have hb : Below w1.heap.size w1 V1 := by rw [hV1]; exact (Below.refl _ _).alloc (Nat.le_refl _) _
  have BL := Lib.hid (chain BL.out hb)
  have GI := Lib.hid (Ints.next (w := w1) GI.out hb)
  have PI := Lib.hid (Ints.next (w := w1) PI.out hb)
  clear hb
  have TB : Hid (Box4 V1 w1.heap.size (.int .i64 W) (.int .i64 H) (.slice A m c) (.slice A2 m c2)) := by rw [hV1]; exact Box4.new _ _ _ _ _ _
  rw [← hV1]
  clear hV1
  obtain ⟨q, hq⟩ : ∃ q, w1.heap.size = q := ⟨_, rfl⟩
  rw [hq] at TB
  rw [hq]
  clear hq
  obtain ⟨t0, t1, t2, t3, tf, tl⟩ := TB.out
  go_region_held3 (fun w' => w'.cell? ⟨q, 0, none⟩ = some (.int .i64 W) ∧ w'.cell? ⟨q, 1, none⟩ = some (.int .i64 H) ∧ w'.cell? ⟨q, 2, none⟩ = some (.slice A m c) ∧ w'.cell? ⟨q, 3, none⟩ = some (.slice A2 m c2))
    (first | go_keep | exact ⟨by assumption, by assumption, by assumption, by assumption⟩)
    (first | (go_at_call 27; refine (CR.out _).mono ?_; rintro e w2 ⟨B1, n1, d1, B2, m1, d2, rfl, o1, o2, hd, hb⟩; obtain rfl : n1 = m := (by have := o1.len; simpa using this.symm); obtain rfl : m1 = n1 := (by have := o2.len; simpa using this.symm); have FG := Lib.hid o1.ints; have FP := Lib.hid o2.ints; have BL := Lib.hid (chain BL.out.drew hb); have GI := Lib.hid (Ints.next (w := V1.drew) GI.out hb); have PI := Lib.hid (Ints.next (w := V1.drew) PI.out hb); have TB := Lib.hid (Box4.next (w := V1.drew) TB.out hb); clear hb; obtain ⟨t0, t1, t2, t3, tf, tl⟩ := TB.out; clear o1 o2 hd) | (go_at_call 24; refine (refEqual_any W H A m1 c A2 m1 c2 _ _ W H B1 m1 d1 B2 m1 d2 _ _ w2 GI.out PI.out (by omega) (by omega) FG.out FP.out (by omega) (by omega)).mono ?_; rintro e w3 ⟨he, hb⟩; rw [HEQ.out] at he; subst he; have BL := Lib.hid (chain BL.out hb); have GI := Lib.hid (Ints.next (w := w2) GI.out hb); have PI := Lib.hid (Ints.next (w := w2) PI.out hb); have TB := Lib.hid (Box4.next (w := w2) TB.out hb); clear hb; obtain ⟨t0, t1, t2, t3, tf, tl⟩ := TB.out) | (go_at_call 18; refine (valid_any W H A m1 c A2 m1 c2 _ _ w3 GI.out PI.out (by omega) (by omega)).mono ?_; rintro e w4 ⟨he, hb⟩; rw [HTB.out] at he; subst he; have BL := Lib.hid (chain BL.out hb); have GI := Lib.hid (Ints.next (w := w3) GI.out hb); have PI := Lib.hid (Ints.next (w := w3) PI.out hb); have TB := Lib.hid (Box4.next (w := w3) TB.out hb); clear hb; obtain ⟨t0, t1, t2, t3, tf, tl⟩ := TB.out) | (go_at_call 12; refine (known_any w4).mono ?_; rintro e w5 ⟨rfl, hb⟩; have BL := Lib.hid (chain BL.out hb); have GI := Lib.hid (Ints.next (w := w4) GI.out hb); have PI := Lib.hid (Ints.next (w := w4) PI.out hb); have TB := Lib.hid (Box4.next (w := w4) TB.out hb); clear hb; obtain ⟨t0, t1, t2, t3, tf, tl⟩ := TB.out))
  go_wp2
  go_ret
  exact ⟨rfl, BL.out⟩

theorem law5 (W H g p : Int) (w : World) : Calls Try.prog 5 #[.int .i64 W, .int .i64 H, .int .i64 g, .int .i64 p] w (KnownOk w) := by
  by_cases h : 1 ≤ W ∧ W ≤ 64 ∧ 1 ≤ H ∧ H ≤ 64 ∧ 0 ≤ g ∧ g ≤ 9000 ∧ 0 ≤ p ∧ p ≤ 1000000
  · obtain ⟨k1, k2, k3, k4, k5, k6, k7, k8⟩ := h
    exact law5_yes W H g p w k1 k2 k3 k4 k5 k6 k7 k8
  · exact law5_no W H g p w h
end Go.Proofs.Ytpoceidbiamgaaa
