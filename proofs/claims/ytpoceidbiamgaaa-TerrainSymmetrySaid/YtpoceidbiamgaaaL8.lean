/- TerrainSymmetry: the walk of the law. -/
import Derived.Test.YtpoceidbiamgaaaWv
import Derived.Test.YtpoceidbiamgaaaWw
set_option linter.unusedVariables false
set_option linter.unusedSimpArgs false
namespace Go.Proofs.Ytpoceidbiamgaaa
open Go.RowKit
set_option maxHeartbeats 8000000 in
set_option maxRecDepth 100000 in
theorem law10_big (W H : Int) (A : Option Addr) (n c : Nat) (A2 : Option Addr) (m c2 : Nat) (g p : List Int) (a1 a2 b1 b2 col : Int) (w : World) (hG : Ints w w.heap.size A n g) (hP : Ints w w.heap.size A2 m p) (hb : 300 < n ∨ 300 < m) : Calls Try.prog 10 #[.agg #[.int .i64 W, .int .i64 H, .slice A n c, .slice A2 m c2], .agg #[.int .i64 a1, .int .i64 a2], .agg #[.int .i64 b1, .int .i64 b2], .int .i64 col] w (KnownOk w) := by
  have GI0 := Lib.hid hG
  have PI0 := Lib.hid hP
  have S0 := Lib.hid (t3_start W H A n c A2 m c2 a1 a2 b1 b2 w)
  clear hG hP
  go_enter Try.func10, Try.ntmps10
  go_wp2_with fail
  obtain ⟨W0, hW0⟩ : ∃ W0, W0 = (((w.alloc (.cells #[.int .i64 W, .int .i64 H, .slice A n c, .slice A2 m c2] 24)).alloc (.cells #[.int .i64 a1, .int .i64 a2] 26)).alloc (.cells #[.int .i64 b1, .int .i64 b2] 26)) := ⟨_, rfl⟩
  rw [← hW0] at S0
  rw [← hW0]
  clear hW0
  have BL := Lib.hid S0.out.1
  have TB := Lib.hid S0.out.2.1
  have CB := Lib.hid S0.out.2.2.1
  have DB := Lib.hid S0.out.2.2.2
  have GI := Lib.hid (GI0.out.next S0.out.1)
  have PI := Lib.hid (PI0.out.next S0.out.1)
  clear S0 GI0 PI0
  refine (big_any W H A n c A2 m c2 W0).mono ?_
  rintro e w1 ⟨rfl, hb⟩
  have BL := Lib.hid (chain BL.out hb)
  have TB := Lib.hid (Box4.next (w := W0) TB.out hb)
  have CB := Lib.hid (Box2.next (w := W0) CB.out hb)
  have DB := Lib.hid (Box2.next (w := W0) DB.out hb)
  have GI := Lib.hid (Ints.next (w := W0) GI.out hb)
  have PI := Lib.hid (Ints.next (w := W0) PI.out hb)
  clear hb
  rw [show bigB n m = true by simp [bigB]; omega]
  go_wp2_with fail
  refine (known_any w1).mono ?_
  rintro e w2 ⟨rfl, hb⟩
  have BL := Lib.hid (chain BL.out hb)
  have TB := Lib.hid (Box4.next (w := w1) TB.out hb)
  have CB := Lib.hid (Box2.next (w := w1) CB.out hb)
  have DB := Lib.hid (Box2.next (w := w1) DB.out hb)
  have GI := Lib.hid (Ints.next (w := w1) GI.out hb)
  have PI := Lib.hid (Ints.next (w := w1) PI.out hb)
  clear hb
  go_wp2
  go_ret
  exact ⟨rfl, BL.out⟩
set_option maxHeartbeats 8000000 in
set_option maxRecDepth 100000 in
theorem law10_n1 (W H : Int) (A : Option Addr) (n c : Nat) (A2 : Option Addr) (m c2 : Nat) (g p : List Int) (a1 a2 b1 b2 col : Int) (w : World) (hG : Ints w w.heap.size A n g) (hP : Ints w w.heap.size A2 m p) (hn : n ≤ 300) (hm : m ≤ 300) (ha : hasB W H g p a1 a2 = false) : Calls Try.prog 10 #[.agg #[.int .i64 W, .int .i64 H, .slice A n c, .slice A2 m c2], .agg #[.int .i64 a1, .int .i64 a2], .agg #[.int .i64 b1, .int .i64 b2], .int .i64 col] w (KnownOk w) := by
  have HA := Lib.hid ha
  clear ha
  have GI0 := Lib.hid hG
  have PI0 := Lib.hid hP
  have S0 := Lib.hid (t3_start W H A n c A2 m c2 a1 a2 b1 b2 w)
  clear hG hP
  go_enter Try.func10, Try.ntmps10
  go_wp2_with fail
  obtain ⟨W0, hW0⟩ : ∃ W0, W0 = (((w.alloc (.cells #[.int .i64 W, .int .i64 H, .slice A n c, .slice A2 m c2] 24)).alloc (.cells #[.int .i64 a1, .int .i64 a2] 26)).alloc (.cells #[.int .i64 b1, .int .i64 b2] 26)) := ⟨_, rfl⟩
  rw [← hW0] at S0
  rw [← hW0]
  clear hW0
  have BL := Lib.hid S0.out.1
  have TB := Lib.hid S0.out.2.1
  have CB := Lib.hid S0.out.2.2.1
  have DB := Lib.hid S0.out.2.2.2
  have GI := Lib.hid (GI0.out.next S0.out.1)
  have PI := Lib.hid (PI0.out.next S0.out.1)
  clear S0 GI0 PI0
  refine (big_any W H A n c A2 m c2 W0).mono ?_
  rintro e w1 ⟨rfl, hb⟩
  have BL := Lib.hid (chain BL.out hb)
  have TB := Lib.hid (Box4.next (w := W0) TB.out hb)
  have CB := Lib.hid (Box2.next (w := W0) CB.out hb)
  have DB := Lib.hid (Box2.next (w := W0) DB.out hb)
  have GI := Lib.hid (Ints.next (w := W0) GI.out hb)
  have PI := Lib.hid (Ints.next (w := W0) PI.out hb)
  clear hb
  rw [show bigB n m = false by simp [bigB]; omega]
  obtain ⟨t0, t1, t2, t3, tf, tl⟩ := TB.out
  obtain ⟨u0, u1, uf, ul⟩ := CB.out
  obtain ⟨v0, v1, vf, vl⟩ := DB.out
  go_wp2_with fail
  clear t0 t1 t2 t3 tf tl u0 u1 uf ul v0 v1 vf vl
  refine (refHas_any W H A n c A2 m c2 g p a1 a2 w1 GI.out PI.out (by omega) (by omega)).mono ?_
  rintro e w2 ⟨he, hb⟩
  rw [HA.out] at he
  subst he
  have BL := Lib.hid (chain BL.out hb)
  have TB := Lib.hid (Box4.next (w := w1) TB.out hb)
  have CB := Lib.hid (Box2.next (w := w1) CB.out hb)
  have DB := Lib.hid (Box2.next (w := w1) DB.out hb)
  have GI := Lib.hid (Ints.next (w := w1) GI.out hb)
  have PI := Lib.hid (Ints.next (w := w1) PI.out hb)
  clear hb
  go_wp2_with fail
  refine (known_any w2).mono ?_
  rintro e w6 ⟨rfl, hb⟩
  have BL := Lib.hid (chain BL.out hb)
  have TB := Lib.hid (Box4.next (w := w2) TB.out hb)
  have CB := Lib.hid (Box2.next (w := w2) CB.out hb)
  have DB := Lib.hid (Box2.next (w := w2) DB.out hb)
  have GI := Lib.hid (Ints.next (w := w2) GI.out hb)
  have PI := Lib.hid (Ints.next (w := w2) PI.out hb)
  clear hb
  go_wp2
  go_ret
  exact ⟨rfl, BL.out⟩
set_option maxHeartbeats 8000000 in
set_option maxRecDepth 100000 in
theorem law10_n2 (W H : Int) (A : Option Addr) (n c : Nat) (A2 : Option Addr) (m c2 : Nat) (g p : List Int) (a1 a2 b1 b2 col : Int) (w : World) (hG : Ints w w.heap.size A n g) (hP : Ints w w.heap.size A2 m p) (hn : n ≤ 300) (hm : m ≤ 300) (ha : hasB W H g p a1 a2 = true) (hb : hasB W H g p b1 b2 = false) : Calls Try.prog 10 #[.agg #[.int .i64 W, .int .i64 H, .slice A n c, .slice A2 m c2], .agg #[.int .i64 a1, .int .i64 a2], .agg #[.int .i64 b1, .int .i64 b2], .int .i64 col] w (KnownOk w) := by
  have HA := Lib.hid ha
  have HB := Lib.hid hb
  clear ha hb
  have GI0 := Lib.hid hG
  have PI0 := Lib.hid hP
  have S0 := Lib.hid (t3_start W H A n c A2 m c2 a1 a2 b1 b2 w)
  clear hG hP
  go_enter Try.func10, Try.ntmps10
  go_wp2_with fail
  obtain ⟨W0, hW0⟩ : ∃ W0, W0 = (((w.alloc (.cells #[.int .i64 W, .int .i64 H, .slice A n c, .slice A2 m c2] 24)).alloc (.cells #[.int .i64 a1, .int .i64 a2] 26)).alloc (.cells #[.int .i64 b1, .int .i64 b2] 26)) := ⟨_, rfl⟩
  rw [← hW0] at S0
  rw [← hW0]
  clear hW0
  have BL := Lib.hid S0.out.1
  have TB := Lib.hid S0.out.2.1
  have CB := Lib.hid S0.out.2.2.1
  have DB := Lib.hid S0.out.2.2.2
  have GI := Lib.hid (GI0.out.next S0.out.1)
  have PI := Lib.hid (PI0.out.next S0.out.1)
  clear S0 GI0 PI0
  refine (big_any W H A n c A2 m c2 W0).mono ?_
  rintro e w1 ⟨rfl, hb⟩
  have BL := Lib.hid (chain BL.out hb)
  have TB := Lib.hid (Box4.next (w := W0) TB.out hb)
  have CB := Lib.hid (Box2.next (w := W0) CB.out hb)
  have DB := Lib.hid (Box2.next (w := W0) DB.out hb)
  have GI := Lib.hid (Ints.next (w := W0) GI.out hb)
  have PI := Lib.hid (Ints.next (w := W0) PI.out hb)
  clear hb
  rw [show bigB n m = false by simp [bigB]; omega]
  obtain ⟨t0, t1, t2, t3, tf, tl⟩ := TB.out
  obtain ⟨u0, u1, uf, ul⟩ := CB.out
  obtain ⟨v0, v1, vf, vl⟩ := DB.out
  go_wp2_with fail
  clear t0 t1 t2 t3 tf tl u0 u1 uf ul v0 v1 vf vl
  refine (refHas_any W H A n c A2 m c2 g p a1 a2 w1 GI.out PI.out (by omega) (by omega)).mono ?_
  rintro e w2 ⟨he, hb⟩
  rw [HA.out] at he
  subst he
  have BL := Lib.hid (chain BL.out hb)
  have TB := Lib.hid (Box4.next (w := w1) TB.out hb)
  have CB := Lib.hid (Box2.next (w := w1) CB.out hb)
  have DB := Lib.hid (Box2.next (w := w1) DB.out hb)
  have GI := Lib.hid (Ints.next (w := w1) GI.out hb)
  have PI := Lib.hid (Ints.next (w := w1) PI.out hb)
  clear hb
  obtain ⟨t0, t1, t2, t3, tf, tl⟩ := TB.out
  obtain ⟨u0, u1, uf, ul⟩ := CB.out
  obtain ⟨v0, v1, vf, vl⟩ := DB.out
  go_wp2_with fail
  clear t0 t1 t2 t3 tf tl u0 u1 uf ul v0 v1 vf vl
  refine (refHas_any W H A n c A2 m c2 g p b1 b2 w2 GI.out PI.out (by omega) (by omega)).mono ?_
  rintro e w3 ⟨he, hb⟩
  rw [HB.out] at he
  subst he
  have BL := Lib.hid (chain BL.out hb)
  have TB := Lib.hid (Box4.next (w := w2) TB.out hb)
  have CB := Lib.hid (Box2.next (w := w2) CB.out hb)
  have DB := Lib.hid (Box2.next (w := w2) DB.out hb)
  have GI := Lib.hid (Ints.next (w := w2) GI.out hb)
  have PI := Lib.hid (Ints.next (w := w2) PI.out hb)
  clear hb
  go_wp2_with fail
  refine (known_any w3).mono ?_
  rintro e w6 ⟨rfl, hb⟩
  have BL := Lib.hid (chain BL.out hb)
  have TB := Lib.hid (Box4.next (w := w3) TB.out hb)
  have CB := Lib.hid (Box2.next (w := w3) CB.out hb)
  have DB := Lib.hid (Box2.next (w := w3) DB.out hb)
  have GI := Lib.hid (Ints.next (w := w3) GI.out hb)
  have PI := Lib.hid (Ints.next (w := w3) PI.out hb)
  clear hb
  go_wp2
  go_ret
  exact ⟨rfl, BL.out⟩

theorem law10 (W H : Int) (A : Option Addr) (n c : Nat) (A2 : Option Addr) (m c2 : Nat) (g p : List Int) (a1 a2 b1 b2 col : Int) (w : World) (hG : Ints w w.heap.size A n g) (hP : Ints w w.heap.size A2 m p) : Calls Try.prog 10 #[.agg #[.int .i64 W, .int .i64 H, .slice A n c, .slice A2 m c2], .agg #[.int .i64 a1, .int .i64 a2], .agg #[.int .i64 b1, .int .i64 b2], .int .i64 col] w (KnownOk w) := by
  by_cases hb : 300 < n ∨ 300 < m
  · exact law10_big W H A n c A2 m c2 g p a1 a2 b1 b2 col w hG hP hb
  · by_cases h1 : hasB W H g p a1 a2 = true
    · by_cases h2 : hasB W H g p b1 b2 = true
      · by_cases h0 : lineN a1 a2 b1 b2 = 0
        · exact law10_zero W H A n c A2 m c2 g p a1 a2 b1 b2 col w hG hP (by omega) (by omega) h1 h2 (fun N e => e.trans h0)
        · exact law10_pos W H A n c A2 m c2 g p a1 a2 b1 b2 col w hG hP (by omega) (by omega) h1 h2 h0
      · exact law10_n2 W H A n c A2 m c2 g p a1 a2 b1 b2 col w hG hP (by omega) (by omega) h1 (by simpa using h2)
    · exact law10_n1 W H A n c A2 m c2 g p a1 a2 b1 b2 col w hG hP (by omega) (by omega) (by simpa using h1)
end Go.Proofs.Ytpoceidbiamgaaa
