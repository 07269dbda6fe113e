/- TerrainTotals: the walk of the law. -/
import Derived.Test.YtpoceidbiamgaaaWn
import Derived.Test.YtpoceidbiamgaaaWo
set_option linter.unusedVariables false
set_option linter.unusedSimpArgs false
namespace Go.Proofs.Ytpoceidbiamgaaa
open Go.RowKit
set_option maxHeartbeats 2000000 in
set_option maxRecDepth 100000 in
theorem law9_big (W H : Int) (A : Option Addr) (n c : Nat) (A2 : Option Addr) (m c2 : Nat) (g p : List Int) (C : Option Addr) (l lc : Nat) (cs : List Int) (w : World) (hG : Ints w w.heap.size A n g) (hP : Ints w w.heap.size A2 m p) (hC : Ints w w.heap.size C l cs) (hb : 300 < n ∨ 300 < m) : Calls Try.prog 9 #[.agg #[.int .i64 W, .int .i64 H, .slice A n c, .slice A2 m c2], .slice C l lc] w (KnownOk w) := by
  have S0 : Hid (Below w.heap.size w (w.alloc (.cells #[.int .i64 W, .int .i64 H, .slice A n c, .slice A2 m c2] 24)) ∧ Box4 (w.alloc (.cells #[.int .i64 W, .int .i64 H, .slice A n c, .slice A2 m c2] 24)) w.heap.size (.int .i64 W) (.int .i64 H) (.slice A n c) (.slice A2 m c2)) := ⟨(Below.refl _ _).alloc (Nat.le_refl _) _, Box4.new _ _ _ _ _ _⟩
  have GI0 := Lib.hid hG
  have PI0 := Lib.hid hP
  have CI0 := Lib.hid hC
  clear hG hP hC
  go_enter Try.func9, Try.ntmps9
  go_wp2_with fail
  obtain ⟨W0, hW0⟩ : ∃ W0, W0 = (w.alloc (.cells #[.int .i64 W, .int .i64 H, .slice A n c, .slice A2 m c2] 24)) := ⟨_, rfl⟩
  rw [← hW0] at S0
  rw [← hW0]
  clear hW0
  have BL := Lib.hid S0.out.1
  have TB := Lib.hid S0.out.2
  have GI := Lib.hid (GI0.out.next S0.out.1)
  have PI := Lib.hid (PI0.out.next S0.out.1)
  have CI := Lib.hid (CI0.out.next S0.out.1)
  clear S0 GI0 PI0 CI0
  refine (big_any W H A n c A2 m c2 W0).mono ?_
  rintro e w1 ⟨rfl, hb⟩
  have BL := Lib.hid (chain BL.out hb)
  have TB := Lib.hid (Box4.next (w := W0) TB.out hb)
  have GI := Lib.hid (Ints.next (w := W0) GI.out hb)
  have PI := Lib.hid (Ints.next (w := W0) PI.out hb)
  have CI := Lib.hid (Ints.next (w := W0) CI.out hb)
  clear hb
  rw [show bigB n m = true by simp [bigB]; omega]
  go_wp2_with fail
  refine (known_any w1).mono ?_
  rintro e w2 ⟨rfl, hb⟩
  have BL := Lib.hid (chain BL.out hb)
  have TB := Lib.hid (Box4.next (w := w1) TB.out hb)
  have GI := Lib.hid (Ints.next (w := w1) GI.out hb)
  have PI := Lib.hid (Ints.next (w := w1) PI.out hb)
  have CI := Lib.hid (Ints.next (w := w1) CI.out hb)
  clear hb
  go_wp2
  go_ret
  exact ⟨rfl, BL.out⟩
set_option maxHeartbeats 2000000 in
set_option maxRecDepth 100000 in
theorem law9_long (W H : Int) (A : Option Addr) (n c : Nat) (A2 : Option Addr) (m c2 : Nat) (g p : List Int) (C : Option Addr) (l lc : Nat) (cs : List Int) (w : World) (hG : Ints w w.heap.size A n g) (hP : Ints w w.heap.size A2 m p) (hC : Ints w w.heap.size C l cs) (hn : n ≤ 300) (hm : m ≤ 300) (hl : 100 < l) : Calls Try.prog 9 #[.agg #[.int .i64 W, .int .i64 H, .slice A n c, .slice A2 m c2], .slice C l lc] w (KnownOk w) := by
  have S0 : Hid (Below w.heap.size w (w.alloc (.cells #[.int .i64 W, .int .i64 H, .slice A n c, .slice A2 m c2] 24)) ∧ Box4 (w.alloc (.cells #[.int .i64 W, .int .i64 H, .slice A n c, .slice A2 m c2] 24)) w.heap.size (.int .i64 W) (.int .i64 H) (.slice A n c) (.slice A2 m c2)) := ⟨(Below.refl _ _).alloc (Nat.le_refl _) _, Box4.new _ _ _ _ _ _⟩
  have GI0 := Lib.hid hG
  have PI0 := Lib.hid hP
  have CI0 := Lib.hid hC
  clear hG hP hC
  go_enter Try.func9, Try.ntmps9
  go_wp2_with fail
  obtain ⟨W0, hW0⟩ : ∃ W0, W0 = (w.alloc (.cells #[.int .i64 W, .int .i64 H, .slice A n c, .slice A2 m c2] 24)) := ⟨_, rfl⟩
  rw [← hW0] at S0
  rw [← hW0]
  clear hW0
  have BL := Lib.hid S0.out.1
  have TB := Lib.hid S0.out.2
  have GI := Lib.hid (GI0.out.next S0.out.1)
  have PI := Lib.hid (PI0.out.next S0.out.1)
  have CI := Lib.hid (CI0.out.next S0.out.1)
  clear S0 GI0 PI0 CI0
  refine (big_any W H A n c A2 m c2 W0).mono ?_
  rintro e w1 ⟨rfl, hb⟩
  have BL := Lib.hid (chain BL.out hb)
  have TB := Lib.hid (Box4.next (w := W0) TB.out hb)
  have GI := Lib.hid (Ints.next (w := W0) GI.out hb)
  have PI := Lib.hid (Ints.next (w := W0) PI.out hb)
  have CI := Lib.hid (Ints.next (w := W0) CI.out hb)
  clear hb
  rw [show bigB n m = false by simp [bigB]; omega]
  have hl2 : decide ((100 : Int) < (l : Int)) = true := decide_eq_true (by omega)
  go_wp2_with fail
  refine (known_any w1).mono ?_
  rintro e w2 ⟨rfl, hb⟩
  have BL := Lib.hid (chain BL.out hb)
  have TB := Lib.hid (Box4.next (w := w1) TB.out hb)
  have GI := Lib.hid (Ints.next (w := w1) GI.out hb)
  have PI := Lib.hid (Ints.next (w := w1) PI.out hb)
  have CI := Lib.hid (Ints.next (w := w1) CI.out hb)
  clear hb
  go_wp2
  go_ret
  exact ⟨rfl, BL.out⟩
set_option maxHeartbeats 2000000 in
set_option maxRecDepth 100000 in
theorem law9_bad (W H : Int) (A : Option Addr) (n c : Nat) (A2 : Option Addr) (m c2 : Nat) (g p : List Int) (C : Option Addr) (l lc : Nat) (cs : List Int) (w : World) (hG : Ints w w.heap.size A n g) (hP : Ints w w.heap.size A2 m p) (hC : Ints w w.heap.size C l cs) (hn : n ≤ 300) (hm : m ≤ 300) (hl : l ≤ 100) (ht : terB W H g p = false) : Calls Try.prog 9 #[.agg #[.int .i64 W, .int .i64 H, .slice A n c, .slice A2 m c2], .slice C l lc] w (KnownOk w) := by
  have HT := Lib.hid ht
  have HE := Lib.hid (totE_no (cs := cs) (by rw [ht]; rfl))
  clear ht
  have S0 : Hid (Below w.heap.size w (w.alloc (.cells #[.int .i64 W, .int .i64 H, .slice A n c, .slice A2 m c2] 24)) ∧ Box4 (w.alloc (.cells #[.int .i64 W, .int .i64 H, .slice A n c, .slice A2 m c2] 24)) w.heap.size (.int .i64 W) (.int .i64 H) (.slice A n c) (.slice A2 m c2)) := ⟨(Below.refl _ _).alloc (Nat.le_refl _) _, Box4.new _ _ _ _ _ _⟩
  have GI0 := Lib.hid hG
  have PI0 := Lib.hid hP
  have CI0 := Lib.hid hC
  clear hG hP hC
  go_enter Try.func9, Try.ntmps9
  go_wp2_with fail
  obtain ⟨W0, hW0⟩ : ∃ W0, W0 = (w.alloc (.cells #[.int .i64 W, .int .i64 H, .slice A n c, .slice A2 m c2] 24)) := ⟨_, rfl⟩
  rw [← hW0] at S0
  rw [← hW0]
  clear hW0
  have BL := Lib.hid S0.out.1
  have TB := Lib.hid S0.out.2
  have GI := Lib.hid (GI0.out.next S0.out.1)
  have PI := Lib.hid (PI0.out.next S0.out.1)
  have CI := Lib.hid (CI0.out.next S0.out.1)
  clear S0 GI0 PI0 CI0
  refine (big_any W H A n c A2 m c2 W0).mono ?_
  rintro e w1 ⟨rfl, hb⟩
  have BL := Lib.hid (chain BL.out hb)
  have TB := Lib.hid (Box4.next (w := W0) TB.out hb)
  have GI := Lib.hid (Ints.next (w := W0) GI.out hb)
  have PI := Lib.hid (Ints.next (w := W0) PI.out hb)
  have CI := Lib.hid (Ints.next (w := W0) CI.out hb)
  clear hb
  rw [show bigB n m = false by simp [bigB]; omega]
  have hl2 : decide ((100 : Int) < (l : Int)) = false := decide_eq_false (by omega)
  obtain ⟨t0, t1, t2, t3, tf, tl⟩ := TB.out
  go_wp2_with fail
  clear t0 t1 t2 t3 tf tl
  refine (total_any W H A n c A2 m c2 g p C l lc cs w1 GI.out PI.out (by omega) (by omega) CI.out (by omega)).mono ?_
  rintro e w2 ⟨he, hb⟩
  rw [HE.out] at he
  subst he
  have BL := Lib.hid (chain BL.out hb)
  have TB := Lib.hid (Box4.next (w := w1) TB.out hb)
  have GI := Lib.hid (Ints.next (w := w1) GI.out hb)
  have PI := Lib.hid (Ints.next (w := w1) PI.out hb)
  have CI := Lib.hid (Ints.next (w := w1) CI.out hb)
  clear hb
  obtain ⟨t0, t1, t2, t3, tf, tl⟩ := TB.out
  go_wp2_with fail
  clear t0 t1 t2 t3 tf tl
  refine (refValid_any W H A n c A2 m c2 g p w2 GI.out PI.out (by omega) (by omega)).mono ?_
  rintro e w3 ⟨he, hb⟩
  rw [HT.out] at he
  subst he
  have BL := Lib.hid (chain BL.out hb)
  have TB := Lib.hid (Box4.next (w := w2) TB.out hb)
  have GI := Lib.hid (Ints.next (w := w2) GI.out hb)
  have PI := Lib.hid (Ints.next (w := w2) PI.out hb)
  have CI := Lib.hid (Ints.next (w := w2) CI.out hb)
  clear hb
  obtain ⟨t0, t1, t2, t3, tf, tl⟩ := TB.out
  go_wp2_with fail
  refine (known_any w3).mono ?_
  rintro e w4 ⟨rfl, hb⟩
  have BL := Lib.hid (chain BL.out hb)
  have TB := Lib.hid (Box4.next (w := w3) TB.out hb)
  have GI := Lib.hid (Ints.next (w := w3) GI.out hb)
  have PI := Lib.hid (Ints.next (w := w3) PI.out hb)
  have CI := Lib.hid (Ints.next (w := w3) CI.out hb)
  clear hb
  go_wp2
  go_ret
  exact ⟨rfl, BL.out⟩
set_option maxHeartbeats 2000000 in
set_option maxRecDepth 100000 in
theorem law9_out (W H : Int) (A : Option Addr) (n c : Nat) (A2 : Option Addr) (m c2 : Nat) (g p : List Int) (C : Option Addr) (l lc : Nat) (cs : List Int) (w : World) (hG : Ints w w.heap.size A n g) (hP : Ints w w.heap.size A2 m p) (hC : Ints w w.heap.size C l cs) (hn : n ≤ 300) (hm : m ≤ 300) (hl : l ≤ 100) (ht : terB W H g p = true) (ha : allB 0 (W * H - 1) cs = false) : Calls Try.prog 9 #[.agg #[.int .i64 W, .int .i64 H, .slice A n c, .slice A2 m c2], .slice C l lc] w (KnownOk w) := by
  have HT := Lib.hid ht
  have HE := Lib.hid (totE_no (W := W) (H := H) (g := g) (p := p) (cs := cs) (by rw [ht, ha]; rfl))
  have HR := Lib.hid (rtE_no (p := p) ha)
  clear ht ha
  have S0 : Hid (Below w.heap.size w (w.alloc (.cells #[.int .i64 W, .int .i64 H, .slice A n c, .slice A2 m c2] 24)) ∧ Box4 (w.alloc (.cells #[.int .i64 W, .int .i64 H, .slice A n c, .slice A2 m c2] 24)) w.heap.size (.int .i64 W) (.int .i64 H) (.slice A n c) (.slice A2 m c2)) := ⟨(Below.refl _ _).alloc (Nat.le_refl _) _, Box4.new _ _ _ _ _ _⟩
  have GI0 := Lib.hid hG
  have PI0 := Lib.hid hP
  have CI0 := Lib.hid hC
  clear hG hP hC
  go_enter Try.func9, Try.ntmps9
  go_wp2_with fail
  obtain ⟨W0, hW0⟩ : ∃ W0, W0 = (w.alloc (.cells #[.int .i64 W, .int .i64 H, .slice A n c, .slice A2 m c2] 24)) := ⟨_, rfl⟩
  rw [← hW0] at S0
  rw [← hW0]
  clear hW0
  have BL := Lib.hid S0.out.1
  have TB := Lib.hid S0.out.2
  have GI := Lib.hid (GI0.out.next S0.out.1)
  have PI := Lib.hid (PI0.out.next S0.out.1)
  have CI := Lib.hid (CI0.out.next S0.out.1)
  clear S0 GI0 PI0 CI0
  refine (big_any W H A n c A2 m c2 W0).mono ?_
  rintro e w1 ⟨rfl, hb⟩
  have BL := Lib.hid (chain BL.out hb)
  have TB := Lib.hid (Box4.next (w := W0) TB.out hb)
  have GI := Lib.hid (Ints.next (w := W0) GI.out hb)
  have PI := Lib.hid (Ints.next (w := W0) PI.out hb)
  have CI := Lib.hid (Ints.next (w := W0) CI.out hb)
  clear hb
  rw [show bigB n m = false by simp [bigB]; omega]
  have hl2 : decide ((100 : Int) < (l : Int)) = false := decide_eq_false (by omega)
  obtain ⟨t0, t1, t2, t3, tf, tl⟩ := TB.out
  go_wp2_with fail
  clear t0 t1 t2 t3 tf tl
  refine (total_any W H A n c A2 m c2 g p C l lc cs w1 GI.out PI.out (by omega) (by omega) CI.out (by omega)).mono ?_
  rintro e w2 ⟨he, hb⟩
  rw [HE.out] at he
  subst he
  have BL := Lib.hid (chain BL.out hb)
  have TB := Lib.hid (Box4.next (w := w1) TB.out hb)
  have GI := Lib.hid (Ints.next (w := w1) GI.out hb)
  have PI := Lib.hid (Ints.next (w := w1) PI.out hb)
  have CI := Lib.hid (Ints.next (w := w1) CI.out hb)
  clear hb
  obtain ⟨t0, t1, t2, t3, tf, tl⟩ := TB.out
  go_wp2_with fail
  clear t0 t1 t2 t3 tf tl
  refine (refValid_any W H A n c A2 m c2 g p w2 GI.out PI.out (by omega) (by omega)).mono ?_
  rintro e w3 ⟨he, hb⟩
  rw [HT.out] at he
  subst he
  have BL := Lib.hid (chain BL.out hb)
  have TB := Lib.hid (Box4.next (w := w2) TB.out hb)
  have GI := Lib.hid (Ints.next (w := w2) GI.out hb)
  have PI := Lib.hid (Ints.next (w := w2) PI.out hb)
  have CI := Lib.hid (Ints.next (w := w2) CI.out hb)
  clear hb
  obtain ⟨t0, t1, t2, t3, tf, tl⟩ := TB.out
  go_wp2_with fail
  clear t0 t1 t2 t3 tf tl
  refine (refTotal_any W H A n c A2 m c2 g p C l lc cs w3 PI.out CI.out (by omega) HT.out).mono ?_
  rintro e w4 ⟨he, hb⟩
  rw [HR.out] at he
  subst he
  have BL := Lib.hid (chain BL.out hb)
  have TB := Lib.hid (Box4.next (w := w3) TB.out hb)
  have GI := Lib.hid (Ints.next (w := w3) GI.out hb)
  have PI := Lib.hid (Ints.next (w := w3) PI.out hb)
  have CI := Lib.hid (Ints.next (w := w3) CI.out hb)
  clear hb
  go_wp2_with fail
  refine (known_any w4).mono ?_
  rintro e w5 ⟨rfl, hb⟩
  have BL := Lib.hid (chain BL.out hb)
  have TB := Lib.hid (Box4.next (w := w4) TB.out hb)
  have GI := Lib.hid (Ints.next (w := w4) GI.out hb)
  have PI := Lib.hid (Ints.next (w := w4) PI.out hb)
  have CI := Lib.hid (Ints.next (w := w4) CI.out hb)
  clear hb
  go_wp2
  go_ret
  exact ⟨rfl, BL.out⟩
set_option maxHeartbeats 2000000 in
set_option maxRecDepth 100000 in
theorem law9_yes (W H : Int) (A : Option Addr) (n c : Nat) (A2 : Option Addr) (m c2 : Nat) (g p : List Int) (C : Option Addr) (l lc : Nat) (cs : List Int) (w : World) (hG : Ints w w.heap.size A n g) (hP : Ints w w.heap.size A2 m p) (hC : Ints w w.heap.size C l cs) (hn : n ≤ 300) (hm : m ≤ 300) (hl : l ≤ 100) (ht : terB W H g p = true) (ha : allB 0 (W * H - 1) cs = true) : Calls Try.prog 9 #[.agg #[.int .i64 W, .int .i64 H, .slice A n c, .slice A2 m c2], .slice C l lc] w (KnownOk w) := by
  have HT := Lib.hid ht
  obtain ⟨T, hT⟩ : ∃ T, totK p cs cs.length = T := ⟨_, rfl⟩
  have he := totE_yes ht ha
  have hr := rtE_yes (p := p) ha
  rw [hT] at he hr
  have HE := Lib.hid he
  have HR := Lib.hid hr
  clear ht ha hT he hr
  have S0 : Hid (Below w.heap.size w (w.alloc (.cells #[.int .i64 W, .int .i64 H, .slice A n c, .slice A2 m c2] 24)) ∧ Box4 (w.alloc (.cells #[.int .i64 W, .int .i64 H, .slice A n c, .slice A2 m c2] 24)) w.heap.size (.int .i64 W) (.int .i64 H) (.slice A n c) (.slice A2 m c2)) := ⟨(Below.refl _ _).alloc (Nat.le_refl _) _, Box4.new _ _ _ _ _ _⟩
  have GI0 := Lib.hid hG
  have PI0 := Lib.hid hP
  have CI0 := Lib.hid hC
  clear hG hP hC
  go_enter Try.func9, Try.ntmps9
  go_wp2_with fail
  obtain ⟨W0, hW0⟩ : ∃ W0, W0 = (w.alloc (.cells #[.int .i64 W, .int .i64 H, .slice A n c, .slice A2 m c2] 24)) := ⟨_, rfl⟩
  rw [← hW0] at S0
  rw [← hW0]
  clear hW0
  have BL := Lib.hid S0.out.1
  have TB := Lib.hid S0.out.2
  have GI := Lib.hid (GI0.out.next S0.out.1)
  have PI := Lib.hid (PI0.out.next S0.out.1)
  have CI := Lib.hid (CI0.out.next S0.out.1)
  clear S0 GI0 PI0 CI0
  refine (big_any W H A n c A2 m c2 W0).mono ?_
  rintro e w1 ⟨rfl, hb⟩
  have BL := Lib.hid (chain BL.out hb)
  have TB := Lib.hid (Box4.next (w := W0) TB.out hb)
  have GI := Lib.hid (Ints.next (w := W0) GI.out hb)
  have PI := Lib.hid (Ints.next (w := W0) PI.out hb)
  have CI := Lib.hid (Ints.next (w := W0) CI.out hb)
  clear hb
  rw [show bigB n m = false by simp [bigB]; omega]
  have hl2 : decide ((100 : Int) < (l : Int)) = false := decide_eq_false (by omega)
  obtain ⟨t0, t1, t2, t3, tf, tl⟩ := TB.out
  go_wp2_with fail
  clear t0 t1 t2 t3 tf tl
  refine (total_any W H A n c A2 m c2 g p C l lc cs w1 GI.out PI.out (by omega) (by omega) CI.out (by omega)).mono ?_
  rintro e w2 ⟨he, hb⟩
  rw [HE.out] at he
  subst he
  have BL := Lib.hid (chain BL.out hb)
  have TB := Lib.hid (Box4.next (w := w1) TB.out hb)
  have GI := Lib.hid (Ints.next (w := w1) GI.out hb)
  have PI := Lib.hid (Ints.next (w := w1) PI.out hb)
  have CI := Lib.hid (Ints.next (w := w1) CI.out hb)
  clear hb
  obtain ⟨t0, t1, t2, t3, tf, tl⟩ := TB.out
  go_wp2_with fail
  clear t0 t1 t2 t3 tf tl
  refine (refValid_any W H A n c A2 m c2 g p w2 GI.out PI.out (by omega) (by omega)).mono ?_
  rintro e w3 ⟨he, hb⟩
  rw [HT.out] at he
  subst he
  have BL := Lib.hid (chain BL.out hb)
  have TB := Lib.hid (Box4.next (w := w2) TB.out hb)
  have GI := Lib.hid (Ints.next (w := w2) GI.out hb)
  have PI := Lib.hid (Ints.next (w := w2) PI.out hb)
  have CI := Lib.hid (Ints.next (w := w2) CI.out hb)
  clear hb
  obtain ⟨t0, t1, t2, t3, tf, tl⟩ := TB.out
  go_wp2_with fail
  clear t0 t1 t2 t3 tf tl
  refine (refTotal_any W H A n c A2 m c2 g p C l lc cs w3 PI.out CI.out (by omega) HT.out).mono ?_
  rintro e w4 ⟨he, hb⟩
  rw [HR.out] at he
  subst he
  have BL := Lib.hid (chain BL.out hb)
  have TB := Lib.hid (Box4.next (w := w3) TB.out hb)
  have GI := Lib.hid (Ints.next (w := w3) GI.out hb)
  have PI := Lib.hid (Ints.next (w := w3) PI.out hb)
  have CI := Lib.hid (Ints.next (w := w3) CI.out hb)
  clear hb
  go_wp2_with fail
  refine (known_any w4).mono ?_
  rintro e w5 ⟨rfl, hb⟩
  have BL := Lib.hid (chain BL.out hb)
  have TB := Lib.hid (Box4.next (w := w4) TB.out hb)
  have GI := Lib.hid (Ints.next (w := w4) GI.out hb)
  have PI := Lib.hid (Ints.next (w := w4) PI.out hb)
  have CI := Lib.hid (Ints.next (w := w4) CI.out hb)
  clear hb
  go_wp2
  go_ret
  exact ⟨rfl, BL.out⟩

theorem law9 (W H : Int) (A : Option Addr) (n c : Nat) (A2 : Option Addr) (m c2 : Nat) (g p : List Int) (C : Option Addr) (l lc : Nat) (cs : List Int) (w : World) (hG : Ints w w.heap.size A n g) (hP : Ints w w.heap.size A2 m p) (hC : Ints w w.heap.size C l cs) : Calls Try.prog 9 #[.agg #[.int .i64 W, .int .i64 H, .slice A n c, .slice A2 m c2], .slice C l lc] w (KnownOk w) := by
  by_cases hb : 300 < n ∨ 300 < m
  · exact law9_big W H A n c A2 m c2 g p C l lc cs w hG hP hC hb
  · by_cases hl : 100 < l
    · exact law9_long W H A n c A2 m c2 g p C l lc cs w hG hP hC (by omega) (by omega) hl
    · by_cases ht : terB W H g p = true
      · by_cases ha : allB 0 (W * H - 1) cs = true
        · exact law9_yes W H A n c A2 m c2 g p C l lc cs w hG hP hC (by omega) (by omega) (by omega) ht ha
        · exact law9_out W H A n c A2 m c2 g p C l lc cs w hG hP hC (by omega) (by omega) (by omega) ht (by simpa using ha)
      · exact law9_bad W H A n c A2 m c2 g p C l lc cs w hG hP hC (by omega) (by omega) (by omega) (by simpa using ht)
end Go.Proofs.Ytpoceidbiamgaaa
