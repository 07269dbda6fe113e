/- TerrainCopies: the walk of the law. -/
import Derived.Test.YtpoceidbiamgaaaWs
set_option linter.unusedVariables false
set_option linter.unusedSimpArgs false
namespace Go.Proofs.Ytpoceidbiamgaaa
open Go.RowKit

theorem tt_start (W H : Int) (A : Option Addr) (n c : Nat) (A2 : Option Addr) (m c2 : Nat) (g p : List Int) (X Y : Int) (D : Option Addr) (k e : Nat) (D2 : Option Addr) (l e2 : Nat) (w : World) : Below w.heap.size w ((w.alloc (.cells #[.int .i64 W, .int .i64 H, .slice A n c, .slice A2 m c2] 24)).alloc (.cells #[.int .i64 X, .int .i64 Y, .slice D k e, .slice D2 l e2] 24)) ∧ Box4 ((w.alloc (.cells #[.int .i64 W, .int .i64 H, .slice A n c, .slice A2 m c2] 24)).alloc (.cells #[.int .i64 X, .int .i64 Y, .slice D k e, .slice D2 l e2] 24)) w.heap.size (.int .i64 W) (.int .i64 H) (.slice A n c) (.slice A2 m c2) ∧ Box4 ((w.alloc (.cells #[.int .i64 W, .int .i64 H, .slice A n c, .slice A2 m c2] 24)).alloc (.cells #[.int .i64 X, .int .i64 Y, .slice D k e, .slice D2 l e2] 24)) (w.heap.size + 1) (.int .i64 X) (.int .i64 Y) (.slice D k e) (.slice D2 l e2) := by
  refine ⟨((Below.refl _ _).alloc (Nat.le_refl _) _).alloc (by simp) _, (Box4.new w _ _ _ _ _).alloc _, ?_⟩
  have := Box4.new (w.alloc (.cells #[.int .i64 W, .int .i64 H, .slice A n c, .slice A2 m c2] 24)) (.int .i64 X) (.int .i64 Y) (.slice D k e) (.slice D2 l e2) 24
  rwa [alloc_size] at this
set_option maxHeartbeats 4000000 in
set_option maxRecDepth 100000 in
theorem law4_big (W H : Int) (A : Option Addr) (n c : Nat) (A2 : Option Addr) (m c2 : Nat) (g p : List Int) (X Y : Int) (D : Option Addr) (k e : Nat) (D2 : Option Addr) (l e2 : Nat) (gD pD : List Int) (w : World) (hG : Ints w w.heap.size A n g) (hP : Ints w w.heap.size A2 m p) (hG' : Ints w w.heap.size D k gD) (hP' : Ints w w.heap.size D2 l pD) (hb : 300 < n ∨ 300 < m) : Calls Try.prog 4 #[.agg #[.int .i64 W, .int .i64 H, .slice A n c, .slice A2 m c2], .agg #[.int .i64 X, .int .i64 Y, .slice D k e, .slice D2 l e2]] w (KnownOk w) := by
  have GI0 := Lib.hid hG
  have PI0 := Lib.hid hP
  have GJ0 := Lib.hid hG'
  have PJ0 := Lib.hid hP'
  have S0 := Lib.hid (tt_start W H A n c A2 m c2 g p X Y D k e D2 l e2 w)
  clear hG hP hG' hP'
  go_enter Try.func4, Try.ntmps4
  go_wp2_with fail
  obtain ⟨W0, hW0⟩ : ∃ W0, W0 = ((w.alloc (.cells #[.int .i64 W, .int .i64 H, .slice A n c, .slice A2 m c2] 24)).alloc (.cells #[.int .i64 X, .int .i64 Y, .slice D k e, .slice D2 l e2] 24)) := ⟨_, rfl⟩
  rw [← hW0] at S0
  rw [← hW0]
  clear hW0
  have BL := Lib.hid S0.out.1
  have TB := Lib.hid S0.out.2.1
  have CB := Lib.hid S0.out.2.2
  have GI := Lib.hid (GI0.out.next S0.out.1)
  have PI := Lib.hid (PI0.out.next S0.out.1)
  have GJ := Lib.hid (GJ0.out.next S0.out.1)
  have PJ := Lib.hid (PJ0.out.next S0.out.1)
  clear S0 GI0 PI0 GJ0 PJ0
  refine (big_any W H A n c A2 m c2 W0).mono ?_
  rintro e w1 ⟨rfl, hb⟩
  have BL := Lib.hid (chain BL.out hb)
  have TB := Lib.hid (Box4.next (w := W0) TB.out hb)
  have CB := Lib.hid (Box4.next (w := W0) CB.out hb)
  have GI := Lib.hid (Ints.next (w := W0) GI.out hb)
  have PI := Lib.hid (Ints.next (w := W0) PI.out hb)
  have GJ := Lib.hid (Ints.next (w := W0) GJ.out hb)
  have PJ := Lib.hid (Ints.next (w := W0) PJ.out hb)
  clear hb
  rw [show bigB n m = true by simp [bigB]; omega]
  go_wp2_with fail
  refine (known_any w1).mono ?_
  rintro e w2 ⟨rfl, hb⟩
  have BL := Lib.hid (chain BL.out hb)
  have TB := Lib.hid (Box4.next (w := w1) TB.out hb)
  have CB := Lib.hid (Box4.next (w := w1) CB.out hb)
  have GI := Lib.hid (Ints.next (w := w1) GI.out hb)
  have PI := Lib.hid (Ints.next (w := w1) PI.out hb)
  have GJ := Lib.hid (Ints.next (w := w1) GJ.out hb)
  have PJ := Lib.hid (Ints.next (w := w1) PJ.out hb)
  clear hb
  go_wp2
  go_ret
  exact ⟨rfl, BL.out⟩
set_option maxHeartbeats 4000000 in
set_option maxRecDepth 100000 in
theorem law4_big2 (W H : Int) (A : Option Addr) (n c : Nat) (A2 : Option Addr) (m c2 : Nat) (g p : List Int) (X Y : Int) (D : Option Addr) (k e : Nat) (D2 : Option Addr) (l e2 : Nat) (gD pD : List Int) (w : World) (hG : Ints w w.heap.size A n g) (hP : Ints w w.heap.size A2 m p) (hG' : Ints w w.heap.size D k gD) (hP' : Ints w w.heap.size D2 l pD) (hn : n ≤ 300) (hm : m ≤ 300) (hb : 300 < k ∨ 300 < l) : Calls Try.prog 4 #[.agg #[.int .i64 W, .int .i64 H, .slice A n c, .slice A2 m c2], .agg #[.int .i64 X, .int .i64 Y, .slice D k e, .slice D2 l e2]] w (KnownOk w) := by
  have GI0 := Lib.hid hG
  have PI0 := Lib.hid hP
  have GJ0 := Lib.hid hG'
  have PJ0 := Lib.hid hP'
  have S0 := Lib.hid (tt_start W H A n c A2 m c2 g p X Y D k e D2 l e2 w)
  clear hG hP hG' hP'
  go_enter Try.func4, Try.ntmps4
  go_wp2_with fail
  obtain ⟨W0, hW0⟩ : ∃ W0, W0 = ((w.alloc (.cells #[.int .i64 W, .int .i64 H, .slice A n c, .slice A2 m c2] 24)).alloc (.cells #[.int .i64 X, .int .i64 Y, .slice D k e, .slice D2 l e2] 24)) := ⟨_, rfl⟩
  rw [← hW0] at S0
  rw [← hW0]
  clear hW0
  have BL := Lib.hid S0.out.1
  have TB := Lib.hid S0.out.2.1
  have CB := Lib.hid S0.out.2.2
  have GI := Lib.hid (GI0.out.next S0.out.1)
  have PI := Lib.hid (PI0.out.next S0.out.1)
  have GJ := Lib.hid (GJ0.out.next S0.out.1)
  have PJ := Lib.hid (PJ0.out.next S0.out.1)
  clear S0 GI0 PI0 GJ0 PJ0
  refine (big_any W H A n c A2 m c2 W0).mono ?_
  rintro e w1 ⟨rfl, hb⟩
  have BL := Lib.hid (chain BL.out hb)
  have TB := Lib.hid (Box4.next (w := W0) TB.out hb)
  have CB := Lib.hid (Box4.next (w := W0) CB.out hb)
  have GI := Lib.hid (Ints.next (w := W0) GI.out hb)
  have PI := Lib.hid (Ints.next (w := W0) PI.out hb)
  have GJ := Lib.hid (Ints.next (w := W0) GJ.out hb)
  have PJ := Lib.hid (Ints.next (w := W0) PJ.out hb)
  clear hb
  rw [show bigB n m = false by simp [bigB]; omega]
  obtain ⟨t0, t1, t2, t3, tf, tl⟩ := TB.out
  obtain ⟨u0, u1, u2, u3, uf, ul⟩ := CB.out
  go_wp2_with fail
  clear t0 t1 t2 t3 tf tl u0 u1 u2 u3 uf ul
  refine (big_any X Y D k e D2 l e2 w1).mono ?_
  rintro e w2 ⟨rfl, hb⟩
  have BL := Lib.hid (chain BL.out hb)
  have TB := Lib.hid (Box4.next (w := w1) TB.out hb)
  have CB := Lib.hid (Box4.next (w := w1) CB.out hb)
  have GI := Lib.hid (Ints.next (w := w1) GI.out hb)
  have PI := Lib.hid (Ints.next (w := w1) PI.out hb)
  have GJ := Lib.hid (Ints.next (w := w1) GJ.out hb)
  have PJ := Lib.hid (Ints.next (w := w1) PJ.out hb)
  clear hb
  rw [show bigB k l = true by simp [bigB]; omega]
  go_wp2_with fail
  refine (known_any w2).mono ?_
  rintro e w3 ⟨rfl, hb⟩
  have BL := Lib.hid (chain BL.out hb)
  have TB := Lib.hid (Box4.next (w := w2) TB.out hb)
  have CB := Lib.hid (Box4.next (w := w2) CB.out hb)
  have GI := Lib.hid (Ints.next (w := w2) GI.out hb)
  have PI := Lib.hid (Ints.next (w := w2) PI.out hb)
  have GJ := Lib.hid (Ints.next (w := w2) GJ.out hb)
  have PJ := Lib.hid (Ints.next (w := w2) PJ.out hb)
  clear hb
  go_wp2
  go_ret
  exact ⟨rfl, BL.out⟩
set_option maxHeartbeats 4000000 in
set_option maxRecDepth 100000 in
theorem law4_main (W H : Int) (A : Option Addr) (n c : Nat) (A2 : Option Addr) (m c2 : Nat) (g p : List Int) (X Y : Int) (D : Option Addr) (k e : Nat) (D2 : Option Addr) (l e2 : Nat) (gD pD : List Int) (w : World) (hG : Ints w w.heap.size A n g) (hP : Ints w w.heap.size A2 m p) (hG' : Ints w w.heap.size D k gD) (hP' : Ints w w.heap.size D2 l pD) (hn : n ≤ 300) (hm : m ≤ 300) (hk : k ≤ 300) (hl : l ≤ 300) : Calls Try.prog 4 #[.agg #[.int .i64 W, .int .i64 H, .slice A n c, .slice A2 m c2], .agg #[.int .i64 X, .int .i64 Y, .slice D k e, .slice D2 l e2]] w (KnownOk w) := by
  obtain ⟨i0, hi0, hz0, hz1, hz2⟩ := info_parts info3
  obtain ⟨E, hE⟩ : ∃ E, eqT W H g p X Y gD pD = E := ⟨_, rfl⟩
  have HE := Lib.hid hE
  have HS := Lib.hid (eqT_self W H g p)
  clear hE
  have GI0 := Lib.hid hG
  have PI0 := Lib.hid hP
  have GJ0 := Lib.hid hG'
  have PJ0 := Lib.hid hP'
  have S0 := Lib.hid (tt_start W H A n c A2 m c2 g p X Y D k e D2 l e2 w)
  clear hG hP hG' hP'
  go_enter Try.func4, Try.ntmps4
  go_wp2_with fail
  obtain ⟨W0, hW0⟩ : ∃ W0, W0 = ((w.alloc (.cells #[.int .i64 W, .int .i64 H, .slice A n c, .slice A2 m c2] 24)).alloc (.cells #[.int .i64 X, .int .i64 Y, .slice D k e, .slice D2 l e2] 24)) := ⟨_, rfl⟩
  rw [← hW0] at S0
  rw [← hW0]
  clear hW0
  have BL := Lib.hid S0.out.1
  have TB := Lib.hid S0.out.2.1
  have CB := Lib.hid S0.out.2.2
  have GI := Lib.hid (GI0.out.next S0.out.1)
  have PI := Lib.hid (PI0.out.next S0.out.1)
  have GJ := Lib.hid (GJ0.out.next S0.out.1)
  have PJ := Lib.hid (PJ0.out.next S0.out.1)
  clear S0 GI0 PI0 GJ0 PJ0
  refine (big_any W H A n c A2 m c2 W0).mono ?_
  rintro e w1 ⟨rfl, hb⟩
  have BL := Lib.hid (chain BL.out hb)
  have TB := Lib.hid (Box4.next (w := W0) TB.out hb)
  have CB := Lib.hid (Box4.next (w := W0) CB.out hb)
  have GI := Lib.hid (Ints.next (w := W0) GI.out hb)
  have PI := Lib.hid (Ints.next (w := W0) PI.out hb)
  have GJ := Lib.hid (Ints.next (w := W0) GJ.out hb)
  have PJ := Lib.hid (Ints.next (w := W0) PJ.out hb)
  clear hb
  rw [show bigB n m = false by simp [bigB]; omega]
  obtain ⟨t0, t1, t2, t3, tf, tl⟩ := TB.out
  obtain ⟨u0, u1, u2, u3, uf, ul⟩ := CB.out
  go_wp2_with fail
  clear t0 t1 t2 t3 tf tl u0 u1 u2 u3 uf ul
  refine (big_any X Y D k e D2 l e2 w1).mono ?_
  rintro e w2 ⟨rfl, hb⟩
  have BL := Lib.hid (chain BL.out hb)
  have TB := Lib.hid (Box4.next (w := w1) TB.out hb)
  have CB := Lib.hid (Box4.next (w := w1) CB.out hb)
  have GI := Lib.hid (Ints.next (w := w1) GI.out hb)
  have PI := Lib.hid (Ints.next (w := w1) PI.out hb)
  have GJ := Lib.hid (Ints.next (w := w1) GJ.out hb)
  have PJ := Lib.hid (Ints.next (w := w1) PJ.out hb)
  clear hb
  rw [show bigB k l = false by simp [bigB]; omega]
  obtain ⟨t0, t1, t2, t3, tf, tl⟩ := TB.out
  obtain ⟨u0, u1, u2, u3, uf, ul⟩ := CB.out
  go_wp2
  have tok : True := trivial
  cases E
  all_goals
    go_region_held3 (fun w' => w'.cell? ⟨w.heap.size, 0, none⟩ = some (.int .i64 W) ∧ w'.cell? ⟨w.heap.size, 1, none⟩ = some (.int .i64 H) ∧ w'.cell? ⟨w.heap.size, 2, none⟩ = some (.slice A n c) ∧ w'.cell? ⟨w.heap.size, 3, none⟩ = some (.slice A2 m c2) ∧ w'.cell? ⟨w.heap.size + 1, 0, none⟩ = some (.int .i64 X) ∧ w'.cell? ⟨w.heap.size + 1, 1, none⟩ = some (.int .i64 Y) ∧ w'.cell? ⟨w.heap.size + 1, 2, none⟩ = some (.slice D k e) ∧ w'.cell? ⟨w.heap.size + 1, 3, none⟩ = some (.slice D2 l e2))
      (first | go_keep | exact ⟨by assumption, by assumption, by assumption, by assumption, by assumption, by assumption, by assumption, by assumption⟩)
      (first | (go_at_call 23; have _t := tok; refine (equal_any W H A n c A2 m c2 g p X Y D k e D2 l e2 gD pD _ (Ints.drw GI.out) (Ints.drw PI.out) (by omega) (by omega) (Ints.drw GJ.out) (Ints.drw PJ.out) (by omega) (by omega)).mono ?_; clear tok; rintro e' w3 ⟨he, hb⟩; rw [HE.out] at he; subst he; have BL := Lib.hid (chain BL.out.drew hb); have TB := Lib.hid (Box4.next (w := w2.drew) TB.out hb); have CB := Lib.hid (Box4.next (w := w2.drew) CB.out hb); have GI := Lib.hid (Ints.next (w := w2.drew) GI.out hb); have PI := Lib.hid (Ints.next (w := w2.drew) PI.out hb); have GJ := Lib.hid (Ints.next (w := w2.drew) GJ.out hb); have PJ := Lib.hid (Ints.next (w := w2.drew) PJ.out hb); clear hb; obtain ⟨t0, t1, t2, t3, tf, tl⟩ := TB.out; obtain ⟨u0, u1, u2, u3, uf, ul⟩ := CB.out) | (go_at_call 24; refine (refEqual_any W H A n c A2 m c2 g p X Y D k e D2 l e2 gD pD w3 GI.out PI.out (by omega) (by omega) GJ.out PJ.out (by omega) (by omega)).mono ?_; rintro e' w4 ⟨he, hb⟩; rw [HE.out] at he; subst he; have BL := Lib.hid (chain BL.out hb); have TB := Lib.hid (Box4.next (w := w3) TB.out hb); have CB := Lib.hid (Box4.next (w := w3) CB.out hb); have GI := Lib.hid (Ints.next (w := w3) GI.out hb); have PI := Lib.hid (Ints.next (w := w3) PI.out hb); have GJ := Lib.hid (Ints.next (w := w3) GJ.out hb); have PJ := Lib.hid (Ints.next (w := w3) PJ.out hb); clear hb; obtain ⟨t0, t1, t2, t3, tf, tl⟩ := TB.out; obtain ⟨u0, u1, u2, u3, uf, ul⟩ := CB.out) | (go_at_call 23; refine (equal_any W H A n c A2 m c2 g p W H A n c A2 m c2 g p w4 GI.out PI.out (by omega) (by omega) GI.out PI.out (by omega) (by omega)).mono ?_; rintro e' w5 ⟨he, hb⟩; rw [HS.out] at he; subst he; have BL := Lib.hid (chain BL.out hb); have TB := Lib.hid (Box4.next (w := w4) TB.out hb); have CB := Lib.hid (Box4.next (w := w4) CB.out hb); have GI := Lib.hid (Ints.next (w := w4) GI.out hb); have PI := Lib.hid (Ints.next (w := w4) PI.out hb); have GJ := Lib.hid (Ints.next (w := w4) GJ.out hb); have PJ := Lib.hid (Ints.next (w := w4) PJ.out hb); clear hb; obtain ⟨t0, t1, t2, t3, tf, tl⟩ := TB.out; obtain ⟨u0, u1, u2, u3, uf, ul⟩ := CB.out))
    go_upto_region 5 with fail
    obtain ⟨W0, hW0⟩ : ∃ W0, W0 = w5 := ⟨_, rfl⟩
    rw [← hW0] at BL TB CB GI PI
    rw [← hW0]
    clear hW0 t0 t1 t2 t3 tf tl u0 u1 u2 u3 uf ul
    have HG0 := GI
    have HP0 := PI
    obtain ⟨t0, t1, t2, t3, tf, tl⟩ := TB.out
    have hS0 : W0.drew.cell? ⟨w.heap.size, 0, none⟩ = some (.int .i64 W) ∧ W0.drew.cell? ⟨w.heap.size, 1, none⟩ = some (.int .i64 H) ∧ W0.drew.cell? ⟨w.heap.size, 2, none⟩ = some (.slice A n c) ∧ W0.drew.cell? ⟨w.heap.size, 3, none⟩ = some (.slice A2 m c2) ∧ Below W0.heap.size W0 W0.drew ∧ w.heap.size < W0.heap.size := ⟨t0, t1, t2, t3, (Below.refl _ _).drew, tl⟩
    go_cut [5] (fun s9 wx => CopS W0 W H g p s9 wx)
    case first =>
      go_region_held3 (fun w' => w'.cell? ⟨w.heap.size, 0, none⟩ = some (.int .i64 W) ∧ w'.cell? ⟨w.heap.size, 1, none⟩ = some (.int .i64 H) ∧ w'.cell? ⟨w.heap.size, 2, none⟩ = some (.slice A n c) ∧ w'.cell? ⟨w.heap.size, 3, none⟩ = some (.slice A2 m c2) ∧ Below W0.heap.size W0 w' ∧ w.heap.size < W0.heap.size)
        (first | (with_reducible assumption) | (with_reducible exact S5_alloc _ (by assumption)) | (with_reducible exact S5_alloc_drew _ (by assumption)) | (with_reducible exact S5_grown (by assumption) hg2) | (with_reducible exact S5_grown (by assumption) hg1) | (with_reducible exact S5_realloc _ _ lw2 (by assumption)) | (with_reducible refine S5_set4 (by assumption) ?_; omega))
        (first | (refine step_append_empty _ (by rfl) (.tmp 33) (.tmp 35) 22 (by rfl) i0 Try.underlying22 hi0 hz0 hz1 hz2 _ (by rfl) W0.heap.size A n c g (by rfl) (HG0.out.below (S5_below (by assumption))) (by omega) ?_; intro A' c' w1 hr1 hg1 ha1; have hB1 := Lib.hid (S5_below (by assumption) : Below W0.heap.size W0 _); obtain ⟨hc1, hf1⟩ := grown_rules hg1; have HR1 := Lib.hid hr1; have HA1 := Lib.hid ha1; have HG1 := Lib.hid hg1; have lw1 : W0.heap.size ≤ w1.heap.size := Nat.le_trans hB1.out.size hg1.size; simp only [alloc_size, drew_size] at hc1 hf1; clear hr1 ha1) | (refine step_append_empty _ (by rfl) (.tmp 37) (.tmp 39) 22 (by rfl) i0 Try.underlying22 hi0 hz0 hz1 hz2 _ (by rfl) W0.heap.size A2 m c2 p (by rfl) (HP0.out.below (S5_below (by assumption))) (by omega) ?_; intro A2' c2' w2 hr2 hg2 ha2; obtain ⟨hc2, hf2⟩ := grown_rules hg2; obtain ⟨hc3, hf3⟩ := rules21 hg2 HG1.out (by first | exact Below.refl _ _ | exact (Below.refl _ _).alloc (Nat.le_refl _) _ | exact ((Below.refl _ _).alloc (Nat.le_refl _) _).alloc (by simp) _); have HR2 := Lib.hid hr2; have HA2 := Lib.hid ha2; have HG2 := Lib.hid hg2; have lw2 : W0.heap.size ≤ w2.heap.size := Nat.le_trans (S5_below (by assumption) : Below W0.heap.size W0 _).size hg2.size; simp only [alloc_size, drew_size] at hc2 hf2 hc3 hf3; clear hr2 ha2))
      all_goals (go_wp2_with fail; go_meet)
      all_goals first | ((with_reducible refine copS_new HR1.out HG1.out HA1.out HR2.out HG2.out HA2.out hB1.out ?_); (next => first | exact Below.refl _ _ | exact (Below.refl _ _).alloc (Nat.le_refl _) _ | exact ((Below.refl _ _).alloc (Nat.le_refl _) _).alloc (by simp) _)) | ((with_reducible refine copS_set (a := .int .i64 0) (b := .int .i64 0) (c' := .slice none 0 0) (d := .slice none 0 0) HR1.out HG1.out HA1.out HR2.out HG2.out HA2.out hB1.out ?_ ?_ ?_ ?_); (next => first | exact Below.refl _ _ | exact (Below.refl _ _).alloc (Nat.le_refl _) _ | exact ((Below.refl _ _).alloc (Nat.le_refl _) _).alloc (by simp) _); (next => repeat (first | ((with_reducible refine Box4.new' _ _ _ _ _ _ _ ?_); (simp; done)) | (with_reducible refine Box4.alloc ?_ _) | (with_reducible refine Box4.drew' ?_) | ((with_reducible refine Box4.grown ?_ HG1.out (by simp))))); (next => omega); (next => first | omega | (simp; done) | (simp; omega)))
    case rest =>
      obtain ⟨q5, A5, n5, c5, A6, m6, c6, rfl, hbq, r1, r2, _, _, _, hq0, hbl⟩ := hcut
      obtain ⟨wB, hwB⟩ : ∃ wB, wB = wc := ⟨_, rfl⟩
      rw [← hwB] at hbq r1 r2 hbl
      rw [← hwB]
      clear hwB t0 t1 t2 t3 tf tl hS0 HG0 HP0 CB
      have BL := Lib.hid (chain BL.out hbl)
      have TB := Lib.hid (TB.out.next hbl)
      have GI := Lib.hid (GI.out.next hbl)
      have PI := Lib.hid (PI.out.next hbl)
      have SB := Lib.hid hbq
      have WG := Lib.hid r1.ints
      have WP := Lib.hid r2.ints
      obtain rfl : n5 = n := by have e1 := r1.1; have e2 := GI.out.1; omega
      obtain rfl : m6 = m := by have e1 := r2.1; have e2 := PI.out.1; omega
      clear hbq r1 r2 hbl GJ PJ
      have hss : w.heap.size < wB.heap.size := TB.out.lt
      have hsq : q5 < wB.heap.size := SB.out.lt
      obtain ⟨t0, t1, t2, t3, tf, tl⟩ := TB.out
      go_wp2_with fail
      clear t0 t1 t2 t3 tf tl
      refine (copy_any W H A n5 c A2 m6 c2 g p wB GI.out PI.out (by omega) (by omega)).mono ?_
      rintro e' w7 ⟨R, n7, c7, R2, m7, d7, rfl, o1, o2, hd, hb⟩
      obtain rfl : n7 = n5 := by have e1 := o1.len; have e2 := GI.out.1; omega
      obtain rfl : m7 = m6 := by have e1 := o2.len; have e2 := PI.out.1; omega
      obtain ⟨V7, hV7⟩ : ∃ V, V = w7.alloc (.cells #[.int .i64 W, .int .i64 H, .slice R n7 c7, .slice R2 m7 d7] 24) := ⟨_, rfl⟩
      have hb7 : Below w7.heap.size w7 V7 := by rw [hV7]; exact (Below.refl _ _).alloc (Nat.le_refl _) _
      have CP : Hid (CpI wB w7.heap.size W H R n7 c7 R2 m7 d7 V7) := ⟨g, p, o1.next hb7, o2.next hb7, by rw [hV7]; exact Box4.new _ _ _ _ _ _, chain hb hb7⟩
      have CG := Lib.hid (o1.next hb7).ints
      have CPI := Lib.hid (o2.next hb7).ints
      have HR1 : Hid (∀ b, R = some ⟨b, 0, none⟩ → b ≠ w7.heap.size) := fun b e => by have := (o1.lt b e).2; omega
      have HR2 : Hid (∀ b, R2 = some ⟨b, 0, none⟩ → b ≠ w7.heap.size) := fun b e => by have := (o2.lt b e).2; omega
      have HD := Lib.hid hd
      have TB7 := Lib.hid (TB.out.next CP.out.bl)
      have hVs : w7.heap.size < V7.heap.size := by rw [hV7]; simp
      obtain ⟨t0, t1, t2, t3, tf, tl⟩ := TB.out.next hb
      have hne : w.heap.size ≠ w7.heap.size := by have := hb.size; omega
      have hlt7 : w.heap.size < w7.heap.size := by have := hb.size; omega
      go_wp2_with fail
      rw [← hV7]
      clear hV7 hb7 hb o1 o2 hd t0 t1 t2 t3 tf tl
      refine (refEqual_any W H R n7 c7 R2 m7 d7 g p W H A n7 c A2 m7 c2 g p V7 CG.out CPI.out (by omega) (by omega) (GI.out.next CP.out.bl) (PI.out.next CP.out.bl) (by omega) (by omega)).mono ?_
      rintro e' w8 ⟨he, hb⟩
      rw [HS.out] at he
      subst he
      have CP8 : Hid (CpI wB w7.heap.size W H R n7 c7 R2 m7 d7 w8) := by
        obtain ⟨xs, ys, f1, f2, f3, f4⟩ := CP.out
        exact ⟨xs, ys, f1.next hb, f2.next hb, f3.next hb, chain f4 hb⟩
      obtain ⟨Q, hQ⟩ : ∃ Q, w7.heap.size = Q := ⟨_, rfl⟩
      rw [hQ] at CP8 HR1 HR2
      rw [hQ]
      clear hb CP CG CPI TB7 hQ hne hlt7 hVs
      go_wp2
      go_loopw [7] (fun i wr => ∃ j : Nat, j ≤ n7 ∧ i = .int .i64 j ∧ CpI wB Q W H R n7 c7 R2 m7 d7 wr) (fun i _ => n7 - (intOf i).toNat)
      case atStart => exact ⟨0, Nat.zero_le _, rfl, CP8.out⟩
      case round =>
        clear CP8
        obtain ⟨j, hj, rfl, hcp⟩ := hrel
        have CP := Lib.hid hcp
        obtain ⟨z0, z1, z2, z3, zf, zl⟩ := hcp.box
        clear hcp
        by_cases hlt : j < n7
        · obtain ⟨b, x, rfl, hb0, c1, f1⟩ := CP.out.row1 hlt
          have hbq := HR1.out b rfl
          have i1 : (0 : Int) ≤ (j : Int) := by omega
          have i2 : (j : Int) < (n7 : Int) := by omega
          go_wp2
          go_roundw
          case rel => exact ⟨j + 1, by omega, by go_num, CP.out.st1 HD.out hbq hb0 j _⟩
          case measure => simp [intOf]; omega
        · obtain rfl : j = n7 := by omega
          go_wp2
          go_loopw [8] (fun i wr => ∃ j' : Nat, j' ≤ m7 ∧ i = .int .i64 j' ∧ CpI wB Q W H R j c7 R2 m7 d7 wr) (fun i _ => m7 - (intOf i).toNat)
          case atStart => exact ⟨0, Nat.zero_le _, rfl, CP.out⟩
          case round =>
            clear CP z0 z1 z2 z3 zf zl
            obtain ⟨j', hj', rfl, hcp⟩ := hrel
            have CP := Lib.hid hcp
            obtain ⟨z0, z1, z2, z3, zf, zl⟩ := hcp.box
            clear hcp
            by_cases hlt' : j' < m7
            · obtain ⟨b, x, rfl, hb0, c1, f1⟩ := CP.out.row2 hlt'
              have hbq := HR2.out b rfl
              have i1 : (0 : Int) ≤ (j' : Int) := by omega
              have i2 : (j' : Int) < (m7 : Int) := by omega
              go_wp2
              go_roundw
              case rel => exact ⟨j' + 1, by omega, by go_num, CP.out.st2 HD.out hbq hb0 j' _⟩
              case measure => simp [intOf]; omega
            · obtain rfl : j' = m7 := by omega
              obtain ⟨t0, t1, t2, t3, tf, tl⟩ := TB.out.next CP.out.bl
              obtain ⟨s0, s1, s2, s3, sf, sl⟩ := SB.out.next CP.out.bl
              go_wp2_with fail
              clear t0 t1 t2 t3 tf tl s0 s1 s2 s3 sf sl z0 z1 z2 z3 zf zl
              refine (refEqual_any W H A j c A2 j' c2 g p W H A5 j c5 A6 j' c6 g p wr (GI.out.next CP.out.bl) (PI.out.next CP.out.bl) (by omega) (by omega) (WG.out.next CP.out.bl) (WP.out.next CP.out.bl) (by omega) (by omega)).mono ?_
              rintro e' w9 ⟨he, hb⟩
              rw [HS.out] at he
              subst he
              have BL := Lib.hid (chain (chain BL.out CP.out.bl) hb)
              clear hb
              go_wp2_with fail
              refine (known_any w9).mono ?_
              rintro e' w10 ⟨rfl, hb⟩
              have BL := Lib.hid (chain BL.out hb)
              clear hb
              go_wp2
              go_ret
              exact ⟨rfl, BL.out⟩

theorem law4 (W H : Int) (A : Option Addr) (n c : Nat) (A2 : Option Addr) (m c2 : Nat) (g p : List Int) (X Y : Int) (D : Option Addr) (k e : Nat) (D2 : Option Addr) (l e2 : Nat) (gD pD : List Int) (w : World) (hG : Ints w w.heap.size A n g) (hP : Ints w w.heap.size A2 m p) (hG' : Ints w w.heap.size D k gD) (hP' : Ints w w.heap.size D2 l pD) : Calls Try.prog 4 #[.agg #[.int .i64 W, .int .i64 H, .slice A n c, .slice A2 m c2], .agg #[.int .i64 X, .int .i64 Y, .slice D k e, .slice D2 l e2]] w (KnownOk w) := by
  by_cases hb : 300 < n ∨ 300 < m
  · exact law4_big W H A n c A2 m c2 g p X Y D k e D2 l e2 gD pD w hG hP hG' hP' hb
  · by_cases hb2 : 300 < k ∨ 300 < l
    · exact law4_big2 W H A n c A2 m c2 g p X Y D k e D2 l e2 gD pD w hG hP hG' hP' (by omega) (by omega) hb2
    · exact law4_main W H A n c A2 m c2 g p X Y D k e D2 l e2 gD pD w hG hP hG' hP' (by omega) (by omega) (by omega) (by omega)
end Go.Proofs.Ytpoceidbiamgaaa
