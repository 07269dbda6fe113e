/- Contract of terrain.Rect. -/
import Derived.Test.YtpoceidbiamgaaaWd
set_option linter.unusedVariables false
set_option linter.unusedSimpArgs false
namespace Go.Proofs.Ytpoceidbiamgaaa
open Go.RowKit
theorem t3_start (W H : Int) (A : Option Addr) (n c : Nat) (A2 : Option Addr) (m c2 : Nat) (a1 a2 b1 b2 : Int) (w : World) : Below w.heap.size w (((w.alloc (.cells #[.int .i64 W, .int .i64 H, .slice A n c, .slice A2 m c2] 24)).alloc (.cells #[.int .i64 a1, .int .i64 a2] 26)).alloc (.cells #[.int .i64 b1, .int .i64 b2] 26)) ∧ Box4 (((w.alloc (.cells #[.int .i64 W, .int .i64 H, .slice A n c, .slice A2 m c2] 24)).alloc (.cells #[.int .i64 a1, .int .i64 a2] 26)).alloc (.cells #[.int .i64 b1, .int .i64 b2] 26)) w.heap.size (.int .i64 W) (.int .i64 H) (.slice A n c) (.slice A2 m c2) ∧ Box2 (((w.alloc (.cells #[.int .i64 W, .int .i64 H, .slice A n c, .slice A2 m c2] 24)).alloc (.cells #[.int .i64 a1, .int .i64 a2] 26)).alloc (.cells #[.int .i64 b1, .int .i64 b2] 26)) (w.heap.size + 1) (.int .i64 a1) (.int .i64 a2) ∧ Box2 (((w.alloc (.cells #[.int .i64 W, .int .i64 H, .slice A n c, .slice A2 m c2] 24)).alloc (.cells #[.int .i64 a1, .int .i64 a2] 26)).alloc (.cells #[.int .i64 b1, .int .i64 b2] 26)) (w.heap.size + 2) (.int .i64 b1) (.int .i64 b2) := by
  refine ⟨(((Below.refl _ _).alloc (Nat.le_refl _) _).alloc (by simp) _).alloc (by simp; omega) _, ((Box4.new w _ _ _ _ _).alloc _).alloc _, ?_, ?_⟩
  · have := (Box2.new (w.alloc (.cells #[.int .i64 W, .int .i64 H, .slice A n c, .slice A2 m c2] 24)) (.int .i64 a1) (.int .i64 a2) 26).alloc (.cells #[.int .i64 b1, .int .i64 b2] 26)
    rwa [alloc_size] at this
  · have := Box2.new ((w.alloc (.cells #[.int .i64 W, .int .i64 H, .slice A n c, .slice A2 m c2] 24)).alloc (.cells #[.int .i64 a1, .int .i64 a2] 26)) (.int .i64 b1) (.int .i64 b2) 26
    rwa [alloc_size, alloc_size] at this
theorem T3.next {w V V' : World} {W H : Int} {A : Option Addr} {n c : Nat} {A2 : Option Addr} {m c2 : Nat} {a1 a2 b1 b2 : Int} (h : Below w.heap.size w V ∧ Box4 V w.heap.size (.int .i64 W) (.int .i64 H) (.slice A n c) (.slice A2 m c2) ∧ Box2 V (w.heap.size + 1) (.int .i64 a1) (.int .i64 a2) ∧ Box2 V (w.heap.size + 2) (.int .i64 b1) (.int .i64 b2)) (hb : Below V.heap.size V V') : Below w.heap.size w V' ∧ Box4 V' w.heap.size (.int .i64 W) (.int .i64 H) (.slice A n c) (.slice A2 m c2) ∧ Box2 V' (w.heap.size + 1) (.int .i64 a1) (.int .i64 a2) ∧ Box2 V' (w.heap.size + 2) (.int .i64 b1) (.int .i64 b2) :=
  ⟨chain h.1 hb, h.2.1.next hb, h.2.2.1.next hb, h.2.2.2.next hb⟩
/-- Ints and errno 0. -/
def IntsR (w : World) (xs : List Int) (e : Ending) (w' : World) : Prop :=
  ∃ A n c, e = .returned (.tuple #[.slice A n c, .int .i64 0]) ∧ Own w' w.heap.size 3 A n c xs ∧ Below w.heap.size w w'
/-- Ints alone. -/
def IntsR1 (w : World) (xs : List Int) (e : Ending) (w' : World) : Prop :=
  ∃ A n c, e = .returned (.slice A n c) ∧ Own w' w.heap.size 3 A n c xs ∧ Below w.heap.size w w'

set_option maxHeartbeats 1000000 in
theorem rect_no (W H : Int) (A : Option Addr) (n c : Nat) (A2 : Option Addr) (m c2 : Nat) (g p : List Int) (a1 a2 b1 b2 : Int) (w : World) (hG : Ints w w.heap.size A n g) (hP : Ints w w.heap.size A2 m p) (hn : n ≤ 4611686018427387904) (hm : m ≤ 4611686018427387904) (h : ¬ (hasB W H g p a1 a2 = true ∧ hasB W H g p b1 b2 = true)) :
    Calls Try.prog 34 #[.agg #[.int .i64 W, .int .i64 H, .slice A n c, .slice A2 m c2], .agg #[.int .i64 a1, .int .i64 a2], .agg #[.int .i64 b1, .int .i64 b2]] w (LineNo w) := by
  have HG := Lib.hid hG
  have HP := Lib.hid hP
  have HV : Hid (terB W H g p = true → insB W H a1 a2 = true → insB W H b1 b2 = true → False) := fun h1 h2 h3 => h ⟨by simp [hasB, h1, h2], by simp [hasB, h1, h3]⟩
  clear hG hP h
  have HS0 := Lib.hid (t3_start W H A n c A2 m c2 a1 a2 b1 b2 w)
  go_enter Try.func34, Try.ntmps34
  go_wp2_with fail
  obtain ⟨W0, hW0⟩ : ∃ W0, W0 = (((w.alloc (.cells #[.int .i64 W, .int .i64 H, .slice A n c, .slice A2 m c2] 24)).alloc (.cells #[.int .i64 a1, .int .i64 a2] 26)).alloc (.cells #[.int .i64 b1, .int .i64 b2] 26)) := ⟨_, rfl⟩
  rw [← hW0] at HS0
  rw [← hW0]
  clear hW0
  refine (valid_any W H A n c A2 m c2 g p W0 (HG.out.next HS0.out.1) (HP.out.next HS0.out.1) hn hm).mono ?_
  rintro e w1 ⟨rfl, hb⟩
  have HS1 := Lib.hid (T3.next HS0.out hb)
  obtain ⟨_, ⟨t0, t1, t2, t3, tf, tl⟩, ⟨u0, u1, uf, ul⟩, ⟨x0, x1, xf, xl⟩⟩ := HS1.out
  clear hb
  obtain ⟨E1, hE1⟩ : ∃ E, E = terB W H g p := ⟨_, rfl⟩
  rw [← hE1] at HV
  rw [← hE1]
  clear hE1
  cases E1
  · go_wp2
    go_ret2
    exact ⟨rfl, HS1.out.1⟩
  · go_wp2_with fail
    clear t0 t1 t2 t3 tf tl u0 u1 uf ul x0 x1 xf xl
    refine (inside_any W H A n c A2 m c2 a1 a2 w1).mono ?_
    rintro e w2 ⟨rfl, hb⟩
    have HS2 := Lib.hid (T3.next HS1.out hb)
    obtain ⟨_, ⟨t0, t1, t2, t3, tf, tl⟩, ⟨u0, u1, uf, ul⟩, ⟨x0, x1, xf, xl⟩⟩ := HS2.out
    clear hb
    obtain ⟨E2, hE2⟩ : ∃ E, E = insB W H a1 a2 := ⟨_, rfl⟩
    rw [← hE2] at HV
    rw [← hE2]
    clear hE2
    cases E2
    · go_wp2
      go_ret2
      exact ⟨rfl, HS2.out.1⟩
    · go_wp2_with fail
      clear t0 t1 t2 t3 tf tl u0 u1 uf ul x0 x1 xf xl
      refine (inside_any W H A n c A2 m c2 b1 b2 w2).mono ?_
      rintro e w3 ⟨rfl, hb⟩
      have HS3 := Lib.hid (T3.next HS2.out hb)
      obtain ⟨_, ⟨t0, t1, t2, t3, tf, tl⟩, ⟨u0, u1, uf, ul⟩, ⟨x0, x1, xf, xl⟩⟩ := HS3.out
      clear hb
      obtain ⟨E3, hE3⟩ : ∃ E, E = insB W H b1 b2 := ⟨_, rfl⟩
      rw [← hE3] at HV
      rw [← hE3]
      clear hE3
      cases E3
      · go_wp2
        go_ret2
        exact ⟨rfl, HS3.out.1⟩
      · exact absurd (HV.out (by simp) (by simp) (by simp)) (fun h => h)

/-- The loops of Rect: what was collected. -/
def RcI (w : World) (W H : Int) (A : Option Addr) (n c : Nat) (A2 : Option Addr) (m c2 : Nat) (a1 a2 b1 b2 : Int) (L : List Int) (l : Value) (wr : World) : Prop :=
  ∃ (R : Option Addr) (k d : Nat), l = .slice R k d ∧ Own wr (w.heap.size + 3) 3 R k d L ∧ (Below w.heap.size w wr ∧ Box4 wr w.heap.size (.int .i64 W) (.int .i64 H) (.slice A n c) (.slice A2 m c2) ∧ Box2 wr (w.heap.size + 1) (.int .i64 a1) (.int .i64 a2) ∧ Box2 wr (w.heap.size + 2) (.int .i64 b1) (.int .i64 b2))
set_option maxHeartbeats 2000000 in
theorem rect_yes (W H : Int) (A : Option Addr) (n c : Nat) (A2 : Option Addr) (m c2 : Nat) (g p : List Int) (a1 a2 b1 b2 : Int) (w : World) (hG : Ints w w.heap.size A n g) (hP : Ints w w.heap.size A2 m p) (hn : n ≤ 4611686018427387904) (hm : m ≤ 4611686018427387904) (ha : hasB W H g p a1 a2 = true) (hb : hasB W H g p b1 b2 = true) :
    Calls Try.prog 34 #[.agg #[.int .i64 W, .int .i64 H, .slice A n c, .slice A2 m c2], .agg #[.int .i64 a1, .int .i64 a2], .agg #[.int .i64 b1, .int .i64 b2]] w (IntsR w (rectAB W a1 a2 b1 b2)) := by
  obtain ⟨i0, hi0, hz0, hz1, hz2⟩ := info_parts info3
  have HG := Lib.hid hG
  have HP := Lib.hid hP
  obtain ⟨hv, k1, k2, k3, k4⟩ := hasB_iff.1 ha
  obtain ⟨_, k5, k6, k7, k8⟩ := hasB_iff.1 hb
  obtain ⟨⟨v1, v2, v3, v4, v5, v6⟩, _⟩ := terB_iff.1 hv
  have ia : insB W H a1 a2 = true := by unfold hasB at ha; simp at ha; exact ha.1
  have ib : insB W H b1 b2 = true := by unfold hasB at hb; simp at hb; exact hb.1
  have HV1 : Hid (∀ V, Ints V V.heap.size A n g → Ints V V.heap.size A2 m p → Calls Try.prog 18 #[.agg #[.int .i64 W, .int .i64 H, .slice A n c, .slice A2 m c2]] V fun e w' => e = .returned (.bool true) ∧ Below V.heap.size V w') := fun V q1 q2 => by rw [← hv]; exact valid_any W H A n c A2 m c2 g p V q1 q2 hn hm
  have HV2 : Hid (∀ V, Calls Try.prog 45 #[.agg #[.int .i64 W, .int .i64 H, .slice A n c, .slice A2 m c2], .agg #[.int .i64 a1, .int .i64 a2]] V fun e w' => e = .returned (.bool true) ∧ Below V.heap.size V w') := fun V => by rw [← ia]; exact inside_any W H A n c A2 m c2 a1 a2 V
  have HV3 : Hid (∀ V, Calls Try.prog 45 #[.agg #[.int .i64 W, .int .i64 H, .slice A n c, .slice A2 m c2], .agg #[.int .i64 b1, .int .i64 b2]] V fun e w' => e = .returned (.bool true) ∧ Below V.heap.size V w') := fun V => by rw [← ib]; exact inside_any W H A n c A2 m c2 b1 b2 V
  clear ia ib hv ha hb
  obtain ⟨y0, hy0⟩ : ∃ y0, min a2 b2 = y0 := ⟨_, rfl⟩
  obtain ⟨y1, hy1⟩ : ∃ y1, max a2 b2 = y1 := ⟨_, rfl⟩
  obtain ⟨X0, hX0⟩ : ∃ x0, min a1 b1 = x0 := ⟨_, rfl⟩
  obtain ⟨X1, hX1⟩ : ∃ x1, max a1 b1 = x1 := ⟨_, rfl⟩
  have e1 : 0 ≤ y0 := by omega
  have e2 : y0 ≤ y1 := by omega
  have e3 : y1 < H := by omega
  have e4 : 0 ≤ X0 := by omega
  have e5 : X0 ≤ X1 := by omega
  have e6 : X1 < W := by omega
  obtain ⟨nx, hnx⟩ : ∃ nx : Nat, X1 - X0 + 1 = nx := ⟨(X1 - X0 + 1).toNat, by omega⟩
  obtain ⟨ny, hny⟩ : ∃ ny : Nat, y1 - y0 + 1 = ny := ⟨(y1 - y0 + 1).toNat, by omega⟩
  have eR : rectAB W a1 a2 b1 b2 = rectL W X0 y0 nx ny := by
    unfold rectAB
    rw [hy0, hy1, hX0, hX1, hnx, hny]
    rfl
  rw [eR]
  have q1 : nx ≤ 64 := by omega
  have q2 : ny ≤ 64 := by omega
  have HNX := Lib.hid hnx
  have HNY := Lib.hid hny
  clear eR hnx hny
  have HS0 := Lib.hid (t3_start W H A n c A2 m c2 a1 a2 b1 b2 w)
  go_enter Try.func34, Try.ntmps34
  go_wp2_with fail
  obtain ⟨W0, hW0⟩ : ∃ W0, W0 = (((w.alloc (.cells #[.int .i64 W, .int .i64 H, .slice A n c, .slice A2 m c2] 24)).alloc (.cells #[.int .i64 a1, .int .i64 a2] 26)).alloc (.cells #[.int .i64 b1, .int .i64 b2] 26)) := ⟨_, rfl⟩
  rw [← hW0] at HS0
  rw [← hW0]
  clear hW0
  refine (HV1.out W0 (HG.out.next HS0.out.1) (HP.out.next HS0.out.1)).mono ?_
  rintro e w1 ⟨rfl, hb⟩
  have HS1 := Lib.hid (T3.next HS0.out hb)
  obtain ⟨_, ⟨t0, t1, t2, t3, tf, tl⟩, ⟨u0, u1, uf, ul⟩, ⟨x0, x1, xf, xl⟩⟩ := HS1.out
  clear hb
  go_wp2_with fail
  clear t0 t1 t2 t3 tf tl u0 u1 uf ul x0 x1 xf xl
  refine (HV2.out w1).mono ?_
  rintro e w2 ⟨rfl, hb⟩
  have HS2 := Lib.hid (T3.next HS1.out hb)
  obtain ⟨_, ⟨t0, t1, t2, t3, tf, tl⟩, ⟨u0, u1, uf, ul⟩, ⟨x0, x1, xf, xl⟩⟩ := HS2.out
  clear hb
  go_wp2_with fail
  clear t0 t1 t2 t3 tf tl u0 u1 uf ul x0 x1 xf xl
  refine (HV3.out w2).mono ?_
  rintro e w3 ⟨rfl, hb⟩
  have HS3 := Lib.hid (T3.next HS2.out hb)
  obtain ⟨_, ⟨t0, t1, t2, t3, tf, tl⟩, ⟨u0, u1, uf, ul⟩, ⟨x0, x1, xf, xl⟩⟩ := HS3.out
  clear hb HS0 HS1 HS2 HV1 HV2 HV3
  go_wp2
  clear t0 t1 t2 t3 tf tl u0 u1 uf ul x0 x1 xf xl
  go_loopw [8, 9] (fun l y wr => ∃ (j : Nat) (Y : Int), j ≤ ny ∧ y = .int .i64 Y ∧ Y = y0 + j ∧ RcI w W H A n c A2 m c2 a1 a2 b1 b2 (rectL W X0 y0 nx j) l wr) (fun _ y _ => (y1 + 1 - intOf y).toNat)
  case atStart => exact ⟨0, y0, Nat.zero_le _, rfl, by omega, none, 0, 0, rfl, Own.none_, HS3.out⟩
  case round =>
    obtain ⟨j, Y, hj, rfl, hY, R, k, d, rfl, ho, hT⟩ := hrel
    have HT := Lib.hid hT
    have HO := Lib.hid ho
    have HYj := Lib.hid hY
    obtain ⟨_, ⟨t0, t1, t2, t3, tf, tl⟩, ⟨u0, u1, uf, ul⟩, ⟨x0, x1, xf, xl⟩⟩ := hT
    clear ho
    by_cases hlt : j < ny
    · have hle : Y ≤ y1 := by have := HNY.out; omega
      have Y0 : 0 ≤ Y := by omega
      clear hY
      go_wp2
      clear t0 t1 t2 t3 tf tl u0 u1 uf ul x0 x1 xf xl
      go_loopw [8, 10] (fun l x wr => ∃ (i : Nat) (X : Int), i ≤ nx ∧ x = .int .i64 X ∧ X = X0 + i ∧ RcI w W H A n c A2 m c2 a1 a2 b1 b2 (rectL W X0 y0 nx j ++ rowL W X0 Y i) l wr) (fun _ x _ => (X1 + 1 - intOf x).toNat)
      case atStart => exact ⟨0, X0, Nat.zero_le _, rfl, by omega, R, k, d, rfl, by rw [show rowL W X0 Y 0 = [] from rfl, List.append_nil]; exact HO.out, HT.out⟩
      case round =>
        clear HT HO
        obtain ⟨i, X, hi, rfl, hX, R, k, d, rfl, ho, hT⟩ := hrel
        have HT := Lib.hid hT
        have HO := Lib.hid ho
        have HXi := Lib.hid hX
        have hk : k ≤ 4160 := by
          have l := ho.len
          rw [List.length_append, rectL_len, rowL_len] at l
          have := Nat.mul_le_mul (show j ≤ 64 by omega) q1
          omega
        obtain ⟨_, ⟨t0, t1, t2, t3, tf, tl⟩, ⟨u0, u1, uf, ul⟩, ⟨x0, x1, xf, xl⟩⟩ := hT
        clear ho
        by_cases hlt2 : i < nx
        · have hle2 : X ≤ X1 := by have := HNX.out; omega
          have X00 : 0 ≤ X := by omega
          clear hX
          go_wp2_with fail
          clear t0 t1 t2 t3 tf tl u0 u1 uf ul x0 x1 xf xl
          refine (place_any W H A n c A2 m c2 X Y wr v1 v2 X00 (by omega) Y0 (by omega)).mono ?_
          rintro e w4 ⟨rfl, hb⟩
          have HT4 := Lib.hid (T3.next HT.out hb)
          have HO4 := Lib.hid (HO.out.next hb)
          obtain ⟨v, hv⟩ : ∃ v, v = Y * W + X := ⟨_, rfl⟩
          rw [← hv]
          have HVV := Lib.hid hv
          clear hv hb
          have hsz : w.heap.size + 3 ≤ w4.heap.size := by have := HT4.out.2.2.2.lt; omega
          go_wp2_with (at_builtin; refine wpList_append_ints (o := ⟨some 61, _, _, _, _, _⟩) _ rfl (.tmp 54) (.tmp 60) 22 rfl (w.heap.size + 3) 3 i0 Try.underlying22 hi0 hz0 hz1 hz2 R k d _ (by rfl) (HO4.out.alloc _) _ _ 1 1 [v] (by rfl) (ints_one _ _ _) (by omega) (by simp; omega) ?_; intro R' d' w5 hown hg hat; have HO5 := Lib.hid hown; have HG5 := Lib.hid hg; clear hown hg hat)
          have HF : Hid (RcI w W H A n c A2 m c2 a1 a2 b1 b2 (rectL W X0 y0 nx j ++ rowL W X0 Y (i + 1)) (.slice R' (k + 1) d') w5) := by
            refine ⟨R', k + 1, d', rfl, ?_, ?_⟩
            · rw [rowL_succ, ← List.append_assoc, ← HXi.out, ← HVV.out]; exact HO5.out
            · obtain ⟨f1, f2, f3, f4⟩ := HT4.out
              exact ⟨(f1.alloc (by omega) _).grown HG5.out (by simp; omega) (fun j e => by have := HO4.out.row_ge j e; omega), (f2.alloc _).grown HG5.out (HO4.out.row_ne (by omega)), (f3.alloc _).grown HG5.out (HO4.out.row_ne (by omega)), (f4.alloc _).grown HG5.out (HO4.out.row_ne (by omega))⟩
          go_wp2
          go_roundw
          case rel => exact ⟨i + 1, X + 1, by omega, rfl, by have := HXi.out; omega, HF.out⟩
          case measure => simp [intOf]; omega
        · have hgt : ¬ X ≤ X1 := by have := HNX.out; omega
          have hgt' : decide (X ≤ X1) = false := decide_eq_false hgt
          obtain rfl : i = nx := by omega
          clear hX
          go_wp2
          go_roundw
          case rel => exact ⟨j + 1, Y + 1, by omega, rfl, by have := HYj.out; omega, R, k, d, rfl, by rw [rectL_succ, ← HYj.out]; exact HO.out, HT.out⟩
          case measure => simp [intOf]; omega
    · have hgt : ¬ Y ≤ y1 := by have := HNY.out; omega
      have hgt' : decide (Y ≤ y1) = false := decide_eq_false hgt
      obtain rfl : j = ny := by omega
      clear hY
      go_wp2
      go_ret2
      exact ⟨R, k, d, rfl, HO.out.less (by omega), HT.out.1⟩
end Go.Proofs.Ytpoceidbiamgaaa
