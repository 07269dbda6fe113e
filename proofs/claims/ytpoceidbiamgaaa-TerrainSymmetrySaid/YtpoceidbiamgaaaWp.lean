/- Contract of bandplanref10.Rect. -/
import Derived.Test.YtpoceidbiamgaaaWk
set_option linter.unusedVariables false
set_option linter.unusedSimpArgs false
namespace Go.Proofs.Ytpoceidbiamgaaa
open Go.RowKit
/-- Index i lies in the rectangle. -/
def inR (W a1 a2 b1 b2 : Int) (i : Nat) : Bool := btwB ((i : Int) % W) a1 b1 && btwB ((i : Int) / W) a2 b2
def filK (W a1 a2 b1 b2 : Int) (k : Nat) : List Int := ((List.range k).filter (inR W a1 a2 b1 b2)).map fun (i : Nat) => (i : Int)
theorem filK_yes {W a1 a2 b1 b2 : Int} {k : Nat} (h : inR W a1 a2 b1 b2 k = true) : filK W a1 a2 b1 b2 (k + 1) = filK W a1 a2 b1 b2 k ++ [(k : Int)] := by simp [filK, List.range_succ, List.filter_append, h]
theorem filK_no {W a1 a2 b1 b2 : Int} {k : Nat} (h : inR W a1 a2 b1 b2 k = false) : filK W a1 a2 b1 b2 (k + 1) = filK W a1 a2 b1 b2 k := by simp [filK, List.range_succ, List.filter_append, h]
theorem filK_len (W a1 a2 b1 b2 : Int) (k : Nat) : (filK W a1 a2 b1 b2 k).length ≤ k := by
  unfold filK
  rw [List.length_map]
  have := List.length_filter_le (inR W a1 a2 b1 b2) (List.range k)
  simpa using this
set_option maxHeartbeats 2000000 in
theorem refRect_any (W H : Int) (A : Option Addr) (n c : Nat) (A2 : Option Addr) (m c2 : Nat) (a1 a2 b1 b2 : Int) (w : World) (N : Nat) (v1 : 1 ≤ W) (v2 : W ≤ 64) (v3 : 1 ≤ H) (v4 : H ≤ 64) (hN : W * H = N) :
    Calls Try.prog 37 #[.agg #[.int .i64 W, .int .i64 H, .slice A n c, .slice A2 m c2], .agg #[.int .i64 a1, .int .i64 a2], .agg #[.int .i64 b1, .int .i64 b2]] w (IntsR1 w (filK W a1 a2 b1 b2 N)) := by
  obtain ⟨i0, hi0, hz0, hz1, hz2⟩ := info_parts info3
  obtain ⟨wb1, wb2⟩ := wh_bd v1 v2 v3 v4
  have hN2 : N ≤ 4096 := by omega
  have HN := Lib.hid hN
  clear hN
  have HS0 := Lib.hid (t3_start W H A n c A2 m c2 a1 a2 b1 b2 w)
  go_enter Try.func37, Try.ntmps37
  go_wp2
  obtain ⟨W0, hW0⟩ : ∃ W0, W0 = (((w.alloc (.cells #[.int .i64 W, .int .i64 H, .slice A n c, .slice A2 m c2] 24)).alloc (.cells #[.int .i64 a1, .int .i64 a2] 26)).alloc (.cells #[.int .i64 b1, .int .i64 b2] 26)) := ⟨_, rfl⟩
  rw [← hW0] at HS0
  rw [← hW0]
  clear hW0
  go_loopw [7, 8] (fun l i wr => ∃ k : Nat, k ≤ N ∧ i = .int .i64 k ∧ RcI w W H A n c A2 m c2 a1 a2 b1 b2 (filK W a1 a2 b1 b2 k) l wr) (fun _ i _ => N - (intOf i).toNat)
  case atStart => exact ⟨0, Nat.zero_le _, rfl, none, 0, 0, rfl, Own.none_, HS0.out⟩
  case round =>
    clear HS0
    obtain ⟨k, hk, rfl, R, r, d, rfl, ho, hT⟩ := hrel
    have HT := Lib.hid hT
    have HO := Lib.hid ho
    have hr : r ≤ 4096 := by have l1 := ho.len; have l2 := filK_len W a1 a2 b1 b2 k; omega
    obtain ⟨_, ⟨t0, t1, t2, t3, tf, tl⟩, ⟨u0, u1, uf, ul⟩, ⟨x0, x1, xf, xl⟩⟩ := hT
    clear ho
    by_cases hlt : k < N
    · have hd : decide ((k : Int) < W * H) = true := decide_eq_true (by have := HN.out; omega)
      go_wp2_with fail
      clear t0 t1 t2 t3 tf tl u0 u1 uf ul x0 x1 xf xl
      refine (refAt_any W H A n c A2 m c2 (k : Int) wr v1 (by omega) (by omega)).mono ?_
      rintro e w1 ⟨rfl, hb⟩
      have HIR : Hid (inR W a1 a2 b1 b2 k = (btwB ((k : Int) % W) a1 b1 && btwB ((k : Int) / W) a2 b2)) := rfl
      obtain ⟨cx, hcx⟩ : ∃ cx, (k : Int) % W = cx := ⟨_, rfl⟩
      obtain ⟨cy, hcy⟩ : ∃ cy, (k : Int) / W = cy := ⟨_, rfl⟩
      rw [hcx, hcy] at HIR
      rw [hcx, hcy]
      clear hcx hcy
      have HT1 := Lib.hid (T3.next HT.out hb)
      have HO1 := Lib.hid (HO.out.next hb)
      clear hb
      have hsz : w.heap.size + 3 ≤ w1.heap.size := by have := HT1.out.2.2.2.lt; omega
      have C1 := Lib.hid (fun V => between_any cx a1 b1 V)
      have C2 := Lib.hid (fun V => between_any cy a2 b2 V)
      have HTA : Hid (Below w.heap.size w (w1.alloc (.cells #[.int .i64 cx, .int .i64 cy] 26)) ∧ Box4 (w1.alloc (.cells #[.int .i64 cx, .int .i64 cy] 26)) w.heap.size (.int .i64 W) (.int .i64 H) (.slice A n c) (.slice A2 m c2) ∧ Box2 (w1.alloc (.cells #[.int .i64 cx, .int .i64 cy] 26)) (w.heap.size + 1) (.int .i64 a1) (.int .i64 a2) ∧ Box2 (w1.alloc (.cells #[.int .i64 cx, .int .i64 cy] 26)) (w.heap.size + 2) (.int .i64 b1) (.int .i64 b2)) := T3.next HT1.out ((Below.refl _ _).alloc (Nat.le_refl _) _)
      have HOA : Hid (Own (w1.alloc (.cells #[.int .i64 cx, .int .i64 cy] 26)) (w.heap.size + 3) 3 R r d (filK W a1 a2 b1 b2 k)) := HO1.out.alloc _
      obtain ⟨_, ⟨t0, t1, t2, t3, tf, tl⟩, ⟨u0, u1, uf, ul⟩, ⟨x0, x1, xf, xl⟩⟩ := HT1.out
      obtain ⟨E1, hE1⟩ : ∃ E, btwB cx a1 b1 = E := ⟨_, rfl⟩
      obtain ⟨E2, hE2⟩ : ∃ E, btwB cy a2 b2 = E := ⟨_, rfl⟩
      rw [hE1, hE2] at HIR
      rw [hE1] at C1
      rw [hE2] at C2
      clear hE1 hE2
      have tok : True := trivial
      cases E1
      · go_wp2_with (first | (go_at_call 52; refine (C1.out _).mono ?_; rintro e w' ⟨rfl, rfl⟩))
        go_roundw
        case rel => exact ⟨k + 1, by omega, by go_num, R, r, d, rfl, by rw [filK_no HIR.out]; exact HOA.out, HTA.out⟩
        case measure => simp [intOf]; omega
      · cases E2
        · go_wp2_with (first | (go_at_call 52; have _t := tok; refine (C1.out _).mono ?_; clear tok; rintro e w' ⟨rfl, rfl⟩) | (go_at_call 52; refine (C2.out _).mono ?_; rintro e w' ⟨rfl, rfl⟩))
          go_roundw
          case rel => exact ⟨k + 1, by omega, by go_num, R, r, d, rfl, by rw [filK_no HIR.out]; exact HOA.out, HTA.out⟩
          case measure => simp [intOf]; omega
        · go_wp2_with (first | (go_at_call 52; have _t := tok; refine (C1.out _).mono ?_; clear tok; rintro e w' ⟨rfl, rfl⟩) | (go_at_call 52; refine (C2.out _).mono ?_; rintro e w' ⟨rfl, rfl⟩) | (at_builtin; refine wpList_append_ints (o := ⟨some 41, _, _, _, _, _⟩) _ rfl (.tmp 38) (.tmp 40) 22 rfl (w.heap.size + 3) 3 i0 Try.underlying22 hi0 hz0 hz1 hz2 R r d _ (by rfl) (HOA.out.alloc _) _ (some ⟨w1.heap.size + 1, 0, none⟩) 1 1 [(k : Int)] (by rfl) (ints_one' _ _ _ (w1.heap.size + 1) (by simp)) (by omega) (by simp; omega) ?_; intro R' d' w5 hown hg hat; have HO5 := Lib.hid hown; have HG5 := Lib.hid hg; clear hown hg hat))
          have HF : Hid (RcI w W H A n c A2 m c2 a1 a2 b1 b2 (filK W a1 a2 b1 b2 (k + 1)) (.slice R' (r + 1) d') w5) := by
            refine ⟨R', r + 1, d', rfl, ?_, ?_⟩
            · rw [filK_yes HIR.out]; exact HO5.out
            · obtain ⟨f1, f2, f3, f4⟩ := HTA.out
              exact ⟨(f1.alloc (by simp; omega) _).grown HG5.out (by simp; omega) (fun j e => by have := HOA.out.row_ge j e; omega), (f2.alloc _).grown HG5.out (HOA.out.row_ne (by omega)), (f3.alloc _).grown HG5.out (HOA.out.row_ne (by omega)), (f4.alloc _).grown HG5.out (HOA.out.row_ne (by omega))⟩
          go_wp2
          go_roundw
          case rel => exact ⟨k + 1, by omega, by go_num, HF.out⟩
          case measure => simp [intOf]; omega
    · have hd : decide ((k : Int) < W * H) = false := decide_eq_false (by have := HN.out; omega)
      obtain rfl : k = N := by omega
      go_wp2
      go_ret
      exact ⟨R, r, d, rfl, HO.out.less (by omega), HT.out.1⟩
end Go.Proofs.Ytpoceidbiamgaaa
