/- Contract of bandplanref10.Valid. -/
import Derived.Test.YtpoceidbiamgaaaW2
set_option linter.unusedVariables false
set_option linter.unusedSimpArgs false
namespace Go.Proofs.Ytpoceidbiamgaaa
open Go.RowKit

theorem terB_end {W H : Int} {g p : List Int} {k : Nat} (h : 1 ≤ W ∧ W ≤ 64 ∧ 1 ≤ H ∧ H ≤ 64 ∧ (g.length : Int) = W * H ∧ (p.length : Int) = W * H) (hk : k = g.length) (h1 : allB 0 9000 (g.take k) = true) (h2 : allB 0 1000000 (p.take k) = true) : terB W H g p = true := by
  rw [List.take_of_length_le (by omega)] at h1 h2
  exact terB_iff.2 ⟨h, h1, h2⟩
theorem terB_g {W H : Int} {g p : List Int} (h : allB 0 9000 g = false) : terB W H g p = false := by simp only [terB, h, Bool.false_and, Bool.and_false]
theorem terB_p {W H : Int} {g p : List Int} (h : allB 0 1000000 p = false) : terB W H g p = false := by simp only [terB, h, Bool.and_false]
theorem inB_yes {x lo hi : Int} (h1 : lo ≤ x) (h2 : x ≤ hi) : inB x lo hi = true := by simp [inB, h1, h2]
theorem inB_no {x lo hi : Int} (h : x < lo ∨ hi < x) : inB x lo hi = false := by simp [inB]; omega

set_option maxHeartbeats 1000000 in
theorem refValid_any (W H : Int) (A : Option Addr) (n c : Nat) (A2 : Option Addr) (m c2 : Nat) (g p : List Int) (w : World) (hG : Ints w w.heap.size A n g) (hP : Ints w w.heap.size A2 m p) (hn : n ≤ 4611686018427387904) (hm : m ≤ 4611686018427387904) :
    Calls Try.prog 19 #[.agg #[.int .i64 W, .int .i64 H, .slice A n c, .slice A2 m c2]] w fun e w' => e = .returned (.bool (terB W H g p)) ∧ Below w.heap.size w w' := by
  have HB := (Below.refl w.heap.size w).alloc (Nat.le_refl _) (.cells #[.int .i64 W, .int .i64 H, .slice A n c, .slice A2 m c2] 24)
  have hB := Lib.hid HB
  have hl1 := hG.1
  have hl2 := hP.1
  have HG := Lib.hid (hG.next HB)
  have HP := Lib.hid (hP.next HB)
  clear HB hG hP
  by_cases k : 1 ≤ W ∧ W ≤ 64 ∧ 1 ≤ H ∧ H ≤ 64
  · obtain ⟨k1, k2, k3, k4⟩ := k
    obtain ⟨k5, k6⟩ := wh_bd k1 k2 k3 k4
    by_cases j1 : (n : Int) = W * H
    · by_cases j2 : (m : Int) = W * H
      · have b1 : ((n : Int) != W * H) = false := by simp [j1]
        have b2 : ((m : Int) != W * H) = false := by simp [j2]
        have HW := Lib.hid (show 1 ≤ W ∧ W ≤ 64 ∧ 1 ≤ H ∧ H ≤ 64 ∧ (g.length : Int) = W * H ∧ (p.length : Int) = W * H by rw [hl1, hl2]; exact ⟨k1, k2, k3, k4, j1, j2⟩)
        obtain ⟨b, off, rfl, hb, hc⟩ := HG.out.2 (by omega)
        obtain ⟨b', off', rfl, hb', hc'⟩ := HP.out.2 (by omega)
        obtain rfl : m = n := by omega
        have HC := Lib.hid hc
        have HC' := Lib.hid hc'
        have HJ := Lib.hid j1
        have HL1 := Lib.hid hl1
        have HL2 := Lib.hid hl2
        clear j1 j2 hl1 hl2 hc hc' HG HP
        go_enter Try.func19, Try.ntmps19
        go_wp2
        go_loop [4] (fun i => ∃ k : Nat, k ≤ m ∧ i = .int .i64 k ∧ allB 0 9000 (g.take k) = true ∧ allB 0 1000000 (p.take k) = true) (fun i => m - (intOf i).toNat)
        case atStart => exact ⟨0, by omega, rfl, by simp [allB], by simp [allB]⟩
        case round =>
          obtain ⟨k, hk, rfl, ha, ha'⟩ := hrel
          by_cases hlt : k < m
          · have hck := HC.out k hlt
            have hck' := HC'.out k hlt
            have hkm : (k : Int) < W * H := by have := HJ.out; omega
            have HT := Lib.hid (allB_take (by have := HL1.out; omega) ha)
            have HT' := Lib.hid (allB_take (by have := HL2.out; omega) ha')
            have HF := Lib.hid (fun hx => terB_g (W := W) (H := H) (p := p) (allB_not (lo := 0) (hi := 9000) (xs := g) (k := k) (by have := HL1.out; omega) hx))
            have HF' := Lib.hid (fun hx => terB_p (W := W) (H := H) (g := g) (allB_not (lo := 0) (hi := 1000000) (xs := p) (k := k) (by have := HL2.out; omega) hx))
            obtain ⟨x, hx⟩ : ∃ x, x = g[k]?.getD 0 := ⟨_, rfl⟩
            obtain ⟨y, hy⟩ : ∃ y, y = p[k]?.getD 0 := ⟨_, rfl⟩
            rw [← hx] at hck HT HF
            rw [← hy] at hck' HT' HF'
            clear hx hy ha ha'
            by_cases x0 : x < 0
            · go_wp2
              go_ret
              exact ⟨ret_bool (HF.out (inB_no (.inl x0))).symm, hB.out⟩
            · by_cases x1 : 9000 < x
              · go_wp2
                go_ret
                exact ⟨ret_bool (HF.out (inB_no (.inr x1))).symm, hB.out⟩
              · by_cases y0 : y < 0
                · go_wp2
                  go_ret
                  exact ⟨ret_bool (HF'.out (inB_no (.inl y0))).symm, hB.out⟩
                · by_cases y1 : 1000000 < y
                  · go_wp2
                    go_ret
                    exact ⟨ret_bool (HF'.out (inB_no (.inr y1))).symm, hB.out⟩
                  · go_wp2
                    go_round
                    case rel => exact ⟨k + 1, by omega, by go_num, HT.out (inB_yes (by omega) (by omega)), HT'.out (inB_yes (by omega) (by omega))⟩
                    case measure => simp [intOf]; omega
          · have hkm : ¬ (k : Int) < W * H := by have := HJ.out; omega
            have HA := Lib.hid ha
            have HA' := Lib.hid ha'
            clear ha ha'
            go_wp2
            go_ret
            exact ⟨ret_bool (terB_end HW.out (by have := HL1.out; omega) HA.out HA'.out).symm, hB.out⟩
      · rw [terB_no (fun h => j2 (by rw [hl2] at h; exact h.2.2.2.2.2))]
        have b1 : ((n : Int) != W * H) = false := by simp [j1]
        have b3 : ((m : Int) != W * H) = true := by simp [j2]
        clear hl1 hl2 j1 j2
        go_enter Try.func19, Try.ntmps19
        go_wp2
        go_ret
        exact ⟨rfl, hB.out⟩
    · rw [terB_no (fun h => j1 (by rw [hl1] at h; exact h.2.2.2.2.1))]
      have b3 : ((n : Int) != W * H) = true := by simp [j1]
      clear hl1 hl2 j1
      go_enter Try.func19, Try.ntmps19
      go_wp2
      go_ret
      exact ⟨rfl, hB.out⟩
  · rw [terB_no (fun h => k ⟨h.1, h.2.1, h.2.2.1, h.2.2.2.1⟩)]
    clear hl1 hl2
    have kk : W < 1 ∨ (1 ≤ W ∧ 64 < W) ∨ (1 ≤ W ∧ W ≤ 64 ∧ H < 1) ∨ (1 ≤ W ∧ W ≤ 64 ∧ 1 ≤ H ∧ 64 < H) := by omega
    clear k
    rcases kk with k1 | ⟨k1, k2⟩ | ⟨k1, k2, k3⟩ | ⟨k1, k2, k3, k4⟩
    all_goals
      go_enter Try.func19, Try.ntmps19
      go_wp2
      go_ret
      exact ⟨rfl, hB.out⟩
end Go.Proofs.Ytpoceidbiamgaaa
