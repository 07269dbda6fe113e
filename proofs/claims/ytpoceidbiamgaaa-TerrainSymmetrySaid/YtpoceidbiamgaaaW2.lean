/- Contracts of terrain.Valid and bandplanref10.Valid. -/
import Derived.Test.YtpoceidbiamgaaaW1
set_option linter.unusedVariables false
set_option linter.unusedSimpArgs false
namespace Go.Proofs.Ytpoceidbiamgaaa
open Go.RowKit

theorem within_yes (x lo hi : Int) (w : World) (h1 : lo ≤ x) (h2 : x ≤ hi) : Calls Try.prog 42 #[.int .i64 x, .int .i64 lo, .int .i64 hi] w fun e w' => e = .returned (.bool true) ∧ w = w' := by
  have := within_any x lo hi w
  rw [show inB x lo hi = true by simp [inB, h1, h2]] at this
  exact this
theorem within_no (x lo hi : Int) (w : World) (h : x < lo ∨ hi < x) : Calls Try.prog 42 #[.int .i64 x, .int .i64 lo, .int .i64 hi] w fun e w' => e = .returned (.bool false) ∧ w = w' := by
  have := within_any x lo hi w
  rw [show inB x lo hi = false by simp [inB]; omega] at this
  exact this

/-- A terrain is valid: what both Valids answer. -/
def terB (W H : Int) (g p : List Int) : Bool := decide (1 ≤ W ∧ W ≤ 64 ∧ 1 ≤ H ∧ H ≤ 64 ∧ (g.length : Int) = W * H ∧ (p.length : Int) = W * H) && (allB 0 9000 g && allB 0 1000000 p)
theorem terB_iff {W H : Int} {g p : List Int} : terB W H g p = true ↔ (1 ≤ W ∧ W ≤ 64 ∧ 1 ≤ H ∧ H ≤ 64 ∧ (g.length : Int) = W * H ∧ (p.length : Int) = W * H) ∧ allB 0 9000 g = true ∧ allB 0 1000000 p = true := by simp [terB]
theorem terB_no {W H : Int} {g p : List Int} (h : ¬ (1 ≤ W ∧ W ≤ 64 ∧ 1 ≤ H ∧ H ≤ 64 ∧ (g.length : Int) = W * H ∧ (p.length : Int) = W * H)) : terB W H g p = false := by simp only [terB, decide_eq_false h, Bool.false_and]
theorem wh_bd {W H : Int} (h1 : 1 ≤ W) (h2 : W ≤ 64) (h3 : 1 ≤ H) (h4 : H ≤ 64) : 1 ≤ W * H ∧ W * H ≤ 4096 := by
  have a : 1 * 1 ≤ W * H := Int.mul_le_mul h1 h3 (by omega) (by omega)
  have b : W * H ≤ 64 * 64 := Int.mul_le_mul h2 h4 (by omega) (by omega)
  omega

set_option maxHeartbeats 1000000 in
theorem valid_any (W H : Int) (A : Option Addr) (n c : Nat) (A2 : Option Addr) (m c2 : Nat) (g p : List Int) (w : World) (hG : Ints w w.heap.size A n g) (hP : Ints w w.heap.size A2 m p) (hn : n ≤ 4611686018427387904) (hm : m ≤ 4611686018427387904) :
    Calls Try.prog 18 #[.agg #[.int .i64 W, .int .i64 H, .slice A n c, .slice A2 m c2]] w fun e w' => e = .returned (.bool (terB W H g p)) ∧ Below w.heap.size w w' := by
  have HB := (Below.refl w.heap.size w).alloc (Nat.le_refl _) (.cells #[.int .i64 W, .int .i64 H, .slice A n c, .slice A2 m c2] 24)
  have hB := Lib.hid HB
  have C1 := Lib.hid (allWithin_any A n c g 0 9000 _ (hG.next HB) hn)
  have C2 := Lib.hid (allWithin_any A2 m c2 p 0 1000000 _ (hP.next HB) hm)
  have hl1 := hG.1
  have hl2 := hP.1
  clear HB hG hP
  by_cases k : 1 ≤ W ∧ W ≤ 64 ∧ 1 ≤ H ∧ H ≤ 64
  · obtain ⟨k1, k2, k3, k4⟩ := k
    obtain ⟨k5, k6⟩ := wh_bd k1 k2 k3 k4
    by_cases j1 : (n : Int) = W * H
    · by_cases j2 : (m : Int) = W * H
      · have ev : terB W H g p = (allB 0 9000 g && allB 0 1000000 p) := by rw [terB, decide_eq_true (by rw [hl1, hl2]; exact ⟨k1, k2, k3, k4, j1, j2⟩), Bool.true_and]
        rw [ev]
        have b1 : ((n : Int) != W * H) = false := by simp [j1]
        have b2 : ((m : Int) != W * H) = false := by simp [j2]
        clear ev hl1 hl2 j1 j2
        obtain ⟨E1, hE1⟩ : ∃ E1, allB 0 9000 g = E1 := ⟨_, rfl⟩
        obtain ⟨E2, hE2⟩ : ∃ E2, allB 0 1000000 p = E2 := ⟨_, rfl⟩
        rw [hE1] at C1 ⊢
        rw [hE2] at C2 ⊢
        clear hE1 hE2
        have tok1 : True := trivial
        cases E1 <;> cases E2
        all_goals
          go_enter Try.func18, Try.ntmps18
          go_wp2_with (first | (go_at_call 42; (first | refine (within_yes _ _ _ _ (by omega) (by omega)).mono ?_ | refine (within_no _ _ _ _ (by omega)).mono ?_); rintro e w' ⟨rfl, rfl⟩) | (go_at_call 44; have _t := tok1; refine C1.out.mono ?_; clear tok1; rintro e w' ⟨rfl, rfl⟩) | (go_at_call 44; refine C2.out.mono ?_; rintro e w' ⟨rfl, rfl⟩))
          go_ret
          exact ⟨rfl, hB.out⟩
      · rw [terB_no (fun h => j2 (by rw [hl2] at h; exact h.2.2.2.2.2))]
        have b1 : ((n : Int) != W * H) = false := by simp [j1]
        have b3 : ((m : Int) != W * H) = true := by simp [j2]
        clear hl1 hl2 j1 j2
        go_enter Try.func18, Try.ntmps18
        go_wp2_with (first | (go_at_call 42; (first | refine (within_yes _ _ _ _ (by omega) (by omega)).mono ?_ | refine (within_no _ _ _ _ (by omega)).mono ?_); rintro e w' ⟨rfl, rfl⟩))
        go_ret
        exact ⟨rfl, hB.out⟩
    · rw [terB_no (fun h => j1 (by rw [hl1] at h; exact h.2.2.2.2.1))]
      have b3 : ((n : Int) != W * H) = true := by simp [j1]
      clear hl1 hl2 j1
      go_enter Try.func18, Try.ntmps18
      go_wp2_with (first | (go_at_call 42; (first | refine (within_yes _ _ _ _ (by omega) (by omega)).mono ?_ | refine (within_no _ _ _ _ (by omega)).mono ?_); rintro e w' ⟨rfl, rfl⟩))
      go_ret
      exact ⟨rfl, hB.out⟩
  · rw [terB_no (fun h => k ⟨h.1, h.2.1, h.2.2.1, h.2.2.2.1⟩)]
    clear hl1 hl2
    by_cases kw : 1 ≤ W ∧ W ≤ 64
    · have kh : H < 1 ∨ 64 < H := by omega
      obtain ⟨kw1, kw2⟩ := kw
      clear k
      go_enter Try.func18, Try.ntmps18
      go_wp2_with (first | (go_at_call 42; (first | refine (within_yes _ _ _ _ (by omega) (by omega)).mono ?_ | refine (within_no _ _ _ _ (by omega)).mono ?_); rintro e w' ⟨rfl, rfl⟩))
      go_ret
      exact ⟨rfl, hB.out⟩
    · have kh : W < 1 ∨ 64 < W := by omega
      clear k kw
      go_enter Try.func18, Try.ntmps18
      go_wp2_with (first | (go_at_call 42; (first | refine (within_yes _ _ _ _ (by omega) (by omega)).mono ?_ | refine (within_no _ _ _ _ (by omega)).mono ?_); rintro e w' ⟨rfl, rfl⟩))
      go_ret
      exact ⟨rfl, hB.out⟩
end Go.Proofs.Ytpoceidbiamgaaa
