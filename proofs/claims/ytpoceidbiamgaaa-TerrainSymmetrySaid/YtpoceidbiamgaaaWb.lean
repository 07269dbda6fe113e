/- Contracts of terrain.distance, divide, bandplanref10.Floor, Between, Span and bandplanlaw10.near. -/
import Derived.Test.YtpoceidbiamgaaaWa
import Derived.Test.YtpoceidbiamgaaaM
set_option linter.unusedVariables false
set_option linter.unusedSimpArgs false
namespace Go.Proofs.Ytpoceidbiamgaaa
open Go.RowKit

theorem distance_any (a b : Int) (w : World) (h1 : 0 ≤ a) (h2 : a ≤ 1000) (h3 : 0 ≤ b) (h4 : b ≤ 1000) :
    Calls Try.prog 48 #[.int .i64 a, .int .i64 b] w fun e w' => e = .returned (.int .i64 (max (a - b) (b - a))) ∧ w = w' := by
  go_enter Try.func48, Try.ntmps48
  go_wp2
  all_goals
    go_ret
    refine ⟨ret_int ?_, rfl⟩
    omega

theorem floor_div {a b : Int} (hb : 0 < b) : a / b = if a.tmod b < 0 then a.tdiv b - 1 else a.tdiv b := by
  have e := Int.mul_tdiv_add_tmod a b
  have h1 : a.tmod b < b := Int.tmod_lt_of_pos a hb
  have h2 : -b < a.tmod b := by
    by_cases h : 0 ≤ a
    · have := Int.tmod_nonneg b h; omega
    · have := Int.tmod_lt_of_pos (-a) hb
      rw [Int.neg_tmod] at this; omega
  split
  · rename_i h
    refine ((Int.ediv_emod_unique hb (r := a.tmod b + b)).2 ⟨?_, by omega, by omega⟩).1
    rw [Int.mul_sub, Int.mul_one]; omega
  · rename_i h
    exact ((Int.ediv_emod_unique hb (r := a.tmod b)).2 ⟨by omega, by omega, h1⟩).1

theorem divide_any (a b : Int) (w : World) (h1 : -100000 ≤ a) (h2 : a ≤ 100000) (h3 : 0 < b) (h4 : b ≤ 100000) :
    Calls Try.prog 49 #[.int .i64 a, .int .i64 b] w fun e w' => e = .returned (.int .i64 (a / b)) ∧ w = w' := by
  have q0 : (b == 0) = false := by simp; omega
  have hf := floor_div (a := a) h3
  have hk : -100000 ≤ a.tdiv b ∧ a.tdiv b ≤ 100000 := by
    have := Int.natAbs_tdiv_le_natAbs a b
    omega
  have HF := Lib.hid hf
  obtain ⟨k1, k2⟩ := hk
  clear hf
  by_cases hm : a.tmod b < 0
  · go_enter Try.func49, Try.ntmps49
    go_wp2
    go_ret
    exact ⟨ret_int (by rw [HF.out, if_pos hm]), rfl⟩
  · go_enter Try.func49, Try.ntmps49
    go_wp2
    go_ret
    exact ⟨ret_int (by rw [HF.out, if_neg (by omega)]), rfl⟩
theorem floor_any (a b : Int) (w : World) (h1 : -100000 ≤ a) (h2 : a ≤ 100000) (h3 : 0 < b) (h4 : b ≤ 100000) :
    Calls Try.prog 51 #[.int .i64 a, .int .i64 b] w fun e w' => e = .returned (.int .i64 (a / b)) ∧ w = w' := by
  have q0 : (b == 0) = false := by simp; omega
  have hf := floor_div (a := a) h3
  have hk : -100000 ≤ a.tdiv b ∧ a.tdiv b ≤ 100000 := by
    have := Int.natAbs_tdiv_le_natAbs a b
    omega
  have HF := Lib.hid hf
  obtain ⟨k1, k2⟩ := hk
  clear hf
  by_cases hm : a.tmod b < 0
  · go_enter Try.func51, Try.ntmps51
    go_wp2
    go_ret
    exact ⟨ret_int (by rw [HF.out, if_pos hm]), rfl⟩
  · go_enter Try.func51, Try.ntmps51
    go_wp2
    go_ret
    exact ⟨ret_int (by rw [HF.out, if_neg (by omega)]), rfl⟩

/-- A number lies between two numbers. -/
def btwB (x a b : Int) : Bool := decide (min a b ≤ x ∧ x ≤ max a b)
set_option maxHeartbeats 1000000 in
theorem between_any (x a b : Int) (w : World) : Calls Try.prog 52 #[.int .i64 x, .int .i64 a, .int .i64 b] w fun e w' => e = .returned (.bool (btwB x a b)) ∧ w = w' := by
  by_cases h1 : a ≤ x <;> by_cases h2 : x ≤ b <;> by_cases h3 : b ≤ x <;> by_cases h4 : x ≤ a
  all_goals
    go_enter Try.func52, Try.ntmps52
    go_wp2
    go_ret
    refine ⟨ret_bool ?_, rfl⟩
    simp [btwB]
    try omega
/-- The loop of Span: the counter and the greatest number so far. -/
def SpI (d1 d2 d3 d4 : Int) (n i : Value) : Prop :=
  (i = .int .i64 0 ∧ n = .int .i64 0) ∨ (i = .int .i64 1 ∧ n = .int .i64 (max 0 d1)) ∨ (i = .int .i64 2 ∧ n = .int .i64 (max (max 0 d1) d2)) ∨ (i = .int .i64 3 ∧ n = .int .i64 (max (max (max 0 d1) d2) d3)) ∨ (i = .int .i64 4 ∧ n = .int .i64 (max (max (max (max 0 d1) d2) d3) d4))
set_option maxHeartbeats 1000000 in
theorem span_any (a1 a2 b1 b2 : Int) (w : World) (h1 : 0 ≤ a1) (h2 : a1 ≤ 1000) (h3 : 0 ≤ a2) (h4 : a2 ≤ 1000) (h5 : 0 ≤ b1) (h6 : b1 ≤ 1000) (h7 : 0 ≤ b2) (h8 : b2 ≤ 1000) :
    Calls Try.prog 50 #[.agg #[.int .i64 a1, .int .i64 a2], .agg #[.int .i64 b1, .int .i64 b2]] w fun e w' => e = .returned (.int .i64 (span a1 a2 b1 b2)) ∧ Below w.heap.size w w' := by
  have HE : Hid (span a1 a2 b1 b2 = max (max (max (max 0 (b1 - a1)) (a1 - b1)) (b2 - a2)) (a2 - b2)) := by show _ = _; unfold span; omega
  have HB : Hid (Below w.heap.size w (((w.alloc (.cells #[.int .i64 a1, .int .i64 a2] 26)).alloc (.cells #[.int .i64 b1, .int .i64 b2] 26)).alloc (.cells #[.int .i64 (b1 - a1), .int .i64 (a1 - b1), .int .i64 (b2 - a2), .int .i64 (a2 - b2)] 3))) :=
    (((Below.refl _ _).alloc (Nat.le_refl _) _).alloc (by simp) _).alloc (by simp; omega) _
  go_enter Try.func50, Try.ntmps50
  go_wp2
  go_loop [6, 7] (fun n i => SpI (b1 - a1) (a1 - b1) (b2 - a2) (a2 - b2) n i) (fun _ i => 4 - (intOf i).toNat)
  case atStart => exact .inl ⟨rfl, rfl⟩
  case round =>
    rcases hrel with ⟨rfl, rfl⟩ | ⟨rfl, rfl⟩ | ⟨rfl, rfl⟩ | ⟨rfl, rfl⟩ | ⟨rfl, rfl⟩
    · go_wp2
      all_goals
        go_round
        case rel => exact .inr (.inl ⟨rfl, by congr 1; omega⟩)
        case measure => simp [intOf]
    · obtain ⟨m, hm⟩ : ∃ m, m = max 0 (b1 - a1) := ⟨_, rfl⟩
      rw [← hm]
      go_wp2
      all_goals
        go_round
        case rel => exact .inr (.inr (.inl ⟨rfl, by congr 1; omega⟩))
        case measure => simp [intOf]
    · obtain ⟨m, hm⟩ : ∃ m, m = max (max 0 (b1 - a1)) (a1 - b1) := ⟨_, rfl⟩
      rw [← hm]
      go_wp2
      all_goals
        go_round
        case rel => exact .inr (.inr (.inr (.inl ⟨rfl, by congr 1; omega⟩)))
        case measure => simp [intOf]
    · obtain ⟨m, hm⟩ : ∃ m, m = max (max (max 0 (b1 - a1)) (a1 - b1)) (b2 - a2) := ⟨_, rfl⟩
      rw [← hm]
      go_wp2
      all_goals
        go_round
        case rel => exact .inr (.inr (.inr (.inr ⟨rfl, by congr 1; omega⟩)))
        case measure => simp [intOf]
    · rw [← HE.out]
      go_wp2
      go_ret
      exact ⟨rfl, HB.out⟩
end Go.Proofs.Ytpoceidbiamgaaa
