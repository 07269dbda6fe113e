/- Contracts of antenna.Valid, bandplanref12.Valid, bandplanlaw12.far, points, bandplanref12.Direction. -/
import Derived.Test.YthaodhipebadcaaDoorW1
namespace Go.Proofs.YthaodhipebadcaaDoor
open Go.RowKit

def okI (x : Int) : Bool := decide (0 ≤ x ∧ x ≤ 80)
def validB (h : Int) (xs : List Int) : Bool := decide (1 ≤ h ∧ h ≤ 500 ∧ xs.length = 16) && xs.all okI
theorem validB_iff (h : Int) (xs : List Int) : validB h xs = true ↔ 1 ≤ h ∧ h ≤ 500 ∧ xs.length = 16 ∧ ∀ x ∈ xs, 0 ≤ x ∧ x ≤ 80 := by
  simp [validB, okI, and_assoc]
theorem validB_out {h : Int} {xs : List Int} (hh : h < 1 ∨ 500 < h ∨ xs.length ≠ 16) : validB h xs = false := by
  rw [Bool.eq_false_iff]; intro c; have := (validB_iff h xs).1 c; omega
theorem take_all {xs : List Int} {k : Nat} (hk : k < xs.length) (h : (xs.take k).all okI = true) (h0 : 0 ≤ xs[k]?.getD 0) (h1 : xs[k]?.getD 0 ≤ 80) : (xs.take (k + 1)).all okI = true := by
  rw [List.take_succ_eq_append_getElem hk, List.all_append, h]
  simp [hk] at h0 h1
  simp [okI, h0, h1]
theorem take_not {h : Int} {xs : List Int} {k : Nat} (hk : k < xs.length) (h0 : xs[k]?.getD 0 < 0 ∨ 80 < xs[k]?.getD 0) : validB h xs = false := by
  rw [Bool.eq_false_iff]; intro c
  have := ((validB_iff h xs).1 c).2.2.2 (xs[k]) (List.getElem_mem hk)
  simp [hk] at h0
  omega
theorem valid_end {h : Int} {xs : List Int} (h1 : 1 ≤ h) (h2 : h ≤ 500) (h3 : xs.length = 16) (ha : (xs.take 16).all okI = true) : validB h xs = true := by
  rw [List.take_of_length_le (by omega)] at ha
  simp [validB, h1, h2, h3, ha]

set_option maxHeartbeats 400000 in
theorem valid_any (h : Int) (A : Option Addr) (n c : Nat) (xs : List Int) (w : World) (hI : Ints w w.heap.size A n xs) (hn : n ≤ 9223372036854775807) :
    Calls Tryd.prog 15 #[.agg #[.int .i64 h, .slice A n c]] w fun e w' => e = .returned (.bool (validB h xs)) ∧ Below w.heap.size w w' := by
  have hl := hI.1
  by_cases h1 : h < 1
  · rw [validB_out (.inl h1)]
    clear hl
    go_enter Tryd.func15, Tryd.ntmps15
    go_wp2
    go_ret
    exact ⟨rfl, (Below.refl _ _).alloc (Nat.le_refl _) _⟩
  · by_cases h2 : 500 < h
    · rw [validB_out (.inr (.inl h2))]
      clear hl
      go_enter Tryd.func15, Tryd.ntmps15
      go_wp2
      go_ret
      exact ⟨rfl, (Below.refl _ _).alloc (Nat.le_refl _) _⟩
    · by_cases h3 : n = 16
      · subst h3
        obtain ⟨b, off, rfl, hb, hc⟩ := hI.2 (by omega)
        have HL := Lib.hid hl
        clear hl hI
        have HC := Lib.hid hc
        clear hc
        go_enter Tryd.func15, Tryd.ntmps15
        go_wp2
        go_loop [4, 22] (fun _ i => ∃ k : Nat, k ≤ 16 ∧ i = .int .i64 k ∧ (xs.take k).all okI = true) (fun _ i => 16 - (intOf i).toNat)
        case atStart => exact ⟨0, by omega, rfl, by simp⟩
        case round =>
          obtain ⟨k, hk, rfl, ha⟩ := hrel
          have HA := Lib.hid ha
          clear ha
          by_cases hlt : k < 16
          · have hck := HC.out k hlt
            by_cases h0 : xs[k]?.getD 0 < 0
            · go_wp2
              go_ret
              exact ⟨ret_bool (take_not (by have := HL.out; omega) (.inl h0)).symm, (Below.refl _ _).alloc (Nat.le_refl _) _⟩
            · by_cases h80 : 80 < xs[k]?.getD 0
              · go_wp2
                go_ret
                exact ⟨ret_bool (take_not (by have := HL.out; omega) (.inr h80)).symm, (Below.refl _ _).alloc (Nat.le_refl _) _⟩
              · go_wp2
                go_round
                case rel => exact ⟨k + 1, by omega, by go_num, take_all (by have := HL.out; omega) HA.out (by omega) (by omega)⟩
                case measure => simp [intOf]; omega
          · obtain rfl : k = 16 := by omega
            go_wp2
            go_ret
            exact ⟨ret_bool (valid_end (by omega) (by omega) HL.out HA.out).symm, (Below.refl _ _).alloc (Nat.le_refl _) _⟩
      · rw [validB_out (.inr (.inr (by omega)))]
        have h4 : ((n : Int) == 16) = false := by rw [beq_eq_false_iff_ne]; omega
        have h5 : ((n : Int) != 16) = true := by rw [bne_iff_ne]; omega
        clear hl
        go_enter Tryd.func15, Tryd.ntmps15
        go_wp2
        go_ret
        exact ⟨rfl, (Below.refl _ _).alloc (Nat.le_refl _) _⟩
set_option maxHeartbeats 400000 in
theorem refValid_any (h : Int) (A : Option Addr) (n c : Nat) (xs : List Int) (w : World) (hI : Ints w w.heap.size A n xs) (hn : n ≤ 9223372036854775807) :
    Calls Tryd.prog 16 #[.agg #[.int .i64 h, .slice A n c]] w fun e w' => e = .returned (.bool (validB h xs)) ∧ Below w.heap.size w w' := by
  have hl := hI.1
  by_cases h1 : h < 1
  · rw [validB_out (.inl h1)]
    clear hl
    go_enter Tryd.func16, Tryd.ntmps16
    go_wp2
    go_ret
    exact ⟨rfl, (Below.refl _ _).alloc (Nat.le_refl _) _⟩
  · by_cases h2 : 500 < h
    · rw [validB_out (.inr (.inl h2))]
      clear hl
      go_enter Tryd.func16, Tryd.ntmps16
      go_wp2
      go_ret
      exact ⟨rfl, (Below.refl _ _).alloc (Nat.le_refl _) _⟩
    · by_cases h3 : n = 16
      · subst h3
        obtain ⟨b, off, rfl, hb, hc⟩ := hI.2 (by omega)
        have HL := Lib.hid hl
        clear hl hI
        have HC := Lib.hid hc
        clear hc
        go_enter Tryd.func16, Tryd.ntmps16
        go_wp2
        go_loop [3] (fun i => ∃ k : Nat, k ≤ 16 ∧ i = .int .i64 k ∧ (xs.take k).all okI = true) (fun i => 16 - (intOf i).toNat)
        case atStart => exact ⟨0, by omega, rfl, by simp⟩
        case round =>
          obtain ⟨k, hk, rfl, ha⟩ := hrel
          have HA := Lib.hid ha
          clear ha
          by_cases hlt : k < 16
          · have hck := HC.out k hlt
            by_cases h0 : xs[k]?.getD 0 < 0
            · go_wp2
              go_ret
              exact ⟨ret_bool (take_not (by have := HL.out; omega) (.inl h0)).symm, (Below.refl _ _).alloc (Nat.le_refl _) _⟩
            · by_cases h80 : 80 < xs[k]?.getD 0
              · go_wp2
                go_ret
                exact ⟨ret_bool (take_not (by have := HL.out; omega) (.inr h80)).symm, (Below.refl _ _).alloc (Nat.le_refl _) _⟩
              · go_wp2
                go_round
                case rel => exact ⟨k + 1, by omega, by go_num, take_all (by have := HL.out; omega) HA.out (by omega) (by omega)⟩
                case measure => simp [intOf]; omega
          · obtain rfl : k = 16 := by omega
            go_wp2
            go_ret
            exact ⟨ret_bool (valid_end (by omega) (by omega) HL.out HA.out).symm, (Below.refl _ _).alloc (Nat.le_refl _) _⟩
      · rw [validB_out (.inr (.inr (by omega)))]
        have h4 : ((n : Int) == 16) = false := by rw [beq_eq_false_iff_ne]; omega
        have h5 : ((n : Int) != 16) = true := by rw [bne_iff_ne]; omega
        clear hl
        go_enter Tryd.func16, Tryd.ntmps16
        go_wp2
        go_ret
        exact ⟨rfl, (Below.refl _ _).alloc (Nat.le_refl _) _⟩

set_option maxHeartbeats 400000 in
theorem far_any (d : Int) (w : World) :
    Calls Tryd.prog 11 #[.int .i64 d] w fun e w' => e = .returned (.bool (farB d)) ∧ w = w' := by
  by_cases h1 : d < -1048576
  · go_enter Tryd.func11, Tryd.ntmps11
    go_wp2
    go_ret
    exact ⟨by simp [farB, h1], rfl⟩
  · by_cases h2 : 1048576 < d
    · go_enter Tryd.func11, Tryd.ntmps11
      go_wp2
      go_ret
      exact ⟨by simp [farB, h2], rfl⟩
    · go_enter Tryd.func11, Tryd.ntmps11
      go_wp2
      go_ret
      exact ⟨by simp [farB]; omega, rfl⟩

set_option maxHeartbeats 400000 in
theorem points_yes (dx dy want : Int) (w : World) (hq : Quad w) (hx : farB dx = false) (hy : farB dy = false) (h0 : ¬ (dx = 0 ∧ dy = 0)) (h : dirI dx dy = want) :
    Calls Tryd.prog 30 #[.int .i64 dx, .int .i64 dy, .int .i64 want] w fun e w' => e = .returned (.bool true) ∧ Below w.heap.size w w' := by
  subst h
  have H0 := Lib.hid h0
  clear h0
  go_enter Tryd.func30, Tryd.ntmps30
  go_wp2_with (go_at_call 10; refine (dir_yes dx dy _ hq hx hy H0.out).mono ?_; rintro e w' ⟨rfl, hb⟩)
  go_ret
  exact ⟨rfl, hb⟩

set_option maxHeartbeats 800000 in
theorem refDir_any (dx dy : Int) (w : World) (hx : farB dx = false) (hy : farB dy = false) (h0 : ¬ (dx = 0 ∧ dy = 0)) :
    Calls Tryd.prog 13 #[.int .i64 dx, .int .i64 dy] w fun e w' => e = .returned (.int .i64 (dirI dx dy)) ∧ w = w' := by
  have hx1 : -1048576 ≤ dx := by simp [farB] at hx; omega
  have hx2 : dx ≤ 1048576 := by simp [farB] at hx; omega
  have hy1 : -1048576 ≤ dy := by simp [farB] at hy; omega
  have hy2 : dy ≤ 1048576 := by simp [farB] at hy; omega
  clear hx hy
  by_cases c0 : 0 < dx ∧ 0 ≤ dy
  · have e : dirI dx dy = stepsI dx dy := by unfold dirI; rw [if_pos c0]
    rw [e]
    obtain ⟨c1, c2⟩ := c0
    clear e h0
    go_enter Tryd.func13, Tryd.ntmps13
    go_wp2
    all_goals go_ret
    all_goals refine ⟨ret_int ?_, rfl⟩
    all_goals (unfold stepsI; repeat' split)
    all_goals omega
  · by_cases c1 : 0 < dy ∧ dx ≤ 0
    · have e : dirI dx dy = 4 + stepsI dy (-dx) := by unfold dirI; rw [if_neg c0, if_pos c1]
      rw [e]
      obtain ⟨c1, c2⟩ := c1
      clear e h0 c0
      go_enter Tryd.func13, Tryd.ntmps13
      go_wp2
      all_goals go_ret
      all_goals refine ⟨ret_int ?_, rfl⟩
      all_goals (unfold stepsI; repeat' split)
      all_goals omega
    · by_cases c2 : dx < 0 ∧ dy ≤ 0
      · have e : dirI dx dy = 8 + stepsI (-dx) (-dy) := by unfold dirI; rw [if_neg c0, if_neg c1, if_pos c2]
        rw [e]
        obtain ⟨c2, c3⟩ := c2
        clear e h0 c0 c1
        go_enter Tryd.func13, Tryd.ntmps13
        go_wp2
        all_goals go_ret
        all_goals refine ⟨ret_int ?_, rfl⟩
        all_goals (unfold stepsI; repeat' split)
        all_goals omega
      · have e : dirI dx dy = 12 + stepsI (-dy) dx := by unfold dirI; rw [if_neg c0, if_neg c1, if_neg c2]
        rw [e]
        have d1 : 0 ≤ dx := by omega
        have d2 : dy < 0 := by omega
        clear e h0 c0 c1 c2
        go_enter Tryd.func13, Tryd.ntmps13
        go_wp2
        all_goals go_ret
        all_goals refine ⟨ret_int ?_, rfl⟩
        all_goals (unfold stepsI; repeat' split)
        all_goals omega

end Go.Proofs.YthaodhipebadcaaDoor
