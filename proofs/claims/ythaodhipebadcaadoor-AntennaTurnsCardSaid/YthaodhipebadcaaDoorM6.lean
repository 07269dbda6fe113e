/- The plain law of turns: directions of turned and longer vectors, patterns that are turned twice. No program in sight. -/
import Derived.Test.YthaodhipebadcaaDoorWa
namespace Go.Proofs.YthaodhipebadcaaDoor

theorem dir_turn (dx dy : Int) (h : ¬ (dx = 0 ∧ dy = 0)) : dirI (-dy) dx = (dirI dx dy + 4) % 16 := by
  have a := stepsI_bd dx dy
  have b := stepsI_bd dy (-dx)
  have c := stepsI_bd (-dx) (-dy)
  have d := stepsI_bd (-dy) dx
  by_cases c0 : 0 < dx ∧ 0 ≤ dy
  · have e1 : dirI dx dy = stepsI dx dy := by unfold dirI; rw [if_pos c0]
    have e2 : dirI (-dy) dx = 4 + stepsI dx (- -dy) := by unfold dirI; rw [if_neg (by omega), if_pos (by omega)]
    rw [e1, e2, Int.neg_neg]; omega
  · by_cases c1 : 0 < dy ∧ dx ≤ 0
    · have e1 : dirI dx dy = 4 + stepsI dy (-dx) := by unfold dirI; rw [if_neg c0, if_pos c1]
      have e2 : dirI (-dy) dx = 8 + stepsI (- -dy) (-dx) := by unfold dirI; rw [if_neg (by omega), if_neg (by omega), if_pos (by omega)]
      rw [e1, e2, Int.neg_neg]; omega
    · by_cases c2 : dx < 0 ∧ dy ≤ 0
      · have e1 : dirI dx dy = 8 + stepsI (-dx) (-dy) := by unfold dirI; rw [if_neg c0, if_neg c1, if_pos c2]
        have e2 : dirI (-dy) dx = 12 + stepsI (-dx) (-dy) := by unfold dirI; rw [if_neg (by omega), if_neg (by omega), if_neg (by omega)]
        rw [e1, e2]; omega
      · have e1 : dirI dx dy = 12 + stepsI (-dy) dx := by unfold dirI; rw [if_neg c0, if_neg c1, if_neg c2]
        have e2 : dirI (-dy) dx = stepsI (-dy) dx := by unfold dirI; rw [if_pos (by omega)]
        rw [e1, e2]; omega

theorem mul_sign {x f : Int} (hf : 1 ≤ f) : (0 < x * f ↔ 0 < x) ∧ (x * f < 0 ↔ x < 0) ∧ (0 ≤ x * f ↔ 0 ≤ x) ∧ (x * f ≤ 0 ↔ x ≤ 0) := by
  have h0 : 0 < f := by omega
  have p : 0 < x * f ↔ 0 < x := by
    constructor
    · intro h
      rcases Int.lt_trichotomy x 0 with c | c | c
      · have := Int.mul_neg_of_neg_of_pos c h0; omega
      · subst c; simp at h
      · exact c
    · intro h; exact Int.mul_pos h h0
  have q : x * f < 0 ↔ x < 0 := by
    constructor
    · intro h
      rcases Int.lt_trichotomy x 0 with c | c | c
      · exact c
      · subst c; simp at h
      · have := Int.mul_pos c h0; omega
    · intro h; exact Int.mul_neg_of_neg_of_pos h h0
  exact ⟨p, q, by omega, by omega⟩
theorem steps_scale {u v f : Int} (hf : 1 ≤ f) : stepsI (u * f) (v * f) = stepsI u v := by
  have e1 : 2 * (u * f) ≤ v * f ↔ 2 * u ≤ v := by
    have := (mul_sign (x := v - 2 * u) hf).2.2.1
    rw [Int.sub_mul, Int.mul_assoc] at this; omega
  have e2 : u * f ≤ v * f ↔ u ≤ v := by
    have := (mul_sign (x := v - u) hf).2.2.1
    rw [Int.sub_mul] at this; omega
  have e3 : u * f ≤ 2 * (v * f) ↔ u ≤ 2 * v := by
    have := (mul_sign (x := 2 * v - u) hf).2.2.1
    rw [Int.sub_mul, Int.mul_assoc] at this; omega
  unfold stepsI
  by_cases h1 : 2 * u ≤ v
  · rw [if_pos (e1.2 h1), if_pos h1]
  · rw [if_neg (fun h => h1 (e1.1 h)), if_neg h1]
    by_cases h2 : u ≤ v
    · rw [if_pos (e2.2 h2), if_pos h2]
    · rw [if_neg (fun h => h2 (e2.1 h)), if_neg h2]
      by_cases h3 : u ≤ 2 * v
      · rw [if_pos (e3.2 h3), if_pos h3]
      · rw [if_neg (fun h => h3 (e3.1 h)), if_neg h3]
theorem dir_scale (dx dy : Int) {f : Int} (hf : 1 ≤ f) : dirI (dx * f) (dy * f) = dirI dx dy := by
  have sx := mul_sign (x := dx) hf
  have sy := mul_sign (x := dy) hf
  unfold dirI
  by_cases c0 : 0 < dx ∧ 0 ≤ dy
  · rw [if_pos c0, if_pos (by omega), steps_scale hf]
  · rw [if_neg c0, if_neg (by omega)]
    by_cases c1 : 0 < dy ∧ dx ≤ 0
    · rw [if_pos c1, if_pos (by omega), ← Int.neg_mul, steps_scale hf]
    · rw [if_neg c1, if_neg (by omega)]
      by_cases c2 : dx < 0 ∧ dy ≤ 0
      · rw [if_pos c2, if_pos (by omega), ← Int.neg_mul, ← Int.neg_mul, steps_scale hf]
      · rw [if_neg c2, if_neg (by omega), ← Int.neg_mul, steps_scale hf]
theorem scale_zero {dx dy f : Int} (hf : 1 ≤ f) (h : ¬ (dx = 0 ∧ dy = 0)) : ¬ (dx * f = 0 ∧ dy * f = 0) := by
  have sx := mul_sign (x := dx) hf
  have sy := mul_sign (x := dy) hf
  omega
theorem scale_bound {x f : Int} (h1 : -1000 ≤ x) (h2 : x ≤ 1000) (hf : 1 ≤ f) (hg : f ≤ 1000) : -1000000 ≤ x * f ∧ x * f ≤ 1000000 := by
  have a : x * f ≤ 1000 * f := Int.mul_le_mul_of_nonneg_right h2 (by omega)
  have b : (-1000) * f ≤ x * f := Int.mul_le_mul_of_nonneg_right h1 (by omega)
  omega
theorem rotL_at (s : Int) (xs : List Int) (d : Nat) (hd : d < 16) : (rotL s xs 16)[d]?.getD 0 = xs[rotAt s d]?.getD 0 := by simp [rotL, hd]
theorem rot_loss (xs : List Int) (D : Int) (h0 : 0 ≤ D) (h1 : D ≤ 15) : (rotL 4 xs 16)[((D + 4) % 16).toNat]?.getD 0 = xs[D.toNat]?.getD 0 := by
  rw [rotL_at _ _ _ (by omega)]
  have : rotAt 4 ((D + 4) % 16).toNat = D.toNat := by unfold rotAt; omega
  rw [this]
theorem rot_16 (xs : List Int) (h : xs.length = 16) : rotL 16 xs 16 = xs := by
  apply List.ext_getElem
  · simp [rotL_len, h]
  · intro i h1 h2
    have hi : i < 16 := by simpa [rotL_len] using h1
    have e : rotAt 16 i = i := by unfold rotAt; omega
    simp [rotL, hi, e, h2]
theorem rot_rot (a b : Int) (xs : List Int) : rotL b (rotL a xs 16) 16 = rotL (a + b) xs 16 := by
  apply List.ext_getElem
  · simp [rotL_len]
  · intro i h1 h2
    have hi : i < 16 := by simpa [rotL_len] using h1
    have e : rotAt a (rotAt b i) = rotAt (a + b) i := by unfold rotAt; omega
    have h3 := rotL_at a xs (rotAt b i) (rotAt_lt b i)
    rw [e] at h3
    have h4 : (rotL b (rotL a xs 16) 16)[i]?.getD 0 = (rotL (a + b) xs 16)[i]?.getD 0 := by
      rw [rotL_at _ _ _ hi, rotL_at _ _ _ hi, h3]
    simpa [h1, h2] using h4
theorem rot_valid (h s : Int) (xs : List Int) (hv : validB h xs = true) : validB h (rotL s xs 16) = true := by
  obtain ⟨h1, h2, h3, h4⟩ := (validB_iff h xs).1 hv
  rw [validB_iff]
  refine ⟨h1, h2, rotL_len _ _ _, ?_⟩
  intro x hx
  simp only [rotL, List.mem_map, List.mem_range] at hx
  obtain ⟨d, hd, rfl⟩ := hx
  rw [if_pos hd]
  have hr := rotAt_lt s d
  have : xs[rotAt s d]?.getD 0 = xs[rotAt s d]'(by omega) := by simp [h3, hr]
  rw [this]
  exact h4 _ (List.getElem_mem _)
theorem min_self_L (xs : List Int) (h : xs.length = 16) : minL xs xs 16 = xs := by
  apply List.ext_getElem
  · simp [minL_len, h]
  · intro i h1 h2
    simp [minL, h2]
end Go.Proofs.YthaodhipebadcaaDoor
