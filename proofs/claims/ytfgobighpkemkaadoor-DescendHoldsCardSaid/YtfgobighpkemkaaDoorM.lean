/- The plain law of the descending clock. No program in sight. -/
namespace Go.Proofs.YtfgobighpkemkaaDoor

def vB (O b r : Int) : Bool := decide (1 ≤ O ∧ O ≤ 1000000000 ∧ 0 ≤ b ∧ b ≤ O ∧ 0 ≤ r ∧ r ≤ 1000000)
/-- What a base price falls by. -/
def fall (O b : Int) : Int := min b (max (max 1 (b * 5 / 100)) (O / 100))
def foll (O b : Int) : Int := b - fall O b
/-- The base prices of the following rounds, at most n of them. -/
def basesF : Nat → Int → Int → List Int
  | 0, _, _ => []
  | n + 1, O, b => if 0 < b then foll O b :: basesF n O (foll O b) else []
def bases (O b : Int) : List Int := basesF 200 O b

theorem vB_iff (O b r : Int) : vB O b r = true ↔ 1 ≤ O ∧ O ≤ 1000000000 ∧ 0 ≤ b ∧ b ≤ O ∧ 0 ≤ r ∧ r ≤ 1000000 := by simp [vB]
theorem fall_bd {O b : Int} (hO : 1 ≤ O) (hb : 0 ≤ b) : 0 ≤ fall O b ∧ fall O b ≤ b := by unfold fall; omega
theorem foll_bd {O b : Int} (hO : 1 ≤ O) (hb : 0 ≤ b) : 0 ≤ foll O b ∧ foll O b ≤ b := by have := fall_bd hO hb; unfold foll; omega
theorem foll_lt {O b : Int} (hb : 0 < b) : foll O b < b := by unfold foll fall; omega
/-- The least fall. -/
def least (O : Int) : Int := max 1 (O / 100)
theorem foll_least {O b : Int} (hb : 0 < b) : foll O b = 0 ∨ foll O b ≤ b - least O := by unfold foll fall least; omega
theorem least_pos (O : Int) : 1 ≤ least O := by unfold least; omega
theorem least_199 (O : Int) : O ≤ 199 * least O := by unfold least; omega

/-- More room changes nothing. -/
theorem basesF_more {O : Int} (hO : 1 ≤ O) : ∀ (k n : Nat) (b : Int), 0 ≤ b → b ≤ k * least O → k ≤ n → basesF n O b = basesF k O b := by
  intro k
  induction k with
  | zero =>
    intro n b h0 hb _
    have hz : b = 0 := by simp at hb; omega
    subst hz
    cases n <;> simp [basesF]
  | succ k ih =>
    intro n b h0 hb hn
    match n, hn with
    | n + 1, hn =>
      unfold basesF
      by_cases hp : 0 < b
      · rw [if_pos hp, if_pos hp]
        have h1 := foll_bd hO h0
        have hl := least_pos O
        have hmul : ((k + 1 : Nat) : Int) * least O = k * least O + least O := by
          rw [Int.natCast_add, Int.add_mul]; simp
        have hk0 : 0 ≤ (k : Int) * least O := Int.mul_nonneg (by omega) (by omega)
        have h2 : foll O b ≤ k * least O := by
          rcases foll_least (O := O) hp with e | e
          · rw [e]; exact hk0
          · omega
        rw [ih n (foll O b) h1.1 h2 (by omega)]
      · rw [if_neg hp, if_neg hp]

theorem bases_zero (O : Int) : bases O 0 = [] := by simp [bases, basesF]
theorem bases_pos {O b : Int} (hO : 1 ≤ O) (hb : 0 < b) (hbO : b ≤ O) : bases O b = foll O b :: bases O (foll O b) := by
  have h1 := foll_bd hO (Int.le_of_lt hb)
  have h199 := least_199 O
  have e : basesF (199 + 1) O b = foll O b :: basesF 199 O (foll O b) := by
    rw [basesF, if_pos hb]
  show basesF (199 + 1) O b = foll O b :: basesF 200 O (foll O b)
  rw [e, basesF_more hO 199 200 (foll O b) h1.1 (by simpa using (by omega : foll O b ≤ 199 * least O)) (by omega)]
theorem basesF_len (n : Nat) (O b : Int) : (basesF n O b).length ≤ n := by
  induction n generalizing b with
  | zero => simp [basesF]
  | succ n ih =>
    unfold basesF
    split
    · have := ih (foll O b); simp; omega
    · simp
theorem bases_len {O b : Int} (hO : 1 ≤ O) (h0 : 0 ≤ b) (hb : b ≤ O) : (bases O b).length ≤ 199 := by
  have h199 := least_199 O
  unfold bases
  rw [basesF_more hO 199 200 b h0 (by simpa using (by omega : b ≤ 199 * least O)) (by omega)]
  exact basesF_len 199 O b

/-- The base price after k rounds. -/
def after (O b : Int) : Nat → Int
  | 0 => b
  | k + 1 => foll O (after O b k)
theorem after_bd {O b : Int} (hO : 1 ≤ O) (h0 : 0 ≤ b) (k : Nat) : 0 ≤ after O b k ∧ after O b k ≤ b := by
  induction k with
  | zero => exact ⟨h0, Int.le_refl _⟩
  | succ k ih => have := foll_bd hO ih.1; simp only [after]; omega
theorem after_succ' (O b : Int) (k : Nat) : after O b (k + 1) = after O (foll O b) k := by
  induction k with
  | zero => rfl
  | succ k ih => simp only [after] at ih ⊢; rw [ih]
theorem bases_at {O : Int} (hO : 1 ≤ O) : ∀ (k : Nat) (b : Int), 0 ≤ b → b ≤ O → k < (bases O b).length → (bases O b)[k]?.getD 0 = after O b (k + 1) := by
  intro k
  induction k with
  | zero =>
    intro b h0 hb hk
    by_cases hp : 0 < b
    · rw [bases_pos hO hp hb]; rfl
    · have : b = 0 := by omega
      subst this; rw [bases_zero] at hk; simp at hk
  | succ k ih =>
    intro b h0 hb hk
    by_cases hp : 0 < b
    · have h1 := foll_bd hO h0
      rw [bases_pos hO hp hb] at hk ⊢
      simp only [List.length_cons] at hk
      have := ih (foll O b) h1.1 (by omega) (by omega)
      simp only [List.getElem?_cons_succ]
      rw [this, after_succ' O b (k + 1)]
    · have : b = 0 := by omega
      subst this; rw [bases_zero] at hk; simp at hk
theorem bases_drop {O : Int} (hO : 1 ≤ O) : ∀ (k : Nat) (b : Int), 0 ≤ b → b ≤ O → (bases O b).drop k = bases O (after O b k) := by
  intro k
  induction k with
  | zero => intro b _ _; rfl
  | succ k ih =>
    intro b h0 hb
    by_cases hp : 0 < b
    · have h1 := foll_bd hO h0
      rw [bases_pos hO hp hb, List.drop_succ_cons, ih (foll O b) h1.1 (by omega), ← after_succ']
    · have hz : b = 0 := by omega
      subst hz
      have h2 := after_bd hO (Int.le_refl 0) (k + 1)
      have : after O 0 (k + 1) = 0 := by omega
      rw [this, bases_zero]; simp
theorem after_pos {O b : Int} (hO : 1 ≤ O) (h0 : 0 ≤ b) (hb : b ≤ O) {k : Nat} : k < (bases O b).length ↔ 0 < after O b k := by
  have h := bases_drop hO k b h0 hb
  have h1 := after_bd hO h0 k
  constructor
  · intro hk
    by_cases hp : 0 < after O b k
    · exact hp
    · have hz : after O b k = 0 := by omega
      rw [hz, bases_zero] at h
      have := congrArg List.length h
      simp at this; omega
  · intro hp
    rw [bases_pos hO hp (by omega)] at h
    have := congrArg List.length h
    simp at this; omega
end Go.Proofs.YtfgobighpkemkaaDoor
