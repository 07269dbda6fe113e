/- What lines, profiles, rectangles and totals are, in plain Lean. No program in sight. -/
import Derived.Lib.Hide
set_option linter.unusedVariables false
set_option linter.unusedSimpArgs false
namespace Go.Proofs.Ytpoceidbiamgaaa

/-- The greater one of the absolute distances of the coordinates. -/
def span (a1 a2 b1 b2 : Int) : Int := max (max (a1 - b1) (b1 - a1)) (max (a2 - b2) (b2 - a2))
theorem span_nonneg (a1 a2 b1 b2 : Int) : 0 ≤ span a1 a2 b1 b2 := by unfold span; omega
theorem span_le {a1 a2 b1 b2 : Int} (h1 : 0 ≤ a1) (h2 : a1 ≤ 63) (h3 : 0 ≤ a2) (h4 : a2 ≤ 63) (h5 : 0 ≤ b1) (h6 : b1 ≤ 63) (h7 : 0 ≤ b2) (h8 : b2 ≤ 63) : span a1 a2 b1 b2 ≤ 63 := by unfold span; omega
theorem span_pos {a1 a2 b1 b2 : Int} : 0 < span a1 a2 b1 b2 ↔ ¬ (a1 = b1 ∧ a2 = b2) := by unfold span; omega
theorem span_comm (a1 a2 b1 b2 : Int) : span b1 b2 a1 a2 = span a1 a2 b1 b2 := by unfold span; omega
/-- One coordinate of cell number i of a line of span n. -/
def lineAt (a b n i : Int) : Int := a + (2 * i * (b - a) + n) / (2 * n)
/-- The cell number k + 1 of the line. -/
def lineC (a1 a2 b1 b2 : Int) (k : Nat) : Int × Int := (lineAt a1 b1 (span a1 a2 b1 b2) (k + 1), lineAt a2 b2 (span a1 a2 b1 b2) (k + 1))
/-- The first k cells of the line. -/
def lineK (a1 a2 b1 b2 : Int) (k : Nat) : List (Int × Int) := (List.range k).map (lineC a1 a2 b1 b2)
/-- How many cells the line has. -/
def lineN (a1 a2 b1 b2 : Int) : Nat := (span a1 a2 b1 b2 - 1).toNat
/-- The line between two cells. -/
def lineL (a1 a2 b1 b2 : Int) : List (Int × Int) := lineK a1 a2 b1 b2 (lineN a1 a2 b1 b2)
theorem lineK_succ (a1 a2 b1 b2 : Int) (k : Nat) : lineK a1 a2 b1 b2 (k + 1) = lineK a1 a2 b1 b2 k ++ [lineC a1 a2 b1 b2 k] := by simp [lineK, List.range_succ]
theorem lineK_len (a1 a2 b1 b2 : Int) (k : Nat) : (lineK a1 a2 b1 b2 k).length = k := by simp [lineK]
theorem lineL_len (a1 a2 b1 b2 : Int) : (lineL a1 a2 b1 b2).length = lineN a1 a2 b1 b2 := lineK_len _ _ _ _ _
theorem lineL_at {a1 a2 b1 b2 : Int} {k : Nat} (h : k < lineN a1 a2 b1 b2) : (lineL a1 a2 b1 b2)[k]? = some (lineC a1 a2 b1 b2 k) := by simp [lineL, lineK, h]
/-- A coordinate of a cell of the line lies between the ends. -/
theorem lineAt_bd {a b n i : Int} (hi : 0 ≤ i) (hn : i < n) (h1 : a - b ≤ n) (h2 : b - a ≤ n) : min a b ≤ lineAt a b n i ∧ lineAt a b n i ≤ max a b := by
  unfold lineAt
  obtain ⟨d, hd⟩ : ∃ d, d = b - a := ⟨_, rfl⟩
  rw [← hd]
  have n0 : 0 < 2 * n := by omega
  by_cases h0 : 0 ≤ d
  · have p0 : 0 ≤ 2 * i * d := Int.mul_nonneg (by omega) h0
    have p1 : 2 * i * d ≤ 2 * n * d := Int.mul_le_mul_of_nonneg_right (by omega) h0
    have q0 : 0 ≤ (2 * i * d + n) / (2 * n) := Int.ediv_nonneg (by omega) (by omega)
    have q1 : (2 * i * d + n) / (2 * n) < d + 1 := by
      apply Int.ediv_lt_of_lt_mul n0
      have e : (d + 1) * (2 * n) = 2 * n * d + 2 * n := by rw [Int.add_mul, Int.one_mul, Int.mul_comm d]
      rw [e]; omega
    omega
  · have p0 : 2 * i * d ≤ 0 := Int.mul_nonpos_of_nonneg_of_nonpos (by omega) (by omega)
    have p1 : 2 * n * d ≤ 2 * i * d := Int.mul_le_mul_of_nonpos_right (by omega) (by omega)
    have q0 : d ≤ (2 * i * d + n) / (2 * n) := by
      apply Int.le_ediv_of_mul_le n0
      rw [Int.mul_comm d]; omega
    have q1 : (2 * i * d + n) / (2 * n) < 1 := by
      apply Int.ediv_lt_of_lt_mul n0
      omega
    omega
theorem lineC_bd {a1 a2 b1 b2 : Int} {k : Nat} (h : k < lineN a1 a2 b1 b2) :
    min a1 b1 ≤ (lineC a1 a2 b1 b2 k).1 ∧ (lineC a1 a2 b1 b2 k).1 ≤ max a1 b1 ∧ min a2 b2 ≤ (lineC a1 a2 b1 b2 k).2 ∧ (lineC a1 a2 b1 b2 k).2 ≤ max a2 b2 := by
  unfold lineN at h
  have q1 : a1 - b1 ≤ span a1 a2 b1 b2 := by unfold span; omega
  have q2 : b1 - a1 ≤ span a1 a2 b1 b2 := by unfold span; omega
  have q3 : a2 - b2 ≤ span a1 a2 b1 b2 := by unfold span; omega
  have q4 : b2 - a2 ≤ span a1 a2 b1 b2 := by unfold span; omega
  have r1 := lineAt_bd (a := a1) (b := b1) (n := span a1 a2 b1 b2) (i := (k : Int) + 1) (by omega) (by omega) q1 q2
  have r2 := lineAt_bd (a := a2) (b := b2) (n := span a1 a2 b1 b2) (i := (k : Int) + 1) (by omega) (by omega) q3 q4
  exact ⟨r1.1, r1.2, r2.1, r2.2⟩
/-- The line back. -/
theorem lineAt_swap {a b n i : Int} (hn : 0 < n) : lineAt b a n (n - i) = lineAt a b n i := by
  unfold lineAt
  have e : 2 * (n - i) * (a - b) + n = (2 * i * (b - a) + n) + (2 * n) * (a - b) := by grind
  rw [e, Int.add_mul_ediv_left _ _ (by omega)]
  omega
theorem lineC_swap {a1 a2 b1 b2 : Int} {k : Nat} (h : k < lineN a1 a2 b1 b2) : lineC b1 b2 a1 a2 (lineN a1 a2 b1 b2 - 1 - k) = lineC a1 a2 b1 b2 k := by
  unfold lineN at *
  unfold lineC
  rw [span_comm]
  obtain ⟨n, hn⟩ : ∃ n, n = span a1 a2 b1 b2 := ⟨_, rfl⟩
  rw [← hn] at h ⊢
  have e : (((n - 1).toNat - 1 - k : Nat) : Int) + 1 = n - ((k : Int) + 1) := by omega
  rw [e, lineAt_swap (by omega), lineAt_swap (by omega)]
/-- A step along the line. -/
theorem lineAt_step {a b n i : Int} (hn : 0 < n) (h1 : a - b ≤ n) (h2 : b - a ≤ n) : lineAt a b n i - 1 ≤ lineAt a b n (i + 1) ∧ lineAt a b n (i + 1) ≤ lineAt a b n i + 1 := by
  unfold lineAt
  obtain ⟨x, hx⟩ : ∃ x, x = 2 * i * (b - a) + n := ⟨_, rfl⟩
  have e : 2 * (i + 1) * (b - a) + n = x + 2 * (b - a) := by rw [hx]; grind
  rw [e, ← hx]
  have q1 : (x + 2 * (b - a)) / (2 * n) ≤ (x + 2 * n * 1) / (2 * n) := Int.ediv_le_ediv (by omega) (by omega)
  have q2 : (x + 2 * n * (-1)) / (2 * n) ≤ (x + 2 * (b - a)) / (2 * n) := Int.ediv_le_ediv (by omega) (by omega)
  rw [Int.add_mul_ediv_left _ _ (by omega)] at q1 q2
  omega
theorem lineAt_zero {a b n : Int} (hn : 0 < n) : lineAt a b n 0 = a := by
  unfold lineAt
  have : (2 * 0 * (b - a) + n) / (2 * n) = 0 := by
    rw [Int.mul_zero, Int.zero_mul, Int.zero_add]
    exact Int.ediv_eq_zero_of_lt (by omega) (by omega)
  omega
theorem lineAt_end {a b n : Int} (hn : 0 < n) : lineAt a b n n = b := by
  have := lineAt_swap (a := b) (b := a) (n := n) (i := 0) hn
  rw [Int.sub_zero, lineAt_zero hn] at this
  exact this
/-- Along the longer side the line goes step by step. -/
theorem lineAt_long {a b n i : Int} (hn : 0 < n) (h : b - a = n ∨ a - b = n) : lineAt a b n i = if b - a = n then a + i else a - i := by
  unfold lineAt
  have z : n / (2 * n) = 0 := Int.ediv_eq_zero_of_lt (by omega) (by omega)
  by_cases h1 : b - a = n
  · rw [if_pos h1, h1]
    have e : 2 * i * n + n = n + (2 * n) * i := by grind
    rw [e, Int.add_mul_ediv_left _ _ (by omega)]
    omega
  · rw [if_neg h1]
    have h2 : b - a = -n := by omega
    rw [h2]
    have e : 2 * i * (-n) + n = n + (2 * n) * (-i) := by grind
    rw [e, Int.add_mul_ediv_left _ _ (by omega)]
    omega
theorem span_near {x y u v : Int} (h1 : x - 1 ≤ u) (h2 : u ≤ x + 1) (h3 : y - 1 ≤ v) (h4 : v ≤ y + 1) : span x y u v ≤ 1 := by unfold span; omega

/-- Where a cell lies. -/
def place (W : Int) (c : Int × Int) : Nat := (c.2 * W + c.1).toNat
def atI (l : List Int) (k : Nat) : Int := l[k]?.getD 0
/-- The ground along a line. -/
def profL (g : List Int) (W a1 a2 b1 b2 : Int) : List Int :=
  atI g (place W (a1, a2)) :: (lineL a1 a2 b1 b2).map (fun c => atI g (place W c)) ++ (if a1 = b1 ∧ a2 = b2 then [] else [atI g (place W (b1, b2))])
/-- The indexes of a rectangle: nx columns from x0, ny rows from y0. -/
def rowL (W x0 y : Int) (nx : Nat) : List Int := (List.range nx).map fun (i : Nat) => y * W + (x0 + i)
def rectL (W x0 y0 : Int) (nx ny : Nat) : List Int := (List.range ny).flatMap fun (j : Nat) => rowL W x0 (y0 + j) nx
theorem rowL_succ (W x0 y : Int) (nx : Nat) : rowL W x0 y (nx + 1) = rowL W x0 y nx ++ [y * W + (x0 + nx)] := by simp [rowL, List.range_succ]
theorem rectL_succ (W x0 y0 : Int) (nx ny : Nat) : rectL W x0 y0 nx (ny + 1) = rectL W x0 y0 nx ny ++ rowL W x0 (y0 + ny) nx := by simp [rectL, List.range_succ]
theorem rowL_len (W x0 y : Int) (nx : Nat) : (rowL W x0 y nx).length = nx := by simp [rowL]
theorem rectL_len (W x0 y0 : Int) (nx ny : Nat) : (rectL W x0 y0 nx ny).length = ny * nx := by
  induction ny with
  | zero => simp [rectL]
  | succ n ih => rw [rectL_succ, List.length_append, ih, rowL_len, Nat.succ_mul]
def rectAB (W a1 a2 b1 b2 : Int) : List Int := rectL W (min a1 b1) (min a2 b2) (max a1 b1 - min a1 b1 + 1).toNat (max a2 b2 - min a2 b2 + 1).toNat
/-- The people of the first k indexes, each counted once. -/
def totK (p cs : List Int) : Nat → Int
  | 0 => 0
  | k + 1 => totK p cs k + if (cs.take k).contains (atI cs k) then 0 else atI p (atI cs k).toNat
end Go.Proofs.Ytpoceidbiamgaaa
