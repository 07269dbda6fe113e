/- For TerrainSymmetry: cells compared; the three rectangles and their totals. -/
import Derived.Test.YtpoceidbiamgaaaWn
import Derived.Test.YtpoceidbiamgaaaWt
set_option linter.unusedVariables false
set_option linter.unusedSimpArgs false
namespace Go.Proofs.Ytpoceidbiamgaaa
open Go.RowKit

theorem eql_cell (a b c d : Int) (w : World) : (binOp .eql 26 (.agg #[.int .i64 a, .int .i64 b]) (.agg #[.int .i64 c, .int .i64 d])).run Try.prog w = .ok (.bool (eqP (a, b) (c, d))) w := by
  unfold eqP
  by_cases h1 : a = c <;> by_cases h2 : b = d <;> simp [h1, h2] <;> go_simp
theorem neq_cell (a b c d : Int) (w : World) : (binOp .neq 26 (.agg #[.int .i64 a, .int .i64 b]) (.agg #[.int .i64 c, .int .i64 d])).run Try.prog w = .ok (.bool (!eqP (a, b) (c, d))) w := by
  unfold eqP
  by_cases h1 : a = c <;> by_cases h2 : b = d <;> simp [h1, h2] <;> go_simp
/-- The three rectangles and their totals. -/
def Parts (W H : Int) (A : Option Addr) (n c : Nat) (A2 : Option Addr) (m c2 : Nat) (g p : List Int) (a1 a2 b1 b2 lo hi col : Int) : Prop :=
  ∃ (R1 R2 R3 : List Int) (t1 t2 t3 : Int), R1.length = R2.length + R3.length ∧ R1.length ≤ 4096 ∧ t1 = t2 + t3 ∧ (0 ≤ t2 ∧ t2 ≤ 4096000000) ∧ (0 ≤ t3 ∧ t3 ≤ 4096000000) ∧
    (∀ V, Ints V V.heap.size A n g → Ints V V.heap.size A2 m p → Calls Try.prog 34 #[.agg #[.int .i64 W, .int .i64 H, .slice A n c, .slice A2 m c2], .agg #[.int .i64 a1, .int .i64 a2], .agg #[.int .i64 b1, .int .i64 b2]] V (IntsR V R1)) ∧
    (∀ V, Ints V V.heap.size A n g → Ints V V.heap.size A2 m p → Calls Try.prog 34 #[.agg #[.int .i64 W, .int .i64 H, .slice A n c, .slice A2 m c2], .agg #[.int .i64 lo, .int .i64 a2], .agg #[.int .i64 col, .int .i64 b2]] V (IntsR V R2)) ∧
    (∀ V, Ints V V.heap.size A n g → Ints V V.heap.size A2 m p → Calls Try.prog 34 #[.agg #[.int .i64 W, .int .i64 H, .slice A n c, .slice A2 m c2], .agg #[.int .i64 (col + 1), .int .i64 a2], .agg #[.int .i64 hi, .int .i64 b2]] V (IntsR V R3)) ∧
    (∀ V C l lc, Ints V V.heap.size A n g → Ints V V.heap.size A2 m p → Ints V V.heap.size C l R1 → Calls Try.prog 38 #[.agg #[.int .i64 W, .int .i64 H, .slice A n c, .slice A2 m c2], .slice C l lc] V fun e w' => e = .returned (.tuple #[.int .i64 t1, .int .i64 0]) ∧ Below V.heap.size V w') ∧
    (∀ V C l lc, Ints V V.heap.size A n g → Ints V V.heap.size A2 m p → Ints V V.heap.size C l R2 → Calls Try.prog 38 #[.agg #[.int .i64 W, .int .i64 H, .slice A n c, .slice A2 m c2], .slice C l lc] V fun e w' => e = .returned (.tuple #[.int .i64 t2, .int .i64 0]) ∧ Below V.heap.size V w') ∧
    (∀ V C l lc, Ints V V.heap.size A n g → Ints V V.heap.size A2 m p → Ints V V.heap.size C l R3 → Calls Try.prog 38 #[.agg #[.int .i64 W, .int .i64 H, .slice A n c, .slice A2 m c2], .slice C l lc] V fun e w' => e = .returned (.tuple #[.int .i64 t3, .int .i64 0]) ∧ Below V.heap.size V w')
theorem parts_of (W H : Int) (A : Option Addr) (n c : Nat) (A2 : Option Addr) (m c2 : Nat) (g p : List Int) (a1 a2 b1 b2 lo hi col : Int) (hn : n ≤ 300) (hm : m ≤ 300) (ha : hasB W H g p a1 a2 = true) (hb : hasB W H g p b1 b2 = true) (hlo : min a1 b1 = lo) (hhi : max a1 b1 = hi) (hc1 : lo ≤ col) (hc2 : col < hi) : Parts W H A n c A2 m c2 g p a1 a2 b1 b2 lo hi col := by
  obtain ⟨ht, k1, k2, k3, k4⟩ := hasB_iff.1 ha
  obtain ⟨_, k5, k6, k7, k8⟩ := hasB_iff.1 hb
  obtain ⟨⟨v1, v2, v3, v4, v5, v6⟩, v7, v8⟩ := terB_iff.1 ht
  obtain ⟨n1, hn1⟩ : ∃ n1 : Nat, col - lo + 1 = n1 := ⟨(col - lo + 1).toNat, by omega⟩
  obtain ⟨n2, hn2⟩ : ∃ n2 : Nat, hi - col = n2 := ⟨(hi - col).toNat, by omega⟩
  obtain ⟨ny, hny⟩ : ∃ ny : Nat, max a2 b2 - min a2 b2 + 1 = ny := ⟨(max a2 b2 - min a2 b2 + 1).toNat, by omega⟩
  obtain ⟨y0, hy0⟩ : ∃ y0, min a2 b2 = y0 := ⟨_, rfl⟩
  have h1 : hasB W H g p lo a2 = true := hasB_iff.2 ⟨ht, by omega, by omega, by omega, by omega⟩
  have h2 : hasB W H g p col b2 = true := hasB_iff.2 ⟨ht, by omega, by omega, by omega, by omega⟩
  have h3 : hasB W H g p (col + 1) a2 = true := hasB_iff.2 ⟨ht, by omega, by omega, by omega, by omega⟩
  have h4 : hasB W H g p hi b2 = true := hasB_iff.2 ⟨ht, by omega, by omega, by omega, by omega⟩
  have e1 : rectAB W a1 a2 b1 b2 = rectL W lo y0 (n1 + n2) ny := by rw [rectAB_eq (x0 := lo) (k := n1 + n2) (ny := ny) hlo (by omega) hny, hy0]
  have e2 : rectAB W lo a2 col b2 = rectL W lo y0 n1 ny := by rw [rectAB_eq (x0 := lo) (k := n1) (ny := ny) (by omega) (by omega) hny, hy0]
  have e3 : rectAB W (col + 1) a2 hi b2 = rectL W (lo + n1) y0 n2 ny := by rw [rectAB_eq (x0 := lo + n1) (k := n2) (ny := ny) (by omega) (by omega) hny, hy0]
  have q1 : ny * (n1 + n2) ≤ 64 * 64 := Nat.mul_le_mul (by omega) (by omega)
  have q2 : ny * n1 ≤ ny * (n1 + n2) := Nat.mul_le_mul_left _ (by omega)
  have q3 : ny * n2 ≤ ny * (n1 + n2) := Nat.mul_le_mul_left _ (by omega)
  have b1' := rectL_bd (W := W) (H := H) (x0 := lo) (y0 := y0) (nx := n1 + n2) (ny := ny) (by omega) (by omega) (by omega) (by omega)
  have b2' := rectL_bd (W := W) (H := H) (x0 := lo) (y0 := y0) (nx := n1) (ny := ny) (by omega) (by omega) (by omega) (by omega)
  have b3' := rectL_bd (W := W) (H := H) (x0 := lo + n1) (y0 := y0) (nx := n2) (ny := ny) (by omega) (by omega) (by omega) (by omega)
  have s1 := tot_split p (W := W) (x0 := lo) (y0 := y0) (n1 := n1) (n2 := n2) (ny := ny) (by omega) (by omega)
  have l1 := rectL_len W lo y0 (n1 + n2) ny
  have l2 := rectL_len W lo y0 n1 ny
  have l3 := rectL_len W (lo + n1) y0 n2 ny
  have t2 := totK_bd (cs := rectL W lo y0 n1 ny) v8 (rectL W lo y0 n1 ny).length
  have t3 := totK_bd (cs := rectL W (lo + n1) y0 n2 ny) v8 (rectL W (lo + n1) y0 n2 ny).length
  refine ⟨rectL W lo y0 (n1 + n2) ny, rectL W lo y0 n1 ny, rectL W (lo + n1) y0 n2 ny, _, _, _, by rw [l1, l2, l3, Nat.mul_add], by omega, s1, ⟨t2.1, by omega⟩, ⟨t3.1, by omega⟩, ?_, ?_, ?_, ?_, ?_, ?_⟩
  · intro V i1 i2; rw [← e1]; exact rect_yes W H A n c A2 m c2 g p a1 a2 b1 b2 V i1 i2 (by omega) (by omega) ha hb
  · intro V i1 i2; rw [← e2]; exact rect_yes W H A n c A2 m c2 g p lo a2 col b2 V i1 i2 (by omega) (by omega) h1 h2
  · intro V i1 i2; rw [← e3]; exact rect_yes W H A n c A2 m c2 g p (col + 1) a2 hi b2 V i1 i2 (by omega) (by omega) h3 h4
  · intro V C l lc i1 i2 i3
    have q := total_any W H A n c A2 m c2 g p C l lc _ V i1 i2 (by omega) (by omega) i3 (by have := i3.1; omega)
    rw [totE_yes ht b1'] at q; exact q
  · intro V C l lc i1 i2 i3
    have q := total_any W H A n c A2 m c2 g p C l lc _ V i1 i2 (by omega) (by omega) i3 (by have := i3.1; omega)
    rw [totE_yes ht b2'] at q; exact q
  · intro V C l lc i1 i2 i3
    have q := total_any W H A n c A2 m c2 g p C l lc _ V i1 i2 (by omega) (by omega) i3 (by have := i3.1; omega)
    rw [totE_yes ht b3'] at q; exact q
end Go.Proofs.Ytpoceidbiamgaaa
