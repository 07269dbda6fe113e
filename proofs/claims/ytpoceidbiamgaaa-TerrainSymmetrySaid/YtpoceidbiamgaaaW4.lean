/- Contracts of terrain.Has, Index, Ground, People, At and bandplanref10.Has. -/
import Derived.Test.YtpoceidbiamgaaaW3
set_option linter.unusedVariables false
set_option linter.unusedSimpArgs false
namespace Go.Proofs.Ytpoceidbiamgaaa
open Go.RowKit

theorem gfrozen {B : Nat} {W w' : World} {b o : Nat} {v : Bool} (G : Below B W w') (hb : b < B) (hc : W.frozen? ⟨b, o, none⟩ = v) : w'.frozen? ⟨b, o, none⟩ = v := (G.frozen (p := ⟨b, o, none⟩) hb).trans hc
/-- The terrain is valid and has the cell. -/
def hasB (W H : Int) (g p : List Int) (x y : Int) : Bool := insB W H x y && terB W H g p
theorem hasB_iff {W H : Int} {g p : List Int} {x y : Int} : hasB W H g p x y = true ↔ terB W H g p = true ∧ 0 ≤ x ∧ x < W ∧ 0 ≤ y ∧ y < H := by
  unfold hasB
  by_cases ht : terB W H g p = true
  · obtain ⟨⟨k1, k2, k3, k4, _, _⟩, _⟩ := terB_iff.1 ht
    have e1 : wrap64 (W - 1) = W - 1 := by unfold wrap64; omega
    have e2 : wrap64 (H - 1) = H - 1 := by unfold wrap64; omega
    simp only [ht, Bool.and_true, insB, e1, e2, inB, Bool.and_eq_true, decide_eq_true_eq, true_and]
    omega
  · simp [ht]
theorem hasB_no {W H : Int} {g p : List Int} {x y : Int} (h : ¬ (terB W H g p = true ∧ 0 ≤ x ∧ x < W ∧ 0 ≤ y ∧ y < H)) : hasB W H g p x y = false := by
  rw [Bool.eq_false_iff]; exact fun k => h (hasB_iff.1 k)
/-- Where a cell that the terrain has lies. -/
theorem place_bd {W H x y : Int} (hx0 : 0 ≤ x) (hx : x < W) (hy0 : 0 ≤ y) (hy : y < H) : 0 ≤ y * W + x ∧ y * W + x < W * H := by
  have a : 0 ≤ y * W := Int.mul_nonneg hy0 (by omega)
  have b : y * W + W ≤ H * W := by
    have := Int.mul_le_mul_of_nonneg_right (show y + 1 ≤ H by omega) (show 0 ≤ W by omega)
    rw [Int.add_mul, Int.one_mul] at this
    exact this
  rw [Int.mul_comm W H]
  omega

set_option maxHeartbeats 400000 in
theorem has_any (W H : Int) (A : Option Addr) (n c : Nat) (A2 : Option Addr) (m c2 : Nat) (g p : List Int) (x y : Int) (w : World) (hG : Ints w w.heap.size A n g) (hP : Ints w w.heap.size A2 m p) (hn : n ≤ 4611686018427387904) (hm : m ≤ 4611686018427387904) :
    Calls Try.prog 20 #[.agg #[.int .i64 W, .int .i64 H, .slice A n c, .slice A2 m c2], .agg #[.int .i64 x, .int .i64 y]] w fun e w' => e = .returned (.bool (hasB W H g p x y)) ∧ Below w.heap.size w w' := by
  unfold hasB
  have HB : Below w.heap.size w ((w.alloc (.cells #[.int .i64 W, .int .i64 H, .slice A n c, .slice A2 m c2] 24)).alloc (.cells #[.int .i64 x, .int .i64 y] 26)) := ((Below.refl w.heap.size w).alloc (Nat.le_refl _) _).alloc (by simp) _
  have t0 : ((w.alloc (.cells #[.int .i64 W, .int .i64 H, .slice A n c, .slice A2 m c2] 24)).alloc (.cells #[.int .i64 x, .int .i64 y] 26)).cell? ⟨w.heap.size, 0, none⟩ = some (.int .i64 W) := by go_simp
  have t1 : ((w.alloc (.cells #[.int .i64 W, .int .i64 H, .slice A n c, .slice A2 m c2] 24)).alloc (.cells #[.int .i64 x, .int .i64 y] 26)).cell? ⟨w.heap.size, 1, none⟩ = some (.int .i64 H) := by go_simp
  have t2 : ((w.alloc (.cells #[.int .i64 W, .int .i64 H, .slice A n c, .slice A2 m c2] 24)).alloc (.cells #[.int .i64 x, .int .i64 y] 26)).cell? ⟨w.heap.size, 2, none⟩ = some (.slice A n c) := by go_simp
  have t3 : ((w.alloc (.cells #[.int .i64 W, .int .i64 H, .slice A n c, .slice A2 m c2] 24)).alloc (.cells #[.int .i64 x, .int .i64 y] 26)).cell? ⟨w.heap.size, 3, none⟩ = some (.slice A2 m c2) := by go_simp
  have c0 : ((w.alloc (.cells #[.int .i64 W, .int .i64 H, .slice A n c, .slice A2 m c2] 24)).alloc (.cells #[.int .i64 x, .int .i64 y] 26)).cell? ⟨w.heap.size + 1, 0, none⟩ = some (.int .i64 x) := by go_simp
  have c1 : ((w.alloc (.cells #[.int .i64 W, .int .i64 H, .slice A n c, .slice A2 m c2] 24)).alloc (.cells #[.int .i64 x, .int .i64 y] 26)).cell? ⟨w.heap.size + 1, 1, none⟩ = some (.int .i64 y) := by go_simp
  have ls : w.heap.size + 2 ≤ ((w.alloc (.cells #[.int .i64 W, .int .i64 H, .slice A n c, .slice A2 m c2] 24)).alloc (.cells #[.int .i64 x, .int .i64 y] 26)).heap.size := by simp
  have hG0 := Lib.hid (hG.next HB)
  have hP0 := Lib.hid (hP.next HB)
  have HB0 := Lib.hid HB
  clear hG hP HB
  go_enter Try.func20, Try.ntmps20
  go_wp2_with fail
  obtain ⟨W0, hW0⟩ : ∃ W0, W0 = ((w.alloc (.cells #[.int .i64 W, .int .i64 H, .slice A n c, .slice A2 m c2] 24)).alloc (.cells #[.int .i64 x, .int .i64 y] 26)) := ⟨_, rfl⟩
  rw [← hW0] at t0 t1 t2 t3 c0 c1 ls hG0 hP0 HB0 ⊢
  clear hW0
  refine (inside_any W H A n c A2 m c2 x y _).mono ?_
  rintro e w1 ⟨rfl, hb1⟩
  have t0 := gcell hb1 (by omega) t0
  have t1 := gcell hb1 (by omega) t1
  have t2 := gcell hb1 (by omega) t2
  have t3 := gcell hb1 (by omega) t3
  have c0 := gcell hb1 (by omega) c0
  have c1 := gcell hb1 (by omega) c1
  have ls := Nat.le_trans ls hb1.size
  have hG1 := Lib.hid (hG0.out.next hb1)
  have hP1 := Lib.hid (hP0.out.next hb1)
  have HB1 := Lib.hid (chain HB0.out hb1)
  clear hb1
  have C2 := Lib.hid (valid_any W H A n c A2 m c2 g p w1 hG1.out hP1.out hn hm)
  obtain ⟨E1, hE1⟩ : ∃ E, E = insB W H x y := ⟨_, rfl⟩
  rw [← hE1]
  have HE1 := Lib.hid hE1
  clear hE1
  cases E1
  · go_wp2
    go_ret
    exact ⟨ret_bool (by rw [← HE1.out]; rfl), HB1.out⟩
  · go_wp2_with fail
    refine C2.out.mono ?_
    rintro e w2 ⟨rfl, hb2⟩
    go_wp2
    go_ret
    exact ⟨ret_bool (by rw [← HE1.out]; simp), chain HB1.out hb2⟩

set_option maxHeartbeats 400000 in
theorem refHas_any (W H : Int) (A : Option Addr) (n c : Nat) (A2 : Option Addr) (m c2 : Nat) (g p : List Int) (x y : Int) (w : World) (hG : Ints w w.heap.size A n g) (hP : Ints w w.heap.size A2 m p) (hn : n ≤ 4611686018427387904) (hm : m ≤ 4611686018427387904) :
    Calls Try.prog 13 #[.agg #[.int .i64 W, .int .i64 H, .slice A n c, .slice A2 m c2], .agg #[.int .i64 x, .int .i64 y]] w fun e w' => e = .returned (.bool (hasB W H g p x y)) ∧ Below w.heap.size w w' := by
  have HB : Below w.heap.size w ((w.alloc (.cells #[.int .i64 W, .int .i64 H, .slice A n c, .slice A2 m c2] 24)).alloc (.cells #[.int .i64 x, .int .i64 y] 26)) := ((Below.refl w.heap.size w).alloc (Nat.le_refl _) _).alloc (by simp) _
  have t0 : ((w.alloc (.cells #[.int .i64 W, .int .i64 H, .slice A n c, .slice A2 m c2] 24)).alloc (.cells #[.int .i64 x, .int .i64 y] 26)).cell? ⟨w.heap.size, 0, none⟩ = some (.int .i64 W) := by go_simp
  have t1 : ((w.alloc (.cells #[.int .i64 W, .int .i64 H, .slice A n c, .slice A2 m c2] 24)).alloc (.cells #[.int .i64 x, .int .i64 y] 26)).cell? ⟨w.heap.size, 1, none⟩ = some (.int .i64 H) := by go_simp
  have t2 : ((w.alloc (.cells #[.int .i64 W, .int .i64 H, .slice A n c, .slice A2 m c2] 24)).alloc (.cells #[.int .i64 x, .int .i64 y] 26)).cell? ⟨w.heap.size, 2, none⟩ = some (.slice A n c) := by go_simp
  have t3 : ((w.alloc (.cells #[.int .i64 W, .int .i64 H, .slice A n c, .slice A2 m c2] 24)).alloc (.cells #[.int .i64 x, .int .i64 y] 26)).cell? ⟨w.heap.size, 3, none⟩ = some (.slice A2 m c2) := by go_simp
  have c0 : ((w.alloc (.cells #[.int .i64 W, .int .i64 H, .slice A n c, .slice A2 m c2] 24)).alloc (.cells #[.int .i64 x, .int .i64 y] 26)).cell? ⟨w.heap.size + 1, 0, none⟩ = some (.int .i64 x) := by go_simp
  have c1 : ((w.alloc (.cells #[.int .i64 W, .int .i64 H, .slice A n c, .slice A2 m c2] 24)).alloc (.cells #[.int .i64 x, .int .i64 y] 26)).cell? ⟨w.heap.size + 1, 1, none⟩ = some (.int .i64 y) := by go_simp
  have ls : w.heap.size + 2 ≤ ((w.alloc (.cells #[.int .i64 W, .int .i64 H, .slice A n c, .slice A2 m c2] 24)).alloc (.cells #[.int .i64 x, .int .i64 y] 26)).heap.size := by simp
  have hG0 := Lib.hid (hG.next HB)
  have hP0 := Lib.hid (hP.next HB)
  have HB0 := Lib.hid HB
  clear hG hP HB
  go_enter Try.func13, Try.ntmps13
  go_wp2_with fail
  obtain ⟨W0, hW0⟩ : ∃ W0, W0 = ((w.alloc (.cells #[.int .i64 W, .int .i64 H, .slice A n c, .slice A2 m c2] 24)).alloc (.cells #[.int .i64 x, .int .i64 y] 26)) := ⟨_, rfl⟩
  rw [← hW0] at t0 t1 t2 t3 c0 c1 ls hG0 hP0 HB0 ⊢
  clear hW0
  refine (refValid_any W H A n c A2 m c2 g p _ hG0.out hP0.out hn hm).mono ?_
  rintro e w1 ⟨rfl, hb1⟩
  have t0 := gcell hb1 (by omega) t0
  have t1 := gcell hb1 (by omega) t1
  have t2 := gcell hb1 (by omega) t2
  have t3 := gcell hb1 (by omega) t3
  have c0 := gcell hb1 (by omega) c0
  have c1 := gcell hb1 (by omega) c1
  have ls := Nat.le_trans ls hb1.size
  have hG1 := Lib.hid (hG0.out.next hb1)
  have hP1 := Lib.hid (hP0.out.next hb1)
  have HB1 := Lib.hid (chain HB0.out hb1)
  clear hb1
  have HN := Lib.hid (fun h => hasB_no (W := W) (H := H) (g := g) (p := p) (x := x) (y := y) h)
  have HY := Lib.hid (fun h => hasB_iff (W := W) (H := H) (g := g) (p := p) (x := x) (y := y) |>.2 h)
  obtain ⟨E1, hE1⟩ : ∃ E, E = terB W H g p := ⟨_, rfl⟩
  rw [← hE1]
  rw [← hE1] at HN HY
  clear hE1
  cases E1
  · go_wp2
    go_ret
    exact ⟨ret_bool (HN.out (by simp)).symm, HB1.out⟩
  · have kk : (x < 0) ∨ (0 ≤ x ∧ W ≤ x) ∨ (0 ≤ x ∧ x < W ∧ y < 0) ∨ (0 ≤ x ∧ x < W ∧ 0 ≤ y ∧ H ≤ y) ∨ (0 ≤ x ∧ x < W ∧ 0 ≤ y ∧ y < H) := by omega
    rcases kk with k1 | ⟨k1, k2⟩ | ⟨k1, k2, k3⟩ | ⟨k1, k2, k3, k4⟩ | ⟨k1, k2, k3, k4⟩
    all_goals
      go_wp2
      go_ret
      first
        | exact ⟨ret_bool (HN.out (fun ⟨_, _, _, _, _⟩ => by omega)).symm, HB1.out⟩
        | exact ⟨ret_bool (by rw [HN.out (fun ⟨_, _, _, _, _⟩ => by omega)]; simp; omega), HB1.out⟩
        | exact ⟨ret_bool (HY.out ⟨by simp, k1, k2, k3, k4⟩).symm, HB1.out⟩

set_option maxHeartbeats 400000 in
theorem index_no (W H : Int) (A : Option Addr) (n c : Nat) (A2 : Option Addr) (m c2 : Nat) (g p : List Int) (x y : Int) (w : World) (hG : Ints w w.heap.size A n g) (hP : Ints w w.heap.size A2 m p) (hn : n ≤ 4611686018427387904) (hm : m ≤ 4611686018427387904) (hh : hasB W H g p x y = false) :
    Calls Try.prog 14 #[.agg #[.int .i64 W, .int .i64 H, .slice A n c, .slice A2 m c2], .agg #[.int .i64 x, .int .i64 y]] w fun e w' => e = .returned (.tuple #[.int .i64 0, .int .i64 2]) ∧ Below w.heap.size w w' := by
  have HB : Below w.heap.size w ((w.alloc (.cells #[.int .i64 W, .int .i64 H, .slice A n c, .slice A2 m c2] 24)).alloc (.cells #[.int .i64 x, .int .i64 y] 26)) := ((Below.refl w.heap.size w).alloc (Nat.le_refl _) _).alloc (by simp) _
  have t0 : ((w.alloc (.cells #[.int .i64 W, .int .i64 H, .slice A n c, .slice A2 m c2] 24)).alloc (.cells #[.int .i64 x, .int .i64 y] 26)).cell? ⟨w.heap.size, 0, none⟩ = some (.int .i64 W) := by go_simp
  have t1 : ((w.alloc (.cells #[.int .i64 W, .int .i64 H, .slice A n c, .slice A2 m c2] 24)).alloc (.cells #[.int .i64 x, .int .i64 y] 26)).cell? ⟨w.heap.size, 1, none⟩ = some (.int .i64 H) := by go_simp
  have t2 : ((w.alloc (.cells #[.int .i64 W, .int .i64 H, .slice A n c, .slice A2 m c2] 24)).alloc (.cells #[.int .i64 x, .int .i64 y] 26)).cell? ⟨w.heap.size, 2, none⟩ = some (.slice A n c) := by go_simp
  have t3 : ((w.alloc (.cells #[.int .i64 W, .int .i64 H, .slice A n c, .slice A2 m c2] 24)).alloc (.cells #[.int .i64 x, .int .i64 y] 26)).cell? ⟨w.heap.size, 3, none⟩ = some (.slice A2 m c2) := by go_simp
  have c0 : ((w.alloc (.cells #[.int .i64 W, .int .i64 H, .slice A n c, .slice A2 m c2] 24)).alloc (.cells #[.int .i64 x, .int .i64 y] 26)).cell? ⟨w.heap.size + 1, 0, none⟩ = some (.int .i64 x) := by go_simp
  have c1 : ((w.alloc (.cells #[.int .i64 W, .int .i64 H, .slice A n c, .slice A2 m c2] 24)).alloc (.cells #[.int .i64 x, .int .i64 y] 26)).cell? ⟨w.heap.size + 1, 1, none⟩ = some (.int .i64 y) := by go_simp
  have ls : w.heap.size + 2 ≤ ((w.alloc (.cells #[.int .i64 W, .int .i64 H, .slice A n c, .slice A2 m c2] 24)).alloc (.cells #[.int .i64 x, .int .i64 y] 26)).heap.size := by simp
  have hG0 := Lib.hid (hG.next HB)
  have hP0 := Lib.hid (hP.next HB)
  have HB0 := Lib.hid HB
  clear hG hP HB
  go_enter Try.func14, Try.ntmps14
  go_wp2_with fail
  obtain ⟨W0, hW0⟩ : ∃ W0, W0 = ((w.alloc (.cells #[.int .i64 W, .int .i64 H, .slice A n c, .slice A2 m c2] 24)).alloc (.cells #[.int .i64 x, .int .i64 y] 26)) := ⟨_, rfl⟩
  rw [← hW0] at t0 t1 t2 t3 c0 c1 ls hG0 hP0 HB0 ⊢
  clear hW0
  refine (has_any W H A n c A2 m c2 g p x y _ hG0.out hP0.out hn hm).mono ?_
  rintro e w1 ⟨rfl, hb1⟩
  have t0 := gcell hb1 (by omega) t0
  have t1 := gcell hb1 (by omega) t1
  have t2 := gcell hb1 (by omega) t2
  have t3 := gcell hb1 (by omega) t3
  have c0 := gcell hb1 (by omega) c0
  have c1 := gcell hb1 (by omega) c1
  have ls := Nat.le_trans ls hb1.size
  have hG1 := Lib.hid (hG0.out.next hb1)
  have hP1 := Lib.hid (hP0.out.next hb1)
  have HB1 := Lib.hid (chain HB0.out hb1)
  clear hb1
  rw [hh]
  go_wp2
  go_ret2
  exact ⟨rfl, HB1.out⟩
set_option maxHeartbeats 400000 in
theorem index_yes (W H : Int) (A : Option Addr) (n c : Nat) (A2 : Option Addr) (m c2 : Nat) (g p : List Int) (x y : Int) (w : World) (hG : Ints w w.heap.size A n g) (hP : Ints w w.heap.size A2 m p) (hn : n ≤ 4611686018427387904) (hm : m ≤ 4611686018427387904) (hh : hasB W H g p x y = true) :
    Calls Try.prog 14 #[.agg #[.int .i64 W, .int .i64 H, .slice A n c, .slice A2 m c2], .agg #[.int .i64 x, .int .i64 y]] w fun e w' => e = .returned (.tuple #[.int .i64 (y * W + x), .int .i64 0]) ∧ Below w.heap.size w w' := by
  obtain ⟨ht, x0, x1, y0, y1⟩ := hasB_iff.1 hh
  obtain ⟨⟨v1, v2, v3, v4, _, _⟩, _⟩ := terB_iff.1 ht
  have HB : Below w.heap.size w ((w.alloc (.cells #[.int .i64 W, .int .i64 H, .slice A n c, .slice A2 m c2] 24)).alloc (.cells #[.int .i64 x, .int .i64 y] 26)) := ((Below.refl w.heap.size w).alloc (Nat.le_refl _) _).alloc (by simp) _
  have t0 : ((w.alloc (.cells #[.int .i64 W, .int .i64 H, .slice A n c, .slice A2 m c2] 24)).alloc (.cells #[.int .i64 x, .int .i64 y] 26)).cell? ⟨w.heap.size, 0, none⟩ = some (.int .i64 W) := by go_simp
  have t1 : ((w.alloc (.cells #[.int .i64 W, .int .i64 H, .slice A n c, .slice A2 m c2] 24)).alloc (.cells #[.int .i64 x, .int .i64 y] 26)).cell? ⟨w.heap.size, 1, none⟩ = some (.int .i64 H) := by go_simp
  have t2 : ((w.alloc (.cells #[.int .i64 W, .int .i64 H, .slice A n c, .slice A2 m c2] 24)).alloc (.cells #[.int .i64 x, .int .i64 y] 26)).cell? ⟨w.heap.size, 2, none⟩ = some (.slice A n c) := by go_simp
  have t3 : ((w.alloc (.cells #[.int .i64 W, .int .i64 H, .slice A n c, .slice A2 m c2] 24)).alloc (.cells #[.int .i64 x, .int .i64 y] 26)).cell? ⟨w.heap.size, 3, none⟩ = some (.slice A2 m c2) := by go_simp
  have c0 : ((w.alloc (.cells #[.int .i64 W, .int .i64 H, .slice A n c, .slice A2 m c2] 24)).alloc (.cells #[.int .i64 x, .int .i64 y] 26)).cell? ⟨w.heap.size + 1, 0, none⟩ = some (.int .i64 x) := by go_simp
  have c1 : ((w.alloc (.cells #[.int .i64 W, .int .i64 H, .slice A n c, .slice A2 m c2] 24)).alloc (.cells #[.int .i64 x, .int .i64 y] 26)).cell? ⟨w.heap.size + 1, 1, none⟩ = some (.int .i64 y) := by go_simp
  have ls : w.heap.size + 2 ≤ ((w.alloc (.cells #[.int .i64 W, .int .i64 H, .slice A n c, .slice A2 m c2] 24)).alloc (.cells #[.int .i64 x, .int .i64 y] 26)).heap.size := by simp
  have hG0 := Lib.hid (hG.next HB)
  have hP0 := Lib.hid (hP.next HB)
  have HB0 := Lib.hid HB
  clear hG hP HB
  go_enter Try.func14, Try.ntmps14
  go_wp2_with fail
  obtain ⟨W0, hW0⟩ : ∃ W0, W0 = ((w.alloc (.cells #[.int .i64 W, .int .i64 H, .slice A n c, .slice A2 m c2] 24)).alloc (.cells #[.int .i64 x, .int .i64 y] 26)) := ⟨_, rfl⟩
  rw [← hW0] at t0 t1 t2 t3 c0 c1 ls hG0 hP0 HB0 ⊢
  clear hW0
  refine (has_any W H A n c A2 m c2 g p x y _ hG0.out hP0.out hn hm).mono ?_
  rintro e w1 ⟨rfl, hb1⟩
  have t0 := gcell hb1 (by omega) t0
  have t1 := gcell hb1 (by omega) t1
  have t2 := gcell hb1 (by omega) t2
  have t3 := gcell hb1 (by omega) t3
  have c0 := gcell hb1 (by omega) c0
  have c1 := gcell hb1 (by omega) c1
  have ls := Nat.le_trans ls hb1.size
  have hG1 := Lib.hid (hG0.out.next hb1)
  have hP1 := Lib.hid (hP0.out.next hb1)
  have HB1 := Lib.hid (chain HB0.out hb1)
  clear hb1
  rw [hh]
  clear hh ht
  go_wp2_with fail
  refine (place_any W H A n c A2 m c2 x y _ v1 v2 x0 (by omega) y0 (by omega)).mono ?_
  rintro e w2 ⟨rfl, hb2⟩
  go_wp2
  go_ret2
  exact ⟨rfl, chain HB1.out hb2⟩

set_option maxHeartbeats 400000 in
theorem ground_no (W H : Int) (A : Option Addr) (n c : Nat) (A2 : Option Addr) (m c2 : Nat) (g p : List Int) (x y : Int) (w : World) (hG : Ints w w.heap.size A n g) (hP : Ints w w.heap.size A2 m p) (hn : n ≤ 4611686018427387904) (hm : m ≤ 4611686018427387904) (hh : hasB W H g p x y = false) :
    Calls Try.prog 15 #[.agg #[.int .i64 W, .int .i64 H, .slice A n c, .slice A2 m c2], .agg #[.int .i64 x, .int .i64 y]] w fun e w' => e = .returned (.tuple #[.int .i64 0, .int .i64 2]) ∧ Below w.heap.size w w' := by
  have HB : Below w.heap.size w ((w.alloc (.cells #[.int .i64 W, .int .i64 H, .slice A n c, .slice A2 m c2] 24)).alloc (.cells #[.int .i64 x, .int .i64 y] 26)) := ((Below.refl w.heap.size w).alloc (Nat.le_refl _) _).alloc (by simp) _
  have t0 : ((w.alloc (.cells #[.int .i64 W, .int .i64 H, .slice A n c, .slice A2 m c2] 24)).alloc (.cells #[.int .i64 x, .int .i64 y] 26)).cell? ⟨w.heap.size, 0, none⟩ = some (.int .i64 W) := by go_simp
  have t1 : ((w.alloc (.cells #[.int .i64 W, .int .i64 H, .slice A n c, .slice A2 m c2] 24)).alloc (.cells #[.int .i64 x, .int .i64 y] 26)).cell? ⟨w.heap.size, 1, none⟩ = some (.int .i64 H) := by go_simp
  have t2 : ((w.alloc (.cells #[.int .i64 W, .int .i64 H, .slice A n c, .slice A2 m c2] 24)).alloc (.cells #[.int .i64 x, .int .i64 y] 26)).cell? ⟨w.heap.size, 2, none⟩ = some (.slice A n c) := by go_simp
  have t3 : ((w.alloc (.cells #[.int .i64 W, .int .i64 H, .slice A n c, .slice A2 m c2] 24)).alloc (.cells #[.int .i64 x, .int .i64 y] 26)).cell? ⟨w.heap.size, 3, none⟩ = some (.slice A2 m c2) := by go_simp
  have c0 : ((w.alloc (.cells #[.int .i64 W, .int .i64 H, .slice A n c, .slice A2 m c2] 24)).alloc (.cells #[.int .i64 x, .int .i64 y] 26)).cell? ⟨w.heap.size + 1, 0, none⟩ = some (.int .i64 x) := by go_simp
  have c1 : ((w.alloc (.cells #[.int .i64 W, .int .i64 H, .slice A n c, .slice A2 m c2] 24)).alloc (.cells #[.int .i64 x, .int .i64 y] 26)).cell? ⟨w.heap.size + 1, 1, none⟩ = some (.int .i64 y) := by go_simp
  have ls : w.heap.size + 2 ≤ ((w.alloc (.cells #[.int .i64 W, .int .i64 H, .slice A n c, .slice A2 m c2] 24)).alloc (.cells #[.int .i64 x, .int .i64 y] 26)).heap.size := by simp
  have hG0 := Lib.hid (hG.next HB)
  have hP0 := Lib.hid (hP.next HB)
  have HB0 := Lib.hid HB
  clear hG hP HB
  go_enter Try.func15, Try.ntmps15
  go_wp2_with fail
  obtain ⟨W0, hW0⟩ : ∃ W0, W0 = ((w.alloc (.cells #[.int .i64 W, .int .i64 H, .slice A n c, .slice A2 m c2] 24)).alloc (.cells #[.int .i64 x, .int .i64 y] 26)) := ⟨_, rfl⟩
  rw [← hW0] at t0 t1 t2 t3 c0 c1 ls hG0 hP0 HB0 ⊢
  clear hW0
  refine (index_no W H A n c A2 m c2 g p x y _ hG0.out hP0.out hn hm hh).mono ?_
  rintro e w1 ⟨rfl, hb1⟩
  have t0 := gcell hb1 (by omega) t0
  have t1 := gcell hb1 (by omega) t1
  have t2 := gcell hb1 (by omega) t2
  have t3 := gcell hb1 (by omega) t3
  have c0 := gcell hb1 (by omega) c0
  have c1 := gcell hb1 (by omega) c1
  have ls := Nat.le_trans ls hb1.size
  have hG1 := Lib.hid (hG0.out.next hb1)
  have hP1 := Lib.hid (hP0.out.next hb1)
  have HB1 := Lib.hid (chain HB0.out hb1)
  clear hb1
  clear hh
  go_wp2
  go_ret2
  exact ⟨rfl, HB1.out⟩
set_option maxHeartbeats 400000 in
theorem ground_yes (W H : Int) (A : Option Addr) (n c : Nat) (A2 : Option Addr) (m c2 : Nat) (g p : List Int) (x y : Int) (w : World) (hG : Ints w w.heap.size A n g) (hP : Ints w w.heap.size A2 m p) (hn : n ≤ 4611686018427387904) (hm : m ≤ 4611686018427387904) (hh : hasB W H g p x y = true) (k : Nat) (hk : y * W + x = k) :
    Calls Try.prog 15 #[.agg #[.int .i64 W, .int .i64 H, .slice A n c, .slice A2 m c2], .agg #[.int .i64 x, .int .i64 y]] w fun e w' => e = .returned (.tuple #[.int .i64 (g[k]?.getD 0), .int .i64 0]) ∧ Below w.heap.size w w' := by
  obtain ⟨ht, x0, x1, y0, y1⟩ := hasB_iff.1 hh
  obtain ⟨⟨v1, v2, v3, v4, v5, v6⟩, _⟩ := terB_iff.1 ht
  have hl1 := hG.1
  have hl2 := hP.1
  obtain ⟨i0, i1⟩ := place_bd x0 x1 y0 y1
  have HB : Below w.heap.size w ((w.alloc (.cells #[.int .i64 W, .int .i64 H, .slice A n c, .slice A2 m c2] 24)).alloc (.cells #[.int .i64 x, .int .i64 y] 26)) := ((Below.refl w.heap.size w).alloc (Nat.le_refl _) _).alloc (by simp) _
  have t0 : ((w.alloc (.cells #[.int .i64 W, .int .i64 H, .slice A n c, .slice A2 m c2] 24)).alloc (.cells #[.int .i64 x, .int .i64 y] 26)).cell? ⟨w.heap.size, 0, none⟩ = some (.int .i64 W) := by go_simp
  have t1 : ((w.alloc (.cells #[.int .i64 W, .int .i64 H, .slice A n c, .slice A2 m c2] 24)).alloc (.cells #[.int .i64 x, .int .i64 y] 26)).cell? ⟨w.heap.size, 1, none⟩ = some (.int .i64 H) := by go_simp
  have t2 : ((w.alloc (.cells #[.int .i64 W, .int .i64 H, .slice A n c, .slice A2 m c2] 24)).alloc (.cells #[.int .i64 x, .int .i64 y] 26)).cell? ⟨w.heap.size, 2, none⟩ = some (.slice A n c) := by go_simp
  have t3 : ((w.alloc (.cells #[.int .i64 W, .int .i64 H, .slice A n c, .slice A2 m c2] 24)).alloc (.cells #[.int .i64 x, .int .i64 y] 26)).cell? ⟨w.heap.size, 3, none⟩ = some (.slice A2 m c2) := by go_simp
  have c0 : ((w.alloc (.cells #[.int .i64 W, .int .i64 H, .slice A n c, .slice A2 m c2] 24)).alloc (.cells #[.int .i64 x, .int .i64 y] 26)).cell? ⟨w.heap.size + 1, 0, none⟩ = some (.int .i64 x) := by go_simp
  have c1 : ((w.alloc (.cells #[.int .i64 W, .int .i64 H, .slice A n c, .slice A2 m c2] 24)).alloc (.cells #[.int .i64 x, .int .i64 y] 26)).cell? ⟨w.heap.size + 1, 1, none⟩ = some (.int .i64 y) := by go_simp
  have ls : w.heap.size + 2 ≤ ((w.alloc (.cells #[.int .i64 W, .int .i64 H, .slice A n c, .slice A2 m c2] 24)).alloc (.cells #[.int .i64 x, .int .i64 y] 26)).heap.size := by simp
  have hG0 := Lib.hid (hG.next HB)
  have hP0 := Lib.hid (hP.next HB)
  have HB0 := Lib.hid HB
  clear hG hP HB
  go_enter Try.func15, Try.ntmps15
  go_wp2_with fail
  obtain ⟨W0, hW0⟩ : ∃ W0, W0 = ((w.alloc (.cells #[.int .i64 W, .int .i64 H, .slice A n c, .slice A2 m c2] 24)).alloc (.cells #[.int .i64 x, .int .i64 y] 26)) := ⟨_, rfl⟩
  rw [← hW0] at t0 t1 t2 t3 c0 c1 ls hG0 hP0 HB0 ⊢
  clear hW0
  refine (index_yes W H A n c A2 m c2 g p x y _ hG0.out hP0.out hn hm hh).mono ?_
  rintro e w1 ⟨rfl, hb1⟩
  have t0 := gcell hb1 (by omega) t0
  have t1 := gcell hb1 (by omega) t1
  have t2 := gcell hb1 (by omega) t2
  have t3 := gcell hb1 (by omega) t3
  have c0 := gcell hb1 (by omega) c0
  have c1 := gcell hb1 (by omega) c1
  have ls := Nat.le_trans ls hb1.size
  have hG1 := Lib.hid (hG0.out.next hb1)
  have hP1 := Lib.hid (hP0.out.next hb1)
  have HB1 := Lib.hid (chain HB0.out hb1)
  clear hb1
  clear hh ht
  rw [hk] at i0 i1 ⊢
  have hkn : k < n := by omega
  obtain ⟨b, off, rfl, hb, hc⟩ := hG1.out.2 (by omega)
  have hck := hc k hkn
  obtain ⟨z, hz⟩ : ∃ z, z = g[k]?.getD 0 := ⟨_, rfl⟩
  rw [← hz] at hck
  have HZ := Lib.hid hz
  clear hz hc hk v5 v6 hl1 hl2 i0 i1
  go_wp2
  go_ret2
  exact ⟨by rw [HZ.out]; rfl, HB1.out⟩

set_option maxHeartbeats 400000 in
theorem people_no (W H : Int) (A : Option Addr) (n c : Nat) (A2 : Option Addr) (m c2 : Nat) (g p : List Int) (x y : Int) (w : World) (hG : Ints w w.heap.size A n g) (hP : Ints w w.heap.size A2 m p) (hn : n ≤ 4611686018427387904) (hm : m ≤ 4611686018427387904) (hh : hasB W H g p x y = false) :
    Calls Try.prog 16 #[.agg #[.int .i64 W, .int .i64 H, .slice A n c, .slice A2 m c2], .agg #[.int .i64 x, .int .i64 y]] w fun e w' => e = .returned (.tuple #[.int .i64 0, .int .i64 2]) ∧ Below w.heap.size w w' := by
  have HB : Below w.heap.size w ((w.alloc (.cells #[.int .i64 W, .int .i64 H, .slice A n c, .slice A2 m c2] 24)).alloc (.cells #[.int .i64 x, .int .i64 y] 26)) := ((Below.refl w.heap.size w).alloc (Nat.le_refl _) _).alloc (by simp) _
  have t0 : ((w.alloc (.cells #[.int .i64 W, .int .i64 H, .slice A n c, .slice A2 m c2] 24)).alloc (.cells #[.int .i64 x, .int .i64 y] 26)).cell? ⟨w.heap.size, 0, none⟩ = some (.int .i64 W) := by go_simp
  have t1 : ((w.alloc (.cells #[.int .i64 W, .int .i64 H, .slice A n c, .slice A2 m c2] 24)).alloc (.cells #[.int .i64 x, .int .i64 y] 26)).cell? ⟨w.heap.size, 1, none⟩ = some (.int .i64 H) := by go_simp
  have t2 : ((w.alloc (.cells #[.int .i64 W, .int .i64 H, .slice A n c, .slice A2 m c2] 24)).alloc (.cells #[.int .i64 x, .int .i64 y] 26)).cell? ⟨w.heap.size, 2, none⟩ = some (.slice A n c) := by go_simp
  have t3 : ((w.alloc (.cells #[.int .i64 W, .int .i64 H, .slice A n c, .slice A2 m c2] 24)).alloc (.cells #[.int .i64 x, .int .i64 y] 26)).cell? ⟨w.heap.size, 3, none⟩ = some (.slice A2 m c2) := by go_simp
  have c0 : ((w.alloc (.cells #[.int .i64 W, .int .i64 H, .slice A n c, .slice A2 m c2] 24)).alloc (.cells #[.int .i64 x, .int .i64 y] 26)).cell? ⟨w.heap.size + 1, 0, none⟩ = some (.int .i64 x) := by go_simp
  have c1 : ((w.alloc (.cells #[.int .i64 W, .int .i64 H, .slice A n c, .slice A2 m c2] 24)).alloc (.cells #[.int .i64 x, .int .i64 y] 26)).cell? ⟨w.heap.size + 1, 1, none⟩ = some (.int .i64 y) := by go_simp
  have ls : w.heap.size + 2 ≤ ((w.alloc (.cells #[.int .i64 W, .int .i64 H, .slice A n c, .slice A2 m c2] 24)).alloc (.cells #[.int .i64 x, .int .i64 y] 26)).heap.size := by simp
  have hG0 := Lib.hid (hG.next HB)
  have hP0 := Lib.hid (hP.next HB)
  have HB0 := Lib.hid HB
  clear hG hP HB
  go_enter Try.func16, Try.ntmps16
  go_wp2_with fail
  obtain ⟨W0, hW0⟩ : ∃ W0, W0 = ((w.alloc (.cells #[.int .i64 W, .int .i64 H, .slice A n c, .slice A2 m c2] 24)).alloc (.cells #[.int .i64 x, .int .i64 y] 26)) := ⟨_, rfl⟩
  rw [← hW0] at t0 t1 t2 t3 c0 c1 ls hG0 hP0 HB0 ⊢
  clear hW0
  refine (index_no W H A n c A2 m c2 g p x y _ hG0.out hP0.out hn hm hh).mono ?_
  rintro e w1 ⟨rfl, hb1⟩
  have t0 := gcell hb1 (by omega) t0
  have t1 := gcell hb1 (by omega) t1
  have t2 := gcell hb1 (by omega) t2
  have t3 := gcell hb1 (by omega) t3
  have c0 := gcell hb1 (by omega) c0
  have c1 := gcell hb1 (by omega) c1
  have ls := Nat.le_trans ls hb1.size
  have hG1 := Lib.hid (hG0.out.next hb1)
  have hP1 := Lib.hid (hP0.out.next hb1)
  have HB1 := Lib.hid (chain HB0.out hb1)
  clear hb1
  clear hh
  go_wp2
  go_ret2
  exact ⟨rfl, HB1.out⟩
set_option maxHeartbeats 400000 in
theorem people_yes (W H : Int) (A : Option Addr) (n c : Nat) (A2 : Option Addr) (m c2 : Nat) (g p : List Int) (x y : Int) (w : World) (hG : Ints w w.heap.size A n g) (hP : Ints w w.heap.size A2 m p) (hn : n ≤ 4611686018427387904) (hm : m ≤ 4611686018427387904) (hh : hasB W H g p x y = true) (k : Nat) (hk : y * W + x = k) :
    Calls Try.prog 16 #[.agg #[.int .i64 W, .int .i64 H, .slice A n c, .slice A2 m c2], .agg #[.int .i64 x, .int .i64 y]] w fun e w' => e = .returned (.tuple #[.int .i64 (p[k]?.getD 0), .int .i64 0]) ∧ Below w.heap.size w w' := by
  obtain ⟨ht, x0, x1, y0, y1⟩ := hasB_iff.1 hh
  obtain ⟨⟨v1, v2, v3, v4, v5, v6⟩, _⟩ := terB_iff.1 ht
  have hl1 := hG.1
  have hl2 := hP.1
  obtain ⟨i0, i1⟩ := place_bd x0 x1 y0 y1
  have HB : Below w.heap.size w ((w.alloc (.cells #[.int .i64 W, .int .i64 H, .slice A n c, .slice A2 m c2] 24)).alloc (.cells #[.int .i64 x, .int .i64 y] 26)) := ((Below.refl w.heap.size w).alloc (Nat.le_refl _) _).alloc (by simp) _
  have t0 : ((w.alloc (.cells #[.int .i64 W, .int .i64 H, .slice A n c, .slice A2 m c2] 24)).alloc (.cells #[.int .i64 x, .int .i64 y] 26)).cell? ⟨w.heap.size, 0, none⟩ = some (.int .i64 W) := by go_simp
  have t1 : ((w.alloc (.cells #[.int .i64 W, .int .i64 H, .slice A n c, .slice A2 m c2] 24)).alloc (.cells #[.int .i64 x, .int .i64 y] 26)).cell? ⟨w.heap.size, 1, none⟩ = some (.int .i64 H) := by go_simp
  have t2 : ((w.alloc (.cells #[.int .i64 W, .int .i64 H, .slice A n c, .slice A2 m c2] 24)).alloc (.cells #[.int .i64 x, .int .i64 y] 26)).cell? ⟨w.heap.size, 2, none⟩ = some (.slice A n c) := by go_simp
  have t3 : ((w.alloc (.cells #[.int .i64 W, .int .i64 H, .slice A n c, .slice A2 m c2] 24)).alloc (.cells #[.int .i64 x, .int .i64 y] 26)).cell? ⟨w.heap.size, 3, none⟩ = some (.slice A2 m c2) := by go_simp
  have c0 : ((w.alloc (.cells #[.int .i64 W, .int .i64 H, .slice A n c, .slice A2 m c2] 24)).alloc (.cells #[.int .i64 x, .int .i64 y] 26)).cell? ⟨w.heap.size + 1, 0, none⟩ = some (.int .i64 x) := by go_simp
  have c1 : ((w.alloc (.cells #[.int .i64 W, .int .i64 H, .slice A n c, .slice A2 m c2] 24)).alloc (.cells #[.int .i64 x, .int .i64 y] 26)).cell? ⟨w.heap.size + 1, 1, none⟩ = some (.int .i64 y) := by go_simp
  have ls : w.heap.size + 2 ≤ ((w.alloc (.cells #[.int .i64 W, .int .i64 H, .slice A n c, .slice A2 m c2] 24)).alloc (.cells #[.int .i64 x, .int .i64 y] 26)).heap.size := by simp
  have hG0 := Lib.hid (hG.next HB)
  have hP0 := Lib.hid (hP.next HB)
  have HB0 := Lib.hid HB
  clear hG hP HB
  go_enter Try.func16, Try.ntmps16
  go_wp2_with fail
  obtain ⟨W0, hW0⟩ : ∃ W0, W0 = ((w.alloc (.cells #[.int .i64 W, .int .i64 H, .slice A n c, .slice A2 m c2] 24)).alloc (.cells #[.int .i64 x, .int .i64 y] 26)) := ⟨_, rfl⟩
  rw [← hW0] at t0 t1 t2 t3 c0 c1 ls hG0 hP0 HB0 ⊢
  clear hW0
  refine (index_yes W H A n c A2 m c2 g p x y _ hG0.out hP0.out hn hm hh).mono ?_
  rintro e w1 ⟨rfl, hb1⟩
  have t0 := gcell hb1 (by omega) t0
  have t1 := gcell hb1 (by omega) t1
  have t2 := gcell hb1 (by omega) t2
  have t3 := gcell hb1 (by omega) t3
  have c0 := gcell hb1 (by omega) c0
  have c1 := gcell hb1 (by omega) c1
  have ls := Nat.le_trans ls hb1.size
  have hG1 := Lib.hid (hG0.out.next hb1)
  have hP1 := Lib.hid (hP0.out.next hb1)
  have HB1 := Lib.hid (chain HB0.out hb1)
  clear hb1
  clear hh ht
  rw [hk] at i0 i1 ⊢
  have hkn : k < m := by omega
  obtain ⟨b, off, rfl, hb, hc⟩ := hP1.out.2 (by omega)
  have hck := hc k hkn
  obtain ⟨z, hz⟩ : ∃ z, z = p[k]?.getD 0 := ⟨_, rfl⟩
  rw [← hz] at hck
  have HZ := Lib.hid hz
  clear hz hc hk v5 v6 hl1 hl2 i0 i1
  go_wp2
  go_ret2
  exact ⟨by rw [HZ.out]; rfl, HB1.out⟩

set_option maxHeartbeats 400000 in
theorem at_bad (W H : Int) (A : Option Addr) (n c : Nat) (A2 : Option Addr) (m c2 : Nat) (g p : List Int) (i : Int) (w : World) (hG : Ints w w.heap.size A n g) (hP : Ints w w.heap.size A2 m p) (hn : n ≤ 4611686018427387904) (hm : m ≤ 4611686018427387904) (hh : terB W H g p = false) :
    Calls Try.prog 17 #[.agg #[.int .i64 W, .int .i64 H, .slice A n c, .slice A2 m c2], .int .i64 i] w fun e w' => e = .returned (.tuple #[.agg #[.int .i64 0, .int .i64 0], .int .i64 2]) ∧ Below w.heap.size w w' := by
  have HB : Below w.heap.size w ((w.alloc (.cells #[.int .i64 W, .int .i64 H, .slice A n c, .slice A2 m c2] 24)).alloc (.cells #[.int .i64 0, .int .i64 0] 26)) := ((Below.refl w.heap.size w).alloc (Nat.le_refl _) _).alloc (by simp) _
  have t0 : ((w.alloc (.cells #[.int .i64 W, .int .i64 H, .slice A n c, .slice A2 m c2] 24)).alloc (.cells #[.int .i64 0, .int .i64 0] 26)).cell? ⟨w.heap.size, 0, none⟩ = some (.int .i64 W) := by go_simp
  have t1 : ((w.alloc (.cells #[.int .i64 W, .int .i64 H, .slice A n c, .slice A2 m c2] 24)).alloc (.cells #[.int .i64 0, .int .i64 0] 26)).cell? ⟨w.heap.size, 1, none⟩ = some (.int .i64 H) := by go_simp
  have t2 : ((w.alloc (.cells #[.int .i64 W, .int .i64 H, .slice A n c, .slice A2 m c2] 24)).alloc (.cells #[.int .i64 0, .int .i64 0] 26)).cell? ⟨w.heap.size, 2, none⟩ = some (.slice A n c) := by go_simp
  have t3 : ((w.alloc (.cells #[.int .i64 W, .int .i64 H, .slice A n c, .slice A2 m c2] 24)).alloc (.cells #[.int .i64 0, .int .i64 0] 26)).cell? ⟨w.heap.size, 3, none⟩ = some (.slice A2 m c2) := by go_simp
  have c0 : ((w.alloc (.cells #[.int .i64 W, .int .i64 H, .slice A n c, .slice A2 m c2] 24)).alloc (.cells #[.int .i64 0, .int .i64 0] 26)).cell? ⟨w.heap.size + 1, 0, none⟩ = some (.int .i64 0) := by go_simp
  have f0 : ((w.alloc (.cells #[.int .i64 W, .int .i64 H, .slice A n c, .slice A2 m c2] 24)).alloc (.cells #[.int .i64 0, .int .i64 0] 26)).frozen? ⟨w.heap.size + 1, 0, none⟩ = false := by go_simp
  have c1 : ((w.alloc (.cells #[.int .i64 W, .int .i64 H, .slice A n c, .slice A2 m c2] 24)).alloc (.cells #[.int .i64 0, .int .i64 0] 26)).cell? ⟨w.heap.size + 1, 1, none⟩ = some (.int .i64 0) := by go_simp
  have f1 : ((w.alloc (.cells #[.int .i64 W, .int .i64 H, .slice A n c, .slice A2 m c2] 24)).alloc (.cells #[.int .i64 0, .int .i64 0] 26)).frozen? ⟨w.heap.size + 1, 1, none⟩ = false := by go_simp
  have ls : w.heap.size + 2 ≤ ((w.alloc (.cells #[.int .i64 W, .int .i64 H, .slice A n c, .slice A2 m c2] 24)).alloc (.cells #[.int .i64 0, .int .i64 0] 26)).heap.size := by simp
  have hG0 := Lib.hid (hG.next HB)
  have hP0 := Lib.hid (hP.next HB)
  have HB0 := Lib.hid HB
  clear hG hP HB
  go_enter Try.func17, Try.ntmps17
  go_wp2_with fail
  obtain ⟨W0, hW0⟩ : ∃ W0, W0 = ((w.alloc (.cells #[.int .i64 W, .int .i64 H, .slice A n c, .slice A2 m c2] 24)).alloc (.cells #[.int .i64 0, .int .i64 0] 26)) := ⟨_, rfl⟩
  rw [← hW0] at t0 t1 t2 t3 c0 c1 f0 f1 ls hG0 hP0 HB0 ⊢
  clear hW0
  refine (valid_any W H A n c A2 m c2 g p _ hG0.out hP0.out hn hm).mono ?_
  rintro e w1 ⟨rfl, hb1⟩
  have t0 := gcell hb1 (by omega) t0
  have t1 := gcell hb1 (by omega) t1
  have t2 := gcell hb1 (by omega) t2
  have t3 := gcell hb1 (by omega) t3
  have c0 := gcell hb1 (by omega) c0
  have c1 := gcell hb1 (by omega) c1
  have f0 := gfrozen hb1 (by omega) f0
  have f1 := gfrozen hb1 (by omega) f1
  have ls := Nat.le_trans ls hb1.size
  have hG1 := Lib.hid (hG0.out.next hb1)
  have hP1 := Lib.hid (hP0.out.next hb1)
  have HB1 := Lib.hid (chain HB0.out hb1)
  clear hb1
  rw [hh]
  clear hh
  go_wp2
  have u0 : ((w1.setCell ⟨w.heap.size + 1, 0, none⟩ (.int .i64 0)).setCell ⟨w.heap.size + 1, 1, none⟩ (.int .i64 0)).cell? ⟨w.heap.size + 1, 0, none⟩ = some (.int .i64 0) := by
    rw [World.cell?_setCell_other _ _ _ _ (by simp), World.cell?_setCell_same' _ _ _ (by rw [c0]; rfl)]
  have u1 : ((w1.setCell ⟨w.heap.size + 1, 0, none⟩ (.int .i64 0)).setCell ⟨w.heap.size + 1, 1, none⟩ (.int .i64 0)).cell? ⟨w.heap.size + 1, 1, none⟩ = some (.int .i64 0) := by
    rw [World.cell?_setCell_same' _ _ _ (by rw [World.cell?_setCell_other _ _ _ _ (by simp), c1]; rfl)]
  refine bodyPost_ret (v := .tuple #[.agg #[.int .i64 0, .int .i64 0], .int .i64 2]) (by simp [results, Try.results17, go_sem, u0, u1]) rfl ⟨rfl, ?_⟩
  exact ((HB1.out).setCell (by simp) _).setCell (by simp) _

set_option maxHeartbeats 400000 in
theorem at_out (W H : Int) (A : Option Addr) (n c : Nat) (A2 : Option Addr) (m c2 : Nat) (g p : List Int) (i : Int) (w : World) (hG : Ints w w.heap.size A n g) (hP : Ints w w.heap.size A2 m p) (hn : n ≤ 4611686018427387904) (hm : m ≤ 4611686018427387904) (hh : terB W H g p = true) (hi : i < 0 ∨ W * H ≤ i) :
    Calls Try.prog 17 #[.agg #[.int .i64 W, .int .i64 H, .slice A n c, .slice A2 m c2], .int .i64 i] w fun e w' => e = .returned (.tuple #[.agg #[.int .i64 0, .int .i64 0], .int .i64 2]) ∧ Below w.heap.size w w' := by
  obtain ⟨⟨v1, v2, v3, v4, v5, v6⟩, _⟩ := terB_iff.1 hh
  obtain ⟨k5, k6⟩ := wh_bd v1 v2 v3 v4
  clear v5 v6
  have HB : Below w.heap.size w ((w.alloc (.cells #[.int .i64 W, .int .i64 H, .slice A n c, .slice A2 m c2] 24)).alloc (.cells #[.int .i64 0, .int .i64 0] 26)) := ((Below.refl w.heap.size w).alloc (Nat.le_refl _) _).alloc (by simp) _
  have t0 : ((w.alloc (.cells #[.int .i64 W, .int .i64 H, .slice A n c, .slice A2 m c2] 24)).alloc (.cells #[.int .i64 0, .int .i64 0] 26)).cell? ⟨w.heap.size, 0, none⟩ = some (.int .i64 W) := by go_simp
  have t1 : ((w.alloc (.cells #[.int .i64 W, .int .i64 H, .slice A n c, .slice A2 m c2] 24)).alloc (.cells #[.int .i64 0, .int .i64 0] 26)).cell? ⟨w.heap.size, 1, none⟩ = some (.int .i64 H) := by go_simp
  have t2 : ((w.alloc (.cells #[.int .i64 W, .int .i64 H, .slice A n c, .slice A2 m c2] 24)).alloc (.cells #[.int .i64 0, .int .i64 0] 26)).cell? ⟨w.heap.size, 2, none⟩ = some (.slice A n c) := by go_simp
  have t3 : ((w.alloc (.cells #[.int .i64 W, .int .i64 H, .slice A n c, .slice A2 m c2] 24)).alloc (.cells #[.int .i64 0, .int .i64 0] 26)).cell? ⟨w.heap.size, 3, none⟩ = some (.slice A2 m c2) := by go_simp
  have c0 : ((w.alloc (.cells #[.int .i64 W, .int .i64 H, .slice A n c, .slice A2 m c2] 24)).alloc (.cells #[.int .i64 0, .int .i64 0] 26)).cell? ⟨w.heap.size + 1, 0, none⟩ = some (.int .i64 0) := by go_simp
  have f0 : ((w.alloc (.cells #[.int .i64 W, .int .i64 H, .slice A n c, .slice A2 m c2] 24)).alloc (.cells #[.int .i64 0, .int .i64 0] 26)).frozen? ⟨w.heap.size + 1, 0, none⟩ = false := by go_simp
  have c1 : ((w.alloc (.cells #[.int .i64 W, .int .i64 H, .slice A n c, .slice A2 m c2] 24)).alloc (.cells #[.int .i64 0, .int .i64 0] 26)).cell? ⟨w.heap.size + 1, 1, none⟩ = some (.int .i64 0) := by go_simp
  have f1 : ((w.alloc (.cells #[.int .i64 W, .int .i64 H, .slice A n c, .slice A2 m c2] 24)).alloc (.cells #[.int .i64 0, .int .i64 0] 26)).frozen? ⟨w.heap.size + 1, 1, none⟩ = false := by go_simp
  have ls : w.heap.size + 2 ≤ ((w.alloc (.cells #[.int .i64 W, .int .i64 H, .slice A n c, .slice A2 m c2] 24)).alloc (.cells #[.int .i64 0, .int .i64 0] 26)).heap.size := by simp
  have hG0 := Lib.hid (hG.next HB)
  have hP0 := Lib.hid (hP.next HB)
  have HB0 := Lib.hid HB
  clear hG hP HB
  go_enter Try.func17, Try.ntmps17
  go_wp2_with fail
  obtain ⟨W0, hW0⟩ : ∃ W0, W0 = ((w.alloc (.cells #[.int .i64 W, .int .i64 H, .slice A n c, .slice A2 m c2] 24)).alloc (.cells #[.int .i64 0, .int .i64 0] 26)) := ⟨_, rfl⟩
  rw [← hW0] at t0 t1 t2 t3 c0 c1 f0 f1 ls hG0 hP0 HB0 ⊢
  clear hW0
  refine (valid_any W H A n c A2 m c2 g p _ hG0.out hP0.out hn hm).mono ?_
  rintro e w1 ⟨rfl, hb1⟩
  have t0 := gcell hb1 (by omega) t0
  have t1 := gcell hb1 (by omega) t1
  have t2 := gcell hb1 (by omega) t2
  have t3 := gcell hb1 (by omega) t3
  have c0 := gcell hb1 (by omega) c0
  have c1 := gcell hb1 (by omega) c1
  have f0 := gfrozen hb1 (by omega) f0
  have f1 := gfrozen hb1 (by omega) f1
  have ls := Nat.le_trans ls hb1.size
  have hG1 := Lib.hid (hG0.out.next hb1)
  have hP1 := Lib.hid (hP0.out.next hb1)
  have HB1 := Lib.hid (chain HB0.out hb1)
  clear hb1
  rw [hh]
  clear hh
  go_wp2_with (first | (go_at_call 42; (first | refine (within_yes _ _ _ _ (by omega) (by omega)).mono ?_ | refine (within_no _ _ _ _ (by omega)).mono ?_); rintro e w' ⟨rfl, rfl⟩))
  have u0 : ((w1.setCell ⟨w.heap.size + 1, 0, none⟩ (.int .i64 0)).setCell ⟨w.heap.size + 1, 1, none⟩ (.int .i64 0)).cell? ⟨w.heap.size + 1, 0, none⟩ = some (.int .i64 0) := by
    rw [World.cell?_setCell_other _ _ _ _ (by simp), World.cell?_setCell_same' _ _ _ (by rw [c0]; rfl)]
  have u1 : ((w1.setCell ⟨w.heap.size + 1, 0, none⟩ (.int .i64 0)).setCell ⟨w.heap.size + 1, 1, none⟩ (.int .i64 0)).cell? ⟨w.heap.size + 1, 1, none⟩ = some (.int .i64 0) := by
    rw [World.cell?_setCell_same' _ _ _ (by rw [World.cell?_setCell_other _ _ _ _ (by simp), c1]; rfl)]
  refine bodyPost_ret (v := .tuple #[.agg #[.int .i64 0, .int .i64 0], .int .i64 2]) (by simp [results, Try.results17, go_sem, u0, u1]) rfl ⟨rfl, ?_⟩
  exact ((HB1.out).setCell (by simp) _).setCell (by simp) _

set_option maxHeartbeats 400000 in
theorem at_yes (W H : Int) (A : Option Addr) (n c : Nat) (A2 : Option Addr) (m c2 : Nat) (g p : List Int) (i : Int) (w : World) (hG : Ints w w.heap.size A n g) (hP : Ints w w.heap.size A2 m p) (hn : n ≤ 4611686018427387904) (hm : m ≤ 4611686018427387904) (hh : terB W H g p = true) (hi0 : 0 ≤ i) (hi1 : i < W * H) :
    Calls Try.prog 17 #[.agg #[.int .i64 W, .int .i64 H, .slice A n c, .slice A2 m c2], .int .i64 i] w fun e w' => e = .returned (.tuple #[.agg #[.int .i64 (i % W), .int .i64 (i / W)], .int .i64 0]) ∧ Below w.heap.size w w' := by
  obtain ⟨⟨v1, v2, v3, v4, v5, v6⟩, _⟩ := terB_iff.1 hh
  obtain ⟨k5, k6⟩ := wh_bd v1 v2 v3 v4
  clear v5 v6
  have HB : Below w.heap.size w ((w.alloc (.cells #[.int .i64 W, .int .i64 H, .slice A n c, .slice A2 m c2] 24)).alloc (.cells #[.int .i64 0, .int .i64 0] 26)) := ((Below.refl w.heap.size w).alloc (Nat.le_refl _) _).alloc (by simp) _
  have t0 : ((w.alloc (.cells #[.int .i64 W, .int .i64 H, .slice A n c, .slice A2 m c2] 24)).alloc (.cells #[.int .i64 0, .int .i64 0] 26)).cell? ⟨w.heap.size, 0, none⟩ = some (.int .i64 W) := by go_simp
  have t1 : ((w.alloc (.cells #[.int .i64 W, .int .i64 H, .slice A n c, .slice A2 m c2] 24)).alloc (.cells #[.int .i64 0, .int .i64 0] 26)).cell? ⟨w.heap.size, 1, none⟩ = some (.int .i64 H) := by go_simp
  have t2 : ((w.alloc (.cells #[.int .i64 W, .int .i64 H, .slice A n c, .slice A2 m c2] 24)).alloc (.cells #[.int .i64 0, .int .i64 0] 26)).cell? ⟨w.heap.size, 2, none⟩ = some (.slice A n c) := by go_simp
  have t3 : ((w.alloc (.cells #[.int .i64 W, .int .i64 H, .slice A n c, .slice A2 m c2] 24)).alloc (.cells #[.int .i64 0, .int .i64 0] 26)).cell? ⟨w.heap.size, 3, none⟩ = some (.slice A2 m c2) := by go_simp
  have c0 : ((w.alloc (.cells #[.int .i64 W, .int .i64 H, .slice A n c, .slice A2 m c2] 24)).alloc (.cells #[.int .i64 0, .int .i64 0] 26)).cell? ⟨w.heap.size + 1, 0, none⟩ = some (.int .i64 0) := by go_simp
  have f0 : ((w.alloc (.cells #[.int .i64 W, .int .i64 H, .slice A n c, .slice A2 m c2] 24)).alloc (.cells #[.int .i64 0, .int .i64 0] 26)).frozen? ⟨w.heap.size + 1, 0, none⟩ = false := by go_simp
  have c1 : ((w.alloc (.cells #[.int .i64 W, .int .i64 H, .slice A n c, .slice A2 m c2] 24)).alloc (.cells #[.int .i64 0, .int .i64 0] 26)).cell? ⟨w.heap.size + 1, 1, none⟩ = some (.int .i64 0) := by go_simp
  have f1 : ((w.alloc (.cells #[.int .i64 W, .int .i64 H, .slice A n c, .slice A2 m c2] 24)).alloc (.cells #[.int .i64 0, .int .i64 0] 26)).frozen? ⟨w.heap.size + 1, 1, none⟩ = false := by go_simp
  have ls : w.heap.size + 2 ≤ ((w.alloc (.cells #[.int .i64 W, .int .i64 H, .slice A n c, .slice A2 m c2] 24)).alloc (.cells #[.int .i64 0, .int .i64 0] 26)).heap.size := by simp
  have hG0 := Lib.hid (hG.next HB)
  have hP0 := Lib.hid (hP.next HB)
  have HB0 := Lib.hid HB
  clear hG hP HB
  go_enter Try.func17, Try.ntmps17
  go_wp2_with fail
  obtain ⟨W0, hW0⟩ : ∃ W0, W0 = ((w.alloc (.cells #[.int .i64 W, .int .i64 H, .slice A n c, .slice A2 m c2] 24)).alloc (.cells #[.int .i64 0, .int .i64 0] 26)) := ⟨_, rfl⟩
  rw [← hW0] at t0 t1 t2 t3 c0 c1 f0 f1 ls hG0 hP0 HB0 ⊢
  clear hW0
  refine (valid_any W H A n c A2 m c2 g p _ hG0.out hP0.out hn hm).mono ?_
  rintro e w1 ⟨rfl, hb1⟩
  have t0 := gcell hb1 (by omega) t0
  have t1 := gcell hb1 (by omega) t1
  have t2 := gcell hb1 (by omega) t2
  have t3 := gcell hb1 (by omega) t3
  have c0 := gcell hb1 (by omega) c0
  have c1 := gcell hb1 (by omega) c1
  have f0 := gfrozen hb1 (by omega) f0
  have f1 := gfrozen hb1 (by omega) f1
  have ls := Nat.le_trans ls hb1.size
  have hG1 := Lib.hid (hG0.out.next hb1)
  have hP1 := Lib.hid (hP0.out.next hb1)
  have HB1 := Lib.hid (chain HB0.out hb1)
  clear hb1
  rw [hh]
  clear hh
  go_wp2_with (first | (go_at_call 42; (first | refine (within_yes _ _ _ _ (by omega) (by omega)).mono ?_ | refine (within_no _ _ _ _ (by omega)).mono ?_); rintro e w' ⟨rfl, rfl⟩))
  refine (cellAt_any W H A n c A2 m c2 i _ v1 hi0 (by omega)).mono ?_
  rintro e w2 ⟨rfl, hb2⟩
  have t0 := gcell hb2 (by omega) t0
  have t1 := gcell hb2 (by omega) t1
  have t2 := gcell hb2 (by omega) t2
  have t3 := gcell hb2 (by omega) t3
  have c0 := gcell hb2 (by omega) c0
  have c1 := gcell hb2 (by omega) c1
  have f0 := gfrozen hb2 (by omega) f0
  have f1 := gfrozen hb2 (by omega) f1
  have ls := Nat.le_trans ls hb2.size
  have hG2 := Lib.hid (hG1.out.next hb2)
  have hP2 := Lib.hid (hP1.out.next hb2)
  have HB2 := Lib.hid (chain HB1.out hb2)
  clear hb2
  go_wp2
  have u0 : ((w2.setCell ⟨w.heap.size + 1, 0, none⟩ (.int .i64 (i % W))).setCell ⟨w.heap.size + 1, 1, none⟩ (.int .i64 (i / W))).cell? ⟨w.heap.size + 1, 0, none⟩ = some (.int .i64 (i % W)) := by
    rw [World.cell?_setCell_other _ _ _ _ (by simp), World.cell?_setCell_same' _ _ _ (by rw [c0]; rfl)]
  have u1 : ((w2.setCell ⟨w.heap.size + 1, 0, none⟩ (.int .i64 (i % W))).setCell ⟨w.heap.size + 1, 1, none⟩ (.int .i64 (i / W))).cell? ⟨w.heap.size + 1, 1, none⟩ = some (.int .i64 (i / W)) := by
    rw [World.cell?_setCell_same' _ _ _ (by rw [World.cell?_setCell_other _ _ _ _ (by simp), c1]; rfl)]
  refine bodyPost_ret (v := .tuple #[.agg #[.int .i64 (i % W), .int .i64 (i / W)], .int .i64 0]) (by simp [results, Try.results17, go_sem, u0, u1]) rfl ⟨rfl, ?_⟩
  exact ((HB2.out).setCell (by simp) _).setCell (by simp) _
end Go.Proofs.Ytpoceidbiamgaaa
