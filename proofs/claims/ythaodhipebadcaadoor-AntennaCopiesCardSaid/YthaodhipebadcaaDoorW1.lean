/- Contracts of antenna.tooFar, antenna.steps, antenna.Direction: what each returns for any two ints, in a world whose variable quadrants is laid. -/
import Derived.Test.YthaodhipebadcaaDoorRows
import Derived.Test.YthaodhipebadcaaDoorMem
namespace Go.Proofs.YthaodhipebadcaaDoor
open Go.RowKit

/-- The table's block. -/
def quadCells : Array Value := #[.int .i64 1, .int .i64 0, .int .i64 0, .int .i64 1, .int .i64 0, .int .i64 1, .int .i64 (-1), .int .i64 0, .int .i64 (-1), .int .i64 0, .int .i64 0, .int .i64 (-1), .int .i64 0, .int .i64 (-1), .int .i64 1, .int .i64 0]
def Quad (w : World) : Prop := ∃ t fr, w.heap[0]? = some (.cells quadCells t fr)
theorem Quad.pos {w : World} (h : Quad w) : 0 < w.heap.size := by
  obtain ⟨t, fr, h⟩ := h
  rcases Nat.lt_or_ge 0 w.heap.size with hlt | hge
  · exact hlt
  · rw [Array.getElem?_eq_none hge] at h; cases h
theorem Quad.below {w w' : World} {B : Nat} (h : Quad w) (hb : Below B w w') (hB : 0 < B) : Quad w' := by
  obtain ⟨t, fr, h⟩ := h
  exact ⟨t, fr, (hb.block 0 hB).trans h⟩

def farB (n : Int) : Bool := decide (n < -1048576 ∨ 1048576 < n)
def stepsI (u v : Int) : Int := if 2 * u ≤ v then 3 else if u ≤ v then 2 else if u ≤ 2 * v then 1 else 0
def dirI (dx dy : Int) : Int :=
  if 0 < dx ∧ 0 ≤ dy then stepsI dx dy else if 0 < dy ∧ dx ≤ 0 then 4 + stepsI dy (-dx) else if dx < 0 ∧ dy ≤ 0 then 8 + stepsI (-dx) (-dy) else 12 + stepsI (-dy) dx
theorem stepsI_bd (u v : Int) : 0 ≤ stepsI u v ∧ stepsI u v ≤ 3 := by unfold stepsI; repeat' split <;> omega

set_option maxHeartbeats 400000 in
theorem tooFar_any (d : Int) (w : World) :
    Calls Tryd.prog 28 #[.int .i64 d] w fun e w' => e = .returned (.bool (farB d)) ∧ w = w' := by
  by_cases h1 : d < -1048576
  · go_enter Tryd.func28, Tryd.ntmps28
    go_wp2
    go_ret
    exact ⟨by simp [farB, h1], rfl⟩
  · by_cases h2 : 1048576 < d
    · go_enter Tryd.func28, Tryd.ntmps28
      go_wp2
      go_ret
      exact ⟨by simp [farB, h2], rfl⟩
    · go_enter Tryd.func28, Tryd.ntmps28
      go_wp2
      go_ret
      exact ⟨by simp [farB]; omega, rfl⟩

set_option maxHeartbeats 400000 in
theorem steps_any (u v : Int) (w : World) (hu0 : 0 ≤ u) (hu : u ≤ 1048576) (hv0 : 0 ≤ v) (hv : v ≤ 1048576) :
    Calls Tryd.prog 29 #[.int .i64 u, .int .i64 v] w fun e w' => e = .returned (.int .i64 (stepsI u v)) ∧ w = w' := by
  by_cases h1 : 2 * u ≤ v
  · go_enter Tryd.func29, Tryd.ntmps29
    go_wp2
    go_ret
    exact ⟨ret_int (by simp [stepsI, h1]), rfl⟩
  · by_cases h2 : u ≤ v
    · go_enter Tryd.func29, Tryd.ntmps29
      go_wp2
      go_ret
      exact ⟨ret_int (by unfold stepsI; rw [if_neg (by omega), if_pos (by omega)]), rfl⟩
    · by_cases h3 : u ≤ 2 * v
      · go_enter Tryd.func29, Tryd.ntmps29
        go_wp2
        go_ret
        exact ⟨ret_int (by unfold stepsI; rw [if_neg (by omega), if_neg (by omega), if_pos (by omega)]), rfl⟩
      · go_enter Tryd.func29, Tryd.ntmps29
        go_wp2
        go_ret
        exact ⟨ret_int (by unfold stepsI; rw [if_neg (by omega), if_neg (by omega), if_neg (by omega)]), rfl⟩

theorem idx0 (w : World) : (Instr.index 48 (.agg quadCells) (.int .i64 0)).run Tryd.prog w = .ok (.agg #[.int .i64 1, .int .i64 0, .int .i64 0, .int .i64 1]) w := by kernel_rfl
theorem idx1 (w : World) : (Instr.index 48 (.agg quadCells) (.int .i64 1)).run Tryd.prog w = .ok (.agg #[.int .i64 0, .int .i64 1, .int .i64 (-1), .int .i64 0]) w := by kernel_rfl
theorem idx2 (w : World) : (Instr.index 48 (.agg quadCells) (.int .i64 2)).run Tryd.prog w = .ok (.agg #[.int .i64 (-1), .int .i64 0, .int .i64 0, .int .i64 (-1)]) w := by kernel_rfl
theorem idx3 (w : World) : (Instr.index 48 (.agg quadCells) (.int .i64 3)).run Tryd.prog w = .ok (.agg #[.int .i64 0, .int .i64 (-1), .int .i64 1, .int .i64 0]) w := by kernel_rfl


set_option maxHeartbeats 400000 in
theorem dir_q0 (dx dy : Int) (w : World) (hq : Quad w) (h1 : 0 < dx) (h2 : dx ≤ 1048576) (h3 : 0 ≤ dy) (h4 : dy ≤ 1048576) :
    Calls Tryd.prog 10 #[.int .i64 dx, .int .i64 dy] w fun e w' => e = .returned (.tuple #[.int .i64 (stepsI dx dy), .int .i64 0]) ∧ Below w.heap.size w w' := by
  obtain ⟨t, fr, hg⟩ := hq
  have f1 : farB dx = false := by simp [farB]; omega
  have f2 : farB dy = false := by simp [farB]; omega
  have i0 := idx0
  have i1 := idx1
  have i2 := idx2
  have i3 := idx3
  have hs := stepsI_bd dx dy
  go_enter Tryd.func10, Tryd.ntmps10
  go_wp2_with (first | (go_at_call 28; refine (tooFar_any _ _).mono ?_; rintro e w' ⟨rfl, rfl⟩) | (refine wpList_load_row rfl 48 _ rfl 0 rfl t quadCells fr _ hg Tryd.underlying48 rfl (by kernel_rfl) ?_))
  refine wp_loop_rounds 1 ?_
  rw [rounds_succ]
  go_wp2_with (first | (go_at_call 29; refine (steps_any dx dy _ (by omega) (by omega) (by omega) (by omega)).mono ?_; rintro e w' ⟨rfl, rfl⟩))
  go_ret2
  refine ⟨rfl, ?_⟩
  repeat (first | exact Below.refl _ _ | refine Below.alloc ?_ (by simp; try omega) _ | refine Below.setCell ?_ (by simp; try omega) _)

set_option maxHeartbeats 400000 in
theorem dir_q1 (dx dy : Int) (w : World) (hq : Quad w) (h1 : 0 < dy) (h2 : dy ≤ 1048576) (h3 : dx ≤ 0) (h4 : -1048576 ≤ dx) :
    Calls Tryd.prog 10 #[.int .i64 dx, .int .i64 dy] w fun e w' => e = .returned (.tuple #[.int .i64 (4 + stepsI dy (-dx)), .int .i64 0]) ∧ Below w.heap.size w w' := by
  obtain ⟨t, fr, hg⟩ := hq
  have f1 : farB dx = false := by simp [farB]; omega
  have f2 : farB dy = false := by simp [farB]; omega
  have i0 := idx0
  have i1 := idx1
  have i2 := idx2
  have i3 := idx3
  have hs := stepsI_bd dy (-dx)
  go_enter Tryd.func10, Tryd.ntmps10
  go_wp2_with (first | (go_at_call 28; refine (tooFar_any _ _).mono ?_; rintro e w' ⟨rfl, rfl⟩) | (refine wpList_load_row rfl 48 _ rfl 0 rfl t quadCells fr _ hg Tryd.underlying48 rfl (by kernel_rfl) ?_))
  refine wp_loop_rounds 2 ?_
  rw [rounds_succ]
  go_wp2_with fail
  rw [rounds_succ]
  go_wp2_with (first | (go_at_call 29; refine (steps_any dy (-dx) _ (by omega) (by omega) (by omega) (by omega)).mono ?_; rintro e w' ⟨rfl, rfl⟩))
  go_ret2
  refine ⟨rfl, ?_⟩
  repeat (first | exact Below.refl _ _ | refine Below.alloc ?_ (by simp; try omega) _ | refine Below.setCell ?_ (by simp; try omega) _)

set_option maxHeartbeats 400000 in
theorem dir_q2 (dx dy : Int) (w : World) (hq : Quad w) (h1 : dx < 0) (h2 : -1048576 ≤ dx) (h3 : dy ≤ 0) (h4 : -1048576 ≤ dy) :
    Calls Tryd.prog 10 #[.int .i64 dx, .int .i64 dy] w fun e w' => e = .returned (.tuple #[.int .i64 (8 + stepsI (-dx) (-dy)), .int .i64 0]) ∧ Below w.heap.size w w' := by
  obtain ⟨t, fr, hg⟩ := hq
  have f1 : farB dx = false := by simp [farB]; omega
  have f2 : farB dy = false := by simp [farB]; omega
  have i0 := idx0
  have i1 := idx1
  have i2 := idx2
  have i3 := idx3
  have hs := stepsI_bd (-dx) (-dy)
  go_enter Tryd.func10, Tryd.ntmps10
  go_wp2_with (first | (go_at_call 28; refine (tooFar_any _ _).mono ?_; rintro e w' ⟨rfl, rfl⟩) | (refine wpList_load_row rfl 48 _ rfl 0 rfl t quadCells fr _ hg Tryd.underlying48 rfl (by kernel_rfl) ?_))
  refine wp_loop_rounds 3 ?_
  rw [rounds_succ]
  go_wp2_with fail
  rw [rounds_succ]
  go_wp2_with fail
  rw [rounds_succ]
  go_wp2_with (first | (go_at_call 29; refine (steps_any (-dx) (-dy) _ (by omega) (by omega) (by omega) (by omega)).mono ?_; rintro e w' ⟨rfl, rfl⟩))
  go_ret2
  refine ⟨rfl, ?_⟩
  repeat (first | exact Below.refl _ _ | refine Below.alloc ?_ (by simp; try omega) _ | refine Below.setCell ?_ (by simp; try omega) _)

set_option maxHeartbeats 400000 in
theorem dir_q3a (dx dy : Int) (w : World) (hq : Quad w) (h1 : dy < 0) (h2 : -1048576 ≤ dy) (h3 : 0 < dx) (h4 : dx ≤ 1048576) :
    Calls Tryd.prog 10 #[.int .i64 dx, .int .i64 dy] w fun e w' => e = .returned (.tuple #[.int .i64 (12 + stepsI (-dy) dx), .int .i64 0]) ∧ Below w.heap.size w w' := by
  obtain ⟨t, fr, hg⟩ := hq
  have f1 : farB dx = false := by simp [farB]; omega
  have f2 : farB dy = false := by simp [farB]; omega
  have i0 := idx0
  have i1 := idx1
  have i2 := idx2
  have i3 := idx3
  have hs := stepsI_bd (-dy) dx
  go_enter Tryd.func10, Tryd.ntmps10
  go_wp2_with (first | (go_at_call 28; refine (tooFar_any _ _).mono ?_; rintro e w' ⟨rfl, rfl⟩) | (refine wpList_load_row rfl 48 _ rfl 0 rfl t quadCells fr _ hg Tryd.underlying48 rfl (by kernel_rfl) ?_))
  refine wp_loop_rounds 4 ?_
  rw [rounds_succ]
  go_wp2_with fail
  rw [rounds_succ]
  go_wp2_with fail
  rw [rounds_succ]
  go_wp2_with fail
  rw [rounds_succ]
  go_wp2_with (first | (go_at_call 29; refine (steps_any (-dy) dx _ (by omega) (by omega) (by omega) (by omega)).mono ?_; rintro e w' ⟨rfl, rfl⟩))
  go_ret2
  refine ⟨rfl, ?_⟩
  repeat (first | exact Below.refl _ _ | refine Below.alloc ?_ (by simp; try omega) _ | refine Below.setCell ?_ (by simp; try omega) _)

set_option maxHeartbeats 400000 in
theorem dir_q3b (dx dy : Int) (w : World) (hq : Quad w) (h1 : dy < 0) (h2 : -1048576 ≤ dy) (h3 : 0 ≤ dx) (h4 : dx ≤ 0) :
    Calls Tryd.prog 10 #[.int .i64 dx, .int .i64 dy] w fun e w' => e = .returned (.tuple #[.int .i64 (12 + stepsI (-dy) dx), .int .i64 0]) ∧ Below w.heap.size w w' := by
  obtain ⟨t, fr, hg⟩ := hq
  have f1 : farB dx = false := by simp [farB]; omega
  have f2 : farB dy = false := by simp [farB]; omega
  have i0 := idx0
  have i1 := idx1
  have i2 := idx2
  have i3 := idx3
  have hs := stepsI_bd (-dy) dx
  go_enter Tryd.func10, Tryd.ntmps10
  go_wp2_with (first | (go_at_call 28; refine (tooFar_any _ _).mono ?_; rintro e w' ⟨rfl, rfl⟩) | (refine wpList_load_row rfl 48 _ rfl 0 rfl t quadCells fr _ hg Tryd.underlying48 rfl (by kernel_rfl) ?_))
  refine wp_loop_rounds 4 ?_
  rw [rounds_succ]
  go_wp2_with fail
  rw [rounds_succ]
  go_wp2_with fail
  rw [rounds_succ]
  go_wp2_with fail
  rw [rounds_succ]
  go_wp2_with (first | (go_at_call 29; refine (steps_any (-dy) dx _ (by omega) (by omega) (by omega) (by omega)).mono ?_; rintro e w' ⟨rfl, rfl⟩))
  go_ret2
  refine ⟨rfl, ?_⟩
  repeat (first | exact Below.refl _ _ | refine Below.alloc ?_ (by simp; try omega) _ | refine Below.setCell ?_ (by simp; try omega) _)

set_option maxHeartbeats 400000 in
theorem dir_zero (w : World) (hq : Quad w) :
    Calls Tryd.prog 10 #[.int .i64 0, .int .i64 0] w fun e w' => e = .returned (.tuple #[.int .i64 0, .int .i64 2]) ∧ Below w.heap.size w w' := by
  obtain ⟨t, fr, hg⟩ := hq
  have f1 : farB 0 = false := by simp [farB]
  have i0 := idx0
  have i1 := idx1
  have i2 := idx2
  have i3 := idx3
  go_enter Tryd.func10, Tryd.ntmps10
  go_wp2_with (first | (go_at_call 28; refine (tooFar_any _ _).mono ?_; rintro e w' ⟨rfl, rfl⟩) | (refine wpList_load_row rfl 48 _ rfl 0 rfl t quadCells fr _ hg Tryd.underlying48 rfl (by kernel_rfl) ?_))
  refine wp_loop_rounds 5 ?_
  rw [rounds_succ]
  go_wp2_with fail
  rw [rounds_succ]
  go_wp2_with fail
  rw [rounds_succ]
  go_wp2_with fail
  rw [rounds_succ]
  go_wp2_with fail
  rw [rounds_succ]
  go_wp2_with fail
  go_ret2
  refine ⟨rfl, ?_⟩
  repeat (first | exact Below.refl _ _ | refine Below.alloc ?_ (by simp; try omega) _ | refine Below.setCell ?_ (by simp; try omega) _)

set_option maxHeartbeats 400000 in
theorem dir_far (dx dy : Int) (w : World) (h : farB dx = true ∨ farB dy = true) :
    Calls Tryd.prog 10 #[.int .i64 dx, .int .i64 dy] w fun e w' => e = .returned (.tuple #[.int .i64 0, .int .i64 2]) ∧ Below w.heap.size w w' := by
  by_cases hx : farB dx = true
  · clear h
    go_enter Tryd.func10, Tryd.ntmps10
    go_wp2_with (go_at_call 28; refine (tooFar_any _ _).mono ?_; rintro e w' ⟨rfl, rfl⟩)
    go_ret2
    exact ⟨rfl, Below.refl _ _⟩
  · have hy : farB dy = true := by rcases h with h | h; exact absurd h hx; exact h
    have hx' : farB dx = false := by simpa using hx
    clear h hx
    go_enter Tryd.func10, Tryd.ntmps10
    go_wp2_with (go_at_call 28; refine (tooFar_any _ _).mono ?_; rintro e w' ⟨rfl, rfl⟩)
    go_ret2
    exact ⟨rfl, Below.refl _ _⟩

theorem dirI_bd (dx dy : Int) : 0 ≤ dirI dx dy ∧ dirI dx dy ≤ 15 := by
  have a := stepsI_bd dx dy
  have b := stepsI_bd dy (-dx)
  have c := stepsI_bd (-dx) (-dy)
  have d := stepsI_bd (-dy) dx
  unfold dirI
  repeat' split
  all_goals omega

/-- The contract of antenna.Direction where the vector is near and not zero. -/
theorem dir_yes (dx dy : Int) (w : World) (hq : Quad w) (hx : farB dx = false) (hy : farB dy = false) (h0 : ¬ (dx = 0 ∧ dy = 0)) :
    Calls Tryd.prog 10 #[.int .i64 dx, .int .i64 dy] w fun e w' => e = .returned (.tuple #[.int .i64 (dirI dx dy), .int .i64 0]) ∧ Below w.heap.size w w' := by
  have hx' : -1048576 ≤ dx ∧ dx ≤ 1048576 := by simp [farB] at hx; omega
  have hy' : -1048576 ≤ dy ∧ dy ≤ 1048576 := by simp [farB] at hy; omega
  by_cases c0 : 0 < dx ∧ 0 ≤ dy
  · have e : dirI dx dy = stepsI dx dy := by unfold dirI; rw [if_pos c0]
    rw [e]; exact dir_q0 dx dy w hq (by omega) (by omega) (by omega) (by omega)
  · by_cases c1 : 0 < dy ∧ dx ≤ 0
    · have e : dirI dx dy = 4 + stepsI dy (-dx) := by unfold dirI; rw [if_neg c0, if_pos c1]
      rw [e]; exact dir_q1 dx dy w hq (by omega) (by omega) (by omega) (by omega)
    · by_cases c2 : dx < 0 ∧ dy ≤ 0
      · have e : dirI dx dy = 8 + stepsI (-dx) (-dy) := by unfold dirI; rw [if_neg c0, if_neg c1, if_pos c2]
        rw [e]; exact dir_q2 dx dy w hq (by omega) (by omega) (by omega) (by omega)
      · have e : dirI dx dy = 12 + stepsI (-dy) dx := by unfold dirI; rw [if_neg c0, if_neg c1, if_neg c2]
        rw [e]
        by_cases c3 : 0 < dx
        · exact dir_q3a dx dy w hq (by omega) (by omega) (by omega) (by omega)
        · exact dir_q3b dx dy w hq (by omega) (by omega) (by omega) (by omega)
end Go.Proofs.YthaodhipebadcaaDoor
