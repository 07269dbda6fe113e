/- Contracts of descend.Valid, bandplanref29.Valid, descend.following, bandplanref29.Falls, Decrement. -/
import Derived.Test.YtfgobighpkemkaaDoorRows
import Derived.Test.YtfgobighpkemkaaDoorMem
import Derived.Test.YtfgobighpkemkaaDoorM
import Derived.Deep.RegionHeld3
import Derived.Deep.RegionLaw
namespace Go.Proofs.YtfgobighpkemkaaDoor
open Go.RowKit

theorem chain {w a b : World} (h : Below w.heap.size w a) (k : Below a.heap.size a b) : Below w.heap.size w b := h.trans (k.mono h.size)
theorem gcell {B : Nat} {W w' : World} {b o : Nat} {v : Value} (G : Below B W w') (hb : b < B) (hc : W.cell? ⟨b, o, none⟩ = some v) : w'.cell? ⟨b, o, none⟩ = some v := (G.cell (p := ⟨b, o, none⟩) hb).trans hc
theorem gfrozen {B : Nat} {W w' : World} {b o : Nat} {v : Bool} (G : Below B W w') (hb : b < B) (hc : W.frozen? ⟨b, o, none⟩ = v) : w'.frozen? ⟨b, o, none⟩ = v := (G.frozen (p := ⟨b, o, none⟩) hb).trans hc
/-- A clock's value. -/
def clk (O b r : Int) : Value := .agg #[.int .i64 O, .int .i64 b, .int .i64 r]

set_option maxHeartbeats 400000 in
theorem valid_any (O b r : Int) (w : World) :
    Calls Tryd.prog 10 #[.agg #[.int .i64 O, .int .i64 b, .int .i64 r]] w fun e w' => e = .returned (.bool (vB O b r)) ∧ Below w.heap.size w w' := by
  by_cases k0 : O < 1
  · have hv : vB O b r = false := by simp only [vB, decide_eq_false_iff_not]; omega
    rw [hv]
    go_enter Tryd.func10, Tryd.ntmps10
    go_wp2
    go_ret
    exact ⟨ret_bool (by first | rfl | (simp; omega)), (Below.refl _ _).alloc (Nat.le_refl _) _⟩
  by_cases k1 : 1000000000 < O
  · have hv : vB O b r = false := by simp only [vB, decide_eq_false_iff_not]; omega
    rw [hv]
    go_enter Tryd.func10, Tryd.ntmps10
    go_wp2
    go_ret
    exact ⟨ret_bool (by first | rfl | (simp; omega)), (Below.refl _ _).alloc (Nat.le_refl _) _⟩
  by_cases k2 : b < 0
  · have hv : vB O b r = false := by simp only [vB, decide_eq_false_iff_not]; omega
    rw [hv]
    go_enter Tryd.func10, Tryd.ntmps10
    go_wp2
    go_ret
    exact ⟨ret_bool (by first | rfl | (simp; omega)), (Below.refl _ _).alloc (Nat.le_refl _) _⟩
  by_cases k3 : O < b
  · have hv : vB O b r = false := by simp only [vB, decide_eq_false_iff_not]; omega
    rw [hv]
    go_enter Tryd.func10, Tryd.ntmps10
    go_wp2
    go_ret
    exact ⟨ret_bool (by first | rfl | (simp; omega)), (Below.refl _ _).alloc (Nat.le_refl _) _⟩
  by_cases k4 : r < 0
  · have hv : vB O b r = false := by simp only [vB, decide_eq_false_iff_not]; omega
    rw [hv]
    go_enter Tryd.func10, Tryd.ntmps10
    go_wp2
    go_ret
    exact ⟨ret_bool (by first | rfl | (simp; omega)), (Below.refl _ _).alloc (Nat.le_refl _) _⟩
  by_cases k5 : 1000000 < r
  · have hv : vB O b r = false := by simp only [vB, decide_eq_false_iff_not]; omega
    rw [hv]
    go_enter Tryd.func10, Tryd.ntmps10
    go_wp2
    go_ret
    exact ⟨ret_bool (by first | rfl | (simp; omega)), (Below.refl _ _).alloc (Nat.le_refl _) _⟩
  have hv : vB O b r = true := by simp only [vB, decide_eq_true_eq]; omega
  rw [hv]
  go_enter Tryd.func10, Tryd.ntmps10
  go_wp2
  go_ret
  exact ⟨rfl, (Below.refl _ _).alloc (Nat.le_refl _) _⟩

set_option maxHeartbeats 400000 in
theorem refValid_any (O b r : Int) (w : World) :
    Calls Tryd.prog 11 #[.agg #[.int .i64 O, .int .i64 b, .int .i64 r]] w fun e w' => e = .returned (.bool (vB O b r)) ∧ Below w.heap.size w w' := by
  by_cases k0 : O < 1
  · have hv : vB O b r = false := by simp only [vB, decide_eq_false_iff_not]; omega
    rw [hv]
    go_enter Tryd.func11, Tryd.ntmps11
    go_wp2
    go_ret
    exact ⟨ret_bool (by first | rfl | (simp; omega)), (Below.refl _ _).alloc (Nat.le_refl _) _⟩
  by_cases k1 : 1000000000 < O
  · have hv : vB O b r = false := by simp only [vB, decide_eq_false_iff_not]; omega
    rw [hv]
    go_enter Tryd.func11, Tryd.ntmps11
    go_wp2
    go_ret
    exact ⟨ret_bool (by first | rfl | (simp; omega)), (Below.refl _ _).alloc (Nat.le_refl _) _⟩
  by_cases k2 : b < 0
  · have hv : vB O b r = false := by simp only [vB, decide_eq_false_iff_not]; omega
    rw [hv]
    go_enter Tryd.func11, Tryd.ntmps11
    go_wp2
    go_ret
    exact ⟨ret_bool (by first | rfl | (simp; omega)), (Below.refl _ _).alloc (Nat.le_refl _) _⟩
  by_cases k3 : O < b
  · have hv : vB O b r = false := by simp only [vB, decide_eq_false_iff_not]; omega
    rw [hv]
    go_enter Tryd.func11, Tryd.ntmps11
    go_wp2
    go_ret
    exact ⟨ret_bool (by first | rfl | (simp; omega)), (Below.refl _ _).alloc (Nat.le_refl _) _⟩
  by_cases k4 : r < 0
  · have hv : vB O b r = false := by simp only [vB, decide_eq_false_iff_not]; omega
    rw [hv]
    go_enter Tryd.func11, Tryd.ntmps11
    go_wp2
    go_ret
    exact ⟨ret_bool (by first | rfl | (simp; omega)), (Below.refl _ _).alloc (Nat.le_refl _) _⟩
  by_cases k5 : 1000000 < r
  · have hv : vB O b r = false := by simp only [vB, decide_eq_false_iff_not]; omega
    rw [hv]
    go_enter Tryd.func11, Tryd.ntmps11
    go_wp2
    go_ret
    exact ⟨ret_bool (by first | rfl | (simp; omega)), (Below.refl _ _).alloc (Nat.le_refl _) _⟩
  have hv : vB O b r = true := by simp only [vB, decide_eq_true_eq]; omega
  rw [hv]
  go_enter Tryd.func11, Tryd.ntmps11
  go_wp2
  go_ret
  exact ⟨rfl, (Below.refl _ _).alloc (Nat.le_refl _) _⟩

set_option maxHeartbeats 400000 in
theorem foll_any (O b : Int) (w : World) (h1 : 1 ≤ O) (h2 : O ≤ 1000000000) (h3 : 0 ≤ b) (h4 : b ≤ 1000000000) :
    Calls Tryd.prog 29 #[.int .i64 O, .int .i64 b] w fun e w' => e = .returned (.int .i64 (foll O b)) ∧ w = w' := by
  go_enter Tryd.func29, Tryd.ntmps29
  go_wp2
  all_goals go_ret
  all_goals refine ⟨ret_int ?_, rfl⟩
  all_goals (unfold foll fall; omega)

set_option maxHeartbeats 400000 in
theorem falls_any (O b : Int) (w : World) (h1 : 1 ≤ O) (h2 : O ≤ 1000000000) (h3 : 0 ≤ b) (h4 : b ≤ 1000000000) :
    Calls Tryd.prog 30 #[.int .i64 O, .int .i64 b] w fun e w' => e = .returned (.int .i64 (fall O b)) ∧ w = w' := by
  go_enter Tryd.func30, Tryd.ntmps30
  go_wp2
  all_goals go_ret
  all_goals refine ⟨ret_int ?_, rfl⟩
  all_goals (unfold fall; omega)

set_option maxHeartbeats 400000 in
theorem decr_no (O b r : Int) (w : World) (hv : vB O b r = false) :
    Calls Tryd.prog 13 #[.agg #[.int .i64 O, .int .i64 b, .int .i64 r]] w fun e w' => e = .returned (.tuple #[.int .i64 0, .int .i64 2]) ∧ Below w.heap.size w w' := by
  have hb0 := (Below.refl w.heap.size w).alloc (Nat.le_refl _) (.cells #[.int .i64 O, .int .i64 b, .int .i64 r] 23)
  go_enter Tryd.func13, Tryd.ntmps13
  go_wp2_with fail
  refine (valid_any O b r _).mono ?_
  rintro e w1 ⟨rfl, hb1⟩
  go_wp2
  go_ret2
  exact ⟨rfl, chain hb0 hb1⟩

set_option maxHeartbeats 400000 in
theorem decr_yes (O b r : Int) (w : World) (hv : vB O b r = true) :
    Calls Tryd.prog 13 #[.agg #[.int .i64 O, .int .i64 b, .int .i64 r]] w fun e w' => e = .returned (.tuple #[.int .i64 (fall O b), .int .i64 0]) ∧ Below w.heap.size w w' := by
  have hb0 := (Below.refl w.heap.size w).alloc (Nat.le_refl _) (.cells #[.int .i64 O, .int .i64 b, .int .i64 r] 23)
  obtain ⟨v1, v2, v3, v4, v5, v6⟩ := (vB_iff O b r).1 hv
  have hf := foll_bd v1 v3
  have hf1 : 0 ≤ foll O b := hf.1
  have hf2 : foll O b ≤ b := hf.2
  have e1 : IntKind.i64.wrap (b - foll O b) = b - foll O b := IntWalk.i64_in _ (by omega)
  clear hf
  go_enter Tryd.func13, Tryd.ntmps13
  go_wp2_with fail
  refine (valid_any O b r _).mono ?_
  rintro e w1 ⟨rfl, hb1⟩
  have c0 : w1.cell? ⟨w.heap.size, 0, none⟩ = some (.int .i64 O) := (hb1.cell (p := ⟨w.heap.size, 0, none⟩) (by simp)).trans (by go_simp)
  have c1 : w1.cell? ⟨w.heap.size, 1, none⟩ = some (.int .i64 b) := (hb1.cell (p := ⟨w.heap.size, 1, none⟩) (by simp)).trans (by go_simp)
  go_wp2_with fail
  go_quiet ((go_at_call 29; exact Calls.quiet_of_same ((foll_any O b _ v1 v2 v3 (by omega)).mono fun _ _ ⟨a, b⟩ => ⟨a, b.symm⟩)))
  go_wp2
  go_ret2
  refine ⟨?_, below_drewN (chain hb0 hb1) _⟩
  have : b - foll O b = fall O b := by unfold foll; omega
  rw [this]; rfl

set_option maxHeartbeats 400000 in
theorem refDecr_no (O b r : Int) (w : World) (hv : vB O b r = false) :
    Calls Tryd.prog 14 #[.agg #[.int .i64 O, .int .i64 b, .int .i64 r]] w fun e w' => e = .returned (.tuple #[.int .i64 0, .int .i64 2]) ∧ Below w.heap.size w w' := by
  have hb0 := (Below.refl w.heap.size w).alloc (Nat.le_refl _) (.cells #[.int .i64 O, .int .i64 b, .int .i64 r] 23)
  go_enter Tryd.func14, Tryd.ntmps14
  go_wp2_with fail
  refine (refValid_any O b r _).mono ?_
  rintro e w1 ⟨rfl, hb1⟩
  go_wp2
  go_ret2
  exact ⟨rfl, chain hb0 hb1⟩

set_option maxHeartbeats 400000 in
theorem refDecr_yes (O b r : Int) (w : World) (hv : vB O b r = true) :
    Calls Tryd.prog 14 #[.agg #[.int .i64 O, .int .i64 b, .int .i64 r]] w fun e w' => e = .returned (.tuple #[.int .i64 (fall O b), .int .i64 0]) ∧ Below w.heap.size w w' := by
  have hb0 := (Below.refl w.heap.size w).alloc (Nat.le_refl _) (.cells #[.int .i64 O, .int .i64 b, .int .i64 r] 23)
  obtain ⟨v1, v2, v3, v4, v5, v6⟩ := (vB_iff O b r).1 hv
  go_enter Tryd.func14, Tryd.ntmps14
  go_wp2_with fail
  refine (refValid_any O b r _).mono ?_
  rintro e w1 ⟨rfl, hb1⟩
  have c0 : w1.cell? ⟨w.heap.size, 0, none⟩ = some (.int .i64 O) := (hb1.cell (p := ⟨w.heap.size, 0, none⟩) (by simp)).trans (by go_simp)
  have c1 : w1.cell? ⟨w.heap.size, 1, none⟩ = some (.int .i64 b) := (hb1.cell (p := ⟨w.heap.size, 1, none⟩) (by simp)).trans (by go_simp)
  go_wp2_with (go_at_call 30; refine (falls_any O b _ v1 v2 v3 (by omega)).mono ?_; rintro e w' ⟨rfl, rfl⟩)
  go_ret2
  exact ⟨rfl, chain hb0 hb1⟩
end Go.Proofs.YtfgobighpkemkaaDoor
