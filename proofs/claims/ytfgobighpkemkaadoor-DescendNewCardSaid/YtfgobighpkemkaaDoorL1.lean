/- The walks of bandplanlaw29.DescendValid, DescendNext, DescendAfter, DescendPrice, DescendNew. -/
import Derived.Test.YtfgobighpkemkaaDoorWk
namespace Go.Proofs.YtfgobighpkemkaaDoor
open Go.RowKit

set_option maxHeartbeats 400000 in
theorem law3_of (O b r : Int) (w : World) (hw : Wor w) (E : Bool) (hE : vB O b r = E) : Calls Tryd.prog 3 #[.agg #[.int .i64 O, .int .i64 b, .int .i64 r]] w (KnownOk w) := by
  have hb0 := (Below.refl w.heap.size w).alloc (Nat.le_refl _) (.cells #[.int .i64 O, .int .i64 b, .int .i64 r] 23)
  have hw1 := hw.next hb0
  have l0 : w.heap.size < (w.alloc (.cells #[.int .i64 O, .int .i64 b, .int .i64 r] 23)).heap.size := by simp
  have c0 : (w.alloc (.cells #[.int .i64 O, .int .i64 b, .int .i64 r] 23)).cell? ⟨w.heap.size, 0, none⟩ = some (.int .i64 O) := by go_simp
  have c1 : (w.alloc (.cells #[.int .i64 O, .int .i64 b, .int .i64 r] 23)).cell? ⟨w.heap.size, 1, none⟩ = some (.int .i64 b) := by go_simp
  have c2 : (w.alloc (.cells #[.int .i64 O, .int .i64 b, .int .i64 r] 23)).cell? ⟨w.heap.size, 2, none⟩ = some (.int .i64 r) := by go_simp
  cases E
  all_goals
    go_enter Tryd.func3, Tryd.ntmps3
    go_wp2_with fail
    go_region_held3 (fun w' => w'.cell? ⟨w.heap.size, 0, none⟩ = some (.int .i64 O) ∧ w'.cell? ⟨w.heap.size, 1, none⟩ = some (.int .i64 b) ∧ w'.cell? ⟨w.heap.size, 2, none⟩ = some (.int .i64 r))
      (first | go_keep | exact ⟨by assumption, by assumption, by assumption⟩)
      (first | (go_at_call 10; refine (valid_any O b r _).mono ?_; rintro e w1 ⟨rfl, hb1⟩; have hb1 := below_undrew hb1; have d01 := gcell hb1 l0 c0; have d11 := gcell hb1 l0 c1; have d21 := gcell hb1 l0 c2; have l1 := Nat.lt_of_lt_of_le l0 hb1.size) | (go_at_call 11; refine (refValid_any O b r _).mono ?_; rintro e w2 ⟨rfl, hb2⟩; have d02 := gcell hb2 l1 d01; have d12 := gcell hb2 l1 d11; have d22 := gcell hb2 l1 d21; have l2 := Nat.lt_of_lt_of_le l1 hb2.size) | (go_at_call 12; refine (known_any _ (by exact (hw1.next hb1).next hb2)).mono ?_; rintro e w3 ⟨rfl, hb3⟩; have d03 := gcell hb3 l2 d02; have d13 := gcell hb3 l2 d12; have d23 := gcell hb3 l2 d22; have l3 := Nat.lt_of_lt_of_le l2 hb3.size))
    go_wp2
    go_ret
    exact ⟨rfl, chain (chain (chain hb0 hb1) hb2) hb3⟩
theorem law3 (O b r : Int) (w : World) (hw : Wor w) : Calls Tryd.prog 3 #[.agg #[.int .i64 O, .int .i64 b, .int .i64 r]] w (KnownOk w) := law3_of O b r w hw _ rfl

set_option maxHeartbeats 800000 in
set_option maxRecDepth 100000 in
theorem law4_of (O b r a er O' b' r' ek : Int) (w : World) (hw : Wor w)
    (C1 : Hid (∀ W, Calls Tryd.prog 13 #[.agg #[.int .i64 O, .int .i64 b, .int .i64 r]] W fun e w' => e = .returned (.tuple #[.int .i64 a, .int .i64 er]) ∧ Below W.heap.size W w')) (C2 : Hid (∀ W, Calls Tryd.prog 14 #[.agg #[.int .i64 O, .int .i64 b, .int .i64 r]] W fun e w' => e = .returned (.tuple #[.int .i64 a, .int .i64 er]) ∧ Below W.heap.size W w'))
    (C3 : Hid (∀ W, Calls Tryd.prog 15 #[.agg #[.int .i64 O, .int .i64 b, .int .i64 r]] W (ClkR W O' b' r' ek))) (C4 : Hid (∀ W, Calls Tryd.prog 16 #[.agg #[.int .i64 O, .int .i64 b, .int .i64 r]] W (ClkR W O' b' r' ek))) :
    Calls Tryd.prog 4 #[.agg #[.int .i64 O, .int .i64 b, .int .i64 r]] w (KnownOk w) := by
  have hb0 := (Below.refl w.heap.size w).alloc (Nat.le_refl _) (.cells #[.int .i64 O, .int .i64 b, .int .i64 r] 23)
  have B0 := hb0
  have q0 := hw.next hb0
  have l0 : w.heap.size < (w.alloc (.cells #[.int .i64 O, .int .i64 b, .int .i64 r] 23)).heap.size := by simp
  have c0_0 : (w.alloc (.cells #[.int .i64 O, .int .i64 b, .int .i64 r] 23)).cell? ⟨w.heap.size, 0, none⟩ = some (.int .i64 O) := by go_simp
  have c1_0 : (w.alloc (.cells #[.int .i64 O, .int .i64 b, .int .i64 r] 23)).cell? ⟨w.heap.size, 1, none⟩ = some (.int .i64 b) := by go_simp
  have c2_0 : (w.alloc (.cells #[.int .i64 O, .int .i64 b, .int .i64 r] 23)).cell? ⟨w.heap.size, 2, none⟩ = some (.int .i64 r) := by go_simp
  clear hb0
  go_enter Tryd.func4, Tryd.ntmps4
  go_wp2_with fail
  obtain ⟨W0, hW0⟩ : ∃ W0, W0 = w.alloc (.cells #[.int .i64 O, .int .i64 b, .int .i64 r] 23) := ⟨_, rfl⟩
  rw [← hW0] at B0 q0 l0 c0_0 c1_0 c2_0 ⊢
  clear hW0
  refine (C1.out _).mono ?_
  rintro e w1 ⟨rfl, hb⟩
  have c0_1 := gcell hb l0 c0_0
  have c1_1 := gcell hb l0 c1_0
  have c2_1 := gcell hb l0 c2_0
  have sc_1 := Nat.lt_of_lt_of_le l0 hb.size
  have B1 := chain B0 hb
  have q1 := q0.next hb
  clear hb B0 q0 c0_0 c1_0 c2_0 l0
  go_wp2_with fail
  refine (C2.out _).mono ?_
  rintro e w2 ⟨rfl, hb⟩
  have c0_2 := gcell hb sc_1 c0_1
  have c1_2 := gcell hb sc_1 c1_1
  have c2_2 := gcell hb sc_1 c2_1
  have sc_2 := Nat.lt_of_lt_of_le sc_1 hb.size
  have B2 := chain B1 hb
  have q2 := q1.next hb
  clear hb B1 q1 c0_1 c1_1 c2_1 sc_1
  go_wp2_with fail
  refine (C3.out _).mono ?_
  rintro e w3 ⟨rfl, hb⟩
  have hal := (Below.refl w3.heap.size w3).alloc (Nat.le_refl _) (.cells #[.int .i64 O', .int .i64 b', .int .i64 r'] 23)
  have hb := chain hb hal
  have c0_3 := gcell hb sc_2 c0_2
  have c1_3 := gcell hb sc_2 c1_2
  have c2_3 := gcell hb sc_2 c2_2
  have sc_3 := Nat.lt_of_lt_of_le sc_2 hb.size
  have B3 := chain B2 hb
  have q3 := q2.next hb
  have x0_3 : (w3.alloc (.cells #[.int .i64 O', .int .i64 b', .int .i64 r'] 23)).cell? ⟨w3.heap.size, 0, none⟩ = some (.int .i64 O') := by go_simp
  have x1_3 : (w3.alloc (.cells #[.int .i64 O', .int .i64 b', .int .i64 r'] 23)).cell? ⟨w3.heap.size, 1, none⟩ = some (.int .i64 b') := by go_simp
  have x2_3 : (w3.alloc (.cells #[.int .i64 O', .int .i64 b', .int .i64 r'] 23)).cell? ⟨w3.heap.size, 2, none⟩ = some (.int .i64 r') := by go_simp
  have sx_3 : w3.heap.size < (w3.alloc (.cells #[.int .i64 O', .int .i64 b', .int .i64 r'] 23)).heap.size := by simp
  clear hal hb B2 q2 c0_2 c1_2 c2_2 sc_2
  go_wp2_with fail
  obtain ⟨W3, hW3⟩ : ∃ W3, W3 = (w3.alloc (.cells #[.int .i64 O', .int .i64 b', .int .i64 r'] 23)) := ⟨_, rfl⟩
  rw [← hW3] at c0_3 c1_3 c2_3 sc_3 B3 q3 x0_3 x1_3 x2_3 sx_3 ⊢
  clear hW3
  refine (C4.out _).mono ?_
  rintro e w4 ⟨rfl, hb⟩
  have hal := (Below.refl w4.heap.size w4).alloc (Nat.le_refl _) (.cells #[.int .i64 O', .int .i64 b', .int .i64 r'] 23)
  have hb := chain hb hal
  have c0_4 := gcell hb sc_3 c0_3
  have c1_4 := gcell hb sc_3 c1_3
  have c2_4 := gcell hb sc_3 c2_3
  have sc_4 := Nat.lt_of_lt_of_le sc_3 hb.size
  have x0_4 := gcell hb sx_3 x0_3
  have x1_4 := gcell hb sx_3 x1_3
  have x2_4 := gcell hb sx_3 x2_3
  have sx_4 := Nat.lt_of_lt_of_le sx_3 hb.size
  have B4 := chain B3 hb
  have q4 := q3.next hb
  have y0_4 : (w4.alloc (.cells #[.int .i64 O', .int .i64 b', .int .i64 r'] 23)).cell? ⟨w4.heap.size, 0, none⟩ = some (.int .i64 O') := by go_simp
  have y1_4 : (w4.alloc (.cells #[.int .i64 O', .int .i64 b', .int .i64 r'] 23)).cell? ⟨w4.heap.size, 1, none⟩ = some (.int .i64 b') := by go_simp
  have y2_4 : (w4.alloc (.cells #[.int .i64 O', .int .i64 b', .int .i64 r'] 23)).cell? ⟨w4.heap.size, 2, none⟩ = some (.int .i64 r') := by go_simp
  have sy_4 : w4.heap.size < (w4.alloc (.cells #[.int .i64 O', .int .i64 b', .int .i64 r'] 23)).heap.size := by simp
  clear hal hb B3 q3 c0_3 c1_3 c2_3 x0_3 x1_3 x2_3 sc_3 sx_3
  go_wp2_with fail
  obtain ⟨W4, hW4⟩ : ∃ W4, W4 = (w4.alloc (.cells #[.int .i64 O', .int .i64 b', .int .i64 r'] 23)) := ⟨_, rfl⟩
  rw [← hW4] at c0_4 c1_4 c2_4 sc_4 x0_4 x1_4 x2_4 sx_4 B4 q4 y0_4 y1_4 y2_4 sy_4 ⊢
  clear hW4
  refine (known_any _ q4).mono ?_
  rintro e w99 ⟨rfl, hb9⟩
  go_wp2
  go_ret
  exact ⟨rfl, chain B4 hb9⟩

set_option maxHeartbeats 800000 in
set_option maxRecDepth 100000 in
theorem law5_of (O b r k a er O' b' r' ek : Int) (w : World) (hw : Wor w)
    (C1 : Hid (∀ W, Calls Tryd.prog 17 #[.agg #[.int .i64 O, .int .i64 b, .int .i64 r]] W fun e w' => e = .returned (.tuple #[.int .i64 a, .int .i64 er]) ∧ Below W.heap.size W w')) (C2 : Hid (∀ W, Calls Tryd.prog 18 #[.agg #[.int .i64 O, .int .i64 b, .int .i64 r]] W fun e w' => e = .returned (.tuple #[.int .i64 a, .int .i64 er]) ∧ Below W.heap.size W w'))
    (C3 : Hid (∀ W, Calls Tryd.prog 19 #[.agg #[.int .i64 O, .int .i64 b, .int .i64 r], .int .i64 k] W (ClkR W O' b' r' ek))) (C4 : Hid (∀ W, Calls Tryd.prog 20 #[.agg #[.int .i64 O, .int .i64 b, .int .i64 r], .int .i64 k] W (ClkR W O' b' r' ek))) :
    Calls Tryd.prog 5 #[.agg #[.int .i64 O, .int .i64 b, .int .i64 r], .int .i64 k] w (KnownOk w) := by
  have hb0 := (Below.refl w.heap.size w).alloc (Nat.le_refl _) (.cells #[.int .i64 O, .int .i64 b, .int .i64 r] 23)
  have B0 := hb0
  have q0 := hw.next hb0
  have l0 : w.heap.size < (w.alloc (.cells #[.int .i64 O, .int .i64 b, .int .i64 r] 23)).heap.size := by simp
  have c0_0 : (w.alloc (.cells #[.int .i64 O, .int .i64 b, .int .i64 r] 23)).cell? ⟨w.heap.size, 0, none⟩ = some (.int .i64 O) := by go_simp
  have c1_0 : (w.alloc (.cells #[.int .i64 O, .int .i64 b, .int .i64 r] 23)).cell? ⟨w.heap.size, 1, none⟩ = some (.int .i64 b) := by go_simp
  have c2_0 : (w.alloc (.cells #[.int .i64 O, .int .i64 b, .int .i64 r] 23)).cell? ⟨w.heap.size, 2, none⟩ = some (.int .i64 r) := by go_simp
  clear hb0
  go_enter Tryd.func5, Tryd.ntmps5
  go_wp2_with fail
  obtain ⟨W0, hW0⟩ : ∃ W0, W0 = w.alloc (.cells #[.int .i64 O, .int .i64 b, .int .i64 r] 23) := ⟨_, rfl⟩
  rw [← hW0] at B0 q0 l0 c0_0 c1_0 c2_0 ⊢
  clear hW0
  refine (C1.out _).mono ?_
  rintro e w1 ⟨rfl, hb⟩
  have c0_1 := gcell hb l0 c0_0
  have c1_1 := gcell hb l0 c1_0
  have c2_1 := gcell hb l0 c2_0
  have sc_1 := Nat.lt_of_lt_of_le l0 hb.size
  have B1 := chain B0 hb
  have q1 := q0.next hb
  clear hb B0 q0 c0_0 c1_0 c2_0 l0
  go_wp2_with fail
  refine (C2.out _).mono ?_
  rintro e w2 ⟨rfl, hb⟩
  have c0_2 := gcell hb sc_1 c0_1
  have c1_2 := gcell hb sc_1 c1_1
  have c2_2 := gcell hb sc_1 c2_1
  have sc_2 := Nat.lt_of_lt_of_le sc_1 hb.size
  have B2 := chain B1 hb
  have q2 := q1.next hb
  clear hb B1 q1 c0_1 c1_1 c2_1 sc_1
  go_wp2_with fail
  refine (C3.out _).mono ?_
  rintro e w3 ⟨rfl, hb⟩
  have hal := (Below.refl w3.heap.size w3).alloc (Nat.le_refl _) (.cells #[.int .i64 O', .int .i64 b', .int .i64 r'] 23)
  have hb := chain hb hal
  have c0_3 := gcell hb sc_2 c0_2
  have c1_3 := gcell hb sc_2 c1_2
  have c2_3 := gcell hb sc_2 c2_2
  have sc_3 := Nat.lt_of_lt_of_le sc_2 hb.size
  have B3 := chain B2 hb
  have q3 := q2.next hb
  have x0_3 : (w3.alloc (.cells #[.int .i64 O', .int .i64 b', .int .i64 r'] 23)).cell? ⟨w3.heap.size, 0, none⟩ = some (.int .i64 O') := by go_simp
  have x1_3 : (w3.alloc (.cells #[.int .i64 O', .int .i64 b', .int .i64 r'] 23)).cell? ⟨w3.heap.size, 1, none⟩ = some (.int .i64 b') := by go_simp
  have x2_3 : (w3.alloc (.cells #[.int .i64 O', .int .i64 b', .int .i64 r'] 23)).cell? ⟨w3.heap.size, 2, none⟩ = some (.int .i64 r') := by go_simp
  have sx_3 : w3.heap.size < (w3.alloc (.cells #[.int .i64 O', .int .i64 b', .int .i64 r'] 23)).heap.size := by simp
  clear hal hb B2 q2 c0_2 c1_2 c2_2 sc_2
  go_wp2_with fail
  obtain ⟨W3, hW3⟩ : ∃ W3, W3 = (w3.alloc (.cells #[.int .i64 O', .int .i64 b', .int .i64 r'] 23)) := ⟨_, rfl⟩
  rw [← hW3] at c0_3 c1_3 c2_3 sc_3 B3 q3 x0_3 x1_3 x2_3 sx_3 ⊢
  clear hW3
  refine (C4.out _).mono ?_
  rintro e w4 ⟨rfl, hb⟩
  have hal := (Below.refl w4.heap.size w4).alloc (Nat.le_refl _) (.cells #[.int .i64 O', .int .i64 b', .int .i64 r'] 23)
  have hb := chain hb hal
  have c0_4 := gcell hb sc_3 c0_3
  have c1_4 := gcell hb sc_3 c1_3
  have c2_4 := gcell hb sc_3 c2_3
  have sc_4 := Nat.lt_of_lt_of_le sc_3 hb.size
  have x0_4 := gcell hb sx_3 x0_3
  have x1_4 := gcell hb sx_3 x1_3
  have x2_4 := gcell hb sx_3 x2_3
  have sx_4 := Nat.lt_of_lt_of_le sx_3 hb.size
  have B4 := chain B3 hb
  have q4 := q3.next hb
  have y0_4 : (w4.alloc (.cells #[.int .i64 O', .int .i64 b', .int .i64 r'] 23)).cell? ⟨w4.heap.size, 0, none⟩ = some (.int .i64 O') := by go_simp
  have y1_4 : (w4.alloc (.cells #[.int .i64 O', .int .i64 b', .int .i64 r'] 23)).cell? ⟨w4.heap.size, 1, none⟩ = some (.int .i64 b') := by go_simp
  have y2_4 : (w4.alloc (.cells #[.int .i64 O', .int .i64 b', .int .i64 r'] 23)).cell? ⟨w4.heap.size, 2, none⟩ = some (.int .i64 r') := by go_simp
  have sy_4 : w4.heap.size < (w4.alloc (.cells #[.int .i64 O', .int .i64 b', .int .i64 r'] 23)).heap.size := by simp
  clear hal hb B3 q3 c0_3 c1_3 c2_3 x0_3 x1_3 x2_3 sc_3 sx_3
  go_wp2_with fail
  obtain ⟨W4, hW4⟩ : ∃ W4, W4 = (w4.alloc (.cells #[.int .i64 O', .int .i64 b', .int .i64 r'] 23)) := ⟨_, rfl⟩
  rw [← hW4] at c0_4 c1_4 c2_4 sc_4 x0_4 x1_4 x2_4 sx_4 B4 q4 y0_4 y1_4 y2_4 sy_4 ⊢
  clear hW4
  refine (known_any _ q4).mono ?_
  rintro e w99 ⟨rfl, hb9⟩
  go_wp2
  go_ret
  exact ⟨rfl, chain B4 hb9⟩

set_option maxHeartbeats 800000 in
set_option maxRecDepth 100000 in
theorem law7_of (O b r v h o a er a' er' : Int) (w : World) (hw : Wor w)
    (C1 : Hid (∀ W, Wor W → Calls Tryd.prog 24 #[.agg #[.int .i64 O, .int .i64 b, .int .i64 r], .int .i64 v, .int .i64 h, .int .i64 o] W fun e w' => e = .returned (.tuple #[.int .i64 a, .int .i64 er]) ∧ Below W.heap.size W w')) (C2 : Hid (∀ W, Calls Tryd.prog 25 #[.agg #[.int .i64 O, .int .i64 b, .int .i64 r], .int .i64 v, .int .i64 h, .int .i64 o] W fun e w' => e = .returned (.tuple #[.int .i64 a, .int .i64 er]) ∧ Below W.heap.size W w'))
    (C3 : Hid (∀ W, Wor W → Calls Tryd.prog 26 #[.agg #[.int .i64 O, .int .i64 b, .int .i64 r], .int .i64 v, .int .i64 h, .int .i64 o] W fun e w' => e = .returned (.tuple #[.int .i64 a', .int .i64 er']) ∧ Below W.heap.size W w')) (C4 : Hid (∀ W, Calls Tryd.prog 27 #[.agg #[.int .i64 O, .int .i64 b, .int .i64 r], .int .i64 v, .int .i64 h, .int .i64 o] W fun e w' => e = .returned (.tuple #[.int .i64 a', .int .i64 er']) ∧ Below W.heap.size W w')) :
    Calls Tryd.prog 7 #[.agg #[.int .i64 O, .int .i64 b, .int .i64 r], .int .i64 v, .int .i64 h, .int .i64 o] w (KnownOk w) := by
  have hb0 := (Below.refl w.heap.size w).alloc (Nat.le_refl _) (.cells #[.int .i64 O, .int .i64 b, .int .i64 r] 23)
  have B0 := hb0
  have q0 := hw.next hb0
  have l0 : w.heap.size < (w.alloc (.cells #[.int .i64 O, .int .i64 b, .int .i64 r] 23)).heap.size := by simp
  have c0_0 : (w.alloc (.cells #[.int .i64 O, .int .i64 b, .int .i64 r] 23)).cell? ⟨w.heap.size, 0, none⟩ = some (.int .i64 O) := by go_simp
  have c1_0 : (w.alloc (.cells #[.int .i64 O, .int .i64 b, .int .i64 r] 23)).cell? ⟨w.heap.size, 1, none⟩ = some (.int .i64 b) := by go_simp
  have c2_0 : (w.alloc (.cells #[.int .i64 O, .int .i64 b, .int .i64 r] 23)).cell? ⟨w.heap.size, 2, none⟩ = some (.int .i64 r) := by go_simp
  clear hb0
  go_enter Tryd.func7, Tryd.ntmps7
  go_wp2_with fail
  obtain ⟨W0, hW0⟩ : ∃ W0, W0 = w.alloc (.cells #[.int .i64 O, .int .i64 b, .int .i64 r] 23) := ⟨_, rfl⟩
  rw [← hW0] at B0 q0 l0 c0_0 c1_0 c2_0 ⊢
  clear hW0
  refine (C1.out _ q0).mono ?_
  rintro e w1 ⟨rfl, hb⟩
  have c0_1 := gcell hb l0 c0_0
  have c1_1 := gcell hb l0 c1_0
  have c2_1 := gcell hb l0 c2_0
  have sc_1 := Nat.lt_of_lt_of_le l0 hb.size
  have B1 := chain B0 hb
  have q1 := q0.next hb
  clear hb B0 q0 c0_0 c1_0 c2_0 l0
  go_wp2_with fail
  refine (C2.out _).mono ?_
  rintro e w2 ⟨rfl, hb⟩
  have c0_2 := gcell hb sc_1 c0_1
  have c1_2 := gcell hb sc_1 c1_1
  have c2_2 := gcell hb sc_1 c2_1
  have sc_2 := Nat.lt_of_lt_of_le sc_1 hb.size
  have B2 := chain B1 hb
  have q2 := q1.next hb
  clear hb B1 q1 c0_1 c1_1 c2_1 sc_1
  go_wp2_with fail
  refine (C3.out _ q2).mono ?_
  rintro e w3 ⟨rfl, hb⟩
  have c0_3 := gcell hb sc_2 c0_2
  have c1_3 := gcell hb sc_2 c1_2
  have c2_3 := gcell hb sc_2 c2_2
  have sc_3 := Nat.lt_of_lt_of_le sc_2 hb.size
  have B3 := chain B2 hb
  have q3 := q2.next hb
  clear hb B2 q2 c0_2 c1_2 c2_2 sc_2
  go_wp2_with fail
  refine (C4.out _).mono ?_
  rintro e w4 ⟨rfl, hb⟩
  have c0_4 := gcell hb sc_3 c0_3
  have c1_4 := gcell hb sc_3 c1_3
  have c2_4 := gcell hb sc_3 c2_3
  have sc_4 := Nat.lt_of_lt_of_le sc_3 hb.size
  have B4 := chain B3 hb
  have q4 := q3.next hb
  clear hb B3 q3 c0_3 c1_3 c2_3 sc_3
  go_wp2_with fail
  refine (known_any _ q4).mono ?_
  rintro e w99 ⟨rfl, hb9⟩
  go_wp2
  go_ret
  exact ⟨rfl, chain B4 hb9⟩

theorem law4 (O b r : Int) (w : World) (hw : Wor w) : Calls Tryd.prog 4 #[.agg #[.int .i64 O, .int .i64 b, .int .i64 r]] w (KnownOk w) := by
  cases hv : vB O b r with
  | false => exact law4_of O b r 0 2 0 0 0 2 w hw (fun W => decr_no O b r W hv) (fun W => refDecr_no O b r W hv) (fun W => next_bad O b r W hv) (fun W => refNext_bad O b r W hv)
  | true =>
    obtain ⟨v1, v2, v3, v4, v5, v6⟩ := (vB_iff O b r).1 hv
    by_cases hb : b = 0
    · exact law4_of O b r (fall O b) 0 0 0 0 8 w hw (fun W => decr_yes O b r W hv) (fun W => refDecr_yes O b r W hv) (fun W => next_long O b r W hv hb) (fun W => refNext_long O b r W hv (by simp [hb]))
    · by_cases hr : r = 1000000
      · exact law4_of O b r (fall O b) 0 0 0 0 7 w hw (fun W => decr_yes O b r W hv) (fun W => refDecr_yes O b r W hv) (fun W => next_full O b r W hv (by omega) hr) (fun W => refNext_full O b r W hv (by simpa using hb) (by simp [hr]))
      · exact law4_of O b r (fall O b) 0 O (foll O b) (r + 1) 0 w hw (fun W => decr_yes O b r W hv) (fun W => refDecr_yes O b r W hv) (fun W => next_yes O b r W hv (by omega) (by omega)) (fun W => refNext_yes O b r W hv (by simpa using hb) (by simpa using hr))

theorem law5 (O b r k : Int) (w : World) (hw : Wor w) : Calls Tryd.prog 5 #[.agg #[.int .i64 O, .int .i64 b, .int .i64 r], .int .i64 k] w (KnownOk w) := by
  cases hv : vB O b r with
  | false => exact law5_of O b r k 0 2 0 0 0 2 w hw (fun W => left_no O b r W hv) (fun W => refLeft_no O b r W hv) (fun W => after_bad O b r k W hv) (fun W => refAfter_bad O b r k W hv)
  | true =>
    obtain ⟨v1, v2, v3, v4, v5, v6⟩ := (vB_iff O b r).1 hv
    have L1 := fun W => left_yes O b r W hv
    have L2 := fun W => refLeft_yes O b r W hv
    by_cases k0 : k < 0
    · exact law5_of O b r k _ 0 0 0 0 2 w hw L1 L2 (fun W => after_neg O b r k W hv k0) (fun W => refAfter_neg O b r k W hv k0)
    · by_cases k1 : ((bases O b).length : Int) < k
      · exact law5_of O b r k _ 0 0 0 0 8 w hw L1 L2 (fun W => after_long O b r k W hv (by omega) k1) (fun W => refAfter_long O b r k W hv (by omega) k1)
      · by_cases k2 : 1000000 < r + k
        · exact law5_of O b r k _ 0 0 0 0 7 w hw L1 L2 (fun W => after_full O b r k W hv (by omega) (by omega) k2) (fun W => refAfter_full O b r k W hv (by omega) (by omega) k2)
        · by_cases k3 : k = 0
          · subst k3
            exact law5_of O b r 0 _ 0 O b r 0 w hw L1 L2 (fun W => by have := after_yes O b r 0 W hv (by omega) (by omega) (by omega); simpa [after] using this) (fun W => refAfter_zero O b r W hv)
          · exact law5_of O b r k _ 0 O (after O b k.toNat) (r + k) 0 w hw L1 L2 (fun W => after_yes O b r k W hv (by omega) (by omega) (by omega)) (fun W => refAfter_yes O b r k W hv (by omega) (by omega) (by omega))

theorem law7 (O b r v h o : Int) (w : World) (hw : Wor w) : Calls Tryd.prog 7 #[.agg #[.int .i64 O, .int .i64 b, .int .i64 r], .int .i64 v, .int .i64 h, .int .i64 o] w (KnownOk w) := by
  cases hv : vB O b r with
  | false => exact law7_of O b r v h o 0 2 0 2 w hw (fun W _ => price_bad O b r v h o W hv) (fun W => refPrice_bad O b r v h o W hv) (fun W _ => loss_bad O b r v h o W hv) (fun W => refLoss_bad O b r v h o W hv)
  | true =>
    rcases off_cases v b h o with k | k
    · exact law7_of O b r v h o _ 0 _ 0 w hw (fun W q => price_yes O b r v h o W q hv k) (fun W => refPrice_yes O b r v h o W hv k) (fun W q => loss_yes O b r v h o W q hv k) (fun W => refLoss_yes O b r v h o W hv k)
    · exact law7_of O b r v h o 0 2 0 2 w hw (fun W _ => price_no O b r v h o W hv k) (fun W => refPrice_no O b r v h o W hv k) (fun W _ => loss_no O b r v h o W hv k) (fun W => refLoss_no O b r v h o W hv k)

set_option maxHeartbeats 400000 in
theorem law9_lo (O : Int) (w : World) (hw : Wor w) (hk : O < 1) : Calls Tryd.prog 9 #[.int .i64 O] w (KnownOk w) := by
  have hv : vB O O 0 = false := by simp only [vB, decide_eq_false_iff_not]; omega
  go_enter Tryd.func9, Tryd.ntmps9
  go_wp2_with fail
  refine (new_no O _ hv).mono ?_
  rintro e w1 ⟨rfl, hb1⟩
  have hal := (Below.refl w1.heap.size w1).alloc (Nat.le_refl _) (.cells #[.int .i64 0, .int .i64 0, .int .i64 0] 23)
  have hb2 := chain hb1 hal
  have q2 := hw.next hb2
  go_wp2_with fail
  refine (known_any _ q2).mono ?_
  rintro e w3 ⟨rfl, hb4⟩
  go_wp2
  go_ret
  exact ⟨rfl, chain hb2 hb4⟩

set_option maxHeartbeats 400000 in
theorem law9_hi (O : Int) (w : World) (hw : Wor w) (hk0 : 1 ≤ O) (hk : 1000000000 < O) : Calls Tryd.prog 9 #[.int .i64 O] w (KnownOk w) := by
  have hv : vB O O 0 = false := by simp only [vB, decide_eq_false_iff_not]; omega
  go_enter Tryd.func9, Tryd.ntmps9
  go_wp2_with fail
  refine (new_no O _ hv).mono ?_
  rintro e w1 ⟨rfl, hb1⟩
  have hal := (Below.refl w1.heap.size w1).alloc (Nat.le_refl _) (.cells #[.int .i64 0, .int .i64 0, .int .i64 0] 23)
  have hb2 := chain hb1 hal
  have q2 := hw.next hb2
  go_wp2_with fail
  refine (known_any _ q2).mono ?_
  rintro e w3 ⟨rfl, hb4⟩
  go_wp2
  go_ret
  exact ⟨rfl, chain hb2 hb4⟩

set_option maxHeartbeats 400000 in
theorem law9_yes (O : Int) (w : World) (hw : Wor w) (hk0 : 1 ≤ O) (hk : O ≤ 1000000000) : Calls Tryd.prog 9 #[.int .i64 O] w (KnownOk w) := by
  have hv : vB O O 0 = true := by simp only [vB, decide_eq_true_eq]; omega
  go_enter Tryd.func9, Tryd.ntmps9
  go_wp2_with fail
  refine (new_yes O _ hv).mono ?_
  rintro e w1 ⟨rfl, hb1⟩
  have hal := (Below.refl w1.heap.size w1).alloc (Nat.le_refl _) (.cells #[.int .i64 O, .int .i64 O, .int .i64 0] 23)
  have hb2 := chain hb1 hal
  have q2 := hw.next hb2
  go_wp2_with fail
  refine (valid_any O O 0 _).mono ?_
  rintro e w2 ⟨rfl, hb3⟩
  go_wp2_with fail
  refine (known_any _ (q2.next hb3)).mono ?_
  rintro e w3 ⟨rfl, hb4⟩
  go_wp2
  go_ret
  exact ⟨rfl, chain (chain hb2 hb3) hb4⟩

theorem law9 (O : Int) (w : World) (hw : Wor w) : Calls Tryd.prog 9 #[.int .i64 O] w (KnownOk w) := by
  by_cases h1 : O < 1
  · exact law9_lo O w hw h1
  · by_cases h2 : 1000000000 < O
    · exact law9_hi O w hw (by omega) h2
    · exact law9_yes O w hw (by omega) (by omega)
end Go.Proofs.YtfgobighpkemkaaDoor
