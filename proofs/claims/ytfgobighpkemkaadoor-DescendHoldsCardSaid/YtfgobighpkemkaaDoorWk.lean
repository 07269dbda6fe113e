/- Contract of bandplanlaw29.known: it returns true. -/
import Derived.Test.YtfgobighpkemkaaDoorW9
namespace Go.Proofs.YtfgobighpkemkaaDoor
open Go.RowKit

def KnownOk (w : World) (e : Ending) (w' : World) : Prop := e = .returned (.bool true) ∧ Below w.heap.size w w'
theorem kn_offer : offOk 1000000 1000 3 0 := ⟨⟨by omega, by omega, by omega, by omega⟩, ⟨by omega, by omega, by omega, by omega⟩⟩
theorem kn_fall1 : fall 1000 1000 = 50 := by decide
theorem kn_fall2 : fall 1000 100 = 10 := by decide
theorem kn_fall3 : fall 1000 7 = 7 := by decide
theorem kn_foll : foll 1000 1000 = 950 := by decide
theorem kn_left1 : (bases 3 3).length = 3 := by decide
theorem kn_left2 : (bases 1000 25).length = 3 := by decide
theorem kn_loss : priceI 1000000 1000 3 0 - priceI 1000000 950 3 0 = 50 := by decide

set_option maxHeartbeats 1000000 in
set_option maxRecDepth 100000 in
theorem known_any (w : World) (hw : Wor w) : Calls Tryd.prog 12 #[] w (KnownOk w) := by
  have C1 : Hid (∀ W, Calls Tryd.prog 13 #[.agg #[.int .i64 1000, .int .i64 1000, .int .i64 0]] W fun e w' => e = .returned (.tuple #[.int .i64 50, .int .i64 0]) ∧ Below W.heap.size W w') := fun W => by rw [← kn_fall1]; exact decr_yes 1000 1000 0 W (by decide)
  have C2 : Hid (∀ W, Calls Tryd.prog 13 #[.agg #[.int .i64 1000, .int .i64 100, .int .i64 0]] W fun e w' => e = .returned (.tuple #[.int .i64 10, .int .i64 0]) ∧ Below W.heap.size W w') := fun W => by rw [← kn_fall2]; exact decr_yes 1000 100 0 W (by decide)
  have C3 : Hid (∀ W, Calls Tryd.prog 13 #[.agg #[.int .i64 1000, .int .i64 7, .int .i64 0]] W fun e w' => e = .returned (.tuple #[.int .i64 7, .int .i64 0]) ∧ Below W.heap.size W w') := fun W => by
    have := decr_yes 1000 7 0 W (by decide)
    rw [kn_fall3] at this; exact this
  have C4 : Hid (∀ W, Calls Tryd.prog 15 #[.agg #[.int .i64 1000, .int .i64 1000, .int .i64 0]] W (ClkR W 1000 950 1 0)) := fun W => by
    have := next_yes 1000 1000 0 W (by decide) (by omega) (by omega)
    rw [kn_foll] at this; exact this
  have C5 : Hid (∀ W, Calls Tryd.prog 17 #[.agg #[.int .i64 3, .int .i64 3, .int .i64 0]] W fun e w' => e = .returned (.tuple #[.int .i64 3, .int .i64 0]) ∧ Below W.heap.size W w') := fun W => by
    have := left_yes 3 3 0 W (by decide)
    rw [kn_left1] at this; exact this
  have C6 : Hid (∀ W, Calls Tryd.prog 17 #[.agg #[.int .i64 1000, .int .i64 25, .int .i64 0]] W fun e w' => e = .returned (.tuple #[.int .i64 3, .int .i64 0]) ∧ Below W.heap.size W w') := fun W => by
    have := left_yes 1000 25 0 W (by decide)
    rw [kn_left2] at this; exact this
  have C7 : Hid (∀ W, Wor W → Calls Tryd.prog 26 #[.agg #[.int .i64 1000, .int .i64 1000, .int .i64 0], .int .i64 1000000, .int .i64 3, .int .i64 0] W fun e w' => e = .returned (.tuple #[.int .i64 50, .int .i64 0]) ∧ Below W.heap.size W w') := fun W q => by
    have := loss_yes 1000 1000 0 1000000 3 0 W q (by decide) kn_offer
    rw [kn_foll, kn_loss] at this; exact this
  have B0 := Below.refl w.heap.size w
  go_enter Tryd.func12, Tryd.ntmps12
  go_wp2_with fail
  refine (C1.out _).mono ?_
  rintro e w1 ⟨rfl, hb⟩
  have B1 := chain B0 hb
  clear hb B0
  go_wp2_with fail
  refine (C2.out _).mono ?_
  rintro e w2 ⟨rfl, hb⟩
  have B2 := chain B1 hb
  clear hb B1
  go_wp2_with fail
  refine (C3.out _).mono ?_
  rintro e w3 ⟨rfl, hb⟩
  have B3 := chain B2 hb
  clear hb B2
  go_wp2_with fail
  refine (C4.out _).mono ?_
  rintro e w4 ⟨rfl, hb⟩
  have hal := (Below.refl w4.heap.size w4).alloc (Nat.le_refl _) (.cells #[.int .i64 1000, .int .i64 950, .int .i64 1] 23)
  have B4 := chain (chain B3 hb) hal
  have d0 : (w4.alloc (.cells #[.int .i64 1000, .int .i64 950, .int .i64 1] 23)).cell? ⟨w4.heap.size, 0, none⟩ = some (.int .i64 1000) := by go_simp
  have d1 : (w4.alloc (.cells #[.int .i64 1000, .int .i64 950, .int .i64 1] 23)).cell? ⟨w4.heap.size, 1, none⟩ = some (.int .i64 950) := by go_simp
  have d2 : (w4.alloc (.cells #[.int .i64 1000, .int .i64 950, .int .i64 1] 23)).cell? ⟨w4.heap.size, 2, none⟩ = some (.int .i64 1) := by go_simp
  have l4 : w4.heap.size < (w4.alloc (.cells #[.int .i64 1000, .int .i64 950, .int .i64 1] 23)).heap.size := by simp
  clear hb hal B3
  go_wp2_with fail
  refine (C5.out _).mono ?_
  rintro e w5 ⟨rfl, hb⟩
  have B5 := chain B4 hb
  have d0 := gcell hb l4 d0
  have d1 := gcell hb l4 d1
  have d2 := gcell hb l4 d2
  have l5 := Nat.lt_of_lt_of_le l4 hb.size
  clear hb B4
  go_wp2_with fail
  refine (C6.out _).mono ?_
  rintro e w6 ⟨rfl, hb⟩
  have B6 := chain B5 hb
  have d0 := gcell hb l5 d0
  have d1 := gcell hb l5 d1
  have d2 := gcell hb l5 d2
  have l6 := Nat.lt_of_lt_of_le l5 hb.size
  clear hb B5
  go_wp2_with fail
  refine (C7.out _ (hw.next B6)).mono ?_
  rintro e w7 ⟨rfl, hb⟩
  have B7 := chain B6 hb
  have d0 := gcell hb l6 d0
  have d1 := gcell hb l6 d1
  have d2 := gcell hb l6 d2
  have l7 := Nat.lt_of_lt_of_le l6 hb.size
  clear hb B6
  go_wp2
  go_ret
  exact ⟨rfl, B7⟩
end Go.Proofs.YtfgobighpkemkaaDoor
