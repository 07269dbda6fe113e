/- The walk of bandplanlaw12.AntennaTurns: it returns true for any antenna and any five ints, in a world whose variable quadrants is laid. -/
import Derived.Test.YthaodhipebadcaaDoorL2
import Derived.Test.YthaodhipebadcaaDoorM6
namespace Go.Proofs.YthaodhipebadcaaDoor
open Go.RowKit

theorem hcell {B : Nat} {W w' : World} {b o : Nat} {v : Value} (G : Below B W w') (hb : b < B) (hc : W.cell? ⟨b, o, none⟩ = some v) : w'.cell? ⟨b, o, none⟩ = some v := (G.cell (p := ⟨b, o, none⟩) hb).trans hc

set_option maxHeartbeats 400000 in
set_option maxRecDepth 100000 in
theorem law8_bad (h : Int) (A : Option Addr) (n c : Nat) (xs : List Int) (dx dy factor one two : Int) (w : World) (hq : Quad w) (hI : Ints w w.heap.size A n xs) (hn : n ≤ 9223372036854775807) (hv : validB h xs = false) :
    Calls Tryd.prog 8 #[.agg #[.int .i64 h, .slice A n c], .int .i64 dx, .int .i64 dy, .int .i64 factor, .int .i64 one, .int .i64 two] w (KnownOk w) := by
  have hb0 := (Below.refl w.heap.size w).alloc (Nat.le_refl _) (.cells #[.int .i64 h, .slice A n c] 31)
  have HI := Lib.hid (hI.next hb0)
  have hq1 := hq.next hb0
  clear hI hq
  go_enter Tryd.func8, Tryd.ntmps8
  go_wp2_with fail
  refine (refValid_any h A n c xs _ HI.out hn).mono ?_
  rintro e w1 ⟨rfl, hb1⟩
  have hq2 := hq1.next hb1
  have B1 := chain hb0 hb1
  clear hb1
  go_wp2_with fail
  refine (known_any _ hq2).mono ?_
  rintro e w9 ⟨rfl, hb9⟩
  go_wp2
  go_ret
  exact ⟨rfl, chain B1 hb9⟩

set_option maxHeartbeats 400000 in
set_option maxRecDepth 100000 in
theorem law8_o0 (h : Int) (A : Option Addr) (n c : Nat) (xs : List Int) (dx dy factor one two : Int) (w : World) (hq : Quad w) (hI : Ints w w.heap.size A n xs) (hn : n ≤ 9223372036854775807) (hv : validB h xs = true) (k0 : dx < -1000) :
    Calls Tryd.prog 8 #[.agg #[.int .i64 h, .slice A n c], .int .i64 dx, .int .i64 dy, .int .i64 factor, .int .i64 one, .int .i64 two] w (KnownOk w) := by
  have hb0 := (Below.refl w.heap.size w).alloc (Nat.le_refl _) (.cells #[.int .i64 h, .slice A n c] 31)
  have HI := Lib.hid (hI.next hb0)
  have hq1 := hq.next hb0
  clear hI hq
  go_enter Tryd.func8, Tryd.ntmps8
  go_wp2_with fail
  refine (refValid_any h A n c xs _ HI.out hn).mono ?_
  rintro e w1 ⟨rfl, hb1⟩
  have hq2 := hq1.next hb1
  have B1 := chain hb0 hb1
  clear hb1
  go_wp2_with fail
  refine (known_any _ hq2).mono ?_
  rintro e w9 ⟨rfl, hb9⟩
  go_wp2
  go_ret
  exact ⟨rfl, chain B1 hb9⟩

set_option maxHeartbeats 400000 in
set_option maxRecDepth 100000 in
theorem law8_o1 (h : Int) (A : Option Addr) (n c : Nat) (xs : List Int) (dx dy factor one two : Int) (w : World) (hq : Quad w) (hI : Ints w w.heap.size A n xs) (hn : n ≤ 9223372036854775807) (hv : validB h xs = true) (k0 : -1000 ≤ dx) (k1 : 1000 < dx) :
    Calls Tryd.prog 8 #[.agg #[.int .i64 h, .slice A n c], .int .i64 dx, .int .i64 dy, .int .i64 factor, .int .i64 one, .int .i64 two] w (KnownOk w) := by
  have hb0 := (Below.refl w.heap.size w).alloc (Nat.le_refl _) (.cells #[.int .i64 h, .slice A n c] 31)
  have HI := Lib.hid (hI.next hb0)
  have hq1 := hq.next hb0
  clear hI hq
  go_enter Tryd.func8, Tryd.ntmps8
  go_wp2_with fail
  refine (refValid_any h A n c xs _ HI.out hn).mono ?_
  rintro e w1 ⟨rfl, hb1⟩
  have hq2 := hq1.next hb1
  have B1 := chain hb0 hb1
  clear hb1
  go_wp2_with fail
  refine (known_any _ hq2).mono ?_
  rintro e w9 ⟨rfl, hb9⟩
  go_wp2
  go_ret
  exact ⟨rfl, chain B1 hb9⟩

set_option maxHeartbeats 400000 in
set_option maxRecDepth 100000 in
theorem law8_o2 (h : Int) (A : Option Addr) (n c : Nat) (xs : List Int) (dx dy factor one two : Int) (w : World) (hq : Quad w) (hI : Ints w w.heap.size A n xs) (hn : n ≤ 9223372036854775807) (hv : validB h xs = true) (k0 : -1000 ≤ dx) (k1 : dx ≤ 1000) (k2 : dy < -1000) :
    Calls Tryd.prog 8 #[.agg #[.int .i64 h, .slice A n c], .int .i64 dx, .int .i64 dy, .int .i64 factor, .int .i64 one, .int .i64 two] w (KnownOk w) := by
  have hb0 := (Below.refl w.heap.size w).alloc (Nat.le_refl _) (.cells #[.int .i64 h, .slice A n c] 31)
  have HI := Lib.hid (hI.next hb0)
  have hq1 := hq.next hb0
  clear hI hq
  go_enter Tryd.func8, Tryd.ntmps8
  go_wp2_with fail
  refine (refValid_any h A n c xs _ HI.out hn).mono ?_
  rintro e w1 ⟨rfl, hb1⟩
  have hq2 := hq1.next hb1
  have B1 := chain hb0 hb1
  clear hb1
  go_wp2_with fail
  refine (known_any _ hq2).mono ?_
  rintro e w9 ⟨rfl, hb9⟩
  go_wp2
  go_ret
  exact ⟨rfl, chain B1 hb9⟩

set_option maxHeartbeats 400000 in
set_option maxRecDepth 100000 in
theorem law8_o3 (h : Int) (A : Option Addr) (n c : Nat) (xs : List Int) (dx dy factor one two : Int) (w : World) (hq : Quad w) (hI : Ints w w.heap.size A n xs) (hn : n ≤ 9223372036854775807) (hv : validB h xs = true) (k0 : -1000 ≤ dx) (k1 : dx ≤ 1000) (k2 : -1000 ≤ dy) (k3 : 1000 < dy) :
    Calls Tryd.prog 8 #[.agg #[.int .i64 h, .slice A n c], .int .i64 dx, .int .i64 dy, .int .i64 factor, .int .i64 one, .int .i64 two] w (KnownOk w) := by
  have hb0 := (Below.refl w.heap.size w).alloc (Nat.le_refl _) (.cells #[.int .i64 h, .slice A n c] 31)
  have HI := Lib.hid (hI.next hb0)
  have hq1 := hq.next hb0
  clear hI hq
  go_enter Tryd.func8, Tryd.ntmps8
  go_wp2_with fail
  refine (refValid_any h A n c xs _ HI.out hn).mono ?_
  rintro e w1 ⟨rfl, hb1⟩
  have hq2 := hq1.next hb1
  have B1 := chain hb0 hb1
  clear hb1
  go_wp2_with fail
  refine (known_any _ hq2).mono ?_
  rintro e w9 ⟨rfl, hb9⟩
  go_wp2
  go_ret
  exact ⟨rfl, chain B1 hb9⟩

set_option maxHeartbeats 400000 in
set_option maxRecDepth 100000 in
theorem law8_o4 (h : Int) (A : Option Addr) (n c : Nat) (xs : List Int) (dx dy factor one two : Int) (w : World) (hq : Quad w) (hI : Ints w w.heap.size A n xs) (hn : n ≤ 9223372036854775807) (hv : validB h xs = true) (k0 : -1000 ≤ dx) (k1 : dx ≤ 1000) (k2 : -1000 ≤ dy) (k3 : dy ≤ 1000) (hz1 : (dx == 0) = true) (hz2 : (dy == 0) = true) :
    Calls Tryd.prog 8 #[.agg #[.int .i64 h, .slice A n c], .int .i64 dx, .int .i64 dy, .int .i64 factor, .int .i64 one, .int .i64 two] w (KnownOk w) := by
  have hb0 := (Below.refl w.heap.size w).alloc (Nat.le_refl _) (.cells #[.int .i64 h, .slice A n c] 31)
  have HI := Lib.hid (hI.next hb0)
  have hq1 := hq.next hb0
  clear hI hq
  go_enter Tryd.func8, Tryd.ntmps8
  go_wp2_with fail
  refine (refValid_any h A n c xs _ HI.out hn).mono ?_
  rintro e w1 ⟨rfl, hb1⟩
  have hq2 := hq1.next hb1
  have B1 := chain hb0 hb1
  clear hb1
  go_wp2_with fail
  refine (known_any _ hq2).mono ?_
  rintro e w9 ⟨rfl, hb9⟩
  go_wp2
  go_ret
  exact ⟨rfl, chain B1 hb9⟩

set_option maxHeartbeats 400000 in
set_option maxRecDepth 100000 in
theorem law8_o5 (h : Int) (A : Option Addr) (n c : Nat) (xs : List Int) (dx dy factor one two : Int) (w : World) (hq : Quad w) (hI : Ints w w.heap.size A n xs) (hn : n ≤ 9223372036854775807) (hv : validB h xs = true) (k0 : -1000 ≤ dx) (k1 : dx ≤ 1000) (k2 : -1000 ≤ dy) (k3 : dy ≤ 1000) (hz : (dx == 0) = false ∨ ((dx == 0) = true ∧ (dy == 0) = false)) (k5 : factor < 1) :
    Calls Tryd.prog 8 #[.agg #[.int .i64 h, .slice A n c], .int .i64 dx, .int .i64 dy, .int .i64 factor, .int .i64 one, .int .i64 two] w (KnownOk w) := by
  have hb0 := (Below.refl w.heap.size w).alloc (Nat.le_refl _) (.cells #[.int .i64 h, .slice A n c] 31)
  have HI := Lib.hid (hI.next hb0)
  have hq1 := hq.next hb0
  clear hI hq
  rcases hz with hz | ⟨hz, hz2⟩
  all_goals
    go_enter Tryd.func8, Tryd.ntmps8
    go_wp2_with fail
    refine (refValid_any h A n c xs _ HI.out hn).mono ?_
    rintro e w1 ⟨rfl, hb1⟩
    have hq2 := hq1.next hb1
    have B1 := chain hb0 hb1
    clear hb1
    go_wp2_with fail
    refine (known_any _ hq2).mono ?_
    rintro e w9 ⟨rfl, hb9⟩
    go_wp2
    go_ret
    exact ⟨rfl, chain B1 hb9⟩

set_option maxHeartbeats 400000 in
set_option maxRecDepth 100000 in
theorem law8_o6 (h : Int) (A : Option Addr) (n c : Nat) (xs : List Int) (dx dy factor one two : Int) (w : World) (hq : Quad w) (hI : Ints w w.heap.size A n xs) (hn : n ≤ 9223372036854775807) (hv : validB h xs = true) (k0 : -1000 ≤ dx) (k1 : dx ≤ 1000) (k2 : -1000 ≤ dy) (k3 : dy ≤ 1000) (hz : (dx == 0) = false ∨ ((dx == 0) = true ∧ (dy == 0) = false)) (k5 : 1 ≤ factor) (k6 : 1000 < factor) :
    Calls Tryd.prog 8 #[.agg #[.int .i64 h, .slice A n c], .int .i64 dx, .int .i64 dy, .int .i64 factor, .int .i64 one, .int .i64 two] w (KnownOk w) := by
  have hb0 := (Below.refl w.heap.size w).alloc (Nat.le_refl _) (.cells #[.int .i64 h, .slice A n c] 31)
  have HI := Lib.hid (hI.next hb0)
  have hq1 := hq.next hb0
  clear hI hq
  rcases hz with hz | ⟨hz, hz2⟩
  all_goals
    go_enter Tryd.func8, Tryd.ntmps8
    go_wp2_with fail
    refine (refValid_any h A n c xs _ HI.out hn).mono ?_
    rintro e w1 ⟨rfl, hb1⟩
    have hq2 := hq1.next hb1
    have B1 := chain hb0 hb1
    clear hb1
    go_wp2_with fail
    refine (known_any _ hq2).mono ?_
    rintro e w9 ⟨rfl, hb9⟩
    go_wp2
    go_ret
    exact ⟨rfl, chain B1 hb9⟩

set_option maxHeartbeats 400000 in
set_option maxRecDepth 100000 in
theorem law8_o7 (h : Int) (A : Option Addr) (n c : Nat) (xs : List Int) (dx dy factor one two : Int) (w : World) (hq : Quad w) (hI : Ints w w.heap.size A n xs) (hn : n ≤ 9223372036854775807) (hv : validB h xs = true) (k0 : -1000 ≤ dx) (k1 : dx ≤ 1000) (k2 : -1000 ≤ dy) (k3 : dy ≤ 1000) (hz : (dx == 0) = false ∨ ((dx == 0) = true ∧ (dy == 0) = false)) (k5 : 1 ≤ factor) (k6 : factor ≤ 1000) (k7 : one < -100) :
    Calls Tryd.prog 8 #[.agg #[.int .i64 h, .slice A n c], .int .i64 dx, .int .i64 dy, .int .i64 factor, .int .i64 one, .int .i64 two] w (KnownOk w) := by
  have hb0 := (Below.refl w.heap.size w).alloc (Nat.le_refl _) (.cells #[.int .i64 h, .slice A n c] 31)
  have HI := Lib.hid (hI.next hb0)
  have hq1 := hq.next hb0
  clear hI hq
  rcases hz with hz | ⟨hz, hz2⟩
  all_goals
    go_enter Tryd.func8, Tryd.ntmps8
    go_wp2_with fail
    refine (refValid_any h A n c xs _ HI.out hn).mono ?_
    rintro e w1 ⟨rfl, hb1⟩
    have hq2 := hq1.next hb1
    have B1 := chain hb0 hb1
    clear hb1
    go_wp2_with fail
    refine (known_any _ hq2).mono ?_
    rintro e w9 ⟨rfl, hb9⟩
    go_wp2
    go_ret
    exact ⟨rfl, chain B1 hb9⟩

set_option maxHeartbeats 400000 in
set_option maxRecDepth 100000 in
theorem law8_o8 (h : Int) (A : Option Addr) (n c : Nat) (xs : List Int) (dx dy factor one two : Int) (w : World) (hq : Quad w) (hI : Ints w w.heap.size A n xs) (hn : n ≤ 9223372036854775807) (hv : validB h xs = true) (k0 : -1000 ≤ dx) (k1 : dx ≤ 1000) (k2 : -1000 ≤ dy) (k3 : dy ≤ 1000) (hz : (dx == 0) = false ∨ ((dx == 0) = true ∧ (dy == 0) = false)) (k5 : 1 ≤ factor) (k6 : factor ≤ 1000) (k7 : -100 ≤ one) (k8 : 100 < one) :
    Calls Tryd.prog 8 #[.agg #[.int .i64 h, .slice A n c], .int .i64 dx, .int .i64 dy, .int .i64 factor, .int .i64 one, .int .i64 two] w (KnownOk w) := by
  have hb0 := (Below.refl w.heap.size w).alloc (Nat.le_refl _) (.cells #[.int .i64 h, .slice A n c] 31)
  have HI := Lib.hid (hI.next hb0)
  have hq1 := hq.next hb0
  clear hI hq
  rcases hz with hz | ⟨hz, hz2⟩
  all_goals
    go_enter Tryd.func8, Tryd.ntmps8
    go_wp2_with fail
    refine (refValid_any h A n c xs _ HI.out hn).mono ?_
    rintro e w1 ⟨rfl, hb1⟩
    have hq2 := hq1.next hb1
    have B1 := chain hb0 hb1
    clear hb1
    go_wp2_with fail
    refine (known_any _ hq2).mono ?_
    rintro e w9 ⟨rfl, hb9⟩
    go_wp2
    go_ret
    exact ⟨rfl, chain B1 hb9⟩

set_option maxHeartbeats 400000 in
set_option maxRecDepth 100000 in
theorem law8_o9 (h : Int) (A : Option Addr) (n c : Nat) (xs : List Int) (dx dy factor one two : Int) (w : World) (hq : Quad w) (hI : Ints w w.heap.size A n xs) (hn : n ≤ 9223372036854775807) (hv : validB h xs = true) (k0 : -1000 ≤ dx) (k1 : dx ≤ 1000) (k2 : -1000 ≤ dy) (k3 : dy ≤ 1000) (hz : (dx == 0) = false ∨ ((dx == 0) = true ∧ (dy == 0) = false)) (k5 : 1 ≤ factor) (k6 : factor ≤ 1000) (k7 : -100 ≤ one) (k8 : one ≤ 100) (k9 : two < -100) :
    Calls Tryd.prog 8 #[.agg #[.int .i64 h, .slice A n c], .int .i64 dx, .int .i64 dy, .int .i64 factor, .int .i64 one, .int .i64 two] w (KnownOk w) := by
  have hb0 := (Below.refl w.heap.size w).alloc (Nat.le_refl _) (.cells #[.int .i64 h, .slice A n c] 31)
  have HI := Lib.hid (hI.next hb0)
  have hq1 := hq.next hb0
  clear hI hq
  rcases hz with hz | ⟨hz, hz2⟩
  all_goals
    go_enter Tryd.func8, Tryd.ntmps8
    go_wp2_with fail
    refine (refValid_any h A n c xs _ HI.out hn).mono ?_
    rintro e w1 ⟨rfl, hb1⟩
    have hq2 := hq1.next hb1
    have B1 := chain hb0 hb1
    clear hb1
    go_wp2_with fail
    refine (known_any _ hq2).mono ?_
    rintro e w9 ⟨rfl, hb9⟩
    go_wp2
    go_ret
    exact ⟨rfl, chain B1 hb9⟩

set_option maxHeartbeats 400000 in
set_option maxRecDepth 100000 in
theorem law8_o10 (h : Int) (A : Option Addr) (n c : Nat) (xs : List Int) (dx dy factor one two : Int) (w : World) (hq : Quad w) (hI : Ints w w.heap.size A n xs) (hn : n ≤ 9223372036854775807) (hv : validB h xs = true) (k0 : -1000 ≤ dx) (k1 : dx ≤ 1000) (k2 : -1000 ≤ dy) (k3 : dy ≤ 1000) (hz : (dx == 0) = false ∨ ((dx == 0) = true ∧ (dy == 0) = false)) (k5 : 1 ≤ factor) (k6 : factor ≤ 1000) (k7 : -100 ≤ one) (k8 : one ≤ 100) (k9 : -100 ≤ two) (k10 : 100 < two) :
    Calls Tryd.prog 8 #[.agg #[.int .i64 h, .slice A n c], .int .i64 dx, .int .i64 dy, .int .i64 factor, .int .i64 one, .int .i64 two] w (KnownOk w) := by
  have hb0 := (Below.refl w.heap.size w).alloc (Nat.le_refl _) (.cells #[.int .i64 h, .slice A n c] 31)
  have HI := Lib.hid (hI.next hb0)
  have hq1 := hq.next hb0
  clear hI hq
  rcases hz with hz | ⟨hz, hz2⟩
  all_goals
    go_enter Tryd.func8, Tryd.ntmps8
    go_wp2_with fail
    refine (refValid_any h A n c xs _ HI.out hn).mono ?_
    rintro e w1 ⟨rfl, hb1⟩
    have hq2 := hq1.next hb1
    have B1 := chain hb0 hb1
    clear hb1
    go_wp2_with fail
    refine (known_any _ hq2).mono ?_
    rintro e w9 ⟨rfl, hb9⟩
    go_wp2
    go_ret
    exact ⟨rfl, chain B1 hb9⟩

set_option maxHeartbeats 2000000 in
set_option maxRecDepth 100000 in
theorem law8_yes (h : Int) (A : Option Addr) (n c : Nat) (xs : List Int) (dx dy factor one two : Int) (w : World) (hq : Quad w) (hI : Ints w w.heap.size A n xs) (hn : n ≤ 9223372036854775807) (hv : validB h xs = true) (k0 : -1000 ≤ dx) (k1 : dx ≤ 1000) (k2 : -1000 ≤ dy) (k3 : dy ≤ 1000) (hz : (dx == 0) = false ∨ ((dx == 0) = true ∧ (dy == 0) = false)) (k5 : 1 ≤ factor) (k6 : factor ≤ 1000) (k7 : -100 ≤ one) (k8 : one ≤ 100) (k9 : -100 ≤ two) (k10 : two ≤ 100) (hnz : ¬ (dx = 0 ∧ dy = 0)) :
    Calls Tryd.prog 8 #[.agg #[.int .i64 h, .slice A n c], .int .i64 dx, .int .i64 dy, .int .i64 factor, .int .i64 one, .int .i64 two] w (KnownOk w) := by
  have hb0 := (Below.refl w.heap.size w).alloc (Nat.le_refl _) (.cells #[.int .i64 h, .slice A n c] 31)
  have HI := Lib.hid (hI.next hb0)
  have hq1 := hq.next hb0
  have a0 : (w.alloc (.cells #[.int .i64 h, .slice A n c] 31)).cell? ⟨w.heap.size, 0, none⟩ = some (.int .i64 h) := by go_simp
  have a1 : (w.alloc (.cells #[.int .i64 h, .slice A n c] 31)).cell? ⟨w.heap.size, 1, none⟩ = some (.slice A n c) := by go_simp
  have l0 : w.heap.size < (w.alloc (.cells #[.int .i64 h, .slice A n c] 31)).heap.size := by simp
  have hL := ((validB_iff h xs).1 hv).2.2.1
  have f1 : farB dx = false := by simp [farB]; omega
  have f2 : farB dy = false := by simp [farB]; omega
  have f3 : farB (-dy) = false := by simp [farB]; omega
  have sb1 := scale_bound k0 k1 k5 k6
  have sb2 := scale_bound k2 k3 k5 k6
  have f4 : farB (dx * factor) = false := by simp [farB]; omega
  have f5 : farB (dy * factor) = false := by simp [farB]; omega
  have nz2 : ¬ (-dy = 0 ∧ dx = 0) := by omega
  have nz3 := scale_zero k5 hnz
  obtain ⟨D, hD⟩ : ∃ D, D = dirI dx dy := ⟨_, rfl⟩
  have hD0 : 0 ≤ D := by have := dirI_bd dx dy; omega
  have hD1 : D ≤ 15 := by have := dirI_bd dx dy; omega
  have C1 : Hid (∀ W, Quad W → Calls Tryd.prog 10 #[.int .i64 dx, .int .i64 dy] W fun e w' => e = .returned (.tuple #[.int .i64 D, .int .i64 0]) ∧ Below W.heap.size W w') := fun W q => by rw [hD]; exact dir_yes dx dy W q f1 f2 hnz
  have C2 : Hid (∀ W, Quad W → Calls Tryd.prog 10 #[.int .i64 (-dy), .int .i64 dx] W fun e w' => e = .returned (.tuple #[.int .i64 ((D + 4) % 16), .int .i64 0]) ∧ Below W.heap.size W w') := fun W q => by rw [hD, ← dir_turn dx dy hnz]; exact dir_yes (-dy) dx W q f3 f1 nz2
  have C3 : Hid (∀ W, Quad W → Calls Tryd.prog 10 #[.int .i64 (dx * factor), .int .i64 (dy * factor)] W fun e w' => e = .returned (.tuple #[.int .i64 D, .int .i64 0]) ∧ Below W.heap.size W w') := fun W q => by rw [hD, ← dir_scale dx dy k5]; exact dir_yes _ _ W q f4 f5 nz3
  obtain ⟨X, hX⟩ : ∃ X, X = xs[D.toNat]?.getD 0 := ⟨_, rfl⟩
  have C4 : Hid (∀ W, Quad W → Ints W W.heap.size A n xs → Calls Tryd.prog 14 #[.agg #[.int .i64 h, .slice A n c], .int .i64 dx, .int .i64 dy] W fun e w' => e = .returned (.tuple #[.int .i64 X, .int .i64 0]) ∧ Below W.heap.size W w') := fun W q i => by rw [hX, hD]; exact loss_yes h A n c xs dx dy W q i hn hv f1 f2 hnz
  have C5 : Hid (∀ A' c' W, Quad W → Ints W W.heap.size A' 16 (rotL 4 xs 16) → Calls Tryd.prog 14 #[.agg #[.int .i64 h, .slice A' 16 c'], .int .i64 (-dy), .int .i64 dx] W fun e w' => e = .returned (.tuple #[.int .i64 X, .int .i64 0]) ∧ Below W.heap.size W w') := fun A' c' W q i => by
    rw [hX, ← rot_loss xs D hD0 hD1, hD, ← dir_turn dx dy hnz]
    exact loss_yes h A' 16 c' (rotL 4 xs 16) (-dy) dx W q i (by omega) (rot_valid h 4 xs hv) f3 f1 nz2
  have C6 : Hid (∀ (s : Int) W, Ints W W.heap.size A n xs → Calls Tryd.prog 19 #[.agg #[.int .i64 h, .slice A n c], .int .i64 s] W (AntR2 W h (rotL s xs 16))) := fun s W i => rotate_yes h A n c xs s W i hn hv
  have C7 : Hid (∀ W, Ints W W.heap.size A n xs → Calls Tryd.prog 19 #[.agg #[.int .i64 h, .slice A n c], .int .i64 16] W (AntR2 W h xs)) := fun W i => by
    have := rotate_yes h A n c xs 16 W i hn hv
    rw [rot_16 xs hL] at this; exact this
  obtain ⟨O, hO⟩ : ∃ O, O = rotL one xs 16 := ⟨_, rfl⟩
  obtain ⟨R, hR⟩ : ∃ R, R = rotL (one + two) xs 16 := ⟨_, rfl⟩
  have C8 : Hid (∀ W, Ints W W.heap.size A n xs → Calls Tryd.prog 19 #[.agg #[.int .i64 h, .slice A n c], .int .i64 one] W (AntR2 W h O)) := fun W i => by rw [hO]; exact rotate_yes h A n c xs one W i hn hv
  have C9 : Hid (∀ A' c' W, Ints W W.heap.size A' 16 O → Calls Tryd.prog 19 #[.agg #[.int .i64 h, .slice A' 16 c'], .int .i64 two] W (AntR2 W h R)) := fun A' c' W i => by
    rw [hR, ← rot_rot]
    rw [hO] at i
    exact rotate_yes h A' 16 c' _ two W i (by omega) (rot_valid h one xs hv)
  have C10 : Hid (∀ W, Ints W W.heap.size A n xs → Calls Tryd.prog 19 #[.agg #[.int .i64 h, .slice A n c], .int .i64 (one + two)] W (AntR2 W h R)) := fun W i => by rw [hR]; exact rotate_yes h A n c xs (one + two) W i hn hv
  have C11 : Hid (∀ W, Ints W W.heap.size A n xs → Calls Tryd.prog 24 #[.agg #[.int .i64 h, .slice A n c], .agg #[.int .i64 h, .slice A n c]] W (AntR2 W h xs)) := fun W i => by
    have := envelope_yes h A n c xs h A n c xs W i i hv hv
    rw [min_self_L xs hL, Int.min_self] at this; exact this
  have LO : Hid (O.length = 16) := by rw [hO]; exact rotL_len _ _ _
  have LR : Hid (R.length = 16) := by rw [hR]; exact rotL_len _ _ _
  have LX := Lib.hid hL
  have q1 := eqAnt_self h xs
  have q2 := eqAnt_self h R
  clear hI hq hD hX hO hR hL nz2 nz3 hnz f1 f2 f3 f4 f5
  rcases hz with hz | ⟨hz, hz2⟩
  all_goals
    go_enter Tryd.func8, Tryd.ntmps8
    go_wp2_with fail
    obtain ⟨W0, hW0⟩ : ∃ W0, W0 = w.alloc (.cells #[.int .i64 h, .slice A n c] 31) := ⟨_, rfl⟩
    rw [← hW0] at hb0 HI hq1 a0 a1 l0 ⊢
    clear hW0
    refine (refValid_any h A n c xs _ HI.out hn).mono ?_
    rintro e w1 ⟨rfl, hb⟩
    have a0_1 := hcell hb l0 a0
    have a1_1 := hcell hb l0 a1
    have sa_1 := Nat.lt_of_lt_of_le l0 hb.size
    have Ia_1 := Lib.hid (HI.out.next hb)
    have q_1 := hq1.next hb
    have B_1 := chain hb0 hb
    clear hb a0 a1 l0 HI hq1 hb0
    go_wp2_with fail
    refine (C1.out _ q_1).mono ?_
    rintro e w2 ⟨rfl, hb⟩
    have a0_2 := hcell hb sa_1 a0_1
    have a1_2 := hcell hb sa_1 a1_1
    have sa_2 := Nat.lt_of_lt_of_le sa_1 hb.size
    have Ia_2 := Lib.hid (Ia_1.out.next hb)
    have q_2 := q_1.next hb
    have B_2 := chain B_1 hb
    clear hb a0_1 a1_1 sa_1 Ia_1 q_1 B_1
    go_wp2_with fail
    refine (C2.out _ q_2).mono ?_
    rintro e w3 ⟨rfl, hb⟩
    have a0_3 := hcell hb sa_2 a0_2
    have a1_3 := hcell hb sa_2 a1_2
    have sa_3 := Nat.lt_of_lt_of_le sa_2 hb.size
    have Ia_3 := Lib.hid (Ia_2.out.next hb)
    have q_3 := q_2.next hb
    have B_3 := chain B_2 hb
    clear hb a0_2 a1_2 sa_2 Ia_2 q_2 B_2
    go_wp2_with fail
    refine (C3.out _ q_3).mono ?_
    rintro e w4 ⟨rfl, hb⟩
    have a0_4 := hcell hb sa_3 a0_3
    have a1_4 := hcell hb sa_3 a1_3
    have sa_4 := Nat.lt_of_lt_of_le sa_3 hb.size
    have Ia_4 := Lib.hid (Ia_3.out.next hb)
    have q_4 := q_3.next hb
    have B_4 := chain B_3 hb
    clear hb a0_3 a1_3 sa_3 Ia_3 q_3 B_3
    go_wp2_with fail
    refine (C6.out 4 _ Ia_4.out).mono ?_
    rintro e w5 ⟨Ab, nb, cb, rfl, hown, hb'⟩
    obtain rfl : nb = 16 := by have := hown.len; rw [rotL_len] at this; omega
    have hal := (Below.refl w5.heap.size w5).alloc (Nat.le_refl _) (.cells #[.int .i64 h, .slice Ab 16 cb] 31)
    have hb := chain hb' hal
    have a0_5 := hcell hb sa_4 a0_4
    have a1_5 := hcell hb sa_4 a1_4
    have sa_5 := Nat.lt_of_lt_of_le sa_4 hb.size
    have Ia_5 := Lib.hid (Ia_4.out.next hb)
    have q_5 := q_4.next hb
    have B_5 := chain B_4 hb
    have b0_5 : (w5.alloc (.cells #[.int .i64 h, .slice Ab 16 cb] 31)).cell? ⟨w5.heap.size, 0, none⟩ = some (.int .i64 h) := by go_simp
    have b1_5 : (w5.alloc (.cells #[.int .i64 h, .slice Ab 16 cb] 31)).cell? ⟨w5.heap.size, 1, none⟩ = some (.slice Ab 16 cb) := by go_simp
    have sb_5 : w5.heap.size < (w5.alloc (.cells #[.int .i64 h, .slice Ab 16 cb] 31)).heap.size := by simp
    have Ib_5 := Lib.hid (hown.ints.next hal)
    clear hb hb' hal hown a0_4 a1_4 sa_4 Ia_4 q_4 B_4
    go_wp2_with fail
    obtain ⟨W5, hW5⟩ : ∃ W5, W5 = (w5.alloc (.cells #[.int .i64 h, .slice Ab 16 cb] 31)) := ⟨_, rfl⟩
    rw [← hW5] at a0_5 a1_5 b0_5 b1_5 sa_5 sb_5 Ia_5 Ib_5 q_5 B_5 ⊢
    clear hW5
    refine (C4.out _ q_5 Ia_5.out).mono ?_
    rintro e w6 ⟨rfl, hb⟩
    have a0_6 := hcell hb sa_5 a0_5
    have a1_6 := hcell hb sa_5 a1_5
    have sa_6 := Nat.lt_of_lt_of_le sa_5 hb.size
    have Ia_6 := Lib.hid (Ia_5.out.next hb)
    have b0_6 := hcell hb sb_5 b0_5
    have b1_6 := hcell hb sb_5 b1_5
    have sb_6 := Nat.lt_of_lt_of_le sb_5 hb.size
    have Ib_6 := Lib.hid (Ib_5.out.next hb)
    have q_6 := q_5.next hb
    have B_6 := chain B_5 hb
    clear hb a0_5 a1_5 sa_5 Ia_5 b0_5 b1_5 sb_5 Ib_5 q_5 B_5
    go_wp2_with fail
    refine (C5.out Ab cb _ q_6 Ib_6.out).mono ?_
    rintro e w7 ⟨rfl, hb⟩
    have a0_7 := hcell hb sa_6 a0_6
    have a1_7 := hcell hb sa_6 a1_6
    have sa_7 := Nat.lt_of_lt_of_le sa_6 hb.size
    have Ia_7 := Lib.hid (Ia_6.out.next hb)
    have b0_7 := hcell hb sb_6 b0_6
    have b1_7 := hcell hb sb_6 b1_6
    have sb_7 := Nat.lt_of_lt_of_le sb_6 hb.size
    have Ib_7 := Lib.hid (Ib_6.out.next hb)
    have q_7 := q_6.next hb
    have B_7 := chain B_6 hb
    clear hb a0_6 a1_6 sa_6 Ia_6 b0_6 b1_6 sb_6 Ib_6 q_6 B_6
    go_wp2_with fail
    clear b0_7 b1_7 sb_7 Ib_7
    refine (C7.out _ Ia_7.out).mono ?_
    rintro e w8 ⟨Ad, nd, cd, rfl, hown, hb'⟩
    obtain rfl : nd = 16 := by have := hown.len; have := LX.out; omega
    have hal := (Below.refl w8.heap.size w8).alloc (Nat.le_refl _) (.cells #[.int .i64 h, .slice Ad 16 cd] 31)
    have hb := chain hb' hal
    have a0_8 := hcell hb sa_7 a0_7
    have a1_8 := hcell hb sa_7 a1_7
    have sa_8 := Nat.lt_of_lt_of_le sa_7 hb.size
    have Ia_8 := Lib.hid (Ia_7.out.next hb)
    have q_8 := q_7.next hb
    have B_8 := chain B_7 hb
    have d0_8 : (w8.alloc (.cells #[.int .i64 h, .slice Ad 16 cd] 31)).cell? ⟨w8.heap.size, 0, none⟩ = some (.int .i64 h) := by go_simp
    have d1_8 : (w8.alloc (.cells #[.int .i64 h, .slice Ad 16 cd] 31)).cell? ⟨w8.heap.size, 1, none⟩ = some (.slice Ad 16 cd) := by go_simp
    have sd_8 : w8.heap.size < (w8.alloc (.cells #[.int .i64 h, .slice Ad 16 cd] 31)).heap.size := by simp
    have Id_8 := Lib.hid (hown.ints.next hal)
    clear hb hb' hal hown a0_7 a1_7 sa_7 Ia_7 q_7 B_7
    go_wp2_with fail
    obtain ⟨W8, hW8⟩ : ∃ W8, W8 = (w8.alloc (.cells #[.int .i64 h, .slice Ad 16 cd] 31)) := ⟨_, rfl⟩
    rw [← hW8] at a0_8 a1_8 d0_8 d1_8 sa_8 sd_8 Ia_8 Id_8 q_8 B_8 ⊢
    clear hW8
    refine (C8.out _ Ia_8.out).mono ?_
    rintro e w9 ⟨Ao, no, co, rfl, hown, hb'⟩
    obtain rfl : no = 16 := by have := hown.len; have := LO.out; omega
    have hal := (Below.refl w9.heap.size w9).alloc (Nat.le_refl _) (.cells #[.int .i64 h, .slice Ao 16 co] 31)
    have hb := chain hb' hal
    have a0_9 := hcell hb sa_8 a0_8
    have a1_9 := hcell hb sa_8 a1_8
    have sa_9 := Nat.lt_of_lt_of_le sa_8 hb.size
    have Ia_9 := Lib.hid (Ia_8.out.next hb)
    have d0_9 := hcell hb sd_8 d0_8
    have d1_9 := hcell hb sd_8 d1_8
    have sd_9 := Nat.lt_of_lt_of_le sd_8 hb.size
    have Id_9 := Lib.hid (Id_8.out.next hb)
    have q_9 := q_8.next hb
    have B_9 := chain B_8 hb
    have o0_9 : (w9.alloc (.cells #[.int .i64 h, .slice Ao 16 co] 31)).cell? ⟨w9.heap.size, 0, none⟩ = some (.int .i64 h) := by go_simp
    have o1_9 : (w9.alloc (.cells #[.int .i64 h, .slice Ao 16 co] 31)).cell? ⟨w9.heap.size, 1, none⟩ = some (.slice Ao 16 co) := by go_simp
    have so_9 : w9.heap.size < (w9.alloc (.cells #[.int .i64 h, .slice Ao 16 co] 31)).heap.size := by simp
    have Io_9 := Lib.hid (hown.ints.next hal)
    clear hb hb' hal hown a0_8 a1_8 sa_8 Ia_8 d0_8 d1_8 sd_8 Id_8 q_8 B_8
    go_wp2_with fail
    obtain ⟨W9, hW9⟩ : ∃ W9, W9 = (w9.alloc (.cells #[.int .i64 h, .slice Ao 16 co] 31)) := ⟨_, rfl⟩
    rw [← hW9] at a0_9 a1_9 d0_9 d1_9 o0_9 o1_9 sa_9 sd_9 so_9 Ia_9 Id_9 Io_9 q_9 B_9 ⊢
    clear hW9
    refine (C9.out Ao co _ Io_9.out).mono ?_
    rintro e w10 ⟨Ap, np, cp, rfl, hown, hb'⟩
    obtain rfl : np = 16 := by have := hown.len; have := LR.out; omega
    have hal := (Below.refl w10.heap.size w10).alloc (Nat.le_refl _) (.cells #[.int .i64 h, .slice Ap 16 cp] 31)
    have hb := chain hb' hal
    have a0_10 := hcell hb sa_9 a0_9
    have a1_10 := hcell hb sa_9 a1_9
    have sa_10 := Nat.lt_of_lt_of_le sa_9 hb.size
    have Ia_10 := Lib.hid (Ia_9.out.next hb)
    have d0_10 := hcell hb sd_9 d0_9
    have d1_10 := hcell hb sd_9 d1_9
    have sd_10 := Nat.lt_of_lt_of_le sd_9 hb.size
    have Id_10 := Lib.hid (Id_9.out.next hb)
    have o0_10 := hcell hb so_9 o0_9
    have o1_10 := hcell hb so_9 o1_9
    have so_10 := Nat.lt_of_lt_of_le so_9 hb.size
    have Io_10 := Lib.hid (Io_9.out.next hb)
    have q_10 := q_9.next hb
    have B_10 := chain B_9 hb
    have p0_10 : (w10.alloc (.cells #[.int .i64 h, .slice Ap 16 cp] 31)).cell? ⟨w10.heap.size, 0, none⟩ = some (.int .i64 h) := by go_simp
    have p1_10 : (w10.alloc (.cells #[.int .i64 h, .slice Ap 16 cp] 31)).cell? ⟨w10.heap.size, 1, none⟩ = some (.slice Ap 16 cp) := by go_simp
    have sp_10 : w10.heap.size < (w10.alloc (.cells #[.int .i64 h, .slice Ap 16 cp] 31)).heap.size := by simp
    have Ip_10 := Lib.hid (hown.ints.next hal)
    clear hb hb' hal hown a0_9 a1_9 sa_9 Ia_9 d0_9 d1_9 sd_9 Id_9 o0_9 o1_9 so_9 Io_9 q_9 B_9
    go_wp2_with fail
    obtain ⟨W10, hW10⟩ : ∃ W10, W10 = (w10.alloc (.cells #[.int .i64 h, .slice Ap 16 cp] 31)) := ⟨_, rfl⟩
    rw [← hW10] at a0_10 a1_10 d0_10 d1_10 o0_10 o1_10 p0_10 p1_10 sa_10 sd_10 so_10 sp_10 Ia_10 Id_10 Io_10 Ip_10 q_10 B_10 ⊢
    clear hW10
    clear o0_10 o1_10 so_10 Io_10
    refine (C10.out _ Ia_10.out).mono ?_
    rintro e w11 ⟨Ar, nr, cr, rfl, hown, hb'⟩
    obtain rfl : nr = 16 := by have := hown.len; have := LR.out; omega
    have hal := (Below.refl w11.heap.size w11).alloc (Nat.le_refl _) (.cells #[.int .i64 h, .slice Ar 16 cr] 31)
    have hb := chain hb' hal
    have a0_11 := hcell hb sa_10 a0_10
    have a1_11 := hcell hb sa_10 a1_10
    have sa_11 := Nat.lt_of_lt_of_le sa_10 hb.size
    have Ia_11 := Lib.hid (Ia_10.out.next hb)
    have d0_11 := hcell hb sd_10 d0_10
    have d1_11 := hcell hb sd_10 d1_10
    have sd_11 := Nat.lt_of_lt_of_le sd_10 hb.size
    have Id_11 := Lib.hid (Id_10.out.next hb)
    have p0_11 := hcell hb sp_10 p0_10
    have p1_11 := hcell hb sp_10 p1_10
    have sp_11 := Nat.lt_of_lt_of_le sp_10 hb.size
    have Ip_11 := Lib.hid (Ip_10.out.next hb)
    have q_11 := q_10.next hb
    have B_11 := chain B_10 hb
    have r0_11 : (w11.alloc (.cells #[.int .i64 h, .slice Ar 16 cr] 31)).cell? ⟨w11.heap.size, 0, none⟩ = some (.int .i64 h) := by go_simp
    have r1_11 : (w11.alloc (.cells #[.int .i64 h, .slice Ar 16 cr] 31)).cell? ⟨w11.heap.size, 1, none⟩ = some (.slice Ar 16 cr) := by go_simp
    have sr_11 : w11.heap.size < (w11.alloc (.cells #[.int .i64 h, .slice Ar 16 cr] 31)).heap.size := by simp
    have Ir_11 := Lib.hid (hown.ints.next hal)
    clear hb hb' hal hown a0_10 a1_10 sa_10 Ia_10 d0_10 d1_10 sd_10 Id_10 p0_10 p1_10 sp_10 Ip_10 q_10 B_10
    go_wp2_with fail
    obtain ⟨W11, hW11⟩ : ∃ W11, W11 = (w11.alloc (.cells #[.int .i64 h, .slice Ar 16 cr] 31)) := ⟨_, rfl⟩
    rw [← hW11] at a0_11 a1_11 d0_11 d1_11 p0_11 p1_11 r0_11 r1_11 sa_11 sd_11 sp_11 sr_11 Ia_11 Id_11 Ip_11 Ir_11 q_11 B_11 ⊢
    clear hW11
    refine (C11.out _ Ia_11.out).mono ?_
    rintro e w12 ⟨Av, nv, cv, rfl, hown, hb'⟩
    obtain rfl : nv = 16 := by have := hown.len; have := LX.out; omega
    have hal := (Below.refl w12.heap.size w12).alloc (Nat.le_refl _) (.cells #[.int .i64 h, .slice Av 16 cv] 31)
    have hb := chain hb' hal
    have a0_12 := hcell hb sa_11 a0_11
    have a1_12 := hcell hb sa_11 a1_11
    have sa_12 := Nat.lt_of_lt_of_le sa_11 hb.size
    have Ia_12 := Lib.hid (Ia_11.out.next hb)
    have d0_12 := hcell hb sd_11 d0_11
    have d1_12 := hcell hb sd_11 d1_11
    have sd_12 := Nat.lt_of_lt_of_le sd_11 hb.size
    have Id_12 := Lib.hid (Id_11.out.next hb)
    have p0_12 := hcell hb sp_11 p0_11
    have p1_12 := hcell hb sp_11 p1_11
    have sp_12 := Nat.lt_of_lt_of_le sp_11 hb.size
    have Ip_12 := Lib.hid (Ip_11.out.next hb)
    have r0_12 := hcell hb sr_11 r0_11
    have r1_12 := hcell hb sr_11 r1_11
    have sr_12 := Nat.lt_of_lt_of_le sr_11 hb.size
    have Ir_12 := Lib.hid (Ir_11.out.next hb)
    have q_12 := q_11.next hb
    have B_12 := chain B_11 hb
    have v0_12 : (w12.alloc (.cells #[.int .i64 h, .slice Av 16 cv] 31)).cell? ⟨w12.heap.size, 0, none⟩ = some (.int .i64 h) := by go_simp
    have v1_12 : (w12.alloc (.cells #[.int .i64 h, .slice Av 16 cv] 31)).cell? ⟨w12.heap.size, 1, none⟩ = some (.slice Av 16 cv) := by go_simp
    have sv_12 : w12.heap.size < (w12.alloc (.cells #[.int .i64 h, .slice Av 16 cv] 31)).heap.size := by simp
    have Iv_12 := Lib.hid (hown.ints.next hal)
    clear hb hb' hal hown a0_11 a1_11 sa_11 Ia_11 d0_11 d1_11 sd_11 Id_11 p0_11 p1_11 sp_11 Ip_11 r0_11 r1_11 sr_11 Ir_11 q_11 B_11
    go_wp2_with fail
    obtain ⟨W12, hW12⟩ : ∃ W12, W12 = (w12.alloc (.cells #[.int .i64 h, .slice Av 16 cv] 31)) := ⟨_, rfl⟩
    rw [← hW12] at a0_12 a1_12 d0_12 d1_12 p0_12 p1_12 r0_12 r1_12 v0_12 v1_12 sa_12 sd_12 sp_12 sr_12 sv_12 Ia_12 Id_12 Ip_12 Ir_12 Iv_12 q_12 B_12 ⊢
    clear hW12
    refine (refEqual_any h Ad 16 cd xs h A n c xs _ Id_12.out Ia_12.out (by omega) hn).mono ?_
    rintro e w13 ⟨rfl, hb⟩
    have a0_13 := hcell hb sa_12 a0_12
    have a1_13 := hcell hb sa_12 a1_12
    have sa_13 := Nat.lt_of_lt_of_le sa_12 hb.size
    have Ia_13 := Lib.hid (Ia_12.out.next hb)
    have d0_13 := hcell hb sd_12 d0_12
    have d1_13 := hcell hb sd_12 d1_12
    have sd_13 := Nat.lt_of_lt_of_le sd_12 hb.size
    have Id_13 := Lib.hid (Id_12.out.next hb)
    have p0_13 := hcell hb sp_12 p0_12
    have p1_13 := hcell hb sp_12 p1_12
    have sp_13 := Nat.lt_of_lt_of_le sp_12 hb.size
    have Ip_13 := Lib.hid (Ip_12.out.next hb)
    have r0_13 := hcell hb sr_12 r0_12
    have r1_13 := hcell hb sr_12 r1_12
    have sr_13 := Nat.lt_of_lt_of_le sr_12 hb.size
    have Ir_13 := Lib.hid (Ir_12.out.next hb)
    have v0_13 := hcell hb sv_12 v0_12
    have v1_13 := hcell hb sv_12 v1_12
    have sv_13 := Nat.lt_of_lt_of_le sv_12 hb.size
    have Iv_13 := Lib.hid (Iv_12.out.next hb)
    have q_13 := q_12.next hb
    have B_13 := chain B_12 hb
    clear hb a0_12 a1_12 sa_12 Ia_12 d0_12 d1_12 sd_12 Id_12 p0_12 p1_12 sp_12 Ip_12 r0_12 r1_12 sr_12 Ir_12 v0_12 v1_12 sv_12 Iv_12 q_12 B_12
    go_wp2_with fail
    refine (refEqual_any h Ap 16 cp R h Ar 16 cr R _ Ip_13.out Ir_13.out (by omega) (by omega)).mono ?_
    rintro e w14 ⟨rfl, hb⟩
    have a0_14 := hcell hb sa_13 a0_13
    have a1_14 := hcell hb sa_13 a1_13
    have sa_14 := Nat.lt_of_lt_of_le sa_13 hb.size
    have Ia_14 := Lib.hid (Ia_13.out.next hb)
    have d0_14 := hcell hb sd_13 d0_13
    have d1_14 := hcell hb sd_13 d1_13
    have sd_14 := Nat.lt_of_lt_of_le sd_13 hb.size
    have Id_14 := Lib.hid (Id_13.out.next hb)
    have p0_14 := hcell hb sp_13 p0_13
    have p1_14 := hcell hb sp_13 p1_13
    have sp_14 := Nat.lt_of_lt_of_le sp_13 hb.size
    have Ip_14 := Lib.hid (Ip_13.out.next hb)
    have r0_14 := hcell hb sr_13 r0_13
    have r1_14 := hcell hb sr_13 r1_13
    have sr_14 := Nat.lt_of_lt_of_le sr_13 hb.size
    have Ir_14 := Lib.hid (Ir_13.out.next hb)
    have v0_14 := hcell hb sv_13 v0_13
    have v1_14 := hcell hb sv_13 v1_13
    have sv_14 := Nat.lt_of_lt_of_le sv_13 hb.size
    have Iv_14 := Lib.hid (Iv_13.out.next hb)
    have q_14 := q_13.next hb
    have B_14 := chain B_13 hb
    clear hb a0_13 a1_13 sa_13 Ia_13 d0_13 d1_13 sd_13 Id_13 p0_13 p1_13 sp_13 Ip_13 r0_13 r1_13 sr_13 Ir_13 v0_13 v1_13 sv_13 Iv_13 q_13 B_13
    go_wp2_with fail
    refine (refEqual_any h Av 16 cv xs h A n c xs _ Iv_14.out Ia_14.out (by omega) hn).mono ?_
    rintro e w15 ⟨rfl, hb⟩
    have a0_15 := hcell hb sa_14 a0_14
    have a1_15 := hcell hb sa_14 a1_14
    have sa_15 := Nat.lt_of_lt_of_le sa_14 hb.size
    have Ia_15 := Lib.hid (Ia_14.out.next hb)
    have d0_15 := hcell hb sd_14 d0_14
    have d1_15 := hcell hb sd_14 d1_14
    have sd_15 := Nat.lt_of_lt_of_le sd_14 hb.size
    have Id_15 := Lib.hid (Id_14.out.next hb)
    have p0_15 := hcell hb sp_14 p0_14
    have p1_15 := hcell hb sp_14 p1_14
    have sp_15 := Nat.lt_of_lt_of_le sp_14 hb.size
    have Ip_15 := Lib.hid (Ip_14.out.next hb)
    have r0_15 := hcell hb sr_14 r0_14
    have r1_15 := hcell hb sr_14 r1_14
    have sr_15 := Nat.lt_of_lt_of_le sr_14 hb.size
    have Ir_15 := Lib.hid (Ir_14.out.next hb)
    have v0_15 := hcell hb sv_14 v0_14
    have v1_15 := hcell hb sv_14 v1_14
    have sv_15 := Nat.lt_of_lt_of_le sv_14 hb.size
    have Iv_15 := Lib.hid (Iv_14.out.next hb)
    have q_15 := q_14.next hb
    have B_15 := chain B_14 hb
    clear hb a0_14 a1_14 sa_14 Ia_14 d0_14 d1_14 sd_14 Id_14 p0_14 p1_14 sp_14 Ip_14 r0_14 r1_14 sr_14 Ir_14 v0_14 v1_14 sv_14 Iv_14 q_14 B_14
    go_wp2_with fail
    refine (known_any _ q_15).mono ?_
    rintro e w99 ⟨rfl, hb9⟩
    go_wp2
    go_ret
    exact ⟨rfl, chain B_15 hb9⟩

theorem law8 (h : Int) (A : Option Addr) (n c : Nat) (xs : List Int) (dx dy factor one two : Int) (w : World) (hq : Quad w) (hI : Ints w w.heap.size A n xs) (hn : n ≤ 9223372036854775807) :
    Calls Tryd.prog 8 #[.agg #[.int .i64 h, .slice A n c], .int .i64 dx, .int .i64 dy, .int .i64 factor, .int .i64 one, .int .i64 two] w (KnownOk w) := by
  cases hv : validB h xs with
  | false => exact law8_bad h A n c xs dx dy factor one two w hq hI hn hv
  | true =>
    by_cases y0 : dx < -1000
    · exact law8_o0 h A n c xs dx dy factor one two w hq hI hn hv y0
    have k0 : -1000 ≤ dx := by omega
    by_cases y1 : 1000 < dx
    · exact law8_o1 h A n c xs dx dy factor one two w hq hI hn hv k0 y1
    have k1 : dx ≤ 1000 := by omega
    by_cases y2 : dy < -1000
    · exact law8_o2 h A n c xs dx dy factor one two w hq hI hn hv k0 k1 y2
    have k2 : -1000 ≤ dy := by omega
    by_cases y3 : 1000 < dy
    · exact law8_o3 h A n c xs dx dy factor one two w hq hI hn hv k0 k1 k2 y3
    have k3 : dy ≤ 1000 := by omega
    by_cases z : dx = 0 ∧ dy = 0
    · exact law8_o4 h A n c xs dx dy factor one two w hq hI hn hv k0 k1 k2 k3 (by simp [z.1]) (by simp [z.2])
    have hz : (dx == 0) = false ∨ ((dx == 0) = true ∧ (dy == 0) = false) := by
      by_cases hx : dx = 0
      · right; refine ⟨by simp [hx], ?_⟩; rw [beq_eq_false_iff_ne]; intro hy; exact z ⟨hx, hy⟩
      · left; simpa using hx
    by_cases y5 : factor < 1
    · exact law8_o5 h A n c xs dx dy factor one two w hq hI hn hv k0 k1 k2 k3 hz y5
    have k5 : 1 ≤ factor := by omega
    by_cases y6 : 1000 < factor
    · exact law8_o6 h A n c xs dx dy factor one two w hq hI hn hv k0 k1 k2 k3 hz k5 y6
    have k6 : factor ≤ 1000 := by omega
    by_cases y7 : one < -100
    · exact law8_o7 h A n c xs dx dy factor one two w hq hI hn hv k0 k1 k2 k3 hz k5 k6 y7
    have k7 : -100 ≤ one := by omega
    by_cases y8 : 100 < one
    · exact law8_o8 h A n c xs dx dy factor one two w hq hI hn hv k0 k1 k2 k3 hz k5 k6 k7 y8
    have k8 : one ≤ 100 := by omega
    by_cases y9 : two < -100
    · exact law8_o9 h A n c xs dx dy factor one two w hq hI hn hv k0 k1 k2 k3 hz k5 k6 k7 k8 y9
    have k9 : -100 ≤ two := by omega
    by_cases y10 : 100 < two
    · exact law8_o10 h A n c xs dx dy factor one two w hq hI hn hv k0 k1 k2 k3 hz k5 k6 k7 k8 k9 y10
    have k10 : two ≤ 100 := by omega
    exact law8_yes h A n c xs dx dy factor one two w hq hI hn hv k0 k1 k2 k3 hz k5 k6 k7 k8 k9 k10 z
end Go.Proofs.YthaodhipebadcaaDoor
