/- Contracts of score.prices, its closure, score.Offer, bandplanref28.Offer. -/
import Derived.Test.YtfgobighpkemkaaDoorW2
namespace Go.Proofs.YtfgobighpkemkaaDoor
open Go.RowKit

/-- Volume and base price that are valid, or how they fail. -/
def vbOk (v b : Int) : Prop := 1 ≤ v ∧ v ≤ 1000000 ∧ 0 ≤ b ∧ b ≤ 1000000000
def vbNo (v b : Int) : Prop := v < 1 ∨ (1 ≤ v ∧ 1000000 < v) ∨ (1 ≤ v ∧ v ≤ 1000000 ∧ b < 0) ∨ (1 ≤ v ∧ v ≤ 1000000 ∧ 0 ≤ b ∧ 1000000000 < b)
theorem vb_cases (v b : Int) : vbOk v b ∨ vbNo v b := by unfold vbOk vbNo; omega
theorem mul_bd {x y X Y : Int} (x0 : 0 ≤ x) (hx : x ≤ X) (y0 : 0 ≤ y) (hy : y ≤ Y) : 0 ≤ x * y ∧ x * y ≤ X * Y :=
  ⟨Int.mul_nonneg x0 y0, Int.mul_le_mul hx hy y0 (by omega)⟩
/-- The price of an option. -/
def priceI (v b h o : Int) : Int := v * b * (worth h - worth o) / 1000000000

set_option maxHeartbeats 400000 in
theorem px_bad (v b o : Int) (p q s : Nat) (w : World) (hp : w.cell? ⟨p, 0, none⟩ = some (.int .i64 v)) (hq : w.cell? ⟨q, 0, none⟩ = some (.int .i64 b)) (hn : vbNo v b) :
    Calls Tryd.prog 36 #[.int .i64 o, .pointer (some ⟨p, 0, none⟩), .pointer (some ⟨q, 0, none⟩), .pointer (some ⟨s, 0, none⟩)] w fun e w' => e = .returned (.tuple #[.int .i64 0, .int .i64 2]) ∧ Below w.heap.size w w' := by
  rcases hn with k | ⟨k, k1⟩ | ⟨k, k1, k2⟩ | ⟨k, k1, k2, k3⟩
  all_goals
    go_enter Tryd.func36, Tryd.ntmps36
    go_wp2_with fail
    go_ret2
    exact ⟨rfl, Below.refl _ _⟩

set_option maxHeartbeats 400000 in
theorem px_red (v b h o : Int) (p q s : Nat) (w : World) (hp : w.cell? ⟨p, 0, none⟩ = some (.int .i64 v)) (hq : w.cell? ⟨q, 0, none⟩ = some (.int .i64 b)) (hs : w.cell? ⟨s, 0, none⟩ = some (.int .i64 h))
    (lp : p < w.heap.size) (lq : q < w.heap.size) (hn : vbOk v b) (hr : redNo h o) :
    Calls Tryd.prog 36 #[.int .i64 o, .pointer (some ⟨p, 0, none⟩), .pointer (some ⟨q, 0, none⟩), .pointer (some ⟨s, 0, none⟩)] w fun e w' => e = .returned (.tuple #[.int .i64 0, .int .i64 2]) ∧ Below w.heap.size w w' := by
  obtain ⟨k1, k2, k3, k4⟩ := hn
  have HR := Lib.hid hr
  clear hr
  have m1 := mul_bd (by omega : 0 ≤ v) k2 k3 k4
  have m2 : 0 ≤ v * b := m1.1
  have m3 : v * b ≤ 1000000000000000 := by have := m1.2; omega
  clear m1
  go_enter Tryd.func36, Tryd.ntmps36
  go_wp2_with fail
  refine (red_no h o _ HR.out).mono ?_
  rintro e w1 ⟨rfl, hb1⟩
  have c1 := gcell hb1 lp hp
  have c2 := gcell hb1 lq hq
  go_wp2_with fail
  go_ret2
  exact ⟨by simp, hb1⟩

set_option maxHeartbeats 400000 in
theorem px_yes (v b h o : Int) (p q s : Nat) (w : World) (hw : Wor w) (hp : w.cell? ⟨p, 0, none⟩ = some (.int .i64 v)) (hq : w.cell? ⟨q, 0, none⟩ = some (.int .i64 b)) (hs : w.cell? ⟨s, 0, none⟩ = some (.int .i64 h))
    (lp : p < w.heap.size) (lq : q < w.heap.size) (hn : vbOk v b) (hr : redOk h o) :
    Calls Tryd.prog 36 #[.int .i64 o, .pointer (some ⟨p, 0, none⟩), .pointer (some ⟨q, 0, none⟩), .pointer (some ⟨s, 0, none⟩)] w fun e w' => e = .returned (.tuple #[.int .i64 (priceI v b h o), .int .i64 0]) ∧ Below w.heap.size w w' := by
  obtain ⟨k1, k2, k3, k4⟩ := hn
  have HR := Lib.hid hr
  have hS0 : 0 ≤ worth h - worth o := by have := worth_mono hr.1 hr.2.1 hr.2.2.1 hr.2.2.2; omega
  have hS1 : worth h - worth o ≤ 1000 := by have := worth_bd h; have := worth_bd o; omega
  clear hr
  have m1 := mul_bd (by omega : 0 ≤ v) k2 k3 k4
  have m2 : 0 ≤ v * b := m1.1
  have m3 : v * b ≤ 1000000000000000 := by have := m1.2; omega
  have m4 := mul_bd m2 m3 hS0 hS1
  have m5 : 0 ≤ v * b * (worth h - worth o) := m4.1
  have m6 : v * b * (worth h - worth o) ≤ 1000000000000000000 := by have := m4.2; omega
  clear m1 m4
  have hpr : Hid (v * b * (worth h - worth o) / 1000000000 = priceI v b h o) := rfl
  go_enter Tryd.func36, Tryd.ntmps36
  go_wp2_with fail
  refine (red_yes h o _ hw HR.out).mono ?_
  rintro e w1 ⟨rfl, hb1⟩
  have c1 := gcell hb1 lp hp
  have c2 := gcell hb1 lq hq
  go_wp2_with fail
  go_ret2
  exact ⟨by rw [← hpr.out]; rfl, hb1⟩

set_option maxHeartbeats 400000 in
theorem prices_any (v b h : Int) (w : World) :
    Calls Tryd.prog 34 #[.int .i64 v, .int .i64 b, .int .i64 h] w fun e w' => e = .returned (.func (.func 36) #[] #[.pointer (some ⟨w.heap.size, 0, none⟩), .pointer (some ⟨w.heap.size + 1, 0, none⟩), .pointer (some ⟨w.heap.size + 1 + 1, 0, none⟩)]) ∧
      ((w.alloc (.cells #[.int .i64 v] 3)).alloc (.cells #[.int .i64 b] 3)).alloc (.cells #[.int .i64 h] 3) = w' := by
  go_enter Tryd.func34, Tryd.ntmps34
  go_wp2
  go_ret
  exact ⟨rfl, rfl⟩

def offNo (v b h o : Int) : Prop := vbNo v b ∨ (vbOk v b ∧ redNo h o)
def offOk (v b h o : Int) : Prop := vbOk v b ∧ redOk h o
theorem off_cases (v b h o : Int) : offOk v b h o ∨ offNo v b h o := by
  unfold offOk offNo
  rcases vb_cases v b with k | k
  · rcases red_cases h o with l | l
    · exact .inl ⟨k, l⟩
    · exact .inr (.inr ⟨k, l⟩)
  · exact .inr (.inl k)

set_option maxHeartbeats 400000 in
theorem offer_no (v b h o : Int) (w : World) (hn : offNo v b h o) :
    Calls Tryd.prog 32 #[.int .i64 v, .int .i64 b, .int .i64 h, .int .i64 o] w fun e w' => e = .returned (.tuple #[.int .i64 0, .int .i64 2]) ∧ Below w.heap.size w w' := by
  have hb0 : Below w.heap.size w (((w.alloc (.cells #[.int .i64 v] 3)).alloc (.cells #[.int .i64 b] 3)).alloc (.cells #[.int .i64 h] 3)) := (((Below.refl _ _).alloc (Nat.le_refl _) _).alloc (by simp) _).alloc (by simp <;> omega) _
  have c0 : (((w.alloc (.cells #[.int .i64 v] 3)).alloc (.cells #[.int .i64 b] 3)).alloc (.cells #[.int .i64 h] 3)).cell? ⟨w.heap.size, 0, none⟩ = some (.int .i64 v) := by go_simp
  have c1 : (((w.alloc (.cells #[.int .i64 v] 3)).alloc (.cells #[.int .i64 b] 3)).alloc (.cells #[.int .i64 h] 3)).cell? ⟨w.heap.size + 1, 0, none⟩ = some (.int .i64 b) := by go_simp
  have c2 : (((w.alloc (.cells #[.int .i64 v] 3)).alloc (.cells #[.int .i64 b] 3)).alloc (.cells #[.int .i64 h] 3)).cell? ⟨w.heap.size + 1 + 1, 0, none⟩ = some (.int .i64 h) := by go_simp
  have l0 : w.heap.size < (((w.alloc (.cells #[.int .i64 v] 3)).alloc (.cells #[.int .i64 b] 3)).alloc (.cells #[.int .i64 h] 3)).heap.size := by simp; omega
  have l1 : w.heap.size + 1 < (((w.alloc (.cells #[.int .i64 v] 3)).alloc (.cells #[.int .i64 b] 3)).alloc (.cells #[.int .i64 h] 3)).heap.size := by simp
  have HN := Lib.hid hn
  clear hn
  go_enter Tryd.func32, Tryd.ntmps32
  go_wp2_with fail
  refine (prices_any v b h _).mono ?_
  rintro e w1 ⟨rfl, hw1⟩
  rw [hw1] at hb0 c0 c1 c2 l0 l1
  clear hw1
  go_wp2_with fail
  have key : Calls Tryd.prog 36 #[.int .i64 o, .pointer (some ⟨w.heap.size, 0, none⟩), .pointer (some ⟨w.heap.size + 1, 0, none⟩), .pointer (some ⟨w.heap.size + 1 + 1, 0, none⟩)] w1 fun e w' => e = .returned (.tuple #[.int .i64 0, .int .i64 2]) ∧ Below w1.heap.size w1 w' := by
    rcases HN.out with k | ⟨k, l⟩
    · exact px_bad v b o _ _ _ _ c0 c1 k
    · exact px_red v b h o _ _ _ _ c0 c1 c2 l0 l1 k l
  refine key.mono ?_
  rintro e w2 ⟨rfl, hb2⟩
  clear key
  go_wp2
  go_ret2
  exact ⟨rfl, chain hb0 hb2⟩

set_option maxHeartbeats 400000 in
theorem offer_yes (v b h o : Int) (w : World) (hw : Wor w) (hn : offOk v b h o) :
    Calls Tryd.prog 32 #[.int .i64 v, .int .i64 b, .int .i64 h, .int .i64 o] w fun e w' => e = .returned (.tuple #[.int .i64 (priceI v b h o), .int .i64 0]) ∧ Below w.heap.size w w' := by
  have hb0 : Below w.heap.size w (((w.alloc (.cells #[.int .i64 v] 3)).alloc (.cells #[.int .i64 b] 3)).alloc (.cells #[.int .i64 h] 3)) := (((Below.refl _ _).alloc (Nat.le_refl _) _).alloc (by simp) _).alloc (by simp <;> omega) _
  have c0 : (((w.alloc (.cells #[.int .i64 v] 3)).alloc (.cells #[.int .i64 b] 3)).alloc (.cells #[.int .i64 h] 3)).cell? ⟨w.heap.size, 0, none⟩ = some (.int .i64 v) := by go_simp
  have c1 : (((w.alloc (.cells #[.int .i64 v] 3)).alloc (.cells #[.int .i64 b] 3)).alloc (.cells #[.int .i64 h] 3)).cell? ⟨w.heap.size + 1, 0, none⟩ = some (.int .i64 b) := by go_simp
  have c2 : (((w.alloc (.cells #[.int .i64 v] 3)).alloc (.cells #[.int .i64 b] 3)).alloc (.cells #[.int .i64 h] 3)).cell? ⟨w.heap.size + 1 + 1, 0, none⟩ = some (.int .i64 h) := by go_simp
  have l0 : w.heap.size < (((w.alloc (.cells #[.int .i64 v] 3)).alloc (.cells #[.int .i64 b] 3)).alloc (.cells #[.int .i64 h] 3)).heap.size := by simp; omega
  have l1 : w.heap.size + 1 < (((w.alloc (.cells #[.int .i64 v] 3)).alloc (.cells #[.int .i64 b] 3)).alloc (.cells #[.int .i64 h] 3)).heap.size := by simp
  have HN := Lib.hid hn
  have hw1' := hw.next hb0
  clear hn
  go_enter Tryd.func32, Tryd.ntmps32
  go_wp2_with fail
  refine (prices_any v b h _).mono ?_
  rintro e w1 ⟨rfl, hw1⟩
  rw [hw1] at hb0 c0 c1 c2 l0 l1 hw1'
  clear hw1
  go_wp2_with fail
  refine (px_yes v b h o _ _ _ _ hw1' c0 c1 c2 l0 l1 HN.out.1 HN.out.2).mono ?_
  rintro e w2 ⟨rfl, hb2⟩
  go_wp2
  go_ret2
  exact ⟨rfl, chain hb0 hb2⟩

set_option maxHeartbeats 400000 in
theorem refOffer_no (v b h o : Int) (w : World) (hn : offNo v b h o) :
    Calls Tryd.prog 33 #[.int .i64 v, .int .i64 b, .int .i64 h, .int .i64 o] w fun e w' => e = .returned (.tuple #[.int .i64 0, .int .i64 2]) ∧ w = w' := by
  rcases red_cases h o with l | l
  · have hv : vbNo v b := by
      rcases hn with k | ⟨_, k⟩
      · exact k
      · exfalso
        obtain ⟨l1, l2, l3, l4⟩ := l
        have e : homB h = true := by simp [homB, l1, l2]
        rcases k with k | ⟨_, k⟩ | ⟨_, k, k2⟩
        · rw [e] at k; cases k
        · omega
        · omega
    have HL := Lib.hid l
    clear l hn
    rcases hv with k | ⟨k, k1⟩ | ⟨k, k1, k2⟩ | ⟨k, k1, k2, k3⟩
    all_goals
      go_enter Tryd.func33, Tryd.ntmps33
      go_wp2_with (go_at_call 35; refine (refRed_yes _ _ _ HL.out).mono ?_; rintro e w' ⟨rfl, rfl⟩)
      go_ret2
      exact ⟨rfl, rfl⟩
  · have HL := Lib.hid l
    clear l hn
    go_enter Tryd.func33, Tryd.ntmps33
    go_wp2_with (go_at_call 35; refine (refRed_no _ _ _ HL.out).mono ?_; rintro e w' ⟨rfl, rfl⟩)
    go_ret2
    exact ⟨rfl, rfl⟩

set_option maxHeartbeats 400000 in
theorem refOffer_yes (v b h o : Int) (w : World) (hn : offOk v b h o) :
    Calls Tryd.prog 33 #[.int .i64 v, .int .i64 b, .int .i64 h, .int .i64 o] w fun e w' => e = .returned (.tuple #[.int .i64 (priceI v b h o), .int .i64 0]) ∧ w = w' := by
  obtain ⟨⟨k1, k2, k3, k4⟩, hr⟩ := hn
  have HR := Lib.hid hr
  have hS0 : 0 ≤ worth h - worth o := by have := worth_mono hr.1 hr.2.1 hr.2.2.1 hr.2.2.2; omega
  have hS1 : worth h - worth o ≤ 1000 := by have := worth_bd h; have := worth_bd o; omega
  clear hr
  have m1 := mul_bd (by omega : 0 ≤ v) k2 k3 k4
  have m2 : 0 ≤ v * b := m1.1
  have m3 : v * b ≤ 1000000000000000 := by have := m1.2; omega
  have m4 := mul_bd m2 m3 hS0 hS1
  have m5 : 0 ≤ v * b * (worth h - worth o) := m4.1
  have m6 : v * b * (worth h - worth o) ≤ 1000000000000000000 := by have := m4.2; omega
  clear m1 m4
  have hpr : Hid (v * b * (worth h - worth o) / 1000000000 = priceI v b h o) := rfl
  go_enter Tryd.func33, Tryd.ntmps33
  go_wp2_with (go_at_call 35; refine (refRed_yes _ _ _ HR.out).mono ?_; rintro e w' ⟨rfl, rfl⟩)
  go_ret2
  exact ⟨by rw [← hpr.out]; rfl, rfl⟩
end Go.Proofs.YtfgobighpkemkaaDoor
