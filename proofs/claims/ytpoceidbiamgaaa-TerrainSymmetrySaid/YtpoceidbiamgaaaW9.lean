/- Four stores into one block; contract of terrain.Flat. -/
import Derived.Test.YtpoceidbiamgaaaW8
set_option linter.unusedVariables false
set_option linter.unusedSimpArgs false
namespace Go.Proofs.Ytpoceidbiamgaaa
open Go.RowKit

theorem set4_at {w : World} {q : Nat} {a b c d a' b' c' d' : Value} (z0 : w.cell? ⟨q, 0, none⟩ = some a') (z1 : w.cell? ⟨q, 1, none⟩ = some b') (z2 : w.cell? ⟨q, 2, none⟩ = some c') (z3 : w.cell? ⟨q, 3, none⟩ = some d') :
    ((((w.setCell ⟨q, 0, none⟩ (a)).setCell ⟨q, 1, none⟩ (b)).setCell ⟨q, 2, none⟩ (c)).setCell ⟨q, 3, none⟩ (d)).cell? ⟨q, 0, none⟩ = some a ∧ ((((w.setCell ⟨q, 0, none⟩ (a)).setCell ⟨q, 1, none⟩ (b)).setCell ⟨q, 2, none⟩ (c)).setCell ⟨q, 3, none⟩ (d)).cell? ⟨q, 1, none⟩ = some b ∧ ((((w.setCell ⟨q, 0, none⟩ (a)).setCell ⟨q, 1, none⟩ (b)).setCell ⟨q, 2, none⟩ (c)).setCell ⟨q, 3, none⟩ (d)).cell? ⟨q, 2, none⟩ = some c ∧ ((((w.setCell ⟨q, 0, none⟩ (a)).setCell ⟨q, 1, none⟩ (b)).setCell ⟨q, 2, none⟩ (c)).setCell ⟨q, 3, none⟩ (d)).cell? ⟨q, 3, none⟩ = some d := by
  refine ⟨?_, ?_, ?_, ?_⟩ <;> simp [World.cell?_setCell_other, World.cell?_setCell_same', z0, z1, z2, z3]
theorem set4_cell {w : World} {q : Nat} {a b c d : Value} {k o : Nat} (h : k ≠ q) : ((((w.setCell ⟨q, 0, none⟩ (a)).setCell ⟨q, 1, none⟩ (b)).setCell ⟨q, 2, none⟩ (c)).setCell ⟨q, 3, none⟩ (d)).cell? ⟨k, o, none⟩ = w.cell? ⟨k, o, none⟩ := by
  simp [World.cell?_setCell_other, h, Ne.symm h]
theorem set4_frozen {w : World} {q : Nat} {a b c d : Value} (p : Addr) : ((((w.setCell ⟨q, 0, none⟩ (a)).setCell ⟨q, 1, none⟩ (b)).setCell ⟨q, 2, none⟩ (c)).setCell ⟨q, 3, none⟩ (d)).frozen? p = w.frozen? p := by
  simp [World.frozen?_setCell]
theorem set4_size {w : World} {q : Nat} {a b c d : Value} : ((((w.setCell ⟨q, 0, none⟩ (a)).setCell ⟨q, 1, none⟩ (b)).setCell ⟨q, 2, none⟩ (c)).setCell ⟨q, 3, none⟩ (d)).heap.size = w.heap.size := by
  simp [World.setCell]
theorem Own.far4 {w : World} {base n c : Nat} {e : TypeId} {A : Option Addr} {xs : List Int} (h : Own w base e A n c xs) {q : Nat} {a b c' d : Value} (hq : ∀ g, A = some ⟨g, 0, none⟩ → g ≠ q) : Own ((((w.setCell ⟨q, 0, none⟩ (a)).setCell ⟨q, 1, none⟩ (b)).setCell ⟨q, 2, none⟩ (c')).setCell ⟨q, 3, none⟩ (d)) base e A n c xs :=
  (((h.far (p := ⟨q, 0, none⟩) hq _).far (p := ⟨q, 1, none⟩) hq _).far (p := ⟨q, 2, none⟩) hq _).far (p := ⟨q, 3, none⟩) hq _
theorem below_set4 {B q : Nat} {w0 w : World} {a b c d : Value} (h : Below B w0 w) (hq : B ≤ q) : Below B w0 ((((w.setCell ⟨q, 0, none⟩ (a)).setCell ⟨q, 1, none⟩ (b)).setCell ⟨q, 2, none⟩ (c)).setCell ⟨q, 3, none⟩ (d)) :=
  (((h.setCell hq _).setCell hq _).setCell hq _).setCell hq _
theorem Own.lt {w : World} {base n c : Nat} {e : TypeId} {A : Option Addr} {xs : List Int} (h : Own w base e A n c xs) : ∀ g, A = some ⟨g, 0, none⟩ → base ≤ g ∧ g < w.heap.size := fun g hg => by
  rcases h.form with ⟨h0, _⟩ | ⟨b0, _, h0, h1, h2, _⟩
  · rw [h0] at hg; cases hg
  · rw [h0] at hg; injection hg with hg; injection hg with hg; subst hg; exact ⟨h1, h2⟩

/-- A terrain and errno 0 are returned, the terrain in new memory. -/
def TerRE (w : World) (W H : Int) (g p : List Int) (e : Ending) (w' : World) : Prop :=
  ∃ A n c A2 m c2, e = .returned (.tuple #[.agg #[.int .i64 W, .int .i64 H, .slice A n c, .slice A2 m c2], .int .i64 0]) ∧ Own w' w.heap.size 3 A n c g ∧ Own w' w.heap.size 3 A2 m c2 p ∧ Dis A A2 ∧ Below w.heap.size w w'
/-- The empty terrain and errno 2 are returned. -/
def TerNo (w : World) (e : Ending) (w' : World) : Prop :=
  e = .returned (.tuple #[.agg #[.int .i64 0, .int .i64 0, .slice none 0 0, .slice none 0 0], .int .i64 2]) ∧ Below w.heap.size w w'

set_option maxHeartbeats 1000000 in
theorem flat_no (W H g p : Int) (w : World) (h : ¬ (1 ≤ W ∧ W ≤ 64 ∧ 1 ≤ H ∧ H ≤ 64 ∧ 0 ≤ g ∧ g ≤ 9000 ∧ 0 ≤ p ∧ p ≤ 1000000)) :
    Calls Try.prog 26 #[.int .i64 W, .int .i64 H, .int .i64 g, .int .i64 p] w (TerNo w) := by
  have kk : (W < 1 ∨ 64 < W) ∨ ((1 ≤ W ∧ W ≤ 64) ∧ (H < 1 ∨ 64 < H)) ∨ ((1 ≤ W ∧ W ≤ 64) ∧ (1 ≤ H ∧ H ≤ 64) ∧ (g < 0 ∨ 9000 < g)) ∨ ((1 ≤ W ∧ W ≤ 64) ∧ (1 ≤ H ∧ H ≤ 64) ∧ (0 ≤ g ∧ g ≤ 9000) ∧ (p < 0 ∨ 1000000 < p)) := by omega
  clear h
  rcases kk with k1 | ⟨⟨k1, k2⟩, k3⟩ | ⟨⟨k1, k2⟩, ⟨k3, k4⟩, k5⟩ | ⟨⟨k1, k2⟩, ⟨k3, k4⟩, ⟨k5, k6⟩, k7⟩
  all_goals
    go_enter Try.func26, Try.ntmps26
    go_wp2_with (first | (go_at_call 42; (first | refine (within_yes _ _ _ _ (by omega) (by omega)).mono ?_ | refine (within_no _ _ _ _ (by omega)).mono ?_); rintro e w' ⟨rfl, rfl⟩))
    refine bodyPost_ret (v := .tuple #[.agg #[.int .i64 0, .int .i64 0, .slice none 0 0, .slice none 0 0], .int .i64 2]) (by simp [results, Try.results26, go_sem]) rfl ⟨rfl, ?_⟩
    exact (Below.refl _ _).alloc (Nat.le_refl _) _

set_option maxHeartbeats 1000000 in
theorem flat_yes (W H g p : Int) (N : Nat) (w : World) (k1 : 1 ≤ W) (k2 : W ≤ 64) (k3 : 1 ≤ H) (k4 : H ≤ 64) (k5 : 0 ≤ g) (k6 : g ≤ 9000) (k7 : 0 ≤ p) (k8 : p ≤ 1000000) (hN : W * H = N) :
    Calls Try.prog 26 #[.int .i64 W, .int .i64 H, .int .i64 g, .int .i64 p] w (TerRE w W H (List.replicate N g) (List.replicate N p)) := by
  obtain ⟨b1, b2⟩ := wh_bd k1 k2 k3 k4
  have n1 : 1 ≤ N := by omega
  have n2 : N ≤ 4096 := by omega
  go_enter Try.func26, Try.ntmps26
  go_wp2_with (first | (go_at_call 42; (first | refine (within_yes _ _ _ _ (by omega) (by omega)).mono ?_ | refine (within_no _ _ _ _ (by omega)).mono ?_); rintro e w' ⟨rfl, rfl⟩) | fail)
  obtain ⟨W1, hW1⟩ : ∃ W1, W1 = ((w.alloc (.cells #[.int .i64 0, .int .i64 0, .slice none 0 0, .slice none 0 0] 24)).alloc (.cells #[.int .i64 g] 3)) := ⟨_, rfl⟩
  have s1 : W1.heap.size = w.heap.size + 2 := by rw [hW1]; simp
  have c1 : W1.cell? ⟨w.heap.size + 1, 0, none⟩ = some (.int .i64 g) := by rw [hW1]; go_simp
  have z0 : W1.cell? ⟨w.heap.size, 0, none⟩ = some (.int .i64 0) := by rw [hW1]; go_simp
  have z1 : W1.cell? ⟨w.heap.size, 1, none⟩ = some (.int .i64 0) := by rw [hW1]; go_simp
  have z2 : W1.cell? ⟨w.heap.size, 2, none⟩ = some (.slice none 0 0) := by rw [hW1]; go_simp
  have z3 : W1.cell? ⟨w.heap.size, 3, none⟩ = some (.slice none 0 0) := by rw [hW1]; go_simp
  have f0 : W1.frozen? ⟨w.heap.size, 0, none⟩ = false := by rw [hW1]; go_simp
  have f1 : W1.frozen? ⟨w.heap.size, 1, none⟩ = false := by rw [hW1]; go_simp
  have f2 : W1.frozen? ⟨w.heap.size, 2, none⟩ = false := by rw [hW1]; go_simp
  have f3 : W1.frozen? ⟨w.heap.size, 3, none⟩ = false := by rw [hW1]; go_simp
  have B1 : Below w.heap.size w W1 := by rw [hW1]; exact ((Below.refl _ _).alloc (Nat.le_refl _) _).alloc (by simp) _
  rw [← hW1]
  refine (repeat_one (w.heap.size + 1) 0 1 N g W1 c1 n1 n2).mono ?_
  rintro e w2 ⟨A, rfl, hown, hb⟩
  have L2 : w.heap.size + 2 ≤ w2.heap.size := by have := hb.size; omega
  have z0 := gcell hb (by omega) z0
  have z1 := gcell hb (by omega) z1
  have z2 := gcell hb (by omega) z2
  have z3 := gcell hb (by omega) z3
  have f0 := gfrozen hb (by omega) f0
  have f1 := gfrozen hb (by omega) f1
  have f2 := gfrozen hb (by omega) f2
  have f3 := gfrozen hb (by omega) f3
  have B2 := Lib.hid (chain B1 hb)
  have HA := Lib.hid hown
  have HS1 := Lib.hid s1
  clear hown hb s1 c1 hW1 B1
  go_wp2_with fail
  obtain ⟨W3, hW3⟩ : ∃ W3, W3 = (w2.alloc (.cells #[.int .i64 p] 3)) := ⟨_, rfl⟩
  have s3 : W3.heap.size = w2.heap.size + 1 := by rw [hW3]; simp
  have c3 : W3.cell? ⟨w2.heap.size, 0, none⟩ = some (.int .i64 p) := by rw [hW3]; go_simp
  have b3 : Below w2.heap.size w2 W3 := by rw [hW3]; exact (Below.refl _ _).alloc (Nat.le_refl _) _
  rw [← hW3]
  refine (repeat_one w2.heap.size 0 1 N p W3 c3 n1 n2).mono ?_
  rintro e w4 ⟨A2, rfl, hown2, hb4⟩
  have G := chain b3 hb4
  have L4 : w.heap.size + 2 ≤ w4.heap.size := by have := G.size; omega
  have z0 := gcell G (by omega) z0
  have z1 := gcell G (by omega) z1
  have z2 := gcell G (by omega) z2
  have z3 := gcell G (by omega) z3
  have f0 := gfrozen G (by omega) f0
  have f1 := gfrozen G (by omega) f1
  have f2 := gfrozen G (by omega) f2
  have f3 := gfrozen G (by omega) f3
  have B4 := Lib.hid (chain B2.out G)
  have HA1 := Lib.hid (HA.out.next G)
  have HA2 := Lib.hid hown2
  have HD : Hid (Dis A A2) := fun b b' h1 h2 => by
    have q1 := (HA.out.lt b h1).2
    have q2 := (hown2.lt b' h2).1
    omega
  have HS3 := Lib.hid s3
  clear hown2 hb4 s3 c3 hW3 b3 G B2 HA
  have q1 : w.heap.size < w4.heap.size := by omega
  have q2 : w.heap.size ≠ w4.heap.size := by omega
  have q3 : w4.heap.size ≠ w.heap.size := by omega
  go_wp2
  obtain ⟨y0, y1, y2, y3⟩ := set4_at (a := .int .i64 W) (b := .int .i64 H) (c := .slice A N N) (d := .slice A2 N N) z0 z1 z2 z3
  refine bodyPost_ret (v := .tuple #[.agg #[.int .i64 W, .int .i64 H, .slice A N N, .slice A2 N N], .int .i64 0]) (by simp [results, Try.results26, go_sem, y0, y1, y2, y3, q1, q2, q3]) rfl ⟨A, N, N, A2, N, N, rfl, ?_, ?_, HD.out, ?_⟩
  · have e := HS1.out
    exact ((HA1.out.less (by omega)).far4 (fun b hb => by have := (HA1.out.lt b hb).1; omega)).alloc _
  · have e := HS3.out
    exact ((HA2.out.less (by omega)).far4 (fun b hb => by have := (HA2.out.lt b hb).1; omega)).alloc _
  · exact (below_set4 B4.out (Nat.le_refl _)).alloc (by rw [set4_size]; omega) _
end Go.Proofs.Ytpoceidbiamgaaa
