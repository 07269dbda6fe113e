/- Contracts of descend.Price, Loss, New and of the reference's Price, Loss. -/
import Derived.Test.YtfgobighpkemkaaDoorW8
namespace Go.Proofs.YtfgobighpkemkaaDoor
open Go.RowKit

theorem price_bd {v b h o : Int} (hn : offOk v b h o) : 0 ≤ priceI v b h o ∧ priceI v b h o ≤ 1000000000 := by
  obtain ⟨⟨k1, k2, k3, k4⟩, hr⟩ := hn
  have hS0 : 0 ≤ worth h - worth o := by have := worth_mono hr.1 hr.2.1 hr.2.2.1 hr.2.2.2; omega
  have hS1 : worth h - worth o ≤ 1000 := by have := worth_bd h; have := worth_bd o; omega
  have m1 := mul_bd (by omega : 0 ≤ v) k2 k3 k4
  have m4 := mul_bd m1.1 (by have := m1.2; omega : v * b ≤ 1000000000000000) hS0 hS1
  unfold priceI
  omega
theorem offOk_foll {O v b h o : Int} (hO : 1 ≤ O) (hn : offOk v b h o) : offOk v (foll O b) h o := by
  obtain ⟨⟨k1, k2, k3, k4⟩, hr⟩ := hn
  have := foll_bd hO k3
  exact ⟨⟨k1, k2, by omega, by omega⟩, hr⟩

set_option maxHeartbeats 400000 in
theorem price_bad (O b r v h o : Int) (w : World) (hv : vB O b r = false) :
    Calls Tryd.prog 24 #[.agg #[.int .i64 O, .int .i64 b, .int .i64 r], .int .i64 v, .int .i64 h, .int .i64 o] w fun e w' => e = .returned (.tuple #[.int .i64 0, .int .i64 2]) ∧ Below w.heap.size w w' := by
  have hb0 := (Below.refl w.heap.size w).alloc (Nat.le_refl _) (.cells #[.int .i64 O, .int .i64 b, .int .i64 r] 23)
  go_enter Tryd.func24, Tryd.ntmps24
  go_wp2_with fail
  refine (valid_any O b r _).mono ?_
  rintro e w1 ⟨rfl, hb1⟩
  go_wp2
  go_ret2
  exact ⟨rfl, chain hb0 hb1⟩

set_option maxHeartbeats 400000 in
theorem price_no (O b r v h o : Int) (w : World) (hv : vB O b r = true) (hn : offNo v b h o) :
    Calls Tryd.prog 24 #[.agg #[.int .i64 O, .int .i64 b, .int .i64 r], .int .i64 v, .int .i64 h, .int .i64 o] w fun e w' => e = .returned (.tuple #[.int .i64 0, .int .i64 2]) ∧ Below w.heap.size w w' := by
  have HN := Lib.hid hn
  clear hn
  have hb0 := (Below.refl w.heap.size w).alloc (Nat.le_refl _) (.cells #[.int .i64 O, .int .i64 b, .int .i64 r] 23)
  go_enter Tryd.func24, Tryd.ntmps24
  go_wp2_with fail
  refine (valid_any O b r _).mono ?_
  rintro e w1 ⟨rfl, hb1⟩
  have c0 : w1.cell? ⟨w.heap.size, 0, none⟩ = some (.int .i64 O) := (hb1.cell (p := ⟨w.heap.size, 0, none⟩) (by simp)).trans (by go_simp)
  have c1 : w1.cell? ⟨w.heap.size, 1, none⟩ = some (.int .i64 b) := (hb1.cell (p := ⟨w.heap.size, 1, none⟩) (by simp)).trans (by go_simp)
  have c2 : w1.cell? ⟨w.heap.size, 2, none⟩ = some (.int .i64 r) := (hb1.cell (p := ⟨w.heap.size, 2, none⟩) (by simp)).trans (by go_simp)
  go_wp2_with fail
  refine (offer_no v b h o _ HN.out).mono ?_
  rintro e w2 ⟨rfl, hb2⟩
  go_wp2
  go_ret2
  exact ⟨rfl, chain (chain hb0 hb1) hb2⟩

set_option maxHeartbeats 400000 in
theorem price_yes (O b r v h o : Int) (w : World) (hw : Wor w) (hv : vB O b r = true) (hn : offOk v b h o) :
    Calls Tryd.prog 24 #[.agg #[.int .i64 O, .int .i64 b, .int .i64 r], .int .i64 v, .int .i64 h, .int .i64 o] w fun e w' => e = .returned (.tuple #[.int .i64 (priceI v b h o), .int .i64 0]) ∧ Below w.heap.size w w' := by
  have HN := Lib.hid hn
  clear hn
  have hb0 := (Below.refl w.heap.size w).alloc (Nat.le_refl _) (.cells #[.int .i64 O, .int .i64 b, .int .i64 r] 23)
  go_enter Tryd.func24, Tryd.ntmps24
  go_wp2_with fail
  refine (valid_any O b r _).mono ?_
  rintro e w1 ⟨rfl, hb1⟩
  have c0 : w1.cell? ⟨w.heap.size, 0, none⟩ = some (.int .i64 O) := (hb1.cell (p := ⟨w.heap.size, 0, none⟩) (by simp)).trans (by go_simp)
  have c1 : w1.cell? ⟨w.heap.size, 1, none⟩ = some (.int .i64 b) := (hb1.cell (p := ⟨w.heap.size, 1, none⟩) (by simp)).trans (by go_simp)
  have c2 : w1.cell? ⟨w.heap.size, 2, none⟩ = some (.int .i64 r) := (hb1.cell (p := ⟨w.heap.size, 2, none⟩) (by simp)).trans (by go_simp)
  have HW := Lib.hid ((hw.next hb0).next hb1)
  go_wp2_with fail
  refine (offer_yes v b h o _ HW.out HN.out).mono ?_
  rintro e w2 ⟨rfl, hb2⟩
  go_wp2
  go_ret2
  exact ⟨rfl, chain (chain hb0 hb1) hb2⟩

set_option maxHeartbeats 400000 in
theorem refPrice_bad (O b r v h o : Int) (w : World) (hv : vB O b r = false) :
    Calls Tryd.prog 25 #[.agg #[.int .i64 O, .int .i64 b, .int .i64 r], .int .i64 v, .int .i64 h, .int .i64 o] w fun e w' => e = .returned (.tuple #[.int .i64 0, .int .i64 2]) ∧ Below w.heap.size w w' := by
  have hb0 := (Below.refl w.heap.size w).alloc (Nat.le_refl _) (.cells #[.int .i64 O, .int .i64 b, .int .i64 r] 23)
  go_enter Tryd.func25, Tryd.ntmps25
  go_wp2_with fail
  refine (refValid_any O b r _).mono ?_
  rintro e w1 ⟨rfl, hb1⟩
  go_wp2
  go_ret2
  exact ⟨rfl, chain hb0 hb1⟩

set_option maxHeartbeats 400000 in
theorem refPrice_no (O b r v h o : Int) (w : World) (hv : vB O b r = true) (hn : offNo v b h o) :
    Calls Tryd.prog 25 #[.agg #[.int .i64 O, .int .i64 b, .int .i64 r], .int .i64 v, .int .i64 h, .int .i64 o] w fun e w' => e = .returned (.tuple #[.int .i64 0, .int .i64 2]) ∧ Below w.heap.size w w' := by
  have HN := Lib.hid hn
  clear hn
  have hb0 := (Below.refl w.heap.size w).alloc (Nat.le_refl _) (.cells #[.int .i64 O, .int .i64 b, .int .i64 r] 23)
  go_enter Tryd.func25, Tryd.ntmps25
  go_wp2_with fail
  refine (refValid_any O b r _).mono ?_
  rintro e w1 ⟨rfl, hb1⟩
  have c0 : w1.cell? ⟨w.heap.size, 0, none⟩ = some (.int .i64 O) := (hb1.cell (p := ⟨w.heap.size, 0, none⟩) (by simp)).trans (by go_simp)
  have c1 : w1.cell? ⟨w.heap.size, 1, none⟩ = some (.int .i64 b) := (hb1.cell (p := ⟨w.heap.size, 1, none⟩) (by simp)).trans (by go_simp)
  have c2 : w1.cell? ⟨w.heap.size, 2, none⟩ = some (.int .i64 r) := (hb1.cell (p := ⟨w.heap.size, 2, none⟩) (by simp)).trans (by go_simp)
  go_wp2_with fail
  refine (refOffer_no v b h o _ HN.out).mono ?_
  rintro e w2 ⟨rfl, rfl⟩
  go_wp2
  go_ret2
  exact ⟨rfl, chain hb0 hb1⟩

set_option maxHeartbeats 400000 in
theorem refPrice_yes (O b r v h o : Int) (w : World) (hv : vB O b r = true) (hn : offOk v b h o) :
    Calls Tryd.prog 25 #[.agg #[.int .i64 O, .int .i64 b, .int .i64 r], .int .i64 v, .int .i64 h, .int .i64 o] w fun e w' => e = .returned (.tuple #[.int .i64 (priceI v b h o), .int .i64 0]) ∧ Below w.heap.size w w' := by
  have HN := Lib.hid hn
  clear hn
  have hb0 := (Below.refl w.heap.size w).alloc (Nat.le_refl _) (.cells #[.int .i64 O, .int .i64 b, .int .i64 r] 23)
  go_enter Tryd.func25, Tryd.ntmps25
  go_wp2_with fail
  refine (refValid_any O b r _).mono ?_
  rintro e w1 ⟨rfl, hb1⟩
  have c0 : w1.cell? ⟨w.heap.size, 0, none⟩ = some (.int .i64 O) := (hb1.cell (p := ⟨w.heap.size, 0, none⟩) (by simp)).trans (by go_simp)
  have c1 : w1.cell? ⟨w.heap.size, 1, none⟩ = some (.int .i64 b) := (hb1.cell (p := ⟨w.heap.size, 1, none⟩) (by simp)).trans (by go_simp)
  have c2 : w1.cell? ⟨w.heap.size, 2, none⟩ = some (.int .i64 r) := (hb1.cell (p := ⟨w.heap.size, 2, none⟩) (by simp)).trans (by go_simp)
  go_wp2_with fail
  refine (refOffer_yes v b h o _ HN.out).mono ?_
  rintro e w2 ⟨rfl, rfl⟩
  go_wp2
  go_ret2
  exact ⟨rfl, chain hb0 hb1⟩

set_option maxHeartbeats 400000 in
theorem loss_bad (O b r v h o : Int) (w : World) (hv : vB O b r = false) :
    Calls Tryd.prog 26 #[.agg #[.int .i64 O, .int .i64 b, .int .i64 r], .int .i64 v, .int .i64 h, .int .i64 o] w fun e w' => e = .returned (.tuple #[.int .i64 0, .int .i64 2]) ∧ Below w.heap.size w w' := by
  have hb0 := (Below.refl w.heap.size w).alloc (Nat.le_refl _) (.cells #[.int .i64 O, .int .i64 b, .int .i64 r] 23)
  go_enter Tryd.func26, Tryd.ntmps26
  go_wp2_with fail
  refine (price_bad O b r v h o _ hv).mono ?_
  rintro e w1 ⟨rfl, hb1⟩
  go_wp2
  go_ret2
  exact ⟨rfl, chain hb0 hb1⟩

set_option maxHeartbeats 400000 in
theorem loss_no (O b r v h o : Int) (w : World) (hv : vB O b r = true) (hn : offNo v b h o) :
    Calls Tryd.prog 26 #[.agg #[.int .i64 O, .int .i64 b, .int .i64 r], .int .i64 v, .int .i64 h, .int .i64 o] w fun e w' => e = .returned (.tuple #[.int .i64 0, .int .i64 2]) ∧ Below w.heap.size w w' := by
  have HN := Lib.hid hn
  clear hn
  have hb0 := (Below.refl w.heap.size w).alloc (Nat.le_refl _) (.cells #[.int .i64 O, .int .i64 b, .int .i64 r] 23)
  go_enter Tryd.func26, Tryd.ntmps26
  go_wp2_with fail
  refine (price_no O b r v h o _ hv HN.out).mono ?_
  rintro e w1 ⟨rfl, hb1⟩
  go_wp2
  go_ret2
  exact ⟨rfl, chain hb0 hb1⟩

set_option maxHeartbeats 400000 in
theorem refLoss_bad (O b r v h o : Int) (w : World) (hv : vB O b r = false) :
    Calls Tryd.prog 27 #[.agg #[.int .i64 O, .int .i64 b, .int .i64 r], .int .i64 v, .int .i64 h, .int .i64 o] w fun e w' => e = .returned (.tuple #[.int .i64 0, .int .i64 2]) ∧ Below w.heap.size w w' := by
  have hb0 := (Below.refl w.heap.size w).alloc (Nat.le_refl _) (.cells #[.int .i64 O, .int .i64 b, .int .i64 r] 23)
  go_enter Tryd.func27, Tryd.ntmps27
  go_wp2_with fail
  refine (refPrice_bad O b r v h o _ hv).mono ?_
  rintro e w1 ⟨rfl, hb1⟩
  go_wp2
  go_ret2
  exact ⟨rfl, chain hb0 hb1⟩

set_option maxHeartbeats 400000 in
theorem refLoss_no (O b r v h o : Int) (w : World) (hv : vB O b r = true) (hn : offNo v b h o) :
    Calls Tryd.prog 27 #[.agg #[.int .i64 O, .int .i64 b, .int .i64 r], .int .i64 v, .int .i64 h, .int .i64 o] w fun e w' => e = .returned (.tuple #[.int .i64 0, .int .i64 2]) ∧ Below w.heap.size w w' := by
  have HN := Lib.hid hn
  clear hn
  have hb0 := (Below.refl w.heap.size w).alloc (Nat.le_refl _) (.cells #[.int .i64 O, .int .i64 b, .int .i64 r] 23)
  go_enter Tryd.func27, Tryd.ntmps27
  go_wp2_with fail
  refine (refPrice_no O b r v h o _ hv HN.out).mono ?_
  rintro e w1 ⟨rfl, hb1⟩
  go_wp2
  go_ret2
  exact ⟨rfl, chain hb0 hb1⟩

set_option maxHeartbeats 400000 in
theorem loss_yes (O b r v h o : Int) (w : World) (hw : Wor w) (hv : vB O b r = true) (hn : offOk v b h o) :
    Calls Tryd.prog 26 #[.agg #[.int .i64 O, .int .i64 b, .int .i64 r], .int .i64 v, .int .i64 h, .int .i64 o] w fun e w' => e = .returned (.tuple #[.int .i64 (priceI v b h o - priceI v (foll O b) h o), .int .i64 0]) ∧ Below w.heap.size w w' := by
  obtain ⟨v1, v2, v3, v4, v5, v6⟩ := (vB_iff O b r).1 hv
  have HN := Lib.hid hn
  have HF := Lib.hid (offOk_foll v1 hn)
  have p1 := (price_bd hn).1
  have p2 := (price_bd hn).2
  have p3 := (price_bd HF.out).1
  have p4 := (price_bd HF.out).2
  clear hn
  have hb0 := (Below.refl w.heap.size w).alloc (Nat.le_refl _) (.cells #[.int .i64 O, .int .i64 b, .int .i64 r] 23)
  have HW := Lib.hid (hw.next hb0)
  clear hw
  go_enter Tryd.func26, Tryd.ntmps26
  go_wp2_with fail
  refine (price_yes O b r v h o _ HW.out hv HN.out).mono ?_
  rintro e w1 ⟨rfl, hb1⟩
  have c0 : w1.cell? ⟨w.heap.size, 0, none⟩ = some (.int .i64 O) := (hb1.cell (p := ⟨w.heap.size, 0, none⟩) (by simp)).trans (by go_simp)
  have c1 : w1.cell? ⟨w.heap.size, 1, none⟩ = some (.int .i64 b) := (hb1.cell (p := ⟨w.heap.size, 1, none⟩) (by simp)).trans (by go_simp)
  have c2 : w1.cell? ⟨w.heap.size, 2, none⟩ = some (.int .i64 r) := (hb1.cell (p := ⟨w.heap.size, 2, none⟩) (by simp)).trans (by go_simp)
  go_wp2_with (go_at_call 29; refine (foll_any O b _ v1 v2 v3 (by omega)).mono ?_; rintro e w' ⟨rfl, rfl⟩)
  refine (offer_yes v (foll O b) h o _ (HW.out.next hb1) HF.out).mono ?_
  rintro e w2 ⟨rfl, hb2⟩
  go_wp2
  go_ret2
  exact ⟨rfl, chain (chain hb0 hb1) hb2⟩

set_option maxHeartbeats 400000 in
theorem refLoss_yes (O b r v h o : Int) (w : World) (hv : vB O b r = true) (hn : offOk v b h o) :
    Calls Tryd.prog 27 #[.agg #[.int .i64 O, .int .i64 b, .int .i64 r], .int .i64 v, .int .i64 h, .int .i64 o] w fun e w' => e = .returned (.tuple #[.int .i64 (priceI v b h o - priceI v (foll O b) h o), .int .i64 0]) ∧ Below w.heap.size w w' := by
  obtain ⟨v1, v2, v3, v4, v5, v6⟩ := (vB_iff O b r).1 hv
  have HN := Lib.hid hn
  have HF := Lib.hid (offOk_foll v1 hn)
  have p1 := (price_bd hn).1
  have p2 := (price_bd hn).2
  have p3 := (price_bd HF.out).1
  have p4 := (price_bd HF.out).2
  clear hn
  have hb0 := (Below.refl w.heap.size w).alloc (Nat.le_refl _) (.cells #[.int .i64 O, .int .i64 b, .int .i64 r] 23)
  have hfb := fall_bd v1 v3
  have e1 : IntKind.i64.wrap (b - fall O b) = foll O b := IntWalk.i64_in _ (by omega)
  clear hfb
  go_enter Tryd.func27, Tryd.ntmps27
  go_wp2_with fail
  refine (refPrice_yes O b r v h o _ hv HN.out).mono ?_
  rintro e w1 ⟨rfl, hb1⟩
  have c0 : w1.cell? ⟨w.heap.size, 0, none⟩ = some (.int .i64 O) := (hb1.cell (p := ⟨w.heap.size, 0, none⟩) (by simp)).trans (by go_simp)
  have c1 : w1.cell? ⟨w.heap.size, 1, none⟩ = some (.int .i64 b) := (hb1.cell (p := ⟨w.heap.size, 1, none⟩) (by simp)).trans (by go_simp)
  have c2 : w1.cell? ⟨w.heap.size, 2, none⟩ = some (.int .i64 r) := (hb1.cell (p := ⟨w.heap.size, 2, none⟩) (by simp)).trans (by go_simp)
  go_wp2_with fail
  go_quiet ((first | (go_at_call 30; exact Calls.quiet_of_same ((falls_any O b _ v1 v2 v3 (by omega)).mono fun _ _ ⟨a, b⟩ => ⟨a, b.symm⟩)) | (go_at_call 33; exact Calls.quiet_of_same ((refOffer_yes v (foll O b) h o _ HF.out).mono fun _ _ ⟨a, b⟩ => ⟨a, b.symm⟩))))
  go_wp2
  go_ret2
  exact ⟨rfl, below_drewN (chain hb0 hb1) _⟩

set_option maxHeartbeats 400000 in
theorem new_no (O : Int) (w : World) (hv : vB O O 0 = false) : Calls Tryd.prog 28 #[.int .i64 O] w (ClkR w 0 0 0 2) := by
  have hb0 : Below w.heap.size w ((w.alloc (.cells #[.int .i64 0, .int .i64 0, .int .i64 0] 23)).alloc (.cells #[.int .i64 O, .int .i64 O, .int .i64 0] 23)) := ((Below.refl _ _).alloc (Nat.le_refl _) _).alloc (by simp) _
  go_enter Tryd.func28, Tryd.ntmps28
  go_wp2_with fail
  refine (valid_any O O 0 _).mono ?_
  rintro e w1 ⟨rfl, hb1⟩
  have u0 : w1.cell? ⟨w.heap.size, 0, none⟩ = some (.int .i64 0) := (hb1.cell (p := ⟨w.heap.size, 0, none⟩) (by simp <;> omega)).trans (by go_simp)
  have f0 : w1.frozen? ⟨w.heap.size, 0, none⟩ = false := (hb1.frozen (p := ⟨w.heap.size, 0, none⟩) (by simp <;> omega)).trans (by go_simp)
  have u1 : w1.cell? ⟨w.heap.size, 1, none⟩ = some (.int .i64 0) := (hb1.cell (p := ⟨w.heap.size, 1, none⟩) (by simp <;> omega)).trans (by go_simp)
  have f1 : w1.frozen? ⟨w.heap.size, 1, none⟩ = false := (hb1.frozen (p := ⟨w.heap.size, 1, none⟩) (by simp <;> omega)).trans (by go_simp)
  have u2 : w1.cell? ⟨w.heap.size, 2, none⟩ = some (.int .i64 0) := (hb1.cell (p := ⟨w.heap.size, 2, none⟩) (by simp <;> omega)).trans (by go_simp)
  have f2 : w1.frozen? ⟨w.heap.size, 2, none⟩ = false := (hb1.frozen (p := ⟨w.heap.size, 2, none⟩) (by simp <;> omega)).trans (by go_simp)
  have c0 : w1.cell? ⟨w.heap.size + 1, 0, none⟩ = some (.int .i64 O) := (hb1.cell (p := ⟨w.heap.size + 1, 0, none⟩) (by simp)).trans (by go_simp)
  have c1 : w1.cell? ⟨w.heap.size + 1, 1, none⟩ = some (.int .i64 O) := (hb1.cell (p := ⟨w.heap.size + 1, 1, none⟩) (by simp)).trans (by go_simp)
  have c2 : w1.cell? ⟨w.heap.size + 1, 2, none⟩ = some (.int .i64 0) := (hb1.cell (p := ⟨w.heap.size + 1, 2, none⟩) (by simp)).trans (by go_simp)
  go_wp2
  refine bodyPost_ret (v := .tuple #[.agg #[.int .i64 0, .int .i64 0, .int .i64 0], .int .i64 2]) (by simp [results, Tryd.results28, go_sem, u0, u1, u2]) rfl ⟨rfl, ?_⟩
  exact (((chain hb0 hb1).setCell (by simp) _).setCell (by simp) _).setCell (by simp) _

set_option maxHeartbeats 400000 in
theorem new_yes (O : Int) (w : World) (hv : vB O O 0 = true) : Calls Tryd.prog 28 #[.int .i64 O] w (ClkR w O O 0 0) := by
  have hb0 : Below w.heap.size w ((w.alloc (.cells #[.int .i64 0, .int .i64 0, .int .i64 0] 23)).alloc (.cells #[.int .i64 O, .int .i64 O, .int .i64 0] 23)) := ((Below.refl _ _).alloc (Nat.le_refl _) _).alloc (by simp) _
  go_enter Tryd.func28, Tryd.ntmps28
  go_wp2_with fail
  refine (valid_any O O 0 _).mono ?_
  rintro e w1 ⟨rfl, hb1⟩
  have u0 : w1.cell? ⟨w.heap.size, 0, none⟩ = some (.int .i64 0) := (hb1.cell (p := ⟨w.heap.size, 0, none⟩) (by simp <;> omega)).trans (by go_simp)
  have f0 : w1.frozen? ⟨w.heap.size, 0, none⟩ = false := (hb1.frozen (p := ⟨w.heap.size, 0, none⟩) (by simp <;> omega)).trans (by go_simp)
  have u1 : w1.cell? ⟨w.heap.size, 1, none⟩ = some (.int .i64 0) := (hb1.cell (p := ⟨w.heap.size, 1, none⟩) (by simp <;> omega)).trans (by go_simp)
  have f1 : w1.frozen? ⟨w.heap.size, 1, none⟩ = false := (hb1.frozen (p := ⟨w.heap.size, 1, none⟩) (by simp <;> omega)).trans (by go_simp)
  have u2 : w1.cell? ⟨w.heap.size, 2, none⟩ = some (.int .i64 0) := (hb1.cell (p := ⟨w.heap.size, 2, none⟩) (by simp <;> omega)).trans (by go_simp)
  have f2 : w1.frozen? ⟨w.heap.size, 2, none⟩ = false := (hb1.frozen (p := ⟨w.heap.size, 2, none⟩) (by simp <;> omega)).trans (by go_simp)
  have c0 : w1.cell? ⟨w.heap.size + 1, 0, none⟩ = some (.int .i64 O) := (hb1.cell (p := ⟨w.heap.size + 1, 0, none⟩) (by simp)).trans (by go_simp)
  have c1 : w1.cell? ⟨w.heap.size + 1, 1, none⟩ = some (.int .i64 O) := (hb1.cell (p := ⟨w.heap.size + 1, 1, none⟩) (by simp)).trans (by go_simp)
  have c2 : w1.cell? ⟨w.heap.size + 1, 2, none⟩ = some (.int .i64 0) := (hb1.cell (p := ⟨w.heap.size + 1, 2, none⟩) (by simp)).trans (by go_simp)
  go_wp2
  refine bodyPost_ret (v := .tuple #[.agg #[.int .i64 O, .int .i64 O, .int .i64 0], .int .i64 0]) (by simp [results, Tryd.results28, go_sem, u0, u1, u2]) rfl ⟨rfl, ?_⟩
  exact (((chain hb0 hb1).setCell (by simp) _).setCell (by simp) _).setCell (by simp) _
end Go.Proofs.YtfgobighpkemkaaDoor
