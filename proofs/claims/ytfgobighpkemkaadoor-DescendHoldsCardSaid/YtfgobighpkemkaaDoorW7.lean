/- Contracts of descend.After, Next and of the reference's. -/
import Derived.Test.YtfgobighpkemkaaDoorW6
namespace Go.Proofs.YtfgobighpkemkaaDoor
open Go.RowKit

/-- A clock and an error are returned. -/
def ClkR (w : World) (O b r er : Int) (e : Ending) (w' : World) : Prop := e = .returned (.tuple #[.agg #[.int .i64 O, .int .i64 b, .int .i64 r], .int .i64 er]) ∧ Below w.heap.size w w'
theorem grown_set (w : World) (g o : Nat) (u : Value) : w.grownBy (w.setCell ⟨g, o, none⟩ u) (some g) := ⟨rfl, rfl, rfl, by simp, fun i _ hne => Below.heap_setCell _ _ _ _ (by simpa using hne)⟩
theorem ClkR.trans {w a w' : World} {O b r er : Int} {e : Ending} (h : Below w.heap.size w a) (k : ClkR a O b r er e w') : ClkR w O b r er e w' := ⟨k.1, chain h k.2⟩

set_option maxHeartbeats 400000 in
theorem after_bad (O b r k : Int) (w : World) (hv : vB O b r = false) :
    Calls Tryd.prog 19 #[.agg #[.int .i64 O, .int .i64 b, .int .i64 r], .int .i64 k] w (ClkR w 0 0 0 2) := by
  have hb0 : Below w.heap.size w ((w.alloc (.cells #[.int .i64 O, .int .i64 b, .int .i64 r] 23)).alloc (.cells #[.int .i64 0, .int .i64 0, .int .i64 0] 23)) := ((Below.refl _ _).alloc (Nat.le_refl _) _).alloc (by simp) _
  go_enter Tryd.func19, Tryd.ntmps19
  go_wp2_with fail
  refine (left_no O b r _ hv).mono ?_
  rintro e w1 ⟨rfl, hb1⟩
  have u0 : w1.cell? ⟨w.heap.size + 1, 0, none⟩ = some (.int .i64 0) := (hb1.cell (p := ⟨w.heap.size + 1, 0, none⟩) (by simp)).trans (by go_simp)
  have v0 : w1.frozen? ⟨w.heap.size + 1, 0, none⟩ = false := (hb1.frozen (p := ⟨w.heap.size + 1, 0, none⟩) (by simp)).trans (by go_simp)
  have u1 : w1.cell? ⟨w.heap.size + 1, 1, none⟩ = some (.int .i64 0) := (hb1.cell (p := ⟨w.heap.size + 1, 1, none⟩) (by simp)).trans (by go_simp)
  have v1 : w1.frozen? ⟨w.heap.size + 1, 1, none⟩ = false := (hb1.frozen (p := ⟨w.heap.size + 1, 1, none⟩) (by simp)).trans (by go_simp)
  have u2 : w1.cell? ⟨w.heap.size + 1, 2, none⟩ = some (.int .i64 0) := (hb1.cell (p := ⟨w.heap.size + 1, 2, none⟩) (by simp)).trans (by go_simp)
  have v2 : w1.frozen? ⟨w.heap.size + 1, 2, none⟩ = false := (hb1.frozen (p := ⟨w.heap.size + 1, 2, none⟩) (by simp)).trans (by go_simp)
  have c0 : w1.cell? ⟨w.heap.size, 0, none⟩ = some (.int .i64 O) := (hb1.cell (p := ⟨w.heap.size, 0, none⟩) (by simp <;> omega)).trans (by go_simp)
  have f0 : w1.frozen? ⟨w.heap.size, 0, none⟩ = false := (hb1.frozen (p := ⟨w.heap.size, 0, none⟩) (by simp <;> omega)).trans (by go_simp)
  have c1 : w1.cell? ⟨w.heap.size, 1, none⟩ = some (.int .i64 b) := (hb1.cell (p := ⟨w.heap.size, 1, none⟩) (by simp <;> omega)).trans (by go_simp)
  have f1 : w1.frozen? ⟨w.heap.size, 1, none⟩ = false := (hb1.frozen (p := ⟨w.heap.size, 1, none⟩) (by simp <;> omega)).trans (by go_simp)
  have c2 : w1.cell? ⟨w.heap.size, 2, none⟩ = some (.int .i64 r) := (hb1.cell (p := ⟨w.heap.size, 2, none⟩) (by simp <;> omega)).trans (by go_simp)
  have f2 : w1.frozen? ⟨w.heap.size, 2, none⟩ = false := (hb1.frozen (p := ⟨w.heap.size, 2, none⟩) (by simp <;> omega)).trans (by go_simp)
  go_wp2
  refine bodyPost_ret (v := .tuple #[.agg #[.int .i64 0, .int .i64 0, .int .i64 0], .int .i64 2]) (by simp [results, Tryd.results19, go_sem, u0, u1, u2]) rfl ⟨rfl, ?_⟩
  exact (((chain hb0 hb1).setCell (by simp) _).setCell (by simp) _).setCell (by simp) _

set_option maxHeartbeats 400000 in
theorem after_neg (O b r k : Int) (w : World) (hv : vB O b r = true) (hk : k < 0) :
    Calls Tryd.prog 19 #[.agg #[.int .i64 O, .int .i64 b, .int .i64 r], .int .i64 k] w (ClkR w 0 0 0 2) := by
  have hb0 : Below w.heap.size w ((w.alloc (.cells #[.int .i64 O, .int .i64 b, .int .i64 r] 23)).alloc (.cells #[.int .i64 0, .int .i64 0, .int .i64 0] 23)) := ((Below.refl _ _).alloc (Nat.le_refl _) _).alloc (by simp) _
  go_enter Tryd.func19, Tryd.ntmps19
  go_wp2_with fail
  refine (left_yes O b r _ hv).mono ?_
  rintro e w1 ⟨rfl, hb1⟩
  have u0 : w1.cell? ⟨w.heap.size + 1, 0, none⟩ = some (.int .i64 0) := (hb1.cell (p := ⟨w.heap.size + 1, 0, none⟩) (by simp)).trans (by go_simp)
  have v0 : w1.frozen? ⟨w.heap.size + 1, 0, none⟩ = false := (hb1.frozen (p := ⟨w.heap.size + 1, 0, none⟩) (by simp)).trans (by go_simp)
  have u1 : w1.cell? ⟨w.heap.size + 1, 1, none⟩ = some (.int .i64 0) := (hb1.cell (p := ⟨w.heap.size + 1, 1, none⟩) (by simp)).trans (by go_simp)
  have v1 : w1.frozen? ⟨w.heap.size + 1, 1, none⟩ = false := (hb1.frozen (p := ⟨w.heap.size + 1, 1, none⟩) (by simp)).trans (by go_simp)
  have u2 : w1.cell? ⟨w.heap.size + 1, 2, none⟩ = some (.int .i64 0) := (hb1.cell (p := ⟨w.heap.size + 1, 2, none⟩) (by simp)).trans (by go_simp)
  have v2 : w1.frozen? ⟨w.heap.size + 1, 2, none⟩ = false := (hb1.frozen (p := ⟨w.heap.size + 1, 2, none⟩) (by simp)).trans (by go_simp)
  have c0 : w1.cell? ⟨w.heap.size, 0, none⟩ = some (.int .i64 O) := (hb1.cell (p := ⟨w.heap.size, 0, none⟩) (by simp <;> omega)).trans (by go_simp)
  have f0 : w1.frozen? ⟨w.heap.size, 0, none⟩ = false := (hb1.frozen (p := ⟨w.heap.size, 0, none⟩) (by simp <;> omega)).trans (by go_simp)
  have c1 : w1.cell? ⟨w.heap.size, 1, none⟩ = some (.int .i64 b) := (hb1.cell (p := ⟨w.heap.size, 1, none⟩) (by simp <;> omega)).trans (by go_simp)
  have f1 : w1.frozen? ⟨w.heap.size, 1, none⟩ = false := (hb1.frozen (p := ⟨w.heap.size, 1, none⟩) (by simp <;> omega)).trans (by go_simp)
  have c2 : w1.cell? ⟨w.heap.size, 2, none⟩ = some (.int .i64 r) := (hb1.cell (p := ⟨w.heap.size, 2, none⟩) (by simp <;> omega)).trans (by go_simp)
  have f2 : w1.frozen? ⟨w.heap.size, 2, none⟩ = false := (hb1.frozen (p := ⟨w.heap.size, 2, none⟩) (by simp <;> omega)).trans (by go_simp)
  go_wp2
  refine bodyPost_ret (v := .tuple #[.agg #[.int .i64 0, .int .i64 0, .int .i64 0], .int .i64 2]) (by simp [results, Tryd.results19, go_sem, u0, u1, u2]) rfl ⟨rfl, ?_⟩
  exact (((chain hb0 hb1).setCell (by simp) _).setCell (by simp) _).setCell (by simp) _

set_option maxHeartbeats 400000 in
theorem after_long (O b r k : Int) (w : World) (hv : vB O b r = true) (hk0 : 0 ≤ k) (hk : ((bases O b).length : Int) < k) :
    Calls Tryd.prog 19 #[.agg #[.int .i64 O, .int .i64 b, .int .i64 r], .int .i64 k] w (ClkR w 0 0 0 8) := by
  have hb0 : Below w.heap.size w ((w.alloc (.cells #[.int .i64 O, .int .i64 b, .int .i64 r] 23)).alloc (.cells #[.int .i64 0, .int .i64 0, .int .i64 0] 23)) := ((Below.refl _ _).alloc (Nat.le_refl _) _).alloc (by simp) _
  go_enter Tryd.func19, Tryd.ntmps19
  go_wp2_with fail
  refine (left_yes O b r _ hv).mono ?_
  rintro e w1 ⟨rfl, hb1⟩
  have u0 : w1.cell? ⟨w.heap.size + 1, 0, none⟩ = some (.int .i64 0) := (hb1.cell (p := ⟨w.heap.size + 1, 0, none⟩) (by simp)).trans (by go_simp)
  have v0 : w1.frozen? ⟨w.heap.size + 1, 0, none⟩ = false := (hb1.frozen (p := ⟨w.heap.size + 1, 0, none⟩) (by simp)).trans (by go_simp)
  have u1 : w1.cell? ⟨w.heap.size + 1, 1, none⟩ = some (.int .i64 0) := (hb1.cell (p := ⟨w.heap.size + 1, 1, none⟩) (by simp)).trans (by go_simp)
  have v1 : w1.frozen? ⟨w.heap.size + 1, 1, none⟩ = false := (hb1.frozen (p := ⟨w.heap.size + 1, 1, none⟩) (by simp)).trans (by go_simp)
  have u2 : w1.cell? ⟨w.heap.size + 1, 2, none⟩ = some (.int .i64 0) := (hb1.cell (p := ⟨w.heap.size + 1, 2, none⟩) (by simp)).trans (by go_simp)
  have v2 : w1.frozen? ⟨w.heap.size + 1, 2, none⟩ = false := (hb1.frozen (p := ⟨w.heap.size + 1, 2, none⟩) (by simp)).trans (by go_simp)
  have c0 : w1.cell? ⟨w.heap.size, 0, none⟩ = some (.int .i64 O) := (hb1.cell (p := ⟨w.heap.size, 0, none⟩) (by simp <;> omega)).trans (by go_simp)
  have f0 : w1.frozen? ⟨w.heap.size, 0, none⟩ = false := (hb1.frozen (p := ⟨w.heap.size, 0, none⟩) (by simp <;> omega)).trans (by go_simp)
  have c1 : w1.cell? ⟨w.heap.size, 1, none⟩ = some (.int .i64 b) := (hb1.cell (p := ⟨w.heap.size, 1, none⟩) (by simp <;> omega)).trans (by go_simp)
  have f1 : w1.frozen? ⟨w.heap.size, 1, none⟩ = false := (hb1.frozen (p := ⟨w.heap.size, 1, none⟩) (by simp <;> omega)).trans (by go_simp)
  have c2 : w1.cell? ⟨w.heap.size, 2, none⟩ = some (.int .i64 r) := (hb1.cell (p := ⟨w.heap.size, 2, none⟩) (by simp <;> omega)).trans (by go_simp)
  have f2 : w1.frozen? ⟨w.heap.size, 2, none⟩ = false := (hb1.frozen (p := ⟨w.heap.size, 2, none⟩) (by simp <;> omega)).trans (by go_simp)
  go_wp2
  refine bodyPost_ret (v := .tuple #[.agg #[.int .i64 0, .int .i64 0, .int .i64 0], .int .i64 8]) (by simp [results, Tryd.results19, go_sem, u0, u1, u2]) rfl ⟨rfl, ?_⟩
  exact (((chain hb0 hb1).setCell (by simp) _).setCell (by simp) _).setCell (by simp) _

set_option maxHeartbeats 400000 in
theorem after_full (O b r k : Int) (w : World) (hv : vB O b r = true) (hk0 : 0 ≤ k) (hk : k ≤ (bases O b).length) (hf : 1000000 < r + k) :
    Calls Tryd.prog 19 #[.agg #[.int .i64 O, .int .i64 b, .int .i64 r], .int .i64 k] w (ClkR w 0 0 0 7) := by
  have hb0 : Below w.heap.size w ((w.alloc (.cells #[.int .i64 O, .int .i64 b, .int .i64 r] 23)).alloc (.cells #[.int .i64 0, .int .i64 0, .int .i64 0] 23)) := ((Below.refl _ _).alloc (Nat.le_refl _) _).alloc (by simp) _
  obtain ⟨v1', v2', v3', v4', v5', v6'⟩ := (vB_iff O b r).1 hv
  have hlen := bases_len v1' v3' v4'
  go_enter Tryd.func19, Tryd.ntmps19
  go_wp2_with fail
  refine (left_yes O b r _ hv).mono ?_
  rintro e w1 ⟨rfl, hb1⟩
  have u0 : w1.cell? ⟨w.heap.size + 1, 0, none⟩ = some (.int .i64 0) := (hb1.cell (p := ⟨w.heap.size + 1, 0, none⟩) (by simp)).trans (by go_simp)
  have v0 : w1.frozen? ⟨w.heap.size + 1, 0, none⟩ = false := (hb1.frozen (p := ⟨w.heap.size + 1, 0, none⟩) (by simp)).trans (by go_simp)
  have u1 : w1.cell? ⟨w.heap.size + 1, 1, none⟩ = some (.int .i64 0) := (hb1.cell (p := ⟨w.heap.size + 1, 1, none⟩) (by simp)).trans (by go_simp)
  have v1 : w1.frozen? ⟨w.heap.size + 1, 1, none⟩ = false := (hb1.frozen (p := ⟨w.heap.size + 1, 1, none⟩) (by simp)).trans (by go_simp)
  have u2 : w1.cell? ⟨w.heap.size + 1, 2, none⟩ = some (.int .i64 0) := (hb1.cell (p := ⟨w.heap.size + 1, 2, none⟩) (by simp)).trans (by go_simp)
  have v2 : w1.frozen? ⟨w.heap.size + 1, 2, none⟩ = false := (hb1.frozen (p := ⟨w.heap.size + 1, 2, none⟩) (by simp)).trans (by go_simp)
  have c0 : w1.cell? ⟨w.heap.size, 0, none⟩ = some (.int .i64 O) := (hb1.cell (p := ⟨w.heap.size, 0, none⟩) (by simp <;> omega)).trans (by go_simp)
  have f0 : w1.frozen? ⟨w.heap.size, 0, none⟩ = false := (hb1.frozen (p := ⟨w.heap.size, 0, none⟩) (by simp <;> omega)).trans (by go_simp)
  have c1 : w1.cell? ⟨w.heap.size, 1, none⟩ = some (.int .i64 b) := (hb1.cell (p := ⟨w.heap.size, 1, none⟩) (by simp <;> omega)).trans (by go_simp)
  have f1 : w1.frozen? ⟨w.heap.size, 1, none⟩ = false := (hb1.frozen (p := ⟨w.heap.size, 1, none⟩) (by simp <;> omega)).trans (by go_simp)
  have c2 : w1.cell? ⟨w.heap.size, 2, none⟩ = some (.int .i64 r) := (hb1.cell (p := ⟨w.heap.size, 2, none⟩) (by simp <;> omega)).trans (by go_simp)
  have f2 : w1.frozen? ⟨w.heap.size, 2, none⟩ = false := (hb1.frozen (p := ⟨w.heap.size, 2, none⟩) (by simp <;> omega)).trans (by go_simp)
  go_wp2
  refine bodyPost_ret (v := .tuple #[.agg #[.int .i64 0, .int .i64 0, .int .i64 0], .int .i64 7]) (by simp [results, Tryd.results19, go_sem, u0, u1, u2]) rfl ⟨rfl, ?_⟩
  exact (((chain hb0 hb1).setCell (by simp) _).setCell (by simp) _).setCell (by simp) _

set_option maxHeartbeats 1000000 in
theorem after_yes (O b r k : Int) (w : World) (hv : vB O b r = true) (hk0 : 0 ≤ k) (hk : k ≤ (bases O b).length) (hf : r + k ≤ 1000000) :
    Calls Tryd.prog 19 #[.agg #[.int .i64 O, .int .i64 b, .int .i64 r], .int .i64 k] w (ClkR w O (after O b k.toNat) (r + k) 0) := by
  have hb0 : Below w.heap.size w ((w.alloc (.cells #[.int .i64 O, .int .i64 b, .int .i64 r] 23)).alloc (.cells #[.int .i64 0, .int .i64 0, .int .i64 0] 23)) := ((Below.refl _ _).alloc (Nat.le_refl _) _).alloc (by simp) _
  obtain ⟨v1', v2', v3', v4', v5', v6'⟩ := (vB_iff O b r).1 hv
  have hlen := bases_len v1' v3' v4'
  go_enter Tryd.func19, Tryd.ntmps19
  go_wp2_with fail
  refine (left_yes O b r _ hv).mono ?_
  rintro e w1 ⟨rfl, hb1⟩
  have u0 : w1.cell? ⟨w.heap.size + 1, 0, none⟩ = some (.int .i64 0) := (hb1.cell (p := ⟨w.heap.size + 1, 0, none⟩) (by simp)).trans (by go_simp)
  have v0 : w1.frozen? ⟨w.heap.size + 1, 0, none⟩ = false := (hb1.frozen (p := ⟨w.heap.size + 1, 0, none⟩) (by simp)).trans (by go_simp)
  have u1 : w1.cell? ⟨w.heap.size + 1, 1, none⟩ = some (.int .i64 0) := (hb1.cell (p := ⟨w.heap.size + 1, 1, none⟩) (by simp)).trans (by go_simp)
  have v1 : w1.frozen? ⟨w.heap.size + 1, 1, none⟩ = false := (hb1.frozen (p := ⟨w.heap.size + 1, 1, none⟩) (by simp)).trans (by go_simp)
  have u2 : w1.cell? ⟨w.heap.size + 1, 2, none⟩ = some (.int .i64 0) := (hb1.cell (p := ⟨w.heap.size + 1, 2, none⟩) (by simp)).trans (by go_simp)
  have v2 : w1.frozen? ⟨w.heap.size + 1, 2, none⟩ = false := (hb1.frozen (p := ⟨w.heap.size + 1, 2, none⟩) (by simp)).trans (by go_simp)
  have c0 : w1.cell? ⟨w.heap.size, 0, none⟩ = some (.int .i64 O) := (hb1.cell (p := ⟨w.heap.size, 0, none⟩) (by simp <;> omega)).trans (by go_simp)
  have f0 : w1.frozen? ⟨w.heap.size, 0, none⟩ = false := (hb1.frozen (p := ⟨w.heap.size, 0, none⟩) (by simp <;> omega)).trans (by go_simp)
  have c1 : w1.cell? ⟨w.heap.size, 1, none⟩ = some (.int .i64 b) := (hb1.cell (p := ⟨w.heap.size, 1, none⟩) (by simp <;> omega)).trans (by go_simp)
  have f1 : w1.frozen? ⟨w.heap.size, 1, none⟩ = false := (hb1.frozen (p := ⟨w.heap.size, 1, none⟩) (by simp <;> omega)).trans (by go_simp)
  have c2 : w1.cell? ⟨w.heap.size, 2, none⟩ = some (.int .i64 r) := (hb1.cell (p := ⟨w.heap.size, 2, none⟩) (by simp <;> omega)).trans (by go_simp)
  have f2 : w1.frozen? ⟨w.heap.size, 2, none⟩ = false := (hb1.frozen (p := ⟨w.heap.size, 2, none⟩) (by simp <;> omega)).trans (by go_simp)
  have l1 : w.heap.size + 1 < w1.heap.size := by have := hb1.size; simp at this; omega
  have HB := Lib.hid (chain hb0 hb1)
  clear hb0 hb1
  go_wp2_with fail
  go_loopw [31] (fun i wr => ∃ j : Nat, (j : Int) ≤ k ∧ i = .int .i64 j ∧ wr.cell? ⟨w.heap.size, 0, none⟩ = some (.int .i64 O) ∧ wr.cell? ⟨w.heap.size, 1, none⟩ = some (.int .i64 (after O b j)) ∧ wr.cell? ⟨w.heap.size, 2, none⟩ = some (.int .i64 (r + j)) ∧
      wr.frozen? ⟨w.heap.size, 1, none⟩ = false ∧ wr.frozen? ⟨w.heap.size, 2, none⟩ = false ∧ w1.grownBy wr (some w.heap.size)) (fun i _ => (k - intOf i).toNat)
  case atStart => exact ⟨0, hk0, rfl, c0, c1, by simpa using c2, f1, f2, World.grownBy.refl _ _⟩
  case round =>
    obtain ⟨j, hj, rfl, d0, d1, d2, g1, g2, hgr⟩ := hrel
    have hab := after_bd v1' v3' j
    have ha0 : 0 ≤ after O b j := hab.1
    have ha1 : after O b j ≤ b := hab.2
    have HG := Lib.hid hgr
    clear hab hgr
    by_cases hlt : (j : Int) < k
    · have ey : foll O (after O b j) = after O b (j + 1) := rfl
      go_wp2_with (go_at_call 29; refine (foll_any O (after O b j) _ v1' v2' ha0 (by omega)).mono ?_; rintro e w' ⟨rfl, rfl⟩)
      go_roundw
      case rel =>
        refine ⟨j + 1, by omega, by go_num, ?_, ?_, ?_, ?_, ?_, ?_⟩
        · rw [World.cell?_setCell_other _ _ _ _ (by simp), World.cell?_setCell_other _ _ _ _ (by simp)]; exact d0
        · rw [World.cell?_setCell_other _ _ _ _ (by simp), World.cell?_setCell_same' _ _ _ (by rw [d1]; rfl)]
        · rw [World.cell?_setCell_same' _ _ _ (by rw [World.cell?_setCell_other _ _ _ _ (by simp), d2]; rfl)]
          congr 2; omega
        · rw [World.frozen?_setCell, World.frozen?_setCell]; exact g1
        · rw [World.frozen?_setCell, World.frozen?_setCell]; exact g2
        · exact (HG.out.trans (grown_set _ _ _ _)).trans (grown_set _ _ _ _)
      case measure => simp [intOf]; omega
    · have hjk : k = (j : Int) := by omega
      have HJK := Lib.hid hjk
      have p0 : wr.cell? ⟨w.heap.size + 1, 0, none⟩ = some (.int .i64 0) := (cell_grown HG.out 0 l1 (by simp)).trans u0
      have p1 : wr.cell? ⟨w.heap.size + 1, 1, none⟩ = some (.int .i64 0) := (cell_grown HG.out 1 l1 (by simp)).trans u1
      have p2 : wr.cell? ⟨w.heap.size + 1, 2, none⟩ = some (.int .i64 0) := (cell_grown HG.out 2 l1 (by simp)).trans u2
      have q0 : wr.frozen? ⟨w.heap.size + 1, 0, none⟩ = false := (frozen_grown HG.out 0 l1 (by simp)).trans v0
      have q1 : wr.frozen? ⟨w.heap.size + 1, 1, none⟩ = false := (frozen_grown HG.out 1 l1 (by simp)).trans v1
      have q2 : wr.frozen? ⟨w.heap.size + 1, 2, none⟩ = false := (frozen_grown HG.out 2 l1 (by simp)).trans v2
      clear hjk
      go_wp2
      refine bodyPost_ret (v := .tuple #[.agg #[.int .i64 O, .int .i64 (after O b j), .int .i64 (r + j)], .int .i64 0]) (by simp [results, Tryd.results19, go_sem, p0, p1, p2]) rfl ⟨?_, ?_⟩
      · rw [HJK.out]; rfl
      · exact (((HB.out.grown HG.out HB.out.size (by intro i hi; injection hi with hi; omega)).setCell (by simp) _).setCell (by simp) _).setCell (by simp) _

set_option maxHeartbeats 400000 in
theorem next_bad (O b r : Int) (w : World) (hv : vB O b r = false) :
    Calls Tryd.prog 15 #[.agg #[.int .i64 O, .int .i64 b, .int .i64 r]] w (ClkR w 0 0 0 2) := by
  have hb0 : Below w.heap.size w ((w.alloc (.cells #[.int .i64 O, .int .i64 b, .int .i64 r] 23)).alloc (.cells #[.int .i64 0, .int .i64 0, .int .i64 0] 23)) := ((Below.refl _ _).alloc (Nat.le_refl _) _).alloc (by simp) _
  have key : Hid (Calls Tryd.prog 19 #[.agg #[.int .i64 O, .int .i64 b, .int .i64 r], .int .i64 1] ((w.alloc (.cells #[.int .i64 O, .int .i64 b, .int .i64 r] 23)).alloc (.cells #[.int .i64 0, .int .i64 0, .int .i64 0] 23)) (ClkR ((w.alloc (.cells #[.int .i64 O, .int .i64 b, .int .i64 r] 23)).alloc (.cells #[.int .i64 0, .int .i64 0, .int .i64 0] 23)) 0 0 0 2)) := after_bad O b r 1 ((w.alloc (.cells #[.int .i64 O, .int .i64 b, .int .i64 r] 23)).alloc (.cells #[.int .i64 0, .int .i64 0, .int .i64 0] 23)) hv
  clear hv
  go_enter Tryd.func15, Tryd.ntmps15
  go_wp2_with fail
  refine key.out.mono ?_
  rintro e w1 ⟨rfl, hb1⟩
  have u0 : w1.cell? ⟨w.heap.size + 1, 0, none⟩ = some (.int .i64 0) := (hb1.cell (p := ⟨w.heap.size + 1, 0, none⟩) (by simp)).trans (by go_simp)
  have v0 : w1.frozen? ⟨w.heap.size + 1, 0, none⟩ = false := (hb1.frozen (p := ⟨w.heap.size + 1, 0, none⟩) (by simp)).trans (by go_simp)
  have u1 : w1.cell? ⟨w.heap.size + 1, 1, none⟩ = some (.int .i64 0) := (hb1.cell (p := ⟨w.heap.size + 1, 1, none⟩) (by simp)).trans (by go_simp)
  have v1 : w1.frozen? ⟨w.heap.size + 1, 1, none⟩ = false := (hb1.frozen (p := ⟨w.heap.size + 1, 1, none⟩) (by simp)).trans (by go_simp)
  have u2 : w1.cell? ⟨w.heap.size + 1, 2, none⟩ = some (.int .i64 0) := (hb1.cell (p := ⟨w.heap.size + 1, 2, none⟩) (by simp)).trans (by go_simp)
  have v2 : w1.frozen? ⟨w.heap.size + 1, 2, none⟩ = false := (hb1.frozen (p := ⟨w.heap.size + 1, 2, none⟩) (by simp)).trans (by go_simp)
  go_wp2
  refine bodyPost_ret (v := .tuple #[.agg #[.int .i64 0, .int .i64 0, .int .i64 0], .int .i64 2]) (by simp [results, Tryd.results15, go_sem, u0, u1, u2]) rfl ⟨rfl, ?_⟩
  exact (((chain hb0 hb1).setCell (by simp) _).setCell (by simp) _).setCell (by simp) _

set_option maxHeartbeats 400000 in
theorem next_long (O b r : Int) (w : World) (hv : vB O b r = true) (hb : b = 0) :
    Calls Tryd.prog 15 #[.agg #[.int .i64 O, .int .i64 b, .int .i64 r]] w (ClkR w 0 0 0 8) := by
  have hb0 : Below w.heap.size w ((w.alloc (.cells #[.int .i64 O, .int .i64 b, .int .i64 r] 23)).alloc (.cells #[.int .i64 0, .int .i64 0, .int .i64 0] 23)) := ((Below.refl _ _).alloc (Nat.le_refl _) _).alloc (by simp) _
  have key : Hid (Calls Tryd.prog 19 #[.agg #[.int .i64 O, .int .i64 b, .int .i64 r], .int .i64 1] ((w.alloc (.cells #[.int .i64 O, .int .i64 b, .int .i64 r] 23)).alloc (.cells #[.int .i64 0, .int .i64 0, .int .i64 0] 23)) (ClkR ((w.alloc (.cells #[.int .i64 O, .int .i64 b, .int .i64 r] 23)).alloc (.cells #[.int .i64 0, .int .i64 0, .int .i64 0] 23)) 0 0 0 8)) := after_long O b r 1 ((w.alloc (.cells #[.int .i64 O, .int .i64 b, .int .i64 r] 23)).alloc (.cells #[.int .i64 0, .int .i64 0, .int .i64 0] 23)) hv (by omega) (by rw [hb, bases_zero]; simp)
  clear hb
  go_enter Tryd.func15, Tryd.ntmps15
  go_wp2_with fail
  refine key.out.mono ?_
  rintro e w1 ⟨rfl, hb1⟩
  have u0 : w1.cell? ⟨w.heap.size + 1, 0, none⟩ = some (.int .i64 0) := (hb1.cell (p := ⟨w.heap.size + 1, 0, none⟩) (by simp)).trans (by go_simp)
  have v0 : w1.frozen? ⟨w.heap.size + 1, 0, none⟩ = false := (hb1.frozen (p := ⟨w.heap.size + 1, 0, none⟩) (by simp)).trans (by go_simp)
  have u1 : w1.cell? ⟨w.heap.size + 1, 1, none⟩ = some (.int .i64 0) := (hb1.cell (p := ⟨w.heap.size + 1, 1, none⟩) (by simp)).trans (by go_simp)
  have v1 : w1.frozen? ⟨w.heap.size + 1, 1, none⟩ = false := (hb1.frozen (p := ⟨w.heap.size + 1, 1, none⟩) (by simp)).trans (by go_simp)
  have u2 : w1.cell? ⟨w.heap.size + 1, 2, none⟩ = some (.int .i64 0) := (hb1.cell (p := ⟨w.heap.size + 1, 2, none⟩) (by simp)).trans (by go_simp)
  have v2 : w1.frozen? ⟨w.heap.size + 1, 2, none⟩ = false := (hb1.frozen (p := ⟨w.heap.size + 1, 2, none⟩) (by simp)).trans (by go_simp)
  go_wp2
  refine bodyPost_ret (v := .tuple #[.agg #[.int .i64 0, .int .i64 0, .int .i64 0], .int .i64 8]) (by simp [results, Tryd.results15, go_sem, u0, u1, u2]) rfl ⟨rfl, ?_⟩
  exact (((chain hb0 hb1).setCell (by simp) _).setCell (by simp) _).setCell (by simp) _

set_option maxHeartbeats 400000 in
theorem next_full (O b r : Int) (w : World) (hv : vB O b r = true) (hb : 0 < b) (hr : r = 1000000) :
    Calls Tryd.prog 15 #[.agg #[.int .i64 O, .int .i64 b, .int .i64 r]] w (ClkR w 0 0 0 7) := by
  have hb0 : Below w.heap.size w ((w.alloc (.cells #[.int .i64 O, .int .i64 b, .int .i64 r] 23)).alloc (.cells #[.int .i64 0, .int .i64 0, .int .i64 0] 23)) := ((Below.refl _ _).alloc (Nat.le_refl _) _).alloc (by simp) _
  have key : Hid (Calls Tryd.prog 19 #[.agg #[.int .i64 O, .int .i64 b, .int .i64 r], .int .i64 1] ((w.alloc (.cells #[.int .i64 O, .int .i64 b, .int .i64 r] 23)).alloc (.cells #[.int .i64 0, .int .i64 0, .int .i64 0] 23)) (ClkR ((w.alloc (.cells #[.int .i64 O, .int .i64 b, .int .i64 r] 23)).alloc (.cells #[.int .i64 0, .int .i64 0, .int .i64 0] 23)) 0 0 0 7)) := after_full O b r 1 ((w.alloc (.cells #[.int .i64 O, .int .i64 b, .int .i64 r] 23)).alloc (.cells #[.int .i64 0, .int .i64 0, .int .i64 0] 23)) hv (by omega) (by have := bases_pos ((vB_iff O b r).1 hv).1 hb ((vB_iff O b r).1 hv).2.2.2.1; rw [this]; simp; omega) (by omega)
  clear hr hb
  go_enter Tryd.func15, Tryd.ntmps15
  go_wp2_with fail
  refine key.out.mono ?_
  rintro e w1 ⟨rfl, hb1⟩
  have u0 : w1.cell? ⟨w.heap.size + 1, 0, none⟩ = some (.int .i64 0) := (hb1.cell (p := ⟨w.heap.size + 1, 0, none⟩) (by simp)).trans (by go_simp)
  have v0 : w1.frozen? ⟨w.heap.size + 1, 0, none⟩ = false := (hb1.frozen (p := ⟨w.heap.size + 1, 0, none⟩) (by simp)).trans (by go_simp)
  have u1 : w1.cell? ⟨w.heap.size + 1, 1, none⟩ = some (.int .i64 0) := (hb1.cell (p := ⟨w.heap.size + 1, 1, none⟩) (by simp)).trans (by go_simp)
  have v1 : w1.frozen? ⟨w.heap.size + 1, 1, none⟩ = false := (hb1.frozen (p := ⟨w.heap.size + 1, 1, none⟩) (by simp)).trans (by go_simp)
  have u2 : w1.cell? ⟨w.heap.size + 1, 2, none⟩ = some (.int .i64 0) := (hb1.cell (p := ⟨w.heap.size + 1, 2, none⟩) (by simp)).trans (by go_simp)
  have v2 : w1.frozen? ⟨w.heap.size + 1, 2, none⟩ = false := (hb1.frozen (p := ⟨w.heap.size + 1, 2, none⟩) (by simp)).trans (by go_simp)
  go_wp2
  refine bodyPost_ret (v := .tuple #[.agg #[.int .i64 0, .int .i64 0, .int .i64 0], .int .i64 7]) (by simp [results, Tryd.results15, go_sem, u0, u1, u2]) rfl ⟨rfl, ?_⟩
  exact (((chain hb0 hb1).setCell (by simp) _).setCell (by simp) _).setCell (by simp) _

set_option maxHeartbeats 400000 in
theorem next_yes (O b r : Int) (w : World) (hv : vB O b r = true) (hb : 0 < b) (hr : r < 1000000) :
    Calls Tryd.prog 15 #[.agg #[.int .i64 O, .int .i64 b, .int .i64 r]] w (ClkR w O (foll O b) (r + 1) 0) := by
  have hb0 : Below w.heap.size w ((w.alloc (.cells #[.int .i64 O, .int .i64 b, .int .i64 r] 23)).alloc (.cells #[.int .i64 0, .int .i64 0, .int .i64 0] 23)) := ((Below.refl _ _).alloc (Nat.le_refl _) _).alloc (by simp) _
  have key : Hid (Calls Tryd.prog 19 #[.agg #[.int .i64 O, .int .i64 b, .int .i64 r], .int .i64 1] ((w.alloc (.cells #[.int .i64 O, .int .i64 b, .int .i64 r] 23)).alloc (.cells #[.int .i64 0, .int .i64 0, .int .i64 0] 23)) (ClkR ((w.alloc (.cells #[.int .i64 O, .int .i64 b, .int .i64 r] 23)).alloc (.cells #[.int .i64 0, .int .i64 0, .int .i64 0] 23)) O (foll O b) (r + 1) 0)) := after_yes O b r 1 ((w.alloc (.cells #[.int .i64 O, .int .i64 b, .int .i64 r] 23)).alloc (.cells #[.int .i64 0, .int .i64 0, .int .i64 0] 23)) hv (by omega) (by have := bases_pos ((vB_iff O b r).1 hv).1 hb ((vB_iff O b r).1 hv).2.2.2.1; rw [this]; simp; omega) (by omega)
  clear hr hb
  go_enter Tryd.func15, Tryd.ntmps15
  go_wp2_with fail
  refine key.out.mono ?_
  rintro e w1 ⟨rfl, hb1⟩
  have u0 : w1.cell? ⟨w.heap.size + 1, 0, none⟩ = some (.int .i64 0) := (hb1.cell (p := ⟨w.heap.size + 1, 0, none⟩) (by simp)).trans (by go_simp)
  have v0 : w1.frozen? ⟨w.heap.size + 1, 0, none⟩ = false := (hb1.frozen (p := ⟨w.heap.size + 1, 0, none⟩) (by simp)).trans (by go_simp)
  have u1 : w1.cell? ⟨w.heap.size + 1, 1, none⟩ = some (.int .i64 0) := (hb1.cell (p := ⟨w.heap.size + 1, 1, none⟩) (by simp)).trans (by go_simp)
  have v1 : w1.frozen? ⟨w.heap.size + 1, 1, none⟩ = false := (hb1.frozen (p := ⟨w.heap.size + 1, 1, none⟩) (by simp)).trans (by go_simp)
  have u2 : w1.cell? ⟨w.heap.size + 1, 2, none⟩ = some (.int .i64 0) := (hb1.cell (p := ⟨w.heap.size + 1, 2, none⟩) (by simp)).trans (by go_simp)
  have v2 : w1.frozen? ⟨w.heap.size + 1, 2, none⟩ = false := (hb1.frozen (p := ⟨w.heap.size + 1, 2, none⟩) (by simp)).trans (by go_simp)
  go_wp2
  refine bodyPost_ret (v := .tuple #[.agg #[.int .i64 O, .int .i64 (foll O b), .int .i64 (r + 1)], .int .i64 0]) (by simp [results, Tryd.results15, go_sem, u0, u1, u2]) rfl ⟨rfl, ?_⟩
  exact (((chain hb0 hb1).setCell (by simp) _).setCell (by simp) _).setCell (by simp) _
end Go.Proofs.YtfgobighpkemkaaDoor
