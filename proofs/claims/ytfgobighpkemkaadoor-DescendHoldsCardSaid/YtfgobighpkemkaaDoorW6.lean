/- Contracts of bandplanref29.Bases and Left. -/
import Derived.Test.YtfgobighpkemkaaDoorW5
namespace Go.Proofs.YtfgobighpkemkaaDoor
open Go.RowKit

theorem info3 : (Tryd.prog.info? 3).map (fun i => (i.zero, i.size, i.bytes)) = some (some (.int .i64 0), 1, 8) := by kernel_rfl
theorem ints_one (w : World) (t : TypeId) (x : Int) : Ints (w.alloc (.cells #[.int .i64 x] t)) (w.heap.size + 1) (some ⟨w.heap.size, 0, none⟩) 1 [x] :=
  ⟨rfl, fun _ => ⟨w.heap.size, 0, rfl, by omega, fun j hj => by
    obtain rfl : j = 0 := by omega
    go_simp⟩⟩
/-- A list of ints in new memory is returned. -/
def SlR (w : World) (xs : List Int) (e : Ending) (w' : World) : Prop := ∃ A n c, e = .returned (.slice A n c) ∧ Own w' w.heap.size 3 A n c xs ∧ Below w.heap.size w w'

set_option maxHeartbeats 1000000 in
theorem refBases_no (O b r : Int) (w : World) (hv : vB O b r = false) :
    Calls Tryd.prog 22 #[.agg #[.int .i64 O, .int .i64 b, .int .i64 r]] w (SlR w []) := by
  have hb0 := (Below.refl w.heap.size w).alloc (Nat.le_refl _) (.cells #[.int .i64 O, .int .i64 b, .int .i64 r] 23)
  go_enter Tryd.func22, Tryd.ntmps22
  go_wp2_with fail
  refine (refValid_any O b r _).mono ?_
  rintro e w1 ⟨rfl, hb1⟩
  go_wp2
  go_ret
  exact ⟨none, 0, 0, rfl, Own.none_, chain hb0 hb1⟩

set_option maxHeartbeats 1000000 in
theorem refBases_yes (O b r : Int) (w : World) (hv : vB O b r = true) :
    Calls Tryd.prog 22 #[.agg #[.int .i64 O, .int .i64 b, .int .i64 r]] w (SlR w (bases O b)) := by
  have hb0 := (Below.refl w.heap.size w).alloc (Nat.le_refl _) (.cells #[.int .i64 O, .int .i64 b, .int .i64 r] 23)
  obtain ⟨i0, hi0, hz0, hz1, hz2⟩ := info_parts info3
  obtain ⟨v1, v2, v3, v4, v5, v6⟩ := (vB_iff O b r).1 hv
  have hlen := bases_len v1 v3 v4
  go_enter Tryd.func22, Tryd.ntmps22
  go_wp2_with fail
  refine (refValid_any O b r _).mono ?_
  rintro e w1 ⟨rfl, hb1⟩
  have c0 : w1.cell? ⟨w.heap.size, 0, none⟩ = some (.int .i64 O) := (hb1.cell (p := ⟨w.heap.size, 0, none⟩) (by simp)).trans (by go_simp)
  have c1 : w1.cell? ⟨w.heap.size, 1, none⟩ = some (.int .i64 b) := (hb1.cell (p := ⟨w.heap.size, 1, none⟩) (by simp)).trans (by go_simp)
  have l1 : w.heap.size < w1.heap.size := by have := hb1.size; simp at this; omega
  have B1 := Lib.hid (chain hb0 hb1)
  clear hb0 hb1
  go_wp2_with fail
  go_loopw [3, 4] (fun out p wr => ∃ (k : Nat) (A : Option Addr) (c : Nat), out = .slice A k c ∧ p = .int .i64 (after O b k) ∧ k ≤ (bases O b).length ∧ Own wr w1.heap.size 3 A k c ((bases O b).take k) ∧ Below w1.heap.size w1 wr) (fun _ p _ => (intOf p).toNat)
  case atStart => exact ⟨0, none, 0, rfl, rfl, Nat.zero_le _, Own.none_, Below.refl _ _⟩
  case round =>
    obtain ⟨k, A, c, rfl, rfl, hk, hown, hG⟩ := hrel
    have hab := after_bd v1 v3 k
    have ha0 : 0 ≤ after O b k := hab.1
    have ha1 : after O b k ≤ b := hab.2
    have HAP := Lib.hid (after_pos v1 v3 v4 (k := k))
    have d0 := gcell hG l1 c0
    have HO := Lib.hid hown
    have HG := Lib.hid hG
    clear hab hown hG
    by_cases hp : 0 < after O b k
    · have hkl : k < (bases O b).length := HAP.out.2 hp
      have ey : after O b k - fall O (after O b k) = after O b (k + 1) := rfl
      have ltk : after O b (k + 1) < after O b k := foll_lt hp
      have gek : 0 ≤ after O b (k + 1) := (after_bd v1 v3 (k + 1)).1
      have hfb := fall_bd v1 ha0
      have hf0 : 0 ≤ fall O (after O b k) := hfb.1
      have hf1 : fall O (after O b k) ≤ after O b k := hfb.2
      have hrow2 : ∀ j, (Value.slice A k c).ownBlock = some j → w1.heap.size ≤ j := fun j hj => (World.ownsRow.lt HO.out j hj).1
      have HR2 := Lib.hid hrow2
      have hsz : w1.heap.size ≤ wr.heap.size := HG.out.size
      clear hfb hrow2
      go_wp2_with (first | (go_at_call 30; refine (falls_any O (after O b k) _ v1 v2 ha0 (by omega)).mono ?_; rintro e w' ⟨rfl, rfl⟩) | (at_builtin; refine wpList_append_ints _ rfl _ _ 41 rfl w1.heap.size 3 i0 Tryd.underlying41 hi0 hz0 hz1 hz2 A k c ((bases O b).take k) rfl (HO.out.alloc _) _ _ 1 1 [after O b (k + 1)] rfl (ints_one _ _ _) (by omega) (by simp; omega) ?_; intro A' c' w2 hown1 hg1 hat1))
      go_roundw
      case rel => exact ⟨k + 1, A', c', rfl, rfl, hkl, by rw [bases_take v1 v3 v4 hkl]; exact hown1, (HG.out.alloc hsz _).grown hg1 (by simp; omega) HR2.out⟩
      case measure => simp [intOf]; omega
    · have hkl : ¬ k < (bases O b).length := fun h => hp (HAP.out.1 h)
      have hk2 : k = (bases O b).length := by omega
      have HK := Lib.hid hk2
      clear hk2 hkl
      go_wp2
      go_ret
      refine ⟨A, k, c, rfl, ?_, chain B1.out HG.out⟩
      have := HO.out
      rw [HK.out, List.take_length] at this
      rw [HK.out]
      exact this.less B1.out.size

set_option maxHeartbeats 400000 in
theorem refLeft_no (O b r : Int) (w : World) (hv : vB O b r = false) :
    Calls Tryd.prog 18 #[.agg #[.int .i64 O, .int .i64 b, .int .i64 r]] w fun e w' => e = .returned (.tuple #[.int .i64 0, .int .i64 2]) ∧ Below w.heap.size w w' := by
  have hb0 := (Below.refl w.heap.size w).alloc (Nat.le_refl _) (.cells #[.int .i64 O, .int .i64 b, .int .i64 r] 23)
  go_enter Tryd.func18, Tryd.ntmps18
  go_wp2_with fail
  refine (refValid_any O b r _).mono ?_
  rintro e w1 ⟨rfl, hb1⟩
  go_wp2
  go_ret2
  exact ⟨rfl, chain hb0 hb1⟩
set_option maxHeartbeats 400000 in
theorem refLeft_yes (O b r : Int) (w : World) (hv : vB O b r = true) :
    Calls Tryd.prog 18 #[.agg #[.int .i64 O, .int .i64 b, .int .i64 r]] w fun e w' => e = .returned (.tuple #[.int .i64 (bases O b).length, .int .i64 0]) ∧ Below w.heap.size w w' := by
  have hb0 := (Below.refl w.heap.size w).alloc (Nat.le_refl _) (.cells #[.int .i64 O, .int .i64 b, .int .i64 r] 23)
  go_enter Tryd.func18, Tryd.ntmps18
  go_wp2_with fail
  refine (refValid_any O b r _).mono ?_
  rintro e w1 ⟨rfl, hb1⟩
  have c0 : w1.cell? ⟨w.heap.size, 0, none⟩ = some (.int .i64 O) := (hb1.cell (p := ⟨w.heap.size, 0, none⟩) (by simp)).trans (by go_simp)
  have c1 : w1.cell? ⟨w.heap.size, 1, none⟩ = some (.int .i64 b) := (hb1.cell (p := ⟨w.heap.size, 1, none⟩) (by simp)).trans (by go_simp)
  have c2 : w1.cell? ⟨w.heap.size, 2, none⟩ = some (.int .i64 r) := (hb1.cell (p := ⟨w.heap.size, 2, none⟩) (by simp)).trans (by go_simp)
  have B1 := chain hb0 hb1
  clear hb0 hb1
  go_wp2_with fail
  refine (refBases_yes O b r _ hv).mono ?_
  rintro e w2 ⟨A, n, c, rfl, hown, hb2⟩
  obtain rfl : (bases O b).length = n := hown.len
  go_wp2
  go_ret2
  exact ⟨rfl, chain B1 hb2⟩
end Go.Proofs.YtfgobighpkemkaaDoor
