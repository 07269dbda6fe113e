/- The iterator of descend.Bases: its contract; descend.Left. -/
import Derived.RangeFuncNested
import Derived.RangeFuncBound
import Derived.RangeFuncCalls
import Derived.RangeFuncLeaves
import Derived.RangeFuncFrom
import Derived.Shelf.Abstract
import Derived.Shelf.RegionOpen
import Derived.OwnWalkIn
import Derived.TacticsInMore
import Derived.LoopNIn
import Derived.LoopIn
import Derived.Test.YtfgobighpkemkaaDoorW3
namespace Go.Proofs.YtfgobighpkemkaaDoor
open Go.RowKit Go.Shelf
attribute [local go_sem] Oper.semAt_some

theorem grown_of_below {a w : World} (h : Below a.heap.size a w) (row : Option Nat) : a.grownBy w row := ⟨h.os, h.tape, h.output, h.size, fun i hi _ => h.block i hi⟩
theorem abides_below {β : Type} {B : Nat} {J : β → World → Prop} (hJ : AbidesFrom B J) {s : β} {W w1 : World} (h : J s W) (hb : Below W.heap.size W w1) : J s w1 :=
  hJ s W w1 none h (grown_of_below hb none) (fun r e => by cases e)
theorem bases_take {O b : Int} (hO : 1 ≤ O) (h0 : 0 ≤ b) (hb : b ≤ O) {k : Nat} (hk : k < (bases O b).length) : (bases O b).take (k + 1) = (bases O b).take k ++ [after O b (k + 1)] := by
  rw [List.take_succ_eq_append_getElem hk]
  have := bases_at hO k b h0 hb hk
  simp [hk] at this
  rw [this]

/-- What the loop's body must keep: the clock's opening price. -/
def KeepsC (Bc : Nat) (W W' : World) : Prop := W'.cell? ⟨Bc, 0, none⟩ = W.cell? ⟨Bc, 0, none⟩
/-- How an iterator over xs ends. -/
def ItPost (xs : List Int) (J Jx : List Int → World → Prop) (e : Ending) (W' : World) : Prop :=
  (∃ v, e = .returned v) ∧ ((∃ ys, ys = xs ∧ J ys W') ∨ (∃ pre, pre <+: xs ∧ Jx pre W'))

set_option maxRecDepth 100000 in
set_option maxHeartbeats 1000000 in
theorem it_in (n : Nat) (hn : 2 ≤ n) (l Bc : Nat) (O b r : Int) (hv : vB O b r = true) (J Jx : List Int → World → Prop)
    (hY : ∀ pre x W1, J pre W1 → pre.length < (bases O b).length → YieldAt Fence.wide (n - 1) Tryd.prog l #[.int .i64 x] W1 fun e W' =>
      (e = .returned (.bool true) ∧ J (pre ++ [x]) W' ∧ KeepsC Bc W1 W') ∨ (e = .returned (.bool false) ∧ Jx (pre ++ [x]) W'))
    (W : World) (hJ : AbidesFrom W.heap.size J) (c0 : W.cell? ⟨Bc, 0, none⟩ = some (.int .i64 O)) (c1 : W.cell? ⟨Bc, 1, none⟩ = some (.int .i64 b)) (c2 : W.cell? ⟨Bc, 2, none⟩ = some (.int .i64 r))
    (hBc : Bc < W.heap.size) (h0 : J [] W) :
    CallsIn Fence.wide n Tryd.prog 31 #[.func (.yield l) #[] #[], .pointer (some ⟨Bc, 0, none⟩)] W (ItPost (bases O b) J Jx) := by
  obtain ⟨v1, v2, v3, v4, v5, v6⟩ := (vB_iff O b r).1 hv
  have HY := Lib.hid hY
  have HJ := Lib.hid hJ
  have H0 := Lib.hid h0
  clear hY hJ h0
  refine callsIn_of_wp Tryd.func31 rfl trivial ?_ rfl
  simp only [Tryd.ntmps31, List.size_toArray, List.length_cons, List.length_nil, Nat.reduceAdd, Nat.reduceSub, Array.replicate_succ, Array.replicate_zero, List.push_toArray, List.append_toArray, List.nil_append, List.cons_append]
  have h1 : 1 ≤ n := by omega
  gi_wp2_with (first | (refine ⟨trivial, ?_⟩; gi_at_call 10; refine (callsIn_wide.2 (valid_any O b r _)).mono ?_; rintro e w1 ⟨rfl, hb1⟩; have d0 := gcell hb1 hBc c0; have d1 := gcell hb1 hBc c1))
  have J1 := Lib.hid (abides_below HJ.out H0.out hb1)
  clear hb1 d1 c1 c2
  gi_loopw [3] (fun p wr => ∃ k : Nat, p = .int .i64 (after O b k) ∧ k ≤ (bases O b).length ∧ J ((bases O b).take k) wr ∧ wr.cell? ⟨Bc, 0, none⟩ = some (.int .i64 O)) (fun p _ => (intOf p).toNat)
  case atStart => exact ⟨0, rfl, Nat.zero_le _, J1.out, d0⟩
  case round =>
    obtain ⟨k, rfl, hk, hJk, d0k⟩ := hrel
    have hab := after_bd v1 v3 k
    have ha0 : 0 ≤ after O b k := hab.1
    have ha1 : after O b k ≤ b := hab.2
    have HAP := Lib.hid (after_pos v1 v3 v4 (k := k))
    have HJk := Lib.hid hJk
    have HG := Lib.hid d0k
    clear hab hJk
    by_cases hp : 0 < after O b k
    · have hkl : k < (bases O b).length := HAP.out.2 hp
      obtain ⟨fn, tmps, assign, body, hy, hR⟩ := HY.out ((bases O b).take k) (after O b (k + 1)) wr HJk.out (by simp; omega)
      have ey : foll O (after O b k) = after O b (k + 1) := rfl
      gi_wp2_with (first | (refine ⟨trivial, ?_⟩; gi_at_call 29; refine (callsIn_wide.2 (foll_any O (after O b k) _ v1 v2 ha0 (by omega))).mono ?_; rintro e w' ⟨rfl, rfl⟩; rw [ey]))
      have ltk : after O b (k + 1) < after O b k := foll_lt hp
      have gek : 0 ≤ after O b (k + 1) := (after_bd v1 v3 (k + 1)).1
      have EY := Lib.hid ey
      clear ey hy
      refine hR.mono ?_
      rintro e W3 (⟨rfl, hJ3, hk3⟩ | ⟨rfl, hJx3⟩)
      · have HJ3 := Lib.hid hJ3
        have HK3 := Lib.hid hk3
        clear hJ3 hk3 hR
        gi_wp2
        go_roundw
        case rel => exact ⟨k + 1, rfl, hkl, by rw [bases_take v1 v3 v4 hkl]; exact HJ3.out, HK3.out.trans HG.out⟩
        case measure => simp [intOf]; omega
      · have HJ3 := Lib.hid hJx3
        clear hJx3 hR
        gi_wp2
        refine bodyPost_ret (results_none rfl _ _ _) rfl ?_
        refine ⟨⟨_, rfl⟩, .inr ⟨_, ?_, HJ3.out⟩⟩
        rw [← bases_take v1 v3 v4 hkl]
        exact List.take_prefix _ _
    · have hkl : ¬ k < (bases O b).length := fun h => hp (HAP.out.1 h)
      have hk2 : k = (bases O b).length := by omega
      have HK := Lib.hid hk2
      clear hk2 hkl hk
      gi_wp2
      go_end0
      refine ⟨⟨_, rfl⟩, .inl ⟨_, ?_, HJk.out⟩⟩
      rw [HK.out, List.take_length]

/-- The iterator where the clock is not valid: nothing comes. -/
theorem it_in_no (n : Nat) (hn : 2 ≤ n) (l Bc : Nat) (O b r : Int) (hv : vB O b r = false) (J Jx : List Int → World → Prop)
    (W : World) (hJ : AbidesFrom W.heap.size J) (c0 : W.cell? ⟨Bc, 0, none⟩ = some (.int .i64 O)) (c1 : W.cell? ⟨Bc, 1, none⟩ = some (.int .i64 b)) (c2 : W.cell? ⟨Bc, 2, none⟩ = some (.int .i64 r)) (h0 : J [] W) :
    CallsIn Fence.wide n Tryd.prog 31 #[.func (.yield l) #[] #[], .pointer (some ⟨Bc, 0, none⟩)] W (ItPost [] J Jx) := by
  have HJ := Lib.hid hJ
  have H0 := Lib.hid h0
  clear hJ h0
  have h1 : 1 ≤ n := by omega
  refine callsIn_of_wp Tryd.func31 rfl trivial ?_ rfl
  simp only [Tryd.ntmps31, List.size_toArray, List.length_cons, List.length_nil, Nat.reduceAdd, Nat.reduceSub, Array.replicate_succ, Array.replicate_zero, List.push_toArray, List.append_toArray, List.nil_append, List.cons_append]
  gi_wp2_with (first | (refine ⟨trivial, ?_⟩; gi_at_call 10; refine (callsIn_wide.2 (valid_any O b r _)).mono ?_; rintro e w1 ⟨rfl, hb1⟩; have HB := Lib.hid hb1; clear hb1))
  refine bodyPost_ret (results_none rfl _ _ _) rfl ?_
  exact ⟨⟨_, rfl⟩, .inl ⟨_, rfl, abides_below HJ.out H0.out HB.out⟩⟩

/-- What comes of a clock, valid or not. -/
def basesV (O b r : Int) : List Int := if vB O b r = true then bases O b else []

/-- The value that descend.Bases hands back: all of the bases, in order; or a part of them, where a round has said 'no more'. -/
theorem it_stops (n : Nat) (hn : 2 ≤ n) (Bc : Nat) (O b r : Int) (w : World) (hBc : Bc < w.heap.size)
    (c0 : w.cell? ⟨Bc, 0, none⟩ = some (.int .i64 O)) (c1 : w.cell? ⟨Bc, 1, none⟩ = some (.int .i64 b)) (c2 : w.cell? ⟨Bc, 2, none⟩ = some (.int .i64 r)) :
    SeqStopsK Fence.wide n Tryd.prog 31 #[.pointer (some ⟨Bc, 0, none⟩)] (fun x : Int => #[Value.int .i64 x]) (KeepsC Bc) (fun ys => ys = basesV O b r) (fun pre => pre <+: basesV O b r) (basesV O b r).length w := by
  intro l J Jx W hW hJ _ hY h0
  have k0 := gcell hW hBc c0
  have k1 := gcell hW hBc c1
  have k2 := gcell hW hBc c2
  by_cases hv : vB O b r = true
  · have e : basesV O b r = bases O b := by unfold basesV; rw [if_pos hv]
    rw [e] at hY ⊢
    exact (it_in n hn l Bc O b r hv J Jx hY W hJ k0 k1 k2 (Nat.lt_of_lt_of_le hBc hW.size) h0).mono fun _ _ h => h
  · have hv' : vB O b r = false := by simpa using hv
    have e : basesV O b r = [] := by unfold basesV; rw [if_neg hv]
    rw [e]
    exact (it_in_no n hn l Bc O b r hv' J Jx W hJ k0 k1 k2 h0).mono fun _ _ h => h

set_option maxHeartbeats 400000 in
theorem basesF_any (O b r : Int) (w : World) :
    Calls Tryd.prog 21 #[.agg #[.int .i64 O, .int .i64 b, .int .i64 r]] w fun e w' => e = .returned (.func (.func 31) #[] #[.pointer (some ⟨w.heap.size, 0, none⟩)]) ∧ w.alloc (.cells #[.int .i64 O, .int .i64 b, .int .i64 r] 23) = w' := by
  go_enter Tryd.func21, Tryd.ntmps21
  go_wp2
  go_ret
  exact ⟨rfl, rfl⟩
end Go.Proofs.YtfgobighpkemkaaDoor
