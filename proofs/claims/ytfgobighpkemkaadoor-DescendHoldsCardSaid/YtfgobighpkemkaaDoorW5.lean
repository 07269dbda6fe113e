/- Contract of descend.Left. -/
import Derived.Test.YtfgobighpkemkaaDoorW4
namespace Go.Proofs.YtfgobighpkemkaaDoor
open Go.RowKit Go.Shelf
attribute [local go_sem] Oper.semAt_some

theorem keepsC_t {Bc : Nat} {A B C : World} (h : KeepsC Bc A B) (h' : KeepsC Bc B C) : KeepsC Bc A C := Eq.trans h' h
theorem keepsC_b {Bc l : Nat} {W : World} {o' : Obj} (hl : Bc < l) : KeepsC Bc W (W.putObj l o') := World.cell?_of_block (a := ⟨Bc, 0, none⟩) (World.putObj_heap_other (by show Bc ≠ l; omega))

set_option maxHeartbeats 400000 in
theorem left_no (O b r : Int) (w : World) (hv : vB O b r = false) :
    Calls Tryd.prog 17 #[.agg #[.int .i64 O, .int .i64 b, .int .i64 r]] w fun e w' => e = .returned (.tuple #[.int .i64 0, .int .i64 2]) ∧ Below w.heap.size w w' := by
  have hb0 := (Below.refl w.heap.size w).alloc (Nat.le_refl _) (.cells #[.int .i64 O, .int .i64 b, .int .i64 r] 23)
  go_enter Tryd.func17, Tryd.ntmps17
  go_wp2_with fail
  refine (valid_any O b r _).mono ?_
  rintro e w1 ⟨rfl, hb1⟩
  go_wp2
  go_ret2
  exact ⟨rfl, chain hb0 hb1⟩

set_option maxRecDepth 100000 in
set_option maxHeartbeats 1000000 in
theorem left_yes_in (O b r : Int) (w : World) (hv : vB O b r = true) :
    CallsIn Fence.wide 5 Tryd.prog 17 #[.agg #[.int .i64 O, .int .i64 b, .int .i64 r]] w fun e w' => e = .returned (.tuple #[.int .i64 (bases O b).length, .int .i64 0]) ∧ Below w.heap.size w w' := by
  refine callsIn_of_wp_marks Tryd.func17 rfl trivial ?_ rfl
  simp only [Tryd.ntmps17, List.size_toArray, List.length_cons, List.length_nil, Nat.reduceAdd, Nat.reduceSub, Array.replicate_succ, Array.replicate_zero, List.push_toArray, List.append_toArray, List.nil_append, List.cons_append]
  gi_wp2_with (first | (refine ⟨trivial, ?_⟩; gi_at_call 10; refine (callsIn_wide.2 (valid_any O b r _)).mono ?_; rintro e w1 ⟨rfl, hb1⟩; have c0 : w1.cell? ⟨w.heap.size, 0, none⟩ = some (.int .i64 O) := (hb1.cell (p := ⟨w.heap.size, 0, none⟩) (by simp)).trans (by go_simp); have c1 : w1.cell? ⟨w.heap.size, 1, none⟩ = some (.int .i64 b) := (hb1.cell (p := ⟨w.heap.size, 1, none⟩) (by simp)).trans (by go_simp); have c2 : w1.cell? ⟨w.heap.size, 2, none⟩ = some (.int .i64 r) := (hb1.cell (p := ⟨w.heap.size, 2, none⟩) (by simp)).trans (by go_simp); have l1 : w.heap.size < w1.heap.size := by (have := hb1.size; simp at this; omega)) | (refine ⟨trivial, ?_⟩; gi_at_call 21; refine (callsIn_wide.2 (basesF_any O b r _)).mono ?_; rintro e w' ⟨rfl, rfl⟩))
  have hb0 := (Below.refl w.heap.size w).alloc (Nat.le_refl _) (.cells #[.int .i64 O, .int .i64 b, .int .i64 r] 23)
  have B1 := chain hb0 hb1
  obtain ⟨v1, v2, v3, v4, v5, v6⟩ := (vB_iff O b r).1 hv
  have ebv : basesV O b r = bases O b := by unfold basesV; rw [if_pos hv]
  have hlen := bases_len v1 v3 v4
  have n0 : ((w1.alloc (.cells #[.int .i64 0] 3)).alloc (.cells #[.int .i64 O, .int .i64 b, .int .i64 r] 23)).cell? ⟨w1.heap.size, 0, none⟩ = some (.int .i64 0) := by go_simp
  have nf : ((w1.alloc (.cells #[.int .i64 0] 3)).alloc (.cells #[.int .i64 O, .int .i64 b, .int .i64 r] 23)).frozen? ⟨w1.heap.size, 0, none⟩ = false := by go_simp
  have k0 : ((w1.alloc (.cells #[.int .i64 0] 3)).alloc (.cells #[.int .i64 O, .int .i64 b, .int .i64 r] 23)).cell? ⟨w1.heap.size + 1, 0, none⟩ = some (.int .i64 O) := by go_simp
  have k1 : ((w1.alloc (.cells #[.int .i64 0] 3)).alloc (.cells #[.int .i64 O, .int .i64 b, .int .i64 r] 23)).cell? ⟨w1.heap.size + 1, 1, none⟩ = some (.int .i64 b) := by go_simp
  have k2 : ((w1.alloc (.cells #[.int .i64 0] 3)).alloc (.cells #[.int .i64 O, .int .i64 b, .int .i64 r] 23)).cell? ⟨w1.heap.size + 1, 2, none⟩ = some (.int .i64 r) := by go_simp
  have hB3 : Below w.heap.size w ((w1.alloc (.cells #[.int .i64 0] 3)).alloc (.cells #[.int .i64 O, .int .i64 b, .int .i64 r] 23)) := (B1.alloc B1.size _).alloc (by have := B1.size; simp; omega) _
  have hsz : ((w1.alloc (.cells #[.int .i64 0] 3)).alloc (.cells #[.int .i64 O, .int .i64 b, .int .i64 r] 23)).heap.size = w1.heap.size + 1 + 1 := by simp
  refine wpIn_rangeFunc_ownF (α := Int) rfl (by omega) (gf := 31) (lb := #[.pointer (some ⟨w1.heap.size + 1, 0, none⟩)]) rfl trivial (enters_of Tryd.func31 (by kernel_rfl) rfl)
    (it_stops (5 - 1) (by omega) (w1.heap.size + 1) O b r _ (by rw [hsz]; omega) k0 k1 k2) (fun h h' => keepsC_t h h') (fun W l o o' hl hW _ _ => keepsC_b (by rw [hsz] at hl; omega)) (Below.refl _ _) (fun _ => rfl)
    (fun pre W => (W.cell? ⟨w1.heap.size, 0, none⟩ = some (.int .i64 (pre.length : Int)) ∧ W.frozen? ⟨w1.heap.size, 0, none⟩ = false) ∧ Below w.heap.size w W)
    (fun _ _ _ => False)
    (OwnFrom.and (_root_.Go.Own.from (fun s A B row hs hg hr => ⟨cell_kept hs.1 hg hr, (frozen_kept hs.1 hg hr).trans hs.2⟩) _) (ownFrom_below (Nat.le_refl _) (by rw [hsz]; omega)))
    (fun _ _ _ _ _ hs _ _ => hs)
    ⟨⟨n0, nf⟩, hB3⟩
    (fun x => { tmps := #[.agg #[.int .i64 O, .int .i64 b, .int .i64 r], .pointer (some ⟨w.heap.size, 0, none⟩), .int .i64 0, .int .i64 0, .pointer (some ⟨w1.heap.size, 0, none⟩), .agg #[.int .i64 O, .int .i64 b, .int .i64 r], .bool true, .bool false, .agg #[.int .i64 O, .int .i64 b, .int .i64 r], .func (.func 31) #[] #[.pointer (some ⟨w1.heap.size + 1, 0, none⟩)], .int .i64 x, undef, undef, undef], defers := [] }) ?assign ?body ?done ?stop
  case assign =>
    intro l x W K hK
    gi_wp2
    simpa using hK
  case body =>
    rintro l pre x W ⟨⟨hc, hf⟩, hB⟩ hpl
    have hpl2 : (pre.length : Int) ≤ 199 := by rw [ebv] at hpl; omega
    have HB := Lib.hid hB
    clear hB hpl n0 nf k0 k1 k2 hB3 hb0 hb1 B1 ebv hsz
    gi_wp2
    refine ⟨KeepsOthers.setCell _ _ _, ?_, ⟨?_, ?_⟩, ?_⟩
    · exact World.cell?_setCell_other _ _ _ _ (by simp)
    · rw [World.cell?_setCell_same' _ _ _ (by rw [hc]; rfl)]; simp
    · rw [World.frozen?_setCell]; exact hf
    · exact HB.out.setCell (p := ⟨w1.heap.size, 0, none⟩) (by simp; omega) _
  case done =>
    rintro D ys W hD rfl ⟨⟨hc, _⟩, hB⟩ hK
    rw [ebv] at hc
    have HB := Lib.hid hB
    have HK := Lib.hid hK
    have HD := Lib.hid hD
    clear hB hK hD n0 nf k0 k1 k2 hB3 hb0 hb1 ebv hsz B1
    gi_wp2
    refine ⟨by simp, .inl ⟨_, _, rfl, run_takeDeferred HK.out, ?_⟩⟩
    exact ⟨_, results_tmp2 rfl _ _ _, rfl, HB.out.trans (belowK_b (w := w) (Nat.le_refl _) W D _ _ (by have := HD.out; simp at this; omega) HK.out rfl rfl)⟩
  case stop =>
    rintro D c pre W _ _ h _
    exact h.elim

theorem left_yes (O b r : Int) (w : World) (hv : vB O b r = true) :
    Calls Tryd.prog 17 #[.agg #[.int .i64 O, .int .i64 b, .int .i64 r]] w fun e w' => e = .returned (.tuple #[.int .i64 (bases O b).length, .int .i64 0]) ∧ Below w.heap.size w w' :=
  callsIn_wide.1 (left_yes_in O b r w hv)
end Go.Proofs.YtfgobighpkemkaaDoor
