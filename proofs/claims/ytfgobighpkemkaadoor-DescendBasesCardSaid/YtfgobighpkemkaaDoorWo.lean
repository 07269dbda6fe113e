/- Contract of bandplanlaw29.over, where it is handed the iterator of descend.Bases and the list of the same bases. -/
import Derived.Test.YtfgobighpkemkaaDoorW6
namespace Go.Proofs.YtfgobighpkemkaaDoor
open Go.RowKit Go.Shelf
attribute [local go_sem] Oper.semAt_some

theorem fn_nil (ca : Array Value) (w : World) : (binOp .eql 39 (.func (.func 31) #[] ca) .nilFunc).run Tryd.prog w = .ok (.bool false) w := by kernel_rfl
attribute [local go_sem] fn_nil

theorem pre_step {pre xs : List Int} {x : Int} (h : pre <+: xs) (hl : pre.length < xs.length) (hx : x = xs[pre.length]?.getD 0) : pre ++ [x] <+: xs := by
  obtain ⟨t, rfl⟩ := h
  cases t with
  | nil => simp at hl
  | cons y t => simp at hx; subst hx; exact ⟨t, by simp⟩
theorem pre_bad {pre xs : List Int} {x : Int} (hx : x ≠ xs[pre.length]?.getD 0) : ¬ pre ++ [x] <+: xs := by
  rintro ⟨t, rfl⟩
  simp at hx

/-- The cells of over's own, where k of the bases have come. -/
def OvC (s : Nat) (A : Option Addr) (n c : Nat) (many : Int) (k : Nat) (W : World) : Prop :=
  W.cell? ⟨s, 0, none⟩ = some (.slice A n c) ∧ W.cell? ⟨s + 1, 0, none⟩ = some (.int .i64 many) ∧ W.cell? ⟨s + 1 + 1, 0, none⟩ = some (.bool false) ∧ W.frozen? ⟨s + 1 + 1, 0, none⟩ = false ∧
  W.cell? ⟨s + 1 + 1 + 1, 0, none⟩ = some (.int .i64 (k : Int)) ∧ W.frozen? ⟨s + 1 + 1 + 1, 0, none⟩ = false
theorem OvC.kept {s : Nat} {A : Option Addr} {n c : Nat} {many : Int} {k : Nat} {W W' : World} {row : Option Nat} (h : OvC s A n c many k W) (hg : W.grownBy W' row)
    (hr : ∀ r, row = some r → ∃ o : Obj, W.heap[r]? = some o ∧ o.isCells = false) : OvC s A n c many k W' :=
  ⟨cell_kept h.1 hg hr, cell_kept h.2.1 hg hr, cell_kept h.2.2.1 hg hr, (frozen_kept h.2.2.1 hg hr).trans h.2.2.2.1, cell_kept h.2.2.2.2.1 hg hr, (frozen_kept h.2.2.2.2.1 hg hr).trans h.2.2.2.2.2⟩
theorem OvC.step {s : Nat} {A : Option Addr} {n c : Nat} {many : Int} {k m : Nat} {W : World} (h : OvC s A n c many k W) (hm : m = k + 1) : OvC s A n c many m (W.setCell ⟨s + 1 + 1 + 1, 0, none⟩ (.int .i64 ((k : Int) + 1))) := by
  obtain ⟨c4, c5, c6, f6, c7, f7⟩ := h
  subst hm
  refine ⟨(World.cell?_setCell_other _ _ _ _ (by simp)).trans c4, (World.cell?_setCell_other _ _ _ _ (by simp)).trans c5, (World.cell?_setCell_other _ _ _ _ (by simp)).trans c6, by rw [World.frozen?_setCell]; exact f6, ?_, by rw [World.frozen?_setCell]; exact f7⟩
  rw [World.cell?_setCell_same' _ _ _ (by rw [c7]; rfl)]; simp
/-- How many have come when the loop is left. -/
def OvN (many : Int) (n k : Nat) : Prop := (k : Int) = min (n : Int) (max 1 many)

set_option maxRecDepth 100000 in
set_option maxHeartbeats 1000000 in
theorem over_in (O b r many : Int) (w : World) (Bc : Nat) (hBc : Bc < w.heap.size) (A : Option Addr) (n c : Nat)
    (hI : Ints w w.heap.size A n (basesV O b r)) (hn : n ≤ 199) (m0 : -9223372036854775808 ≤ many) (m1 : many < 9223372036854775808)
    (k0 : w.cell? ⟨Bc, 0, none⟩ = some (.int .i64 O)) (k1 : w.cell? ⟨Bc, 1, none⟩ = some (.int .i64 b)) (k2 : w.cell? ⟨Bc, 2, none⟩ = some (.int .i64 r)) :
    CallsIn Fence.wide 5 Tryd.prog 23 #[.func (.func 31) #[] #[.pointer (some ⟨Bc, 0, none⟩)], .slice A n c, .int .i64 many] w fun e w' => e = .returned (.bool true) ∧ Below w.heap.size w w' := by
  refine callsIn_of_wp_marks Tryd.func23 rfl trivial ?_ rfl
  simp only [Tryd.ntmps23, List.size_toArray, List.length_cons, List.length_nil, Nat.reduceAdd, Nat.reduceSub, Array.replicate_succ, Array.replicate_zero, List.push_toArray, List.append_toArray, List.nil_append, List.cons_append]
  gi_wp2
  have hs0 : OvC w.heap.size A n c many 0 ((((w.alloc (.cells #[.slice A n c] 41)).alloc (.cells #[.int .i64 many] 3)).alloc (.cells #[.bool false] 4)).alloc (.cells #[.int .i64 0] 3)) :=
    ⟨by go_simp, by go_simp, by go_simp, by go_simp, by go_simp, by go_simp⟩
  have hB0 : Below w.heap.size w ((((w.alloc (.cells #[.slice A n c] 41)).alloc (.cells #[.int .i64 many] 3)).alloc (.cells #[.bool false] 4)).alloc (.cells #[.int .i64 0] 3)) :=
    ((((Below.refl _ w).alloc (Nat.le_refl _) _).alloc (by simp) _).alloc (by simp; omega) _).alloc (by simp; omega) _
  have hsz : ((((w.alloc (.cells #[.slice A n c] 41)).alloc (.cells #[.int .i64 many] 3)).alloc (.cells #[.bool false] 4)).alloc (.cells #[.int .i64 0] 3)).heap.size = w.heap.size + 4 := by simp
  obtain ⟨W0, hW0⟩ : ∃ W0, W0 = ((((w.alloc (.cells #[.slice A n c] 41)).alloc (.cells #[.int .i64 many] 3)).alloc (.cells #[.bool false] 4)).alloc (.cells #[.int .i64 0] 3)) := ⟨_, rfl⟩
  rw [← hW0] at hs0 hB0 hsz ⊢
  clear hW0
  have hlen : (basesV O b r).length = n := hI.1
  obtain ⟨xs, hxs⟩ : ∃ xs, xs = basesV O b r := ⟨_, rfl⟩
  have hst := it_stops (5 - 1) (by omega) Bc O b r w hBc k0 k1 k2
  rw [← hxs] at hst hI hlen
  clear hxs k0 k1 k2
  have HI := Lib.hid hI
  have HB0 := Lib.hid hB0
  clear hI hB0
  refine wpIn_rangeFunc_ownF (α := Int) rfl (by omega) (gf := 31) (lb := #[.pointer (some ⟨Bc, 0, none⟩)]) rfl trivial (enters_of Tryd.func31 (by kernel_rfl) rfl)
    hst (fun h h' => keepsC_t h h') (fun W l o o' hl hW _ _ => keepsC_b (by rw [hsz] at hl; omega)) HB0.out (fun _ => rfl)
    (fun pre W => (OvC w.heap.size A n c many pre.length W ∧ pre <+: xs ∧ (pre.length ≠ 0 → (pre.length : Int) < many)) ∧ Below w.heap.size w W)
    (fun cd pre W => ((cd = .exit 0 ∧ OvC w.heap.size A n c many pre.length W ∧ pre <+: xs ∧ OvN many n pre.length) ∨ (cd = .ret ∧ ¬ pre <+: xs)) ∧ Below w.heap.size w W)
    (OwnFrom.and (_root_.Go.Own.from (fun s A B row hs hg hr => ⟨hs.1.kept hg hr, hs.2⟩) _) (ownFrom_below (Nat.le_refl _) (by rw [hsz]; omega)))
    (fun cd => OwnFrom.and (_root_.Go.Own.from (fun s A B row hs hg hr => hs.imp (fun h => ⟨h.1, h.2.1.kept hg hr, h.2.2⟩) (fun h => h)) _) (ownFrom_below (Nat.le_refl _) (by rw [hsz]; omega)))
    ⟨⟨hs0, ⟨xs, rfl⟩, fun h => absurd rfl h⟩, HB0.out⟩
    (fun x => { tmps := #[.func (.func 31) #[] #[.pointer (some ⟨Bc, 0, none⟩)], .slice A n c, .int .i64 many, undef, .pointer (some ⟨w.heap.size, 0, none⟩), .pointer (some ⟨w.heap.size + 1, 0, none⟩), .pointer (some ⟨w.heap.size + 1 + 1, 0, none⟩), .pointer (some ⟨w.heap.size + 1 + 1 + 1, 0, none⟩), .int .i64 x, .func (.func 31) #[] #[.pointer (some ⟨Bc, 0, none⟩)], .bool false, .func (.func 31) #[] #[.pointer (some ⟨Bc, 0, none⟩)], .int .i64 x, undef, undef, undef, undef, undef, undef, undef, undef, undef, undef, undef, undef, undef, undef, undef, undef, undef, undef, undef, undef, undef, undef, undef, undef], defers := [] }) ?assign ?body ?done ?stop
  case assign =>
    intro l x W K hK
    gi_wp2
    simpa using hK
  case body =>
    rintro l pre x W ⟨⟨⟨c4, c5, c6, f6, c7, f7⟩, hp, hm⟩, hB⟩ hpl
    have HB := Lib.hid hB
    have HP := Lib.hid hp
    have HM := Lib.hid hm
    have hkn : pre.length < n := by omega
    obtain ⟨g, off, rfl, hg, hc⟩ := (HI.out.below hB).2 (by omega)
    have hck := hc pre.length hkn
    clear hB hp hm hc hs0 hst hpl
    have HC := Lib.hid (show OvC w.heap.size (some ⟨g, off, none⟩) n c many pre.length W from ⟨c4, c5, c6, f6, c7, f7⟩)
    have HS := Lib.hid (fun (hx : x = xs[pre.length]?.getD 0) => pre_step HP.out (by omega) hx)
    have HT := Lib.hid (fun (hx : x ≠ xs[pre.length]?.getD 0) => pre_bad hx)
    obtain ⟨y, hy⟩ : ∃ y, y = xs[pre.length]?.getD 0 := ⟨_, rfl⟩
    rw [← hy] at HS HT hck
    clear hy
    by_cases hx : x = y
    · subst hx
      gi_wp2
      · rename_i hmany
        refine ⟨KeepsOthers.setCell _ _ _, .inl ⟨rfl, HC.out.step (by simp), HS.out (by simp), ?_⟩, HB.out.setCell (p := ⟨w.heap.size + 1 + 1 + 1, 0, none⟩) (by simp; omega) _⟩
        have := HM.out
        unfold OvN
        simp
        omega
      · rename_i hmany
        refine ⟨KeepsOthers.setCell _ _ _, World.cell?_setCell_other _ _ _ _ (by simp <;> omega), ⟨HC.out.step (by simp), HS.out (by simp), ?_⟩, HB.out.setCell (p := ⟨w.heap.size + 1 + 1 + 1, 0, none⟩) (by simp; omega) _⟩
        intro _
        simp
        omega
    · have hxy : (x == y) = false := by simp [hx]
      gi_wp2
      · exact ⟨KeepsOthers.setCell _ _ _, .inr ⟨rfl, HT.out hx⟩, HB.out.setCell (p := ⟨w.heap.size + 1 + 1, 0, none⟩) (by simp; omega) _⟩
      all_goals (exfalso; simp_all)
  case done =>
    rintro D ys W hD rfl ⟨⟨⟨c4, c5, c6, f6, c7, f7⟩, hp, hm⟩, hB⟩ hK
    rw [hlen] at c7 hm
    have HM := Lib.hid hm
    have HB := Lib.hid hB
    have HK := Lib.hid hK
    have HD := Lib.hid hD
    have hD2 : w.heap.size ≤ D := by omega
    clear hB hK hD hs0 hst hp hm
    gi_wp2
    all_goals first
      | (exfalso; have := HM.out; omega)
      | (have hK' := (KeepsOthers.setCell W ⟨w.heap.size + 1 + 1, 0, none⟩ (.bool true)).same D _ HK.out rfl
         refine ⟨by simp, .inl ⟨_, _, rfl, run_takeDeferred hK', ?_⟩⟩
         have hc5 := cell_kept (World.cell?_setCell_same' W ⟨w.heap.size + 1 + 1, 0, none⟩ (.bool true) (by rw [c6]; rfl)) (grownBy_putObj' _ D (.deferred none)) (fun r e => by cases e; exact ⟨_, hK', rfl⟩)
         refine ⟨.bool true, ?_, rfl, (HB.out.setCell (p := ⟨w.heap.size + 1 + 1, 0, none⟩) (by simp; omega) _).trans (belowK_b (w := w) (Nat.le_refl _) _ D _ _ hD2 hK' rfl rfl)⟩
         simp [results, Tryd.results23, go_sem, hc5])
  case stop =>
    rintro D cd pre W hD hpre ⟨h | h, hB⟩ hK
    · obtain ⟨rfl, ⟨c4, c5, c6, f6, c7, f7⟩, _, hN⟩ := h
      unfold OvN at hN
      have HB := Lib.hid hB
      have HK := Lib.hid hK
      have HD := Lib.hid hD
      have hD2 : w.heap.size ≤ D := by omega
      have hpn : pre.length ≤ n := by omega
      have h3 : ((pre.length : Int) = n ∧ (n : Int) ≤ max 1 many) ∨ ((pre.length : Int) = 1 ∧ many ≤ 1 ∧ 1 < n) ∨ ((pre.length : Int) = many ∧ 1 < many ∧ many < n) := by omega
      clear hB hK hD hs0 hst hpre hN
      rcases h3 with ⟨h3, h4⟩ | ⟨h3, h4, h5⟩ | ⟨h3, h4, h5⟩ <;> rw [h3] at c7 <;> clear h3
      all_goals gi_wp2
      all_goals first
        | (exfalso; omega)
        | (have hK' := (KeepsOthers.setCell W ⟨w.heap.size + 1 + 1, 0, none⟩ (.bool true)).same D _ HK.out rfl
           refine ⟨by simp, .inl ⟨_, _, rfl, run_takeDeferred hK', ?_⟩⟩
           have hc5 := cell_kept (World.cell?_setCell_same' W ⟨w.heap.size + 1 + 1, 0, none⟩ (.bool true) (by rw [c6]; rfl)) (grownBy_putObj' _ D (.deferred none)) (fun r e => by cases e; exact ⟨_, hK', rfl⟩)
           refine ⟨.bool true, ?_, rfl, (HB.out.setCell (p := ⟨w.heap.size + 1 + 1, 0, none⟩) (by simp; omega) _).trans (belowK_b (w := w) (Nat.le_refl _) _ D _ _ hD2 hK' rfl rfl)⟩
           simp [results, Tryd.results23, go_sem, hc5])
    · exact absurd hpre h.2

theorem over_any (O b r many : Int) (w : World) (Bc : Nat) (hBc : Bc < w.heap.size) (A : Option Addr) (n c : Nat)
    (hI : Ints w w.heap.size A n (basesV O b r)) (hn : n ≤ 199) (m0 : -9223372036854775808 ≤ many) (m1 : many < 9223372036854775808)
    (k0 : w.cell? ⟨Bc, 0, none⟩ = some (.int .i64 O)) (k1 : w.cell? ⟨Bc, 1, none⟩ = some (.int .i64 b)) (k2 : w.cell? ⟨Bc, 2, none⟩ = some (.int .i64 r)) :
    Calls Tryd.prog 23 #[.func (.func 31) #[] #[.pointer (some ⟨Bc, 0, none⟩)], .slice A n c, .int .i64 many] w fun e w' => e = .returned (.bool true) ∧ Below w.heap.size w w' :=
  callsIn_wide.1 (over_in O b r many w Bc hBc A n c hI hn m0 m1 k0 k1 k2)
end Go.Proofs.YtfgobighpkemkaaDoor
