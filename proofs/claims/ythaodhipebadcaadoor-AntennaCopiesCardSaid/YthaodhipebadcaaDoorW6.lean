/- Contract of antenna.Rotate. -/
import Derived.Test.YthaodhipebadcaaDoorW5
namespace Go.Proofs.YthaodhipebadcaaDoor
open Go.RowKit
theorem and15 (x : Int) : bits .and .i64 (IntKind.i64.wrap x) 15 = x % 16 := by
  show IntKind.i64.wrap ((BitVec.ofInt 64 (IntKind.i64.wrap x) &&& BitVec.ofInt 64 15).toNat : Int) = _
  have h2 : (BitVec.ofInt 64 15).toNat = 15 := by decide
  have h1 : ((BitVec.ofInt 64 (IntKind.i64.wrap x)).toNat : Int) % 16 = x % 16 := by
    rw [BitVec.toNat_ofInt, IntKind.wrap_i64]
    omega
  rw [BitVec.toNat_and, h2, nat_mask4, IntKind.wrap_i64]
  omega
/-- The place that turning by some steps brings to place d. -/
def rotAt (s : Int) (d : Nat) : Nat := (((d : Int) - s) % 16).toNat
def rotL (s : Int) (xs : List Int) (k : Nat) : List Int := (List.range 16).map fun d => if d < k then xs[rotAt s d]?.getD 0 else xs[d]?.getD 0
theorem rotAt_lt (s : Int) (d : Nat) : rotAt s d < 16 := by unfold rotAt; omega
theorem rotL_len (s : Int) (xs : List Int) (k : Nat) : (rotL s xs k).length = 16 := by simp [rotL]
theorem rotL_zero (s : Int) (xs : List Int) (h : xs.length = 16) : rotL s xs 0 = xs := by
  apply List.ext_getElem
  · simp [rotL_len, h]
  · intro i h1 h2; simp [rotL, h2]
theorem rotL_succ (s : Int) (xs : List Int) (k : Nat) : (rotL s xs k).set k (xs[rotAt s k]?.getD 0) = rotL s xs (k + 1) := by
  apply List.ext_getElem
  · simp [rotL_len]
  · intro i h1 h2
    simp only [List.length_set, rotL_len] at h1
    simp only [List.getElem_set, rotL, List.getElem_map, List.getElem_range]
    by_cases e : k = i
    · subst e; simp
    · by_cases e2 : i < k
      · rw [if_neg e, if_pos e2, if_pos (by omega)]
      · rw [if_neg e, if_neg e2, if_neg (by omega)]
theorem and_rot (s : Int) (k : Nat) : bits .and .i64 (IntKind.i64.wrap ((k : Int) - s)) 15 = (rotAt s k : Int) := by rw [and15]; unfold rotAt; omega
theorem and_rot' (s : Int) (k : Nat) : bits .and .i64 (wrap64 ((k : Int) - s)) 15 = (rotAt s k : Int) := by
  have := and_rot s k; rw [IntKind.wrap_i64] at this; unfold wrap64; exact this
def AntR2 (w : World) (h : Int) (xs : List Int) (e : Ending) (w' : World) : Prop :=
  ∃ A n c, e = .returned (.tuple #[.agg #[.int .i64 h, .slice A n c], .int .i64 0]) ∧ Own w' w.heap.size 3 A n c xs ∧ Below w.heap.size w w'
def AntNo (w : World) (e : Ending) (w' : World) : Prop :=
  e = .returned (.tuple #[.agg #[.int .i64 0, .slice none 0 0], .int .i64 2]) ∧ Below w.heap.size w w'

set_option maxHeartbeats 400000 in
theorem rotate_no (h : Int) (A : Option Addr) (n c : Nat) (xs : List Int) (s : Int) (w : World) (hI : Ints w w.heap.size A n xs) (hn : n ≤ 9223372036854775807) (hv : validB h xs = false) :
    Calls Tryd.prog 19 #[.agg #[.int .i64 h, .slice A n c], .int .i64 s] w (AntNo w) := by
  have hb0 : Below w.heap.size w ((w.alloc (.cells #[.int .i64 h, .slice A n c] 31)).alloc (.cells #[.int .i64 0, .slice none 0 0] 31)) := ((Below.refl _ _).alloc (Nat.le_refl _) _).alloc (by simp) _
  have HI := Lib.hid (hI.next hb0)
  clear hI
  go_enter Tryd.func19, Tryd.ntmps19
  go_wp2_with fail
  refine (valid_any h A n c xs _ HI.out hn).mono ?_
  rintro e w1 ⟨rfl, hb1⟩
  have c0 : w1.cell? ⟨w.heap.size + 1, 0, none⟩ = some (.int .i64 0) := (hb1.cell (p := ⟨w.heap.size + 1, 0, none⟩) (by simp)).trans (by go_simp)
  have c1 : w1.cell? ⟨w.heap.size + 1, 1, none⟩ = some (.slice none 0 0) := (hb1.cell (p := ⟨w.heap.size + 1, 1, none⟩) (by simp)).trans (by go_simp)
  have f0 : w1.frozen? ⟨w.heap.size + 1, 0, none⟩ = false := (hb1.frozen (p := ⟨w.heap.size + 1, 0, none⟩) (by simp)).trans (by go_simp)
  have f1 : w1.frozen? ⟨w.heap.size + 1, 1, none⟩ = false := (hb1.frozen (p := ⟨w.heap.size + 1, 1, none⟩) (by simp)).trans (by go_simp)
  go_wp2
  refine bodyPost_ret (v := .tuple #[.agg #[.int .i64 0, .slice none 0 0], .int .i64 2]) (by simp [results, Tryd.results19, go_sem, c0, c1]) rfl ⟨rfl, ?_⟩
  exact ((hb0.trans (hb1.mono (by simp; omega))).setCell (by simp) _).setCell (by simp) _

set_option maxHeartbeats 400000 in
theorem rotate_yes (h : Int) (A : Option Addr) (n c : Nat) (xs : List Int) (s : Int) (w : World) (hI : Ints w w.heap.size A n xs) (hn : n ≤ 9223372036854775807) (hv : validB h xs = true) :
    Calls Tryd.prog 19 #[.agg #[.int .i64 h, .slice A n c], .int .i64 s] w (AntR2 w h (rotL s xs 16)) := by
  have hb0 : Below w.heap.size w ((w.alloc (.cells #[.int .i64 h, .slice A n c] 31)).alloc (.cells #[.int .i64 0, .slice none 0 0] 31)) := ((Below.refl _ _).alloc (Nat.le_refl _) _).alloc (by simp) _
  have HI := Lib.hid (hI.next hb0)
  have h16 : n = 16 := by have := (validB_iff h xs).1 hv; have := hI.1; omega
  subst h16
  obtain ⟨b, off, rfl, hb, hc⟩ := hI.2 (by omega)
  have HC := Lib.hid hc
  have HL := Lib.hid hI.1
  have HB := Lib.hid hb0
  clear hI hc hb0
  go_enter Tryd.func19, Tryd.ntmps19
  go_wp2_with fail
  refine (valid_any h _ 16 c xs _ HI.out hn).mono ?_
  rintro e w1 ⟨rfl, hb1⟩
  have HB1 := Lib.hid hb1
  have hs1 : w.heap.size + 2 ≤ w1.heap.size := by simpa using hb1.size
  have p0 : w1.cell? ⟨w.heap.size, 0, none⟩ = some (.int .i64 h) := (hb1.cell (p := ⟨w.heap.size, 0, none⟩) (by simp <;> omega)).trans (by go_simp)
  have p1 : w1.cell? ⟨w.heap.size, 1, none⟩ = some (.slice (some ⟨b, off, none⟩) 16 c) := (hb1.cell (p := ⟨w.heap.size, 1, none⟩) (by simp <;> omega)).trans (by go_simp)
  have HI1 := Lib.hid (HI.out.next hb1)
  clear hb1
  go_wp2_with fail
  refine (copy_any h _ 16 c xs _ HI1.out (by omega)).mono ?_
  rintro e w2 ⟨A', n', c', rfl, hown, hb2⟩
  obtain rfl : n' = 16 := by have := hown.len; have := HL.out; omega
  obtain ⟨g, hg0, hg1, hg2⟩ : ∃ g, A' = some ⟨g, 0, none⟩ ∧ w1.heap.size ≤ g ∧ g < w2.heap.size := by
    rcases hown.form with ⟨_, h0, _⟩ | ⟨g, cur, e, h1, h2, _⟩
    · omega
    · exact ⟨g, e, h1, h2⟩
  subst hg0
  go_wp2_with fail
  have HW : Hid (∀ j, j < 16 → (w2.alloc (.cells #[.int .i64 h, .slice (some ⟨g, 0, none⟩) 16 c'] 31)).cell? ⟨b, off + j, none⟩ = some (.int .i64 (xs[j]?.getD 0))) := by
    intro j hj
    rw [World.cell?_alloc_lt _ _ _ (by show b < _; omega), hb2.cell (p := ⟨b, off + j, none⟩) (by show b < _; omega), HB1.out.cell (p := ⟨b, off + j, none⟩) (by simp <;> omega), HB.out.cell (p := ⟨b, off + j, none⟩) hb]
    exact HC.out j hj
  have HP : Hid ((w2.alloc (.cells #[.int .i64 h, .slice (some ⟨g, 0, none⟩) 16 c'] 31)).cell? ⟨w.heap.size, 1, none⟩ = some (.slice (some ⟨b, off, none⟩) 16 c)) := by
    show World.cell? _ _ = _
    rw [World.cell?_alloc_lt _ _ _ (by show w.heap.size < _; omega), hb2.cell (p := ⟨w.heap.size, 1, none⟩) (by show w.heap.size < _; omega)]
    exact p1
  have HR : Hid ((w2.alloc (.cells #[.int .i64 h, .slice (some ⟨g, 0, none⟩) 16 c'] 31)).cell? ⟨w.heap.size + 1, 0, none⟩ = some (.int .i64 0) ∧ (w2.alloc (.cells #[.int .i64 h, .slice (some ⟨g, 0, none⟩) 16 c'] 31)).cell? ⟨w.heap.size + 1, 1, none⟩ = some (.slice none 0 0) ∧
      (w2.alloc (.cells #[.int .i64 h, .slice (some ⟨g, 0, none⟩) 16 c'] 31)).frozen? ⟨w.heap.size + 1, 0, none⟩ = false ∧ (w2.alloc (.cells #[.int .i64 h, .slice (some ⟨g, 0, none⟩) 16 c'] 31)).frozen? ⟨w.heap.size + 1, 1, none⟩ = false) := by
    have k1 := ((HB1.out.trans (hb2.mono (by simp; omega))).alloc (by simp; omega) (.cells #[.int .i64 h, .slice (some ⟨g, 0, none⟩) 16 c'] 31))
    exact ⟨(k1.cell (p := ⟨w.heap.size + 1, 0, none⟩) (by simp)).trans (by go_simp), (k1.cell (p := ⟨w.heap.size + 1, 1, none⟩) (by simp)).trans (by go_simp), (k1.frozen (p := ⟨w.heap.size + 1, 0, none⟩) (by simp)).trans (by go_simp), (k1.frozen (p := ⟨w.heap.size + 1, 1, none⟩) (by simp)).trans (by go_simp)⟩
  have HBW : Hid (Below w.heap.size w (w2.alloc (.cells #[.int .i64 h, .slice (some ⟨g, 0, none⟩) 16 c'] 31))) :=
    ((HB.out.trans (HB1.out.mono (by simp; omega))).trans (hb2.mono (by omega))).alloc (by omega) _
  have hs2 : w1.heap.size ≤ w2.heap.size := hb2.size
  have HO := Lib.hid hown
  clear hown hb2 p0 p1
  go_loopw [7, 17] (fun _ i wr => ∃ k : Nat, k ≤ 16 ∧ i = .int .i64 k ∧ Own wr w1.heap.size 3 (some ⟨g, 0, none⟩) 16 c' (rotL s xs k) ∧ (w2.alloc (.cells #[.int .i64 h, .slice (some ⟨g, 0, none⟩) 16 c'] 31)).grownBy wr (some g)) (fun _ i _ => 16 - (intOf i).toNat)
  case atStart => exact ⟨0, by omega, rfl, by rw [rotL_zero _ _ HL.out]; exact HO.out.alloc _, World.grownBy.refl _ _⟩
  case round =>
    obtain ⟨k, hk, rfl, hown', hgr⟩ := hrel
    have HG := Lib.hid hgr
    have HO' := Lib.hid hown'
    have q0 : wr.cell? ⟨w2.heap.size, 0, none⟩ = some (.int .i64 h) := (cell_grown hgr 0 (by simp) (by simp; omega)).trans (by go_simp)
    have q1 : wr.cell? ⟨w2.heap.size, 1, none⟩ = some (.slice (some ⟨g, 0, none⟩) 16 c') := (cell_grown hgr 1 (by simp) (by simp; omega)).trans (by go_simp)
    by_cases hlt : k < 16
    · have p1 : wr.cell? ⟨w.heap.size, 1, none⟩ = some (.slice (some ⟨b, off, none⟩) 16 c) := (cell_grown hgr 1 (by simp; omega) (by simp; omega)).trans HP.out
      have r1 : wr.cell? ⟨b, off + rotAt s k, none⟩ = some (.int .i64 (xs[rotAt s k]?.getD 0)) := (cell_grown hgr _ (by simp; omega) (by simp; omega)).trans (HW.out _ (rotAt_lt s k))
      have g1 := hown'.cell hlt
      have g2 := hown'.frozen k
      have hki : (k : Int) < 16 := by omega
      have hj := and_rot s k
      have hj' := and_rot' s k
      have hr0 := rotAt_lt s k
      have hr1 : (rotAt s k : Int) < 16 := by omega
      clear hown' hgr
      go_wp2
      go_region
      all_goals
        go_wp2
        go_roundw
        case rel => exact ⟨k + 1, by omega, by go_num, by rw [← rotL_succ]; exact HO'.out.stored _, HG.out.trans ⟨rfl, rfl, rfl, by simp, fun i _ hne => Below.heap_setCell _ _ _ _ (by simpa using hne)⟩⟩
        case measure => simp [intOf]; omega
    · obtain rfl : k = 16 := by omega
      obtain ⟨t0, t1, t2, t3⟩ := HR.out
      have u0 : wr.cell? ⟨w.heap.size + 1, 0, none⟩ = some (.int .i64 0) := (cell_grown hgr _ (by simp; omega) (by simp; omega)).trans t0
      have u1 : wr.cell? ⟨w.heap.size + 1, 1, none⟩ = some (.slice none 0 0) := (cell_grown hgr _ (by simp; omega) (by simp; omega)).trans t1
      have u2 : wr.frozen? ⟨w.heap.size + 1, 0, none⟩ = false := (frozen_grown hgr _ (by simp; omega) (by simp; omega)).trans t2
      have u3 : wr.frozen? ⟨w.heap.size + 1, 1, none⟩ = false := (frozen_grown hgr _ (by simp; omega) (by simp; omega)).trans t3
      clear hown' hgr t0 t1 t2 t3
      go_wp2
      refine bodyPost_ret (v := .tuple #[.agg #[.int .i64 h, .slice (some ⟨g, 0, none⟩) 16 c'], .int .i64 0]) (by simp [results, Tryd.results19, go_sem, u0, u1]) rfl ⟨_, _, _, rfl, ?_, ?_⟩
      · exact ((HO'.out.less (by omega)).far (p := ⟨w.heap.size + 1, 0, none⟩) (by intro g' hg'; injection hg' with e; injection e with e; simp; omega) _).far (p := ⟨w.heap.size + 1, 1, none⟩) (by intro g' hg'; injection hg' with e; injection e with e; simp; omega) _
      · exact ((HBW.out.grown HG.out (by simp; omega) (by intro k hk; injection hk with hk; omega)).setCell (by simp) _).setCell (by simp) _
end Go.Proofs.YthaodhipebadcaaDoor
