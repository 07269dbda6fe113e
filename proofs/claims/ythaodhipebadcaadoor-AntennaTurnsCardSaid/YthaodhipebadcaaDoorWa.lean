/- Contract of antenna.Envelope. -/
import Derived.Test.YthaodhipebadcaaDoorW9
namespace Go.Proofs.YthaodhipebadcaaDoor
open Go.RowKit
def minL (xs ys : List Int) (k : Nat) : List Int := (List.range 16).map fun d => if d < k then min (xs[d]?.getD 0) (ys[d]?.getD 0) else xs[d]?.getD 0
theorem minL_len (xs ys : List Int) (k : Nat) : (minL xs ys k).length = 16 := by simp [minL]
theorem minL_zero (xs ys : List Int) (h : xs.length = 16) : minL xs ys 0 = xs := by
  apply List.ext_getElem
  · simp [minL_len, h]
  · intro i h1 h2; simp [minL, h2]
theorem minL_at (xs ys : List Int) (k : Nat) (hk : k < 16) : (minL xs ys k)[k]?.getD 0 = xs[k]?.getD 0 := by simp [minL, hk]
theorem minL_succ (xs ys : List Int) (k : Nat) : (minL xs ys k).set k (min (xs[k]?.getD 0) (ys[k]?.getD 0)) = minL xs ys (k + 1) := by
  apply List.ext_getElem
  · simp [minL_len]
  · intro i h1 h2
    simp only [List.length_set, minL_len] at h1
    simp only [List.getElem_set, minL, List.getElem_map, List.getElem_range]
    by_cases e : k = i
    · subst e; simp
    · by_cases e2 : i < k
      · rw [if_neg e, if_pos e2, if_pos (by omega)]
      · rw [if_neg e, if_neg e2, if_neg (by omega)]

set_option maxHeartbeats 400000 in
theorem envelope_no1 (h : Int) (A : Option Addr) (n c : Nat) (xs : List Int) (h2 : Int) (A2 : Option Addr) (m c2 : Nat) (w : World) (hI : Ints w w.heap.size A n xs) (hn : n ≤ 9223372036854775807) (hv : validB h xs = false) :
    Calls Tryd.prog 24 #[.agg #[.int .i64 h, .slice A n c], .agg #[.int .i64 h2, .slice A2 m c2]] w (AntNo w) := by
  have hb0 : Below w.heap.size w (((w.alloc (.cells #[.int .i64 h, .slice A n c] 31)).alloc (.cells #[.int .i64 h2, .slice A2 m c2] 31)).alloc (.cells #[.int .i64 0, .slice none 0 0] 31)) := (((Below.refl _ _).alloc (Nat.le_refl _) _).alloc (by simp) _).alloc (by simp <;> omega) _
  have HI := Lib.hid (hI.next hb0)
  clear hI
  go_enter Tryd.func24, Tryd.ntmps24
  go_wp2_with fail
  refine (valid_any h A n c xs _ HI.out hn).mono ?_
  rintro e w1 ⟨rfl, hb1⟩
  have c0 : w1.cell? ⟨w.heap.size + 1 + 1, 0, none⟩ = some (.int .i64 0) := (hb1.cell (p := ⟨w.heap.size + 1 + 1, 0, none⟩) (by simp)).trans (by go_simp)
  have c1 : w1.cell? ⟨w.heap.size + 1 + 1, 1, none⟩ = some (.slice none 0 0) := (hb1.cell (p := ⟨w.heap.size + 1 + 1, 1, none⟩) (by simp)).trans (by go_simp)
  have f0 : w1.frozen? ⟨w.heap.size + 1 + 1, 0, none⟩ = false := (hb1.frozen (p := ⟨w.heap.size + 1 + 1, 0, none⟩) (by simp)).trans (by go_simp)
  have f1 : w1.frozen? ⟨w.heap.size + 1 + 1, 1, none⟩ = false := (hb1.frozen (p := ⟨w.heap.size + 1 + 1, 1, none⟩) (by simp)).trans (by go_simp)
  go_wp2
  refine bodyPost_ret (v := .tuple #[.agg #[.int .i64 0, .slice none 0 0], .int .i64 2]) (by simp [results, Tryd.results24, go_sem, c0, c1]) rfl ⟨rfl, ?_⟩
  exact ((hb0.trans (hb1.mono (by simp; omega))).setCell (by simp <;> omega) _).setCell (by simp <;> omega) _

set_option maxHeartbeats 400000 in
theorem envelope_no2 (h : Int) (A : Option Addr) (n c : Nat) (xs : List Int) (h2 : Int) (A2 : Option Addr) (m c2 : Nat) (ys : List Int) (w : World) (hI : Ints w w.heap.size A n xs) (hJ : Ints w w.heap.size A2 m ys) (hn : n ≤ 9223372036854775807) (hm : m ≤ 9223372036854775807)
    (hv : validB h xs = true) (hv2 : validB h2 ys = false) :
    Calls Tryd.prog 24 #[.agg #[.int .i64 h, .slice A n c], .agg #[.int .i64 h2, .slice A2 m c2]] w (AntNo w) := by
  have hb0 : Below w.heap.size w (((w.alloc (.cells #[.int .i64 h, .slice A n c] 31)).alloc (.cells #[.int .i64 h2, .slice A2 m c2] 31)).alloc (.cells #[.int .i64 0, .slice none 0 0] 31)) := (((Below.refl _ _).alloc (Nat.le_refl _) _).alloc (by simp) _).alloc (by simp <;> omega) _
  have HI := Lib.hid (hI.next hb0)
  have HJ := Lib.hid (hJ.next hb0)
  clear hI hJ
  go_enter Tryd.func24, Tryd.ntmps24
  go_wp2_with fail
  refine (valid_any h A n c xs _ HI.out hn).mono ?_
  rintro e w1 ⟨rfl, hb1⟩
  have b0 : w1.cell? ⟨w.heap.size + 1, 0, none⟩ = some (.int .i64 h2) := (hb1.cell (p := ⟨w.heap.size + 1, 0, none⟩) (by simp <;> omega)).trans (by go_simp)
  have b1 : w1.cell? ⟨w.heap.size + 1, 1, none⟩ = some (.slice A2 m c2) := (hb1.cell (p := ⟨w.heap.size + 1, 1, none⟩) (by simp <;> omega)).trans (by go_simp)
  go_wp2_with fail
  refine (valid_any h2 A2 m c2 ys _ (HJ.out.next hb1) hm).mono ?_
  rintro e w2 ⟨rfl, hb2'⟩
  have hb2 := hb1.trans (hb2'.mono hb1.size)
  clear hb2' b0 b1
  have c0 : w2.cell? ⟨w.heap.size + 1 + 1, 0, none⟩ = some (.int .i64 0) := (hb2.cell (p := ⟨w.heap.size + 1 + 1, 0, none⟩) (by simp)).trans (by go_simp)
  have c1 : w2.cell? ⟨w.heap.size + 1 + 1, 1, none⟩ = some (.slice none 0 0) := (hb2.cell (p := ⟨w.heap.size + 1 + 1, 1, none⟩) (by simp)).trans (by go_simp)
  have f0 : w2.frozen? ⟨w.heap.size + 1 + 1, 0, none⟩ = false := (hb2.frozen (p := ⟨w.heap.size + 1 + 1, 0, none⟩) (by simp)).trans (by go_simp)
  have f1 : w2.frozen? ⟨w.heap.size + 1 + 1, 1, none⟩ = false := (hb2.frozen (p := ⟨w.heap.size + 1 + 1, 1, none⟩) (by simp)).trans (by go_simp)
  go_wp2
  refine bodyPost_ret (v := .tuple #[.agg #[.int .i64 0, .slice none 0 0], .int .i64 2]) (by simp [results, Tryd.results24, go_sem, c0, c1]) rfl ⟨rfl, ?_⟩
  exact ((hb0.trans (hb2.mono (by simp; omega))).setCell (by simp <;> omega) _).setCell (by simp <;> omega) _

set_option maxHeartbeats 800000 in
theorem envelope_yes (h : Int) (A : Option Addr) (n c : Nat) (xs : List Int) (h2 : Int) (A2 : Option Addr) (m c2 : Nat) (ys : List Int) (w : World) (hI : Ints w w.heap.size A n xs) (hJ : Ints w w.heap.size A2 m ys)
    (hv : validB h xs = true) (hv2 : validB h2 ys = true) :
    Calls Tryd.prog 24 #[.agg #[.int .i64 h, .slice A n c], .agg #[.int .i64 h2, .slice A2 m c2]] w (AntR2 w (min h h2) (minL xs ys 16)) := by
  obtain ⟨M, hM⟩ : ∃ M, M = min h h2 := ⟨_, rfl⟩
  rw [← hM]
  have HM := Lib.hid hM
  clear hM
  have hb0 : Below w.heap.size w (((w.alloc (.cells #[.int .i64 h, .slice A n c] 31)).alloc (.cells #[.int .i64 h2, .slice A2 m c2] 31)).alloc (.cells #[.int .i64 0, .slice none 0 0] 31)) := (((Below.refl _ _).alloc (Nat.le_refl _) _).alloc (by simp) _).alloc (by simp <;> omega) _
  have HI := Lib.hid (hI.next hb0)
  have HJ := Lib.hid (hJ.next hb0)
  obtain rfl : n = 16 := by have := (validB_iff h xs).1 hv; have := hI.1; omega
  obtain rfl : m = 16 := by have := (validB_iff h2 ys).1 hv2; have := hJ.1; omega
  have HL := Lib.hid hI.1
  obtain ⟨b, off, rfl, hb, hc⟩ := hJ.2 (by omega)
  have HC := Lib.hid hc
  have HB0 := Lib.hid hb0
  clear hI hJ hc hb0
  go_enter Tryd.func24, Tryd.ntmps24
  go_wp2_with fail
  refine (valid_any h A 16 c xs _ HI.out (by omega)).mono ?_
  rintro e w1 ⟨rfl, hb1⟩
  have b0 : w1.cell? ⟨w.heap.size + 1, 0, none⟩ = some (.int .i64 h2) := (hb1.cell (p := ⟨w.heap.size + 1, 0, none⟩) (by simp <;> omega)).trans (by go_simp)
  have b1 : w1.cell? ⟨w.heap.size + 1, 1, none⟩ = some (.slice (some ⟨b, off, none⟩) 16 c2) := (hb1.cell (p := ⟨w.heap.size + 1, 1, none⟩) (by simp <;> omega)).trans (by go_simp)
  go_wp2_with fail
  refine (valid_any h2 _ 16 c2 ys _ (HJ.out.next hb1) (by omega)).mono ?_
  rintro e w2 ⟨rfl, hb2'⟩
  have hb2 := hb1.trans (hb2'.mono hb1.size)
  have HI2 := Lib.hid ((HI.out.next hb1).next hb2')
  clear hb2' b0 b1 hb1
  have a0 : w2.cell? ⟨w.heap.size, 0, none⟩ = some (.int .i64 h) := (hb2.cell (p := ⟨w.heap.size, 0, none⟩) (by simp <;> omega)).trans (by go_simp)
  have a1 : w2.cell? ⟨w.heap.size, 1, none⟩ = some (.slice A 16 c) := (hb2.cell (p := ⟨w.heap.size, 1, none⟩) (by simp <;> omega)).trans (by go_simp)
  have hs2 : w.heap.size + 1 + 1 + 1 ≤ w2.heap.size := by simpa using hb2.size
  go_wp2_with fail
  refine (copy_any h _ 16 c xs _ HI2.out (by omega)).mono ?_
  rintro e w3 ⟨A', n', c', rfl, hown, hb3'⟩
  obtain rfl : n' = 16 := by have := hown.len; have := HL.out; omega
  obtain ⟨g, hg0, hg1, hg2⟩ : ∃ g, A' = some ⟨g, 0, none⟩ ∧ w2.heap.size ≤ g ∧ g < w3.heap.size := by
    rcases hown.form with ⟨_, h0, _⟩ | ⟨g, cur, e, h1, h2, _⟩
    · omega
    · exact ⟨g, e, h1, h2⟩
  subst hg0
  have hb3 := hb2.trans (hb3'.mono hb2.size)
  clear hb3' a0 a1 hb2
  have a0 : w3.cell? ⟨w.heap.size, 0, none⟩ = some (.int .i64 h) := (hb3.cell (p := ⟨w.heap.size, 0, none⟩) (by simp <;> omega)).trans (by go_simp)
  have b0 : w3.cell? ⟨w.heap.size + 1, 0, none⟩ = some (.int .i64 h2) := (hb3.cell (p := ⟨w.heap.size + 1, 0, none⟩) (by simp <;> omega)).trans (by go_simp)
  have b1 : w3.cell? ⟨w.heap.size + 1, 1, none⟩ = some (.slice (some ⟨b, off, none⟩) 16 c2) := (hb3.cell (p := ⟨w.heap.size + 1, 1, none⟩) (by simp <;> omega)).trans (by go_simp)
  have hs3 : w.heap.size + 1 + 1 + 1 ≤ w3.heap.size := by simpa using hb3.size
  have hs3a : w.heap.size < w3.heap.size := by omega
  have hs3b : w.heap.size + 1 < w3.heap.size := by omega
  have hmin : (if h2 < h then h2 else h) = M := by have := HM.out; split <;> omega
  go_wp2_with fail
  have HW : Hid (∀ j, j < 16 → (w3.alloc (.cells #[.int .i64 M, .slice (some ⟨g, 0, none⟩) 16 c'] 31)).cell? ⟨b, off + j, none⟩ = some (.int .i64 (ys[j]?.getD 0))) := by
    intro j hj
    rw [World.cell?_alloc_lt _ _ _ (by show b < _; omega), hb3.cell (p := ⟨b, off + j, none⟩) (by simp <;> omega), HB0.out.cell (p := ⟨b, off + j, none⟩) hb]
    exact HC.out j hj
  have HR : Hid ((w3.alloc (.cells #[.int .i64 M, .slice (some ⟨g, 0, none⟩) 16 c'] 31)).cell? ⟨w.heap.size + 1 + 1, 0, none⟩ = some (.int .i64 0) ∧ (w3.alloc (.cells #[.int .i64 M, .slice (some ⟨g, 0, none⟩) 16 c'] 31)).cell? ⟨w.heap.size + 1 + 1, 1, none⟩ = some (.slice none 0 0) ∧
      (w3.alloc (.cells #[.int .i64 M, .slice (some ⟨g, 0, none⟩) 16 c'] 31)).frozen? ⟨w.heap.size + 1 + 1, 0, none⟩ = false ∧ (w3.alloc (.cells #[.int .i64 M, .slice (some ⟨g, 0, none⟩) 16 c'] 31)).frozen? ⟨w.heap.size + 1 + 1, 1, none⟩ = false) := by
    have k1 := hb3.alloc (by simp; omega) (.cells #[.int .i64 M, .slice (some ⟨g, 0, none⟩) 16 c'] 31)
    exact ⟨(k1.cell (p := ⟨w.heap.size + 1 + 1, 0, none⟩) (by simp)).trans (by go_simp), (k1.cell (p := ⟨w.heap.size + 1 + 1, 1, none⟩) (by simp)).trans (by go_simp), (k1.frozen (p := ⟨w.heap.size + 1 + 1, 0, none⟩) (by simp)).trans (by go_simp), (k1.frozen (p := ⟨w.heap.size + 1 + 1, 1, none⟩) (by simp)).trans (by go_simp)⟩
  have HBW : Hid (Below w.heap.size w (w3.alloc (.cells #[.int .i64 M, .slice (some ⟨g, 0, none⟩) 16 c'] 31))) :=
    (HB0.out.trans (hb3.mono (by simp; omega))).alloc (by omega) _
  have HO := Lib.hid hown
  clear hown hb3 a0 b0 b1 hmin
  go_loopw [7, 8, 29] (fun _ _ i wr => ∃ k : Nat, k ≤ 16 ∧ i = .int .i64 k ∧ Own wr w2.heap.size 3 (some ⟨g, 0, none⟩) 16 c' (minL xs ys k) ∧ (w3.alloc (.cells #[.int .i64 M, .slice (some ⟨g, 0, none⟩) 16 c'] 31)).grownBy wr (some g)) (fun _ _ i _ => 16 - (intOf i).toNat)
  case atStart => exact ⟨0, by omega, rfl, by rw [minL_zero _ _ HL.out]; exact HO.out.alloc _, World.grownBy.refl _ _⟩
  case round =>
    obtain ⟨k, hk, rfl, hown', hgr⟩ := hrel
    have HG := Lib.hid hgr
    have HO' := Lib.hid hown'
    have q0 : wr.cell? ⟨w3.heap.size, 0, none⟩ = some (.int .i64 M) := (cell_grown hgr 0 (by simp) (by simp; omega)).trans (by go_simp)
    have q1 : wr.cell? ⟨w3.heap.size, 1, none⟩ = some (.slice (some ⟨g, 0, none⟩) 16 c') := (cell_grown hgr 1 (by simp) (by simp; omega)).trans (by go_simp)
    by_cases hlt : k < 16
    · have r1 : wr.cell? ⟨b, off + k, none⟩ = some (.int .i64 (ys[k]?.getD 0)) := (cell_grown hgr _ (by simp; omega) (by simp; omega)).trans (HW.out _ hlt)
      have g1 := hown'.cell hlt
      rw [minL_at _ _ _ hlt] at g1
      have g2 := hown'.frozen k
      have hki : (k : Int) < 16 := by omega
      obtain ⟨m, hm⟩ : ∃ m, m = min (xs[k]?.getD 0) (ys[k]?.getD 0) := ⟨_, rfl⟩
      have hmm : (if ys[k]?.getD 0 < xs[k]?.getD 0 then ys[k]?.getD 0 else xs[k]?.getD 0) = m := by rw [hm]; split <;> omega
      have HM := Lib.hid hm
      clear hown' hgr hm
      go_wp2
      go_region
      all_goals
        go_wp2
        go_roundw
        case rel => exact ⟨k + 1, by omega, by go_num, by rw [← minL_succ, ← HM.out]; exact HO'.out.stored _, HG.out.trans ⟨rfl, rfl, rfl, by simp, fun i _ hne => Below.heap_setCell _ _ _ _ (by simpa using hne)⟩⟩
        case measure => simp [intOf]; omega
    · obtain rfl : k = 16 := by omega
      obtain ⟨t0, t1, t2, t3⟩ := HR.out
      have u0 : wr.cell? ⟨w.heap.size + 1 + 1, 0, none⟩ = some (.int .i64 0) := (cell_grown hgr _ (by simp; omega) (by simp; omega)).trans t0
      have u1 : wr.cell? ⟨w.heap.size + 1 + 1, 1, none⟩ = some (.slice none 0 0) := (cell_grown hgr _ (by simp; omega) (by simp; omega)).trans t1
      have u2 : wr.frozen? ⟨w.heap.size + 1 + 1, 0, none⟩ = false := (frozen_grown hgr _ (by simp; omega) (by simp; omega)).trans t2
      have u3 : wr.frozen? ⟨w.heap.size + 1 + 1, 1, none⟩ = false := (frozen_grown hgr _ (by simp; omega) (by simp; omega)).trans t3
      clear hown' hgr t0 t1 t2 t3
      go_wp2
      refine bodyPost_ret (v := .tuple #[.agg #[.int .i64 M, .slice (some ⟨g, 0, none⟩) 16 c'], .int .i64 0]) (by simp [results, Tryd.results24, go_sem, u0, u1]) rfl ⟨_, _, _, rfl, ?_, ?_⟩
      · exact ((HO'.out.less (by omega)).far (p := ⟨w.heap.size + 1 + 1, 0, none⟩) (by intro g' hg'; injection hg' with e; injection e with e; simp; omega) _).far (p := ⟨w.heap.size + 1 + 1, 1, none⟩) (by intro g' hg'; injection hg' with e; injection e with e; simp; omega) _
      · exact ((HBW.out.grown HG.out (by simp; omega) (by intro k hk; injection hk with hk; omega)).setCell (by simp <;> omega) _).setCell (by simp <;> omega) _
end Go.Proofs.YthaodhipebadcaaDoor
