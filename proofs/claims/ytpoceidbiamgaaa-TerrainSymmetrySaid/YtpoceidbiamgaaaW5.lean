/- Contracts of slices.Equal at []int, terrain.Equal. -/
import Derived.Test.YtpoceidbiamgaaaW4
import Derived.Deep.RegionLaw
set_option linter.unusedVariables false
set_option linter.unusedSimpArgs false
namespace Go.Proofs.Ytpoceidbiamgaaa
open Go.RowKit

def eqB (xs ys : List Int) : Bool := decide (xs = ys)
theorem eqB_len {xs ys : List Int} (h : xs.length ≠ ys.length) : eqB xs ys = false := by
  simp only [eqB, decide_eq_false_iff_not]; rintro rfl; exact h rfl
theorem eqB_at {xs ys : List Int} {k : Nat} (h : xs[k]?.getD 0 ≠ ys[k]?.getD 0) : eqB xs ys = false := by
  simp only [eqB, decide_eq_false_iff_not]; rintro rfl; exact h rfl
theorem take_eq {xs ys : List Int} {k : Nat} (hx : k < xs.length) (hy : k < ys.length) (h : xs.take k = ys.take k) (he : xs[k]?.getD 0 = ys[k]?.getD 0) : xs.take (k + 1) = ys.take (k + 1) := by
  rw [List.take_succ_eq_append_getElem hx, List.take_succ_eq_append_getElem hy, h]
  simp [hx, hy] at he
  rw [he]
theorem eqB_end {xs ys : List Int} {n : Nat} (hx : xs.length = n) (hy : ys.length = n) (h : xs.take n = ys.take n) : eqB xs ys = true := by
  rw [List.take_of_length_le (by omega), List.take_of_length_le (by omega)] at h
  simp [eqB, h]

set_option maxHeartbeats 400000 in
theorem slEqual_any (A A2 : Option Addr) (n c m c2 : Nat) (xs ys : List Int) (w : World) (hI : Ints w w.heap.size A n xs) (hJ : Ints w w.heap.size A2 m ys) (hn : n ≤ 4611686018427387904) (hm : m ≤ 4611686018427387904) :
    Calls Try.prog 46 #[.slice A n c, .slice A2 m c2] w fun e w' => e = .returned (.bool (eqB xs ys)) ∧ Below w.heap.size w w' := by
  by_cases hnm : n = m
  · subst hnm
    have HX := Lib.hid hI.1
    have HY := Lib.hid hJ.1
    by_cases h0 : n = 0
    · subst h0
      clear hI hJ
      go_enter Try.func46, Try.ntmps46
      go_wp2
      refine wp_loop_rounds 1 ?_
      rw [rounds_succ]
      go_wp2
      go_ret
      exact ⟨ret_bool (eqB_end HX.out HY.out rfl).symm, Below.refl _ _⟩
    · obtain ⟨b, off, rfl, hb, hc⟩ := hI.2 (by omega)
      obtain ⟨b2, off2, rfl, hb2, hc2⟩ := hJ.2 (by omega)
      have HC := Lib.hid hc
      have HC2 := Lib.hid hc2
      clear hI hJ hc hc2
      go_enter Try.func46, Try.ntmps46
      go_wp2
      go_loopw [5, 13] (fun _ i wr => ∃ k : Nat, k ≤ n ∧ i = .int .i64 k ∧ xs.take k = ys.take k ∧ Below w.heap.size w wr) (fun _ i _ => n - (intOf i).toNat)
      case atStart => exact ⟨0, by omega, rfl, by simp, Below.refl _ _⟩
      case round =>
        obtain ⟨k, hk, rfl, he, hB⟩ := hrel
        have HE := Lib.hid he
        clear he
        by_cases hlt : k < n
        · have hck := (hB.cell (p := ⟨b, off + k, none⟩) hb).trans (HC.out k hlt)
          have hck2 := (hB.cell (p := ⟨b2, off2 + k, none⟩) hb2).trans (HC2.out k hlt)
          have hki : (k : Int) < n := by omega
          by_cases hq : xs[k]?.getD 0 = ys[k]?.getD 0
          · have hq1 : (xs[k]?.getD 0 != ys[k]?.getD 0) = false := by simp [hq]
            have HQ := Lib.hid hq
            clear hq
            go_wp2
            go_quiet (fail)
            go_wp2
            go_roundw
            case rel => exact ⟨k + 1, by omega, by go_num, take_eq (by have := HX.out; omega) (by have := HY.out; omega) HE.out HQ.out, below_drewN hB _⟩
            case measure => simp [intOf]; omega
          · have hq1 : (xs[k]?.getD 0 != ys[k]?.getD 0) = true := by simpa using hq
            have HQ := Lib.hid hq
            clear hq
            go_wp2
            go_quiet (fail)
            go_wp2
            go_ret
            exact ⟨ret_bool (eqB_at HQ.out).symm, below_drewN hB _⟩
        · obtain rfl : k = n := by omega
          go_wp2
          go_ret
          exact ⟨ret_bool (eqB_end HX.out HY.out HE.out).symm, hB⟩
  · rw [eqB_len (by have := hI.1; have := hJ.1; omega)]
    have h5 : ((n : Int) != m) = true := by rw [bne_iff_ne]; omega
    clear hI hJ
    go_enter Try.func46, Try.ntmps46
    go_wp2
    go_ret
    exact ⟨rfl, Below.refl _ _⟩


/-- What both Equals answer. -/
def eqT (W H : Int) (g p : List Int) (W' H' : Int) (g' p' : List Int) : Bool := decide (W = W' ∧ H = H') && (eqB g g' && eqB p p')
theorem eqT_no {W H W' H' : Int} {g p g' p' : List Int} (h : ¬ (W = W' ∧ H = H')) : eqT W H g p W' H' g' p' = false := by simp only [eqT, decide_eq_false h, Bool.false_and]
theorem eqT_wh {W H : Int} {g p g' p' : List Int} : eqT W H g p W H g' p' = (eqB g g' && eqB p p') := by simp [eqT]
theorem eqT_self (W H : Int) (g p : List Int) : eqT W H g p W H g p = true := by simp [eqT, eqB]

set_option maxHeartbeats 800000 in
theorem equal_any (W H : Int) (A : Option Addr) (n c : Nat) (A2 : Option Addr) (m c2 : Nat) (g p : List Int) (W' H' : Int) (A' : Option Addr) (n' c' : Nat) (A2' : Option Addr) (m' c2' : Nat) (g' p' : List Int) (w : World)
    (hG : Ints w w.heap.size A n g) (hP : Ints w w.heap.size A2 m p) (hn : n ≤ 4611686018427387904) (hm : m ≤ 4611686018427387904)
    (hG' : Ints w w.heap.size A' n' g') (hP' : Ints w w.heap.size A2' m' p') (hn' : n' ≤ 4611686018427387904) (hm' : m' ≤ 4611686018427387904) :
    Calls Try.prog 23 #[.agg #[.int .i64 W, .int .i64 H, .slice A n c, .slice A2 m c2], .agg #[.int .i64 W', .int .i64 H', .slice A' n' c', .slice A2' m' c2']] w fun e w' => e = .returned (.bool (eqT W H g p W' H' g' p')) ∧ Below w.heap.size w w' := by
  by_cases k1 : W = W'
  · by_cases k2 : H = H'
    · subst k1
      subst k2
      rw [eqT_wh]
      have HB : Below w.heap.size w ((w.alloc (.cells #[.int .i64 W, .int .i64 H, .slice A n c, .slice A2 m c2] 24)).alloc (.cells #[.int .i64 W, .int .i64 H, .slice A' n' c', .slice A2' m' c2'] 24)) := ((Below.refl w.heap.size w).alloc (Nat.le_refl _) _).alloc (by simp) _
      have t0 : ((w.alloc (.cells #[.int .i64 W, .int .i64 H, .slice A n c, .slice A2 m c2] 24)).alloc (.cells #[.int .i64 W, .int .i64 H, .slice A' n' c', .slice A2' m' c2'] 24)).cell? ⟨w.heap.size, 0, none⟩ = some (.int .i64 W) := by go_simp
      have t1 : ((w.alloc (.cells #[.int .i64 W, .int .i64 H, .slice A n c, .slice A2 m c2] 24)).alloc (.cells #[.int .i64 W, .int .i64 H, .slice A' n' c', .slice A2' m' c2'] 24)).cell? ⟨w.heap.size, 1, none⟩ = some (.int .i64 H) := by go_simp
      have t2 : ((w.alloc (.cells #[.int .i64 W, .int .i64 H, .slice A n c, .slice A2 m c2] 24)).alloc (.cells #[.int .i64 W, .int .i64 H, .slice A' n' c', .slice A2' m' c2'] 24)).cell? ⟨w.heap.size, 2, none⟩ = some (.slice A n c) := by go_simp
      have t3 : ((w.alloc (.cells #[.int .i64 W, .int .i64 H, .slice A n c, .slice A2 m c2] 24)).alloc (.cells #[.int .i64 W, .int .i64 H, .slice A' n' c', .slice A2' m' c2'] 24)).cell? ⟨w.heap.size, 3, none⟩ = some (.slice A2 m c2) := by go_simp
      have u0 : ((w.alloc (.cells #[.int .i64 W, .int .i64 H, .slice A n c, .slice A2 m c2] 24)).alloc (.cells #[.int .i64 W, .int .i64 H, .slice A' n' c', .slice A2' m' c2'] 24)).cell? ⟨w.heap.size + 1, 0, none⟩ = some (.int .i64 W) := by go_simp
      have u1 : ((w.alloc (.cells #[.int .i64 W, .int .i64 H, .slice A n c, .slice A2 m c2] 24)).alloc (.cells #[.int .i64 W, .int .i64 H, .slice A' n' c', .slice A2' m' c2'] 24)).cell? ⟨w.heap.size + 1, 1, none⟩ = some (.int .i64 H) := by go_simp
      have u2 : ((w.alloc (.cells #[.int .i64 W, .int .i64 H, .slice A n c, .slice A2 m c2] 24)).alloc (.cells #[.int .i64 W, .int .i64 H, .slice A' n' c', .slice A2' m' c2'] 24)).cell? ⟨w.heap.size + 1, 2, none⟩ = some (.slice A' n' c') := by go_simp
      have u3 : ((w.alloc (.cells #[.int .i64 W, .int .i64 H, .slice A n c, .slice A2 m c2] 24)).alloc (.cells #[.int .i64 W, .int .i64 H, .slice A' n' c', .slice A2' m' c2'] 24)).cell? ⟨w.heap.size + 1, 3, none⟩ = some (.slice A2' m' c2') := by go_simp
      have ls : w.heap.size + 2 ≤ ((w.alloc (.cells #[.int .i64 W, .int .i64 H, .slice A n c, .slice A2 m c2] 24)).alloc (.cells #[.int .i64 W, .int .i64 H, .slice A' n' c', .slice A2' m' c2'] 24)).heap.size := by simp
      have hG0 := Lib.hid (hG.next HB)
      have hP0 := Lib.hid (hP.next HB)
      have hG'0 := Lib.hid (hG'.next HB)
      have hP'0 := Lib.hid (hP'.next HB)
      have HB0 := Lib.hid HB
      clear hG hP hG' hP' HB
      go_enter Try.func23, Try.ntmps23
      go_wp2_with fail
      obtain ⟨W0, hW0⟩ : ∃ W0, W0 = ((w.alloc (.cells #[.int .i64 W, .int .i64 H, .slice A n c, .slice A2 m c2] 24)).alloc (.cells #[.int .i64 W, .int .i64 H, .slice A' n' c', .slice A2' m' c2'] 24)) := ⟨_, rfl⟩
      rw [← hW0] at t0 t1 t2 t3 u0 u1 u2 u3 ls hG0 hP0 hG'0 hP'0 HB0 ⊢
      clear hW0
      refine (slEqual_any A A' n c n' c' g g' _ hG0.out hG'0.out hn hn').mono ?_
      rintro e w1 ⟨rfl, hb1⟩
      have HB1 := Lib.hid (chain HB0.out hb1)
      have t3 := gcell hb1 (by omega) t3
      have u3 := gcell hb1 (by omega) u3
      have hP1 := Lib.hid (hP0.out.next hb1)
      have hP'1 := Lib.hid (hP'0.out.next hb1)
      clear hb1
      obtain ⟨E, hE⟩ : ∃ E, E = eqB g g' := ⟨_, rfl⟩
      rw [← hE]
      have HE := Lib.hid hE
      clear hE
      cases E
      · go_wp2
        go_ret
        exact ⟨ret_bool (by rw [← HE.out]; rfl), HB1.out⟩
      · go_wp2_with fail
        refine (slEqual_any A2 A2' m c2 m' c2' p p' _ hP1.out hP'1.out hm hm').mono ?_
        rintro e w2 ⟨rfl, hb2⟩
        go_wp2
        go_ret
        exact ⟨ret_bool (by rw [← HE.out]; simp), chain HB1.out hb2⟩
    · rw [eqT_no (fun h => k2 h.2)]
      have b1 : (W != W') = false := by simp [k1]
      have b2 : (H != H') = true := by simp [k2]
      clear hG hP hG' hP' k1 k2
      go_enter Try.func23, Try.ntmps23
      go_wp2
      go_ret
      exact ⟨rfl, ((Below.refl w.heap.size w).alloc (Nat.le_refl _) _).alloc (by simp) _⟩
  · rw [eqT_no (fun h => k1 h.1)]
    have b1 : (W != W') = true := by simp [k1]
    clear hG hP hG' hP' k1
    go_enter Try.func23, Try.ntmps23
    go_wp2
    go_ret
    exact ⟨rfl, ((Below.refl w.heap.size w).alloc (Nat.le_refl _) _).alloc (by simp) _⟩
end Go.Proofs.Ytpoceidbiamgaaa
