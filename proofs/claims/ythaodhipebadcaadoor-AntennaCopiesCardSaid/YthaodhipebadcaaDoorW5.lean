/- Contracts of slices.Equal at []int, antenna.Equal, bandplanref12.Equal. -/
import Derived.Test.YthaodhipebadcaaDoorW4
namespace Go.Proofs.YthaodhipebadcaaDoor
open Go.RowKit
def eqB (xs ys : List Int) : Bool := decide (xs = ys)
theorem eqB_len {xs ys : List Int} (h : xs.length ≠ ys.length) : eqB xs ys = false := by
  simp only [eqB, decide_eq_false_iff_not]; rintro rfl; exact h rfl
theorem eqB_at {xs ys : List Int} {k : Nat} (h : xs[k]?.getD 0 ≠ ys[k]?.getD 0) : eqB xs ys = false := by
  simp only [eqB, decide_eq_false_iff_not]; rintro rfl; exact h rfl
theorem take_eq {xs ys : List Int} {k : Nat} (hx : k < xs.length) (hy : k < ys.length) (h : xs.take k = ys.take k) (he : xs[k]?.getD 0 = ys[k]?.getD 0) : xs.take (k + 1) = ys.take (k + 1) := by
  rw [List.take_succ_eq_append_getElem hx, List.take_succ_eq_append_getElem hy, h]
  simp [hx, hy] at he
  rw [he]
theorem eqB_end {xs ys : List Int} {n : Nat} (hx : xs.length = n) (hy : ys.length = n) (h : xs.take n = ys.take n) : eqB xs ys = true := by
  rw [List.take_of_length_le (by omega), List.take_of_length_le (by omega)] at h
  simp [eqB, h]

set_option maxHeartbeats 400000 in
theorem slEqual_any (A A2 : Option Addr) (n c m c2 : Nat) (xs ys : List Int) (w : World) (hI : Ints w w.heap.size A n xs) (hJ : Ints w w.heap.size A2 m ys) (hn : n ≤ 9223372036854775807) (hm : m ≤ 9223372036854775807) :
    Calls Tryd.prog 32 #[.slice A n c, .slice A2 m c2] w fun e w' => e = .returned (.bool (eqB xs ys)) ∧ Below w.heap.size w w' := by
  by_cases hnm : n = m
  · subst hnm
    have HX := Lib.hid hI.1
    have HY := Lib.hid hJ.1
    by_cases h0 : n = 0
    · subst h0
      clear hI hJ
      go_enter Tryd.func32, Tryd.ntmps32
      go_wp2
      refine wp_loop_rounds 1 ?_
      rw [rounds_succ]
      go_wp2
      go_ret
      exact ⟨ret_bool (eqB_end HX.out HY.out rfl).symm, Below.refl _ _⟩
    · obtain ⟨b, off, rfl, hb, hc⟩ := hI.2 (by omega)
      obtain ⟨b2, off2, rfl, hb2, hc2⟩ := hJ.2 (by omega)
      have HC := Lib.hid hc
      have HC2 := Lib.hid hc2
      clear hI hJ hc hc2
      go_enter Tryd.func32, Tryd.ntmps32
      go_wp2
      go_loopw [5, 13] (fun _ i wr => ∃ k : Nat, k ≤ n ∧ i = .int .i64 k ∧ xs.take k = ys.take k ∧ Below w.heap.size w wr) (fun _ i _ => n - (intOf i).toNat)
      case atStart => exact ⟨0, by omega, rfl, by simp, Below.refl _ _⟩
      case round =>
        obtain ⟨k, hk, rfl, he, hB⟩ := hrel
        have HE := Lib.hid he
        clear he
        by_cases hlt : k < n
        · have hck := (hB.cell (p := ⟨b, off + k, none⟩) hb).trans (HC.out k hlt)
          have hck2 := (hB.cell (p := ⟨b2, off2 + k, none⟩) hb2).trans (HC2.out k hlt)
          have hki : (k : Int) < n := by omega
          by_cases hq : xs[k]?.getD 0 = ys[k]?.getD 0
          · have hq1 : (xs[k]?.getD 0 != ys[k]?.getD 0) = false := by simp [hq]
            have HQ := Lib.hid hq
            clear hq
            go_wp2
            go_quiet (fail)
            go_wp2
            go_roundw
            case rel => exact ⟨k + 1, by omega, by go_num, take_eq (by have := HX.out; omega) (by have := HY.out; omega) HE.out HQ.out, below_drewN hB _⟩
            case measure => simp [intOf]; omega
          · have hq1 : (xs[k]?.getD 0 != ys[k]?.getD 0) = true := by simpa using hq
            have HQ := Lib.hid hq
            clear hq
            go_wp2
            go_quiet (fail)
            go_wp2
            go_ret
            exact ⟨ret_bool (eqB_at HQ.out).symm, below_drewN hB _⟩
        · obtain rfl : k = n := by omega
          go_wp2
          go_ret
          exact ⟨ret_bool (eqB_end HX.out HY.out HE.out).symm, hB⟩
  · rw [eqB_len (by have := hI.1; have := hJ.1; omega)]
    have h5 : ((n : Int) != m) = true := by rw [bne_iff_ne]; omega
    clear hI hJ
    go_enter Tryd.func32, Tryd.ntmps32
    go_wp2
    go_ret
    exact ⟨rfl, Below.refl _ _⟩

def eqAnt (h : Int) (xs : List Int) (h2 : Int) (ys : List Int) : Bool := decide (h = h2) && eqB xs ys
theorem eqAnt_self (h : Int) (xs : List Int) : eqAnt h xs h xs = true := by simp [eqAnt, eqB]
theorem eqAnt_ne {h h2 : Int} {xs ys : List Int} (hne : h ≠ h2) : eqAnt h xs h2 ys = false := by simp [eqAnt, hne]
theorem eqAnt_eq {h : Int} {xs ys : List Int} : eqAnt h xs h ys = eqB xs ys := by simp [eqAnt]

set_option maxHeartbeats 400000 in
theorem equal_any (h : Int) (A : Option Addr) (n c : Nat) (xs : List Int) (h2 : Int) (A2 : Option Addr) (m c2 : Nat) (ys : List Int) (w : World) (hI : Ints w w.heap.size A n xs) (hJ : Ints w w.heap.size A2 m ys) (hn : n ≤ 9223372036854775807) (hm : m ≤ 9223372036854775807) :
    Calls Tryd.prog 27 #[.agg #[.int .i64 h, .slice A n c], .agg #[.int .i64 h2, .slice A2 m c2]] w fun e w' => e = .returned (.bool (eqAnt h xs h2 ys)) ∧ Below w.heap.size w w' := by
  have hb0 : Below w.heap.size w ((w.alloc (.cells #[.int .i64 h, .slice A n c] 31)).alloc (.cells #[.int .i64 h2, .slice A2 m c2] 31)) := ((Below.refl _ _).alloc (Nat.le_refl _) _).alloc (by simp) _
  have HI := Lib.hid (hI.next hb0)
  have HJ := Lib.hid (hJ.next hb0)
  clear hI hJ
  by_cases he : h = h2
  · subst he
    rw [eqAnt_eq]
    go_enter Tryd.func27, Tryd.ntmps27
    go_wp2_with fail
    refine (slEqual_any A A2 n c m c2 xs ys _ HI.out HJ.out hn hm).mono ?_
    rintro e w1 ⟨rfl, hb1⟩
    go_wp2
    go_ret
    exact ⟨rfl, hb0.trans (hb1.mono (by simp; omega))⟩
  · rw [eqAnt_ne he]
    have he1 : (h == h2) = false := by simpa using he
    clear he
    go_enter Tryd.func27, Tryd.ntmps27
    go_wp2_with fail
    go_ret
    exact ⟨rfl, hb0⟩

set_option maxHeartbeats 400000 in
theorem refEqual_any (h : Int) (A : Option Addr) (n c : Nat) (xs : List Int) (h2 : Int) (A2 : Option Addr) (m c2 : Nat) (ys : List Int) (w : World) (hI : Ints w w.heap.size A n xs) (hJ : Ints w w.heap.size A2 m ys) (hn : n ≤ 9223372036854775807) (hm : m ≤ 9223372036854775807) :
    Calls Tryd.prog 21 #[.agg #[.int .i64 h, .slice A n c], .agg #[.int .i64 h2, .slice A2 m c2]] w fun e w' => e = .returned (.bool (eqAnt h xs h2 ys)) ∧ Below w.heap.size w w' := by
  have hb0 : Below w.heap.size w ((w.alloc (.cells #[.int .i64 h, .slice A n c] 31)).alloc (.cells #[.int .i64 h2, .slice A2 m c2] 31)) := ((Below.refl _ _).alloc (Nat.le_refl _) _).alloc (by simp) _
  by_cases he : h = h2
  · subst he
    rw [eqAnt_eq]
    by_cases hnm : n = m
    · subst hnm
      have HX := Lib.hid hI.1
      have HY := Lib.hid hJ.1
      by_cases h0 : n = 0
      · subst h0
        clear hI hJ
        go_enter Tryd.func21, Tryd.ntmps21
        go_wp2
        refine wp_loop_rounds 1 ?_
        rw [rounds_succ]
        go_wp2
        go_ret
        exact ⟨ret_bool (eqB_end HX.out HY.out rfl).symm, hb0⟩
      · obtain ⟨b, off, rfl, hb, hc⟩ := hI.2 (by omega)
        obtain ⟨b2, off2, rfl, hb2, hc2⟩ := hJ.2 (by omega)
        have HC := Lib.hid hc
        have HC2 := Lib.hid hc2
        clear hI hJ hc hc2
        have HB := Lib.hid hb0
        clear hb0
        go_enter Tryd.func21, Tryd.ntmps21
        go_wp2
        go_loopw [5] (fun i wr => ∃ k : Nat, k ≤ n ∧ i = .int .i64 k ∧ xs.take k = ys.take k ∧ Below (w.heap.size + 2) ((w.alloc (.cells #[.int .i64 h, .slice (some ⟨b, off, none⟩) n c] 31)).alloc (.cells #[.int .i64 h, .slice (some ⟨b2, off2, none⟩) n c2] 31)) wr) (fun i _ => n - (intOf i).toNat)
        case atStart => exact ⟨0, by omega, rfl, by simp, Below.refl _ _⟩
        case round =>
          obtain ⟨k, hk, rfl, he, hB⟩ := hrel
          have HE := Lib.hid he
          clear he
          have p1 : wr.cell? ⟨w.heap.size, 1, none⟩ = some (.slice (some ⟨b, off, none⟩) n c) := (hB.cell (p := ⟨w.heap.size, 1, none⟩) (by simp)).trans (by go_simp)
          have p2 : wr.cell? ⟨w.heap.size + 1, 1, none⟩ = some (.slice (some ⟨b2, off2, none⟩) n c2) := (hB.cell (p := ⟨w.heap.size + 1, 1, none⟩) (by simp)).trans (by go_simp)
          by_cases hlt : k < n
          · have hck : wr.cell? ⟨b, off + k, none⟩ = some (.int .i64 (xs[k]?.getD 0)) := (hB.cell (p := ⟨b, off + k, none⟩) (by show b < _; omega)).trans ((HB.out.cell (p := ⟨b, off + k, none⟩) hb).trans (HC.out k hlt))
            have hck2 : wr.cell? ⟨b2, off2 + k, none⟩ = some (.int .i64 (ys[k]?.getD 0)) := (hB.cell (p := ⟨b2, off2 + k, none⟩) (by show b2 < _; omega)).trans ((HB.out.cell (p := ⟨b2, off2 + k, none⟩) hb2).trans (HC2.out k hlt))
            have hki : (k : Int) < n := by omega
            by_cases hq : xs[k]?.getD 0 = ys[k]?.getD 0
            · have hq1 : (xs[k]?.getD 0 != ys[k]?.getD 0) = false := by simp [hq]
              have HQ := Lib.hid hq
              clear hq
              go_wp2
              go_quiet (fail)
              go_wp2
              go_roundw
              case rel => exact ⟨k + 1, by omega, by go_num, take_eq (by have := HX.out; omega) (by have := HY.out; omega) HE.out HQ.out, below_drewN hB _⟩
              case measure => simp [intOf]; omega
            · have hq1 : (xs[k]?.getD 0 != ys[k]?.getD 0) = true := by simpa using hq
              have HQ := Lib.hid hq
              clear hq
              go_wp2
              go_quiet (fail)
              go_wp2
              go_ret
              exact ⟨ret_bool (eqB_at HQ.out).symm, below_drewN (HB.out.trans (hB.mono (by omega))) _⟩
          · obtain rfl : k = n := by omega
            go_wp2
            go_ret
            exact ⟨ret_bool (eqB_end HX.out HY.out HE.out).symm, HB.out.trans (hB.mono (by omega))⟩
    · rw [eqB_len (by have := hI.1; have := hJ.1; omega)]
      have h5 : ((n : Int) != m) = true := by rw [bne_iff_ne]; omega
      have h6 : (h != h) = false := by simp
      clear hI hJ
      go_enter Tryd.func21, Tryd.ntmps21
      go_wp2
      go_ret
      exact ⟨rfl, hb0⟩
  · rw [eqAnt_ne he]
    have he1 : (h != h2) = true := by simpa using he
    clear he hI hJ
    go_enter Tryd.func21, Tryd.ntmps21
    go_wp2
    go_ret
    exact ⟨rfl, hb0⟩
end Go.Proofs.YthaodhipebadcaaDoor
