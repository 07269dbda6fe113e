/- Contract of bandplanref10.Equal. -/
import Derived.Test.YtpoceidbiamgaaaW5
set_option linter.unusedVariables false
set_option linter.unusedSimpArgs false
namespace Go.Proofs.Ytpoceidbiamgaaa
open Go.RowKit

theorem eqT_len {W H W' H' : Int} {g p g' p' : List Int} (h : g.length ≠ g'.length ∨ p.length ≠ p'.length) : eqT W H g p W' H' g' p' = false := by
  rcases h with h | h
  · simp only [eqT, eqB_len h, Bool.false_and, Bool.and_false]
  · simp only [eqT, eqB_len h, Bool.and_false]

set_option maxHeartbeats 1000000 in
theorem refEqual_any (W H : Int) (A : Option Addr) (n c : Nat) (A2 : Option Addr) (m c2 : Nat) (g p : List Int) (W' H' : Int) (A' : Option Addr) (n' c' : Nat) (A2' : Option Addr) (m' c2' : Nat) (g' p' : List Int) (w : World)
    (hG : Ints w w.heap.size A n g) (hP : Ints w w.heap.size A2 m p) (hn : n ≤ 4611686018427387904) (hm : m ≤ 4611686018427387904)
    (hG' : Ints w w.heap.size A' n' g') (hP' : Ints w w.heap.size A2' m' p') (hn' : n' ≤ 4611686018427387904) (hm' : m' ≤ 4611686018427387904) :
    Calls Try.prog 24 #[.agg #[.int .i64 W, .int .i64 H, .slice A n c, .slice A2 m c2], .agg #[.int .i64 W', .int .i64 H', .slice A' n' c', .slice A2' m' c2']] w fun e w' => e = .returned (.bool (eqT W H g p W' H' g' p')) ∧ Below w.heap.size w w' := by
  have HB : Below w.heap.size w ((w.alloc (.cells #[.int .i64 W, .int .i64 H, .slice A n c, .slice A2 m c2] 24)).alloc (.cells #[.int .i64 W', .int .i64 H', .slice A' n' c', .slice A2' m' c2'] 24)) := ((Below.refl w.heap.size w).alloc (Nat.le_refl _) _).alloc (by simp) _
  have l1 := hG.1
  have l2 := hP.1
  have l3 := hG'.1
  have l4 := hP'.1
  have HB0 := Lib.hid HB
  by_cases kk : W = W' ∧ H = H' ∧ n = n' ∧ m = m'
  · obtain ⟨rfl, rfl, rfl, rfl⟩ := kk
    rw [eqT_wh]
    have t0 : ((w.alloc (.cells #[.int .i64 W, .int .i64 H, .slice A n c, .slice A2 m c2] 24)).alloc (.cells #[.int .i64 W, .int .i64 H, .slice A' n c', .slice A2' m c2'] 24)).cell? ⟨w.heap.size, 0, none⟩ = some (.int .i64 W) := by go_simp
    have t1 : ((w.alloc (.cells #[.int .i64 W, .int .i64 H, .slice A n c, .slice A2 m c2] 24)).alloc (.cells #[.int .i64 W, .int .i64 H, .slice A' n c', .slice A2' m c2'] 24)).cell? ⟨w.heap.size, 1, none⟩ = some (.int .i64 H) := by go_simp
    have t2 : ((w.alloc (.cells #[.int .i64 W, .int .i64 H, .slice A n c, .slice A2 m c2] 24)).alloc (.cells #[.int .i64 W, .int .i64 H, .slice A' n c', .slice A2' m c2'] 24)).cell? ⟨w.heap.size, 2, none⟩ = some (.slice A n c) := by go_simp
    have t3 : ((w.alloc (.cells #[.int .i64 W, .int .i64 H, .slice A n c, .slice A2 m c2] 24)).alloc (.cells #[.int .i64 W, .int .i64 H, .slice A' n c', .slice A2' m c2'] 24)).cell? ⟨w.heap.size, 3, none⟩ = some (.slice A2 m c2) := by go_simp
    have u0 : ((w.alloc (.cells #[.int .i64 W, .int .i64 H, .slice A n c, .slice A2 m c2] 24)).alloc (.cells #[.int .i64 W, .int .i64 H, .slice A' n c', .slice A2' m c2'] 24)).cell? ⟨w.heap.size + 1, 0, none⟩ = some (.int .i64 W) := by go_simp
    have u1 : ((w.alloc (.cells #[.int .i64 W, .int .i64 H, .slice A n c, .slice A2 m c2] 24)).alloc (.cells #[.int .i64 W, .int .i64 H, .slice A' n c', .slice A2' m c2'] 24)).cell? ⟨w.heap.size + 1, 1, none⟩ = some (.int .i64 H) := by go_simp
    have u2 : ((w.alloc (.cells #[.int .i64 W, .int .i64 H, .slice A n c, .slice A2 m c2] 24)).alloc (.cells #[.int .i64 W, .int .i64 H, .slice A' n c', .slice A2' m c2'] 24)).cell? ⟨w.heap.size + 1, 2, none⟩ = some (.slice A' n c') := by go_simp
    have u3 : ((w.alloc (.cells #[.int .i64 W, .int .i64 H, .slice A n c, .slice A2 m c2] 24)).alloc (.cells #[.int .i64 W, .int .i64 H, .slice A' n c', .slice A2' m c2'] 24)).cell? ⟨w.heap.size + 1, 3, none⟩ = some (.slice A2' m c2') := by go_simp
    have ls : w.heap.size + 2 ≤ ((w.alloc (.cells #[.int .i64 W, .int .i64 H, .slice A n c, .slice A2 m c2] 24)).alloc (.cells #[.int .i64 W, .int .i64 H, .slice A' n c', .slice A2' m c2'] 24)).heap.size := by simp
    have hG0 := Lib.hid (hG.next HB)
    have hP0 := Lib.hid (hP.next HB)
    have hG'0 := Lib.hid (hG'.next HB)
    have hP'0 := Lib.hid (hP'.next HB)
    clear hG hP hG' hP' HB l1 l2 l3 l4
    go_enter Try.func24, Try.ntmps24
    go_wp2
    obtain ⟨W0, hW0⟩ : ∃ W0, W0 = ((w.alloc (.cells #[.int .i64 W, .int .i64 H, .slice A n c, .slice A2 m c2] 24)).alloc (.cells #[.int .i64 W, .int .i64 H, .slice A' n c', .slice A2' m c2'] 24)) := ⟨_, rfl⟩
    rw [← hW0] at t0 t1 t2 t3 u0 u1 u2 u3 ls hG0 hP0 hG'0 hP'0 HB0 ⊢
    clear hW0
    go_loopw [5] (fun i wr => ∃ k : Nat, k ≤ n ∧ i = .int .i64 k ∧ g.take k = g'.take k ∧ Below W0.heap.size W0 wr) (fun i _ => n - (intOf i).toNat)
    case atStart => exact ⟨0, by omega, rfl, by simp, Below.refl _ _⟩
    case round =>
      obtain ⟨k, hk, rfl, he, hB⟩ := hrel
      have HE := Lib.hid he
      have a2 := gcell hB (by omega) t2
      have d2 := gcell hB (by omega) u2
      have HBB := Lib.hid hB
      clear he hB
      by_cases hlt : k < n
      · obtain ⟨b, off, rfl, hb, hc⟩ := (Ints.below hG0.out HBB.out).2 (by omega)
        obtain ⟨b2, off2, rfl, hb2, hc2⟩ := (Ints.below hG'0.out HBB.out).2 (by omega)
        have hck := hc k hlt
        have hck2 := hc2 k hlt
        have HT := Lib.hid (take_eq (xs := g) (ys := g') (k := k) (by have := hG0.out.1; omega) (by have := hG'0.out.1; omega) HE.out)
        have HF := Lib.hid (eqB_at (xs := g) (ys := g') (k := k))
        obtain ⟨x, hx⟩ : ∃ x, x = g[k]?.getD 0 := ⟨_, rfl⟩
        obtain ⟨y, hy⟩ : ∃ y, y = g'[k]?.getD 0 := ⟨_, rfl⟩
        rw [← hx] at hck HT HF
        rw [← hy] at hck2 HT HF
        clear hx hy hc hc2
        by_cases hq : x = y
        · have hq1 : (x != y) = false := by simp [hq]
          have HQ := Lib.hid hq
          clear hq
          go_wp2
          go_quiet (fail)
          go_wp2
          go_roundw
          case rel => exact ⟨k + 1, by omega, by go_num, HT.out HQ.out, below_drewN HBB.out _⟩
          case measure => simp [intOf]; omega
        · have hq1 : (x != y) = true := by simpa using hq
          have HQ := Lib.hid hq
          clear hq
          go_wp2
          go_quiet (fail)
          go_wp2
          go_ret
          exact ⟨ret_bool (by rw [HF.out HQ.out, Bool.false_and]), below_drewN (chain HB0.out HBB.out) _⟩
      · obtain rfl : k = n := by omega
        have HGG := Lib.hid (eqB_end hG0.out.1 hG'0.out.1 HE.out)
        have HB1 := HBB
        clear HE HBB
        go_wp2
        go_loopw [6] (fun i wr => ∃ k : Nat, k ≤ m ∧ i = .int .i64 k ∧ p.take k = p'.take k ∧ Below W0.heap.size W0 wr) (fun i _ => m - (intOf i).toNat)
        case atStart => exact ⟨0, by omega, rfl, by simp, HB1.out⟩
        case round =>
          obtain ⟨k, hk, rfl, he, hB⟩ := hrel
          have HE := Lib.hid he
          have a3 := gcell hB (by omega) t3
          have d3 := gcell hB (by omega) u3
          have HBB := Lib.hid hB
          clear he hB
          by_cases hlt : k < m
          · obtain ⟨b, off, rfl, hb, hc⟩ := (Ints.below hP0.out HBB.out).2 (by omega)
            obtain ⟨b2, off2, rfl, hb2, hc2⟩ := (Ints.below hP'0.out HBB.out).2 (by omega)
            have hck := hc k hlt
            have hck2 := hc2 k hlt
            have HT := Lib.hid (take_eq (xs := p) (ys := p') (k := k) (by have := hP0.out.1; omega) (by have := hP'0.out.1; omega) HE.out)
            have HF := Lib.hid (eqB_at (xs := p) (ys := p') (k := k))
            obtain ⟨x, hx⟩ : ∃ x, x = p[k]?.getD 0 := ⟨_, rfl⟩
            obtain ⟨y, hy⟩ : ∃ y, y = p'[k]?.getD 0 := ⟨_, rfl⟩
            rw [← hx] at hck HT HF
            rw [← hy] at hck2 HT HF
            clear hx hy hc hc2
            by_cases hq : x = y
            · have hq1 : (x != y) = false := by simp [hq]
              have HQ := Lib.hid hq
              clear hq
              go_wp2
              go_quiet (fail)
              go_wp2
              go_roundw
              case rel => exact ⟨k + 1, by omega, by go_num, HT.out HQ.out, below_drewN HBB.out _⟩
              case measure => simp [intOf]; omega
            · have hq1 : (x != y) = true := by simpa using hq
              have HQ := Lib.hid hq
              clear hq
              go_wp2
              go_quiet (fail)
              go_wp2
              go_ret
              exact ⟨ret_bool (by rw [HF.out HQ.out, Bool.and_false]), below_drewN (chain HB0.out HBB.out) _⟩
          · obtain rfl : k = m := by omega
            go_wp2
            go_ret
            exact ⟨ret_bool (by rw [HGG.out, eqB_end hP0.out.1 hP'0.out.1 HE.out]; rfl), chain HB0.out HBB.out⟩
  · have e1 : eqT W H g p W' H' g' p' = false := by
      by_cases k1 : W = W' ∧ H = H'
      · exact eqT_len (by omega)
      · exact eqT_no k1
    rw [e1]
    clear l1 l2 l3 l4 hG hP hG' hP' HB e1
    have kk : (W != W') = true ∨ ((W != W') = false ∧ (H != H') = true) ∨ ((W != W') = false ∧ (H != H') = false ∧ ((n : Int) != n') = true) ∨ ((W != W') = false ∧ (H != H') = false ∧ ((n : Int) != n') = false ∧ ((m : Int) != m') = true) := by
      simp only [bne_iff_ne, bne_eq_false_iff_eq]
      omega
    rcases kk with k1 | ⟨k1, k2⟩ | ⟨k1, k2, k3⟩ | ⟨k1, k2, k3, k4⟩
    all_goals
      go_enter Try.func24, Try.ntmps24
      go_wp2
      go_ret
      exact ⟨rfl, HB0.out⟩
end Go.Proofs.Ytpoceidbiamgaaa
