/- Contract of bandplanref10.Total. -/
import Derived.Test.YtpoceidbiamgaaaWm
set_option linter.unusedVariables false
set_option linter.unusedSimpArgs false
namespace Go.Proofs.Ytpoceidbiamgaaa
open Go.RowKit Go.Maps
/-- What the reference's Total answers. -/
def rtE (W H : Int) (p cs : List Int) : Int × Bool := if allB 0 (W * H - 1) cs then (totK p cs cs.length, true) else (0, false)
theorem rtE_no {W H : Int} {p cs : List Int} (h : allB 0 (W * H - 1) cs = false) : rtE W H p cs = (0, false) := by unfold rtE; rw [h]; rfl
theorem rtE_yes {W H : Int} {p cs : List Int} (h : allB 0 (W * H - 1) cs = true) : rtE W H p cs = (totK p cs cs.length, true) := by unfold rtE; rw [h]; rfl
def TotB (w : World) (r : Int × Bool) (e : Ending) (w' : World) : Prop := e = .returned (.tuple #[.int .i64 r.1, .bool r.2]) ∧ Below w.heap.size w w'
set_option maxHeartbeats 2000000 in
theorem refTotal_any (W H : Int) (A : Option Addr) (n c : Nat) (A2 : Option Addr) (m c2 : Nat) (g p : List Int) (C : Option Addr) (l lc : Nat) (cs : List Int) (w : World) (hP : Ints w w.heap.size A2 m p) (hC : Ints w w.heap.size C l cs) (hl : l ≤ 5000) (ht : terB W H g p = true) : Calls Try.prog 39 #[.agg #[.int .i64 W, .int .i64 H, .slice A n c, .slice A2 m c2], .slice C l lc] w (TotB w (rtE W H p cs)) := by
  obtain ⟨⟨v1, v2, v3, v4, v5, v6⟩, v7, v8⟩ := terB_iff.1 ht
  obtain ⟨b1, b2⟩ := wh_bd v1 v2 v3 v4
  rw [hP.1] at v6
  have HV6 := Lib.hid v6
  have HV8 := Lib.hid v8
  have HP := Lib.hid hP
  have HC := Lib.hid hC
  have HL := Lib.hid hC.1
  have HNO := Lib.hid (fun h => rtE_no (W := W) (H := H) (p := p) (cs := cs) h)
  have HYES := Lib.hid (fun h => rtE_yes (W := W) (H := H) (p := p) (cs := cs) h)
  have HS0 : Hid (Below w.heap.size w (w.alloc (.cells #[.int .i64 W, .int .i64 H, .slice A n c, .slice A2 m c2] 24)) ∧ Box4 (w.alloc (.cells #[.int .i64 W, .int .i64 H, .slice A n c, .slice A2 m c2] 24)) w.heap.size (.int .i64 W) (.int .i64 H) (.slice A n c) (.slice A2 m c2)) := ⟨(Below.refl _ _).alloc (Nat.le_refl _) _, Box4.new _ _ _ _ _ _⟩
  clear v5 v6 v7 v8 hP hC ht
  obtain ⟨E, hE⟩ : ∃ E, rtE W H p cs = E := ⟨_, rfl⟩
  rw [hE] at HNO HYES
  rw [hE]
  clear hE
  go_enter Try.func39, Try.ntmps39
  go_wp2
  go_loopw [6, 7] (fun s i wr => ∃ k : Nat, k ≤ l ∧ i = .int .i64 k ∧ s = .int .i64 (totK p cs k) ∧ allB 0 (W * H - 1) (cs.take k) = true ∧ Below w.heap.size w wr ∧ Box4 wr w.heap.size (.int .i64 W) (.int .i64 H) (.slice A n c) (.slice A2 m c2)) (fun _ i _ => l - (intOf i).toNat)
  case atStart => exact ⟨0, Nat.zero_le _, rfl, rfl, by simp [allB], HS0.out⟩
  case round =>
    clear HS0
    obtain ⟨k, hk, rfl, rfl, hal, hbr, hbx⟩ := hrel
    obtain ⟨q1, q2⟩ := totK_bd (cs := cs) HV8.out k
    have HBR := Lib.hid hbr
    have HBX := Lib.hid hbx
    have HAL := Lib.hid hal
    obtain ⟨t0, t1, t2, t3, tf, tl⟩ := hbx
    clear hbr hal
    by_cases hlt : k < l
    · have hcr := HC.out.below HBR.out
      have HCR := Lib.hid hcr
      obtain ⟨cb, co, rfl, hcbw, hcc⟩ := hcr.2 (by omega)
      have hck : wr.cell? ⟨cb, co + k, none⟩ = some (.int .i64 (atI cs k)) := hcc k hlt
      have hkl : k < cs.length := by have := HL.out; omega
      have HAT := Lib.hid (allB_take (lo := 0) (hi := W * H - 1) hkl HAL.out)
      have HAF := Lib.hid (allB_not (lo := 0) (hi := W * H - 1) hkl)
      have HTK : Hid (totK p cs (k + 1) = totK p cs k + if (cs.take k).contains (atI cs k) then 0 else atI p (atI cs k).toNat) := rfl
      obtain ⟨T, hT⟩ : ∃ T, totK p cs k = T := ⟨_, rfl⟩
      rw [hT] at q1 q2 HTK
      rw [hT]
      have hkk : atI cs k = cs[k]?.getD 0 := rfl
      rw [← hkk] at HAT HAF
      have HXK := Lib.hid (rfl : atI cs k = atI cs k)
      obtain ⟨x, hx⟩ : ∃ x, atI cs k = x := ⟨_, rfl⟩
      rw [hx] at hck HAT HAF HTK
      have HX := Lib.hid hx
      clear hcc hkk hT hx hcr HXK
      have ik0 : (0 : Int) ≤ (k : Int) := by omega
      have ik1 : (k : Int) < (l : Int) := by omega
      by_cases hx0 : x < 0
      · have hd : decide (x < 0) = true := decide_eq_true hx0
        have hE := HNO.out (HAF.out (inB_no (by omega)))
        subst hE
        go_wp2
        go_quiet (fail)
        go_wp2
        go_ret2
        exact ⟨rfl, below_drewN HBR.out _⟩
      · have hd : decide (x < 0) = false := decide_eq_false hx0
        by_cases hx1 : W * H ≤ x
        · have hd2 : decide (W * H ≤ x) = true := decide_eq_true hx1
          have hE := HNO.out (HAF.out (inB_no (by omega)))
          subst hE
          go_wp2
          go_quiet (fail)
          go_wp2
          go_ret2
          exact ⟨rfl, below_drewN HBR.out _⟩
        · have hd2 : decide (W * H ≤ x) = false := decide_eq_false hx1
          obtain ⟨xk, rfl⟩ : ∃ xk : Nat, x = xk := ⟨x.toNat, by omega⟩
          have hxm : xk < m := by have := HV6.out; omega
          have HA := Lib.hid (HAT.out (inB_yes (by omega) (by omega)))
          have p0 := atI_bd HV8.out xk
          clear HAT HAF
          go_wp2
          go_quiet (fail)
          go_wp2
          clear t0 t1 t2 t3 tf tl hck
          go_loopw [8, 9] (fun ag j wr => ∃ jj : Nat, jj ≤ k ∧ j = .int .i64 jj ∧ ag = .bool ((cs.take jj).contains (xk : Int)) ∧ Below w.heap.size w wr ∧ Box4 wr w.heap.size (.int .i64 W) (.int .i64 H) (.slice A n c) (.slice A2 m c2)) (fun _ j _ => k - (intOf j).toNat)
          case atStart => exact ⟨0, Nat.zero_le _, rfl, by simp, below_drewN HBR.out _, HBX.out⟩
          case round =>
            clear HBR HBX HCR
            obtain ⟨jj, hjj, rfl, rfl, hbr, hbx⟩ := hrel
            have HBR := Lib.hid hbr
            have HBX := Lib.hid hbx
            obtain ⟨t0, t1, t2, t3, tf, tl⟩ := hbx
            have hcr := HC.out.below HBR.out
            have hck : wr.cell? ⟨cb, co + k, none⟩ = some (.int .i64 (atI cs k)) := Ints.at_ hcr k hlt
            rw [HX.out] at hck
            clear hbr
            by_cases hj : jj < k
            · have hcj : wr.cell? ⟨cb, co + jj, none⟩ = some (.int .i64 (atI cs jj)) := Ints.at_ hcr jj (by omega)
              have HTC := Lib.hid (take_contains (cs := cs) (k := jj) (by have := HL.out; omega) (xk : Int))
              obtain ⟨y, hy⟩ : ∃ y, atI cs jj = y := ⟨_, rfl⟩
              rw [hy] at hcj HTC
              clear hy hcr
              obtain ⟨b, hb⟩ : ∃ b, (cs.take jj).contains (xk : Int) = b := ⟨_, rfl⟩
              rw [hb] at HTC
              rw [hb]
              clear hb
              have ij0 : (0 : Int) ≤ (jj : Int) := by omega
              have ij1 : (jj : Int) < (l : Int) := by omega
              cases b
              · by_cases hyx : y = (xk : Int)
                · have e1 : (y == (xk : Int)) = true := by simp [hyx]
                  have HYX := Lib.hid hyx
                  clear hyx
                  go_wp2
                  go_quiet (fail)
                  go_wp2
                  go_roundw
                  case rel => exact ⟨jj + 1, by omega, by go_num, by rw [HTC.out, HYX.out]; simp, below_drewN HBR.out _, HBX.out⟩
                  case measure => simp [intOf]; omega
                · have e1 : (y == (xk : Int)) = false := by simpa using hyx
                  have HYX := Lib.hid hyx
                  clear hyx
                  go_wp2
                  go_quiet (fail)
                  go_wp2
                  go_roundw
                  case rel => exact ⟨jj + 1, by omega, by go_num, by rw [HTC.out, show ((xk : Int) == y) = false by simpa using Ne.symm HYX.out]; rfl, below_drewN HBR.out _, HBX.out⟩
                  case measure => simp [intOf]; omega
              · go_wp2
                go_quiet (fail)
                go_wp2
                go_roundw
                case rel => exact ⟨jj + 1, by omega, by go_num, by rw [HTC.out]; rfl, below_drewN HBR.out _, HBX.out⟩
                case measure => simp [intOf]; omega
            · obtain rfl : jj = k := by omega
              have hpr := HP.out.below HBR.out
              obtain ⟨pb, po, rfl, hpb, hpc⟩ := hpr.2 (by omega)
              clear hpc
              have gc := Ints.at_ hpr xk hxm
              obtain ⟨P, hP⟩ : ∃ P, atI p xk = P := ⟨_, rfl⟩
              rw [hP] at gc p0
              have HTK2 : Hid (totK p cs (jj + 1) = T + if (cs.take jj).contains (xk : Int) then 0 else P) := by rw [← hP]; exact HTK.out
              obtain ⟨p1, p2⟩ := p0
              clear hP hpr HTK hcr
              obtain ⟨b, hb⟩ : ∃ b, (cs.take jj).contains (xk : Int) = b := ⟨_, rfl⟩
              rw [hb] at HTK2
              rw [hb]
              clear hb
              have ix1 : (0 : Int) ≤ (xk : Int) := by omega
              have ix2 : (xk : Int) < (m : Int) := by omega
              have hw : IntKind.i64.wrap (T + P) = T + P := by rw [IntKind.wrap_i64]; omega
              cases b
              · go_wp2
                go_quiet (fail)
                go_wp2
                go_roundw
                case rel => exact ⟨jj + 1, by omega, by go_num, by rw [HTK2.out]; simp, HA.out, below_drewN HBR.out _, HBX.out⟩
                case measure => simp [intOf]; omega
              · go_wp2
                go_roundw
                case rel => exact ⟨jj + 1, by omega, by go_num, by rw [HTK2.out]; simp, HA.out, HBR.out, HBX.out⟩
                case measure => simp [intOf]; omega
    · obtain rfl : k = l := by omega
      have q := HAL.out
      have ql := HL.out
      rw [List.take_of_length_le (by omega)] at q
      have hE := HYES.out q
      rw [ql] at hE
      subst hE
      clear q ql
      go_wp2
      go_ret2
      exact ⟨rfl, HBR.out⟩
end Go.Proofs.Ytpoceidbiamgaaa
