/- Contract of terrain.Total. -/
import Derived.Test.YtpoceidbiamgaaaWl
import Derived.Test.YtpoceidbiamgaaaWk
set_option linter.unusedVariables false
set_option linter.unusedSimpArgs false
namespace Go.Proofs.Ytpoceidbiamgaaa
open Go.RowKit Go.Maps
theorem atI_bd {p : List Int} (h : allB 0 1000000 p = true) (k : Nat) : 0 ≤ atI p k ∧ atI p k ≤ 1000000 := by
  unfold atI
  rcases Nat.lt_or_ge k p.length with hk | hk
  · have := allB_iff.1 h (p[k]) (List.getElem_mem hk)
    simp [hk]; exact this
  · rw [List.getElem?_eq_none hk]; simp
theorem totK_bd {p cs : List Int} (h : allB 0 1000000 p = true) : ∀ k, 0 ≤ totK p cs k ∧ totK p cs k ≤ (k : Int) * 1000000
  | 0 => by simp [totK]
  | k + 1 => by
    have ih := totK_bd (cs := cs) h k
    have b := atI_bd h (atI cs k).toNat
    simp only [totK]
    split <;> omega
/-- The cells of the first k indexes. -/
def SeenI (W : Int) (cs : List Int) (wr : World) (B k : Nat) : Prop := ∃ seen, MapI wr B k seen ∧ ∀ v : Int, seen.contains (v % W, v / W) = (cs.take k).contains v
theorem divmod_inj {W v u : Int} (h1 : v % W = u % W) (h2 : v / W = u / W) : v = u := by
  rw [← Int.mul_ediv_add_emod v W, ← Int.mul_ediv_add_emod u W, h1, h2]
theorem take_contains {cs : List Int} {k : Nat} (hk : k < cs.length) (v : Int) : (cs.take (k + 1)).contains v = ((cs.take k).contains v || v == atI cs k) := by
  have e : atI cs k = cs[k] := by simp [atI, hk]
  rw [List.take_succ_eq_append_getElem hk, e, Bool.eq_iff_iff]
  simp only [List.contains_iff_mem, List.mem_append, List.mem_singleton, Bool.or_eq_true, beq_iff_eq]
theorem SeenI.add {W : Int} {cs : List Int} {wr wr' : World} {B k : Nat} {seen : List (Int × Int)} {v0 : Int} (hk : k < cs.length) (hv : atI cs k = v0) (hM : MapI wr' B (k + 1) ((v0 % W, v0 / W) :: seen)) (hs : ∀ v : Int, seen.contains (v % W, v / W) = (cs.take k).contains v) : SeenI W cs wr' B (k + 1) := by
  refine ⟨_, hM, fun v => ?_⟩
  rw [take_contains hk, hv, List.contains_cons, hs, Bool.or_comm]
  congr 1
  rw [Bool.eq_iff_iff]
  simp only [beq_iff_eq, Prod.mk.injEq]
  exact ⟨fun ⟨a, b⟩ => divmod_inj a b, fun e => by rw [e]; exact ⟨rfl, rfl⟩⟩
theorem MapI.mono {w : World} {B k k' : Nat} {seen : List (Int × Int)} (h : MapI w B k seen) (hk : k ≤ k') : MapI w B k' seen := by
  obtain ⟨D, ho, h2⟩ := h
  exact ⟨D, ho.mono hk, h2⟩
theorem SeenI.again {W : Int} {cs : List Int} {wr : World} {B k : Nat} {seen : List (Int × Int)} (hk : k < cs.length) (hM : MapI wr B k seen) (hs : ∀ v : Int, seen.contains (v % W, v / W) = (cs.take k).contains v) (hc : (cs.take k).contains (atI cs k) = true) : SeenI W cs wr B (k + 1) := by
  refine ⟨seen, hM.mono (by omega), fun v => ?_⟩
  rw [take_contains hk, hs]
  by_cases e : v = atI cs k
  · rw [e, hc]; rfl
  · rw [show (v == atI cs k) = false by simpa using e, Bool.or_false]
/-- The loop of Total after k rounds. -/
def TotI (w w1 : World) (W H : Int) (A : Option Addr) (n c : Nat) (A2 : Option Addr) (m c2 : Nat) (cs : List Int) (wr : World) (k : Nat) : Prop :=
  SeenI W cs wr w1.heap.size k ∧ Below w1.heap.size w1 wr ∧ Box4 wr w.heap.size (.int .i64 W) (.int .i64 H) (.slice A n c) (.slice A2 m c2) ∧ allB 0 (W * H - 1) (cs.take k) = true
/-- What Total answers. -/
def totE (W H : Int) (g p cs : List Int) : Int × Int := if terB W H g p && allB 0 (W * H - 1) cs then (totK p cs cs.length, 0) else (0, 2)
theorem totE_no {W H : Int} {g p cs : List Int} (h : (terB W H g p && allB 0 (W * H - 1) cs) = false) : totE W H g p cs = (0, 2) := by unfold totE; rw [h]; rfl
theorem totE_yes {W H : Int} {g p cs : List Int} (h1 : terB W H g p = true) (h2 : allB 0 (W * H - 1) cs = true) : totE W H g p cs = (totK p cs cs.length, 0) := by unfold totE; rw [h1, h2]; rfl
def TotR (w : World) (r : Int × Int) (e : Ending) (w' : World) : Prop := e = .returned (.tuple #[.int .i64 r.1, .int .i64 r.2]) ∧ Below w.heap.size w w'
set_option maxHeartbeats 2000000 in
theorem total_any (W H : Int) (A : Option Addr) (n c : Nat) (A2 : Option Addr) (m c2 : Nat) (g p : List Int) (C : Option Addr) (l lc : Nat) (cs : List Int) (w : World) (hG : Ints w w.heap.size A n g) (hP : Ints w w.heap.size A2 m p) (hn : n ≤ 4611686018427387904) (hm : m ≤ 4611686018427387904) (hC : Ints w w.heap.size C l cs) (hl : l ≤ 5000) : Calls Try.prog 38 #[.agg #[.int .i64 W, .int .i64 H, .slice A n c, .slice A2 m c2], .slice C l lc] w (TotR w (totE W H g p cs)) := by
  have HG := Lib.hid hG
  have HP := Lib.hid hP
  have HC := Lib.hid hC
  have HL := Lib.hid hC.1
  have hmm := @run_makeMap Try.prog
  have HS0 : Hid (Below w.heap.size w (w.alloc (.cells #[.int .i64 W, .int .i64 H, .slice A n c, .slice A2 m c2] 24)) ∧ Box4 (w.alloc (.cells #[.int .i64 W, .int .i64 H, .slice A n c, .slice A2 m c2] 24)) w.heap.size (.int .i64 W) (.int .i64 H) (.slice A n c) (.slice A2 m c2)) := ⟨(Below.refl _ _).alloc (Nat.le_refl _) _, Box4.new _ _ _ _ _ _⟩
  have HNO := Lib.hid (fun h => totE_no (W := W) (H := H) (g := g) (p := p) (cs := cs) h)
  have HYES := Lib.hid (fun h1 h2 => totE_yes (W := W) (H := H) (g := g) (p := p) (cs := cs) h1 h2)
  have HTB := Lib.hid (fun h => terB_iff (W := W) (H := H) (g := g) (p := p) |>.1 h)
  clear hG hP hC
  obtain ⟨E, hE⟩ : ∃ E, totE W H g p cs = E := ⟨_, rfl⟩
  rw [hE] at HNO HYES
  rw [hE]
  clear hE
  go_enter Try.func38, Try.ntmps38
  go_wp2_with fail
  obtain ⟨W0, hW0⟩ : ∃ W0, W0 = (w.alloc (.cells #[.int .i64 W, .int .i64 H, .slice A n c, .slice A2 m c2] 24)) := ⟨_, rfl⟩
  rw [← hW0] at HS0
  rw [← hW0]
  clear hW0
  refine (valid_any W H A n c A2 m c2 g p W0 (HG.out.next HS0.out.1) (HP.out.next HS0.out.1) hn hm).mono ?_
  rintro e w1 ⟨rfl, hb⟩
  have HS1 : Hid (Below w.heap.size w w1 ∧ Box4 w1 w.heap.size (.int .i64 W) (.int .i64 H) (.slice A n c) (.slice A2 m c2)) := ⟨chain HS0.out.1 hb, HS0.out.2.next hb⟩
  clear hb HS0
  obtain ⟨E1, hE1⟩ : ∃ E, terB W H g p = E := ⟨_, rfl⟩
  rw [hE1] at HNO HYES HTB
  rw [hE1]
  clear hE1
  cases E1
  · have hE := HNO.out (by simp)
    subst hE
    go_wp2
    go_ret2
    exact ⟨rfl, HS1.out.1⟩
  · obtain ⟨⟨v1, v2, v3, v4, v5, v6⟩, v7, v8⟩ := HTB.out (by simp)
    obtain ⟨b1, b2⟩ := wh_bd v1 v2 v3 v4
    rw [HP.out.1] at v6
    have HV6 := Lib.hid v6
    have HV8 := Lib.hid v8
    clear v5 v6 v7 v8 HTB
    have hsz := HS1.out.2.lt
    go_wp2
    go_loopw [7, 17] (fun t i wr => ∃ k : Nat, k ≤ l ∧ i = .int .i64 k ∧ t = .int .i64 (totK p cs k) ∧ TotI w w1 W H A n c A2 m c2 cs wr k) (fun _ i _ => l - (intOf i).toNat)
    case atStart => exact ⟨0, Nat.zero_le _, rfl, rfl, ⟨[], MapI.made w1, fun v => by simp⟩, (Below.refl _ _).alloc (Nat.le_refl _) _, HS1.out.2.alloc _, by simp [allB]⟩
    case round =>
      clear hmm
      obtain ⟨k, hk, rfl, rfl, ⟨seen, hM, hse⟩, hbr, hbx, hal⟩ := hrel
      obtain ⟨q1, q2⟩ := totK_bd (cs := cs) HV8.out k
      have HM := Lib.hid hM
      have HSE := Lib.hid hse
      have HBR := Lib.hid hbr
      have HBX := Lib.hid hbx
      have HAL := Lib.hid hal
      obtain ⟨t0, t1, t2, t3, tf, tl⟩ := hbx
      clear hM hse hbr hal
      by_cases hlt : k < l
      · have hcr := (HC.out.next HS1.out.1).below HBR.out
        obtain ⟨cb, co, rfl, _, hcc⟩ := hcr.2 (by omega)
        have hck : wr.cell? ⟨cb, co + k, none⟩ = some (.int .i64 (atI cs k)) := hcc k hlt
        have hkl : k < cs.length := by have := HL.out; omega
        have HAT := Lib.hid (allB_take (lo := 0) (hi := W * H - 1) hkl HAL.out)
        have HAF := Lib.hid (allB_not (lo := 0) (hi := W * H - 1) hkl)
        have HTK : Hid (totK p cs (k + 1) = totK p cs k + if (cs.take k).contains (atI cs k) then 0 else atI p (atI cs k).toNat) := rfl
        have HADD := Lib.hid (fun (wr' : World) (v0 : Int) => SeenI.add (W := W) (cs := cs) (wr := wr) (wr' := wr') (B := w1.heap.size) (k := k) (seen := seen) (v0 := v0) hkl)
        have HAGN := Lib.hid (fun (wr' : World) => SeenI.again (W := W) (cs := cs) (wr := wr') (B := w1.heap.size) (k := k) (seen := seen) hkl)
        obtain ⟨T, hT⟩ : ∃ T, totK p cs k = T := ⟨_, rfl⟩
        rw [hT] at q1 q2 HTK
        rw [hT]
        have hkk : atI cs k = cs[k]?.getD 0 := rfl
        rw [← hkk] at HAT HAF
        obtain ⟨x, hx⟩ : ∃ x, atI cs k = x := ⟨_, rfl⟩
        rw [hx] at hck HAT HAF HTK HADD HAGN
        clear hcc hkk hT hx hcr
        by_cases hin : 0 ≤ x ∧ x ≤ W * H - 1
        · obtain ⟨x0, x1⟩ := hin
          obtain ⟨xk, rfl⟩ : ∃ xk : Nat, x = xk := ⟨x.toNat, by omega⟩
          have hxm : xk < m := by have := HV6.out; omega
          have hA := HAT.out (inB_yes x0 x1)
          have HA := Lib.hid hA
          have hpr := (HP.out.next HS1.out.1).below HBR.out
          obtain ⟨pb, po, rfl, hpb, _⟩ := hpr.2 (by omega)
          have HPR := Lib.hid hpr
          have p0 := atI_bd HV8.out xk
          clear hA HAT HAF hpr
          go_wp2_with (first | (go_at_call 42; refine (within_yes _ _ _ _ (by omega) (by omega)).mono ?_; rintro e w' ⟨rfl, rfl⟩) | fail)
          refine (cellAt_any W H A n c (some ⟨pb, po, none⟩) m c2 (xk : Int) wr (by omega) (by omega) (by omega)).mono ?_
          rintro e w4 ⟨rfl, hb4⟩
          obtain ⟨cx, hcx⟩ : ∃ cx, (xk : Int) % W = cx := ⟨_, rfl⟩
          obtain ⟨cy, hcy⟩ : ∃ cy, (xk : Int) / W = cy := ⟨_, rfl⟩
          have cx0 : 0 ≤ cx := by rw [← hcx]; exact Int.emod_nonneg _ (by omega)
          have cx1 : cx ≤ 4096 := by rw [← hcx]; have := Int.emod_lt_of_pos (xk : Int) (show 0 < W by omega); omega
          have cy0 : 0 ≤ cy := by rw [← hcy]; exact Int.ediv_nonneg (by omega) (by omega)
          have cy1 : cy ≤ 4096 := by rw [← hcy]; have := Int.ediv_le_self W (show (0 : Int) ≤ xk by omega); omega
          have HS2 := Lib.hid (HSE.out (xk : Int))
          rw [hcx, hcy]
          rw [hcx, hcy] at HS2
          have HADD' := HADD
          have hadd := HADD.out
          have HAD2 := Lib.hid (fun wr' => hadd wr' (xk : Int) rfl)
          rw [hcx, hcy] at HAD2
          clear hadd HADD HADD' hcx hcy
          have hMl := HM.out.lt
          have HM4 : Hid (MapI (w4.alloc (.cells #[.int .i64 cx, .int .i64 cy] 26)) w1.heap.size k seen) := (HM.out.below hb4 hMl).below ((Below.refl w4.heap.size w4).alloc (Nat.le_refl _) _) (Nat.lt_of_lt_of_le hMl hb4.size)
          have HB4 : Hid (Below w1.heap.size w1 (w4.alloc (.cells #[.int .i64 cx, .int .i64 cy] 26))) := (chain HBR.out hb4).alloc (Nat.le_trans HBR.out.size hb4.size) _
          have HX4 : Hid (Box4 (w4.alloc (.cells #[.int .i64 cx, .int .i64 cy] 26)) w.heap.size (.int .i64 W) (.int .i64 H) (.slice A n c) (.slice (some ⟨pb, po, none⟩) m c2)) := (HBX.out.next hb4).alloc _
          have hlk := HM4.out.lookup cx0 cx1 cy0 cy1
          obtain ⟨w5, hup, hM5, hg5⟩ := HM4.out.update (by omega) cx0 cx1 cy0 cy1
          have HM5 := Lib.hid hM5
          have HB5 : Hid (Below w1.heap.size w1 w5) := HB4.out.grown hg5 HB4.out.size (fun j e => by cases e; exact Nat.le_refl _)
          have HX5 : Hid (Box4 w5 w.heap.size (.int .i64 W) (.int .i64 H) (.slice A n c) (.slice (some ⟨pb, po, none⟩) m c2)) := HX4.out.grown hg5 (by simp; omega)
          have gc : w5.cell? ⟨pb, po + xk, none⟩ = some (.int .i64 (atI p xk)) := Ints.at_ (((HP.out.next HS1.out.1)).below HB5.out) xk hxm
          rw [HS2.out] at hlk
          have HMM4 := HM4
          obtain ⟨P, hP⟩ : ∃ P, atI p xk = P := ⟨_, rfl⟩
          rw [hP] at gc p0
          have HTK2 : Hid (totK p cs (k + 1) = T + if (cs.take k).contains (xk : Int) then 0 else P) := by rw [← hP]; exact HTK.out
          obtain ⟨s0, s1, s2, s3, sf, sl⟩ := HX5.out
          clear hM5 hg5 hb4 hP HTK t0 t1 t2 t3 tf tl
          obtain ⟨p1, p2⟩ := p0
          obtain ⟨bb, hbb⟩ : ∃ bb, (cs.take k).contains (xk : Int) = bb := ⟨_, rfl⟩
          rw [hbb] at hlk HTK2 HAGN
          clear hbb
          have ix1 : (0 : Int) ≤ (xk : Int) := by omega
          have ix2 : (xk : Int) < (m : Int) := by omega
          cases bb
          · go_wp2
            go_roundw
            case rel => first | exact ⟨k + 1, by omega, by go_num, by rw [HTK2.out]; simp, HAD2.out _ HM5.out HSE.out, HB5.out, HX5.out, HA.out⟩ | ((repeat apply Exists.intro); exact ⟨⟨k + 1, by omega, by go_num, by rw [HTK2.out]; simp, HAD2.out _ HM5.out HSE.out, HB5.out, HX5.out, HA.out⟩, rfl⟩)
            case measure => simp [intOf]; omega
          · clear hup s0 s1 s2 s3 sf sl gc
            go_wp2
            go_roundw
            case rel => first | exact ⟨k + 1, by omega, by go_num, by rw [HTK2.out]; simp, HAGN.out _ HM4.out HSE.out (by simp), HB4.out, HX4.out, HA.out⟩ | ((repeat apply Exists.intro); exact ⟨⟨k + 1, by omega, by go_num, by rw [HTK2.out]; simp, HAGN.out _ HM4.out HSE.out (by simp), HB4.out, HX4.out, HA.out⟩, rfl⟩)
            case measure => simp [intOf]; omega
        · have HNA := HAF.out (inB_no (by omega))
          have hE := HNO.out (by rw [HNA]; rfl)
          subst hE
          have hin' : x < 0 ∨ W * H - 1 < x := by omega
          clear HAF HNA HADD HAGN HTK HAT hin
          go_wp2_with (first | (go_at_call 42; refine (within_no _ _ _ _ (by omega)).mono ?_; rintro e w' ⟨rfl, rfl⟩))
          go_ret2
          exact ⟨rfl, chain HS1.out.1 HBR.out⟩
      · obtain rfl : k = l := by omega
        have q := HAL.out
        have ql := HL.out
        rw [List.take_of_length_le (by omega)] at q
        have hE := HYES.out (by simp) q
        rw [ql] at hE
        subst hE
        clear q ql
        go_wp2
        go_ret2
        exact ⟨rfl, chain HS1.out.1 HBR.out⟩
end Go.Proofs.Ytpoceidbiamgaaa
