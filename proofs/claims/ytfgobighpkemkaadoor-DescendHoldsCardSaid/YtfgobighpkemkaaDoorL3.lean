/- The walk of bandplanlaw29.DescendHolds. -/
import Derived.Test.YtfgobighpkemkaaDoorWk
namespace Go.Proofs.YtfgobighpkemkaaDoor
open Go.RowKit

theorem offOk_after {O v b h o : Int} (hO : 1 ≤ O) (h0 : 0 ≤ b) (hn : offOk v b h o) (k : Nat) : offOk v (after O b k) h o := by
  obtain ⟨⟨k1, k2, k3, k4⟩, hr⟩ := hn
  have := after_bd hO h0 k
  exact ⟨⟨k1, k2, by omega, by omega⟩, hr⟩
theorem price_mono {v b b' h o : Int} (hn : offOk v b h o) (hb : b' ≤ b) : priceI v b' h o ≤ priceI v b h o := by
  obtain ⟨⟨k1, k2, k3, k4⟩, hr⟩ := hn
  have hS0 : 0 ≤ worth h - worth o := by have := worth_mono hr.1 hr.2.1 hr.2.2.1 hr.2.2.2; omega
  have m : v * b' * (worth h - worth o) ≤ v * b * (worth h - worth o) := Int.mul_le_mul_of_nonneg_right (Int.mul_le_mul_of_nonneg_left hb (by omega)) hS0
  unfold priceI
  omega
theorem price_zero (v h o : Int) : priceI v 0 h o = 0 := by simp [priceI]
theorem vB_after {O b r : Int} (hv : vB O b r = true) {k : Nat} (hk : k ≤ 200) : vB O (after O b k) k = true := by
  obtain ⟨v1, v2, v3, v4, v5, v6⟩ := (vB_iff O b r).1 hv
  have := after_bd v1 v3 k
  exact (vB_iff _ _ _).2 ⟨v1, v2, by omega, by omega, by omega, by omega⟩

set_option maxRecDepth 100000 in
set_option maxHeartbeats 400000 in
theorem law8_no (O b r v h o : Int) (w : World) (hw : Wor w) (C1 : Hid (∀ W, Calls Tryd.prog 24 #[.agg #[.int .i64 O, .int .i64 b, .int .i64 r], .int .i64 v, .int .i64 h, .int .i64 o] W fun e w' => e = .returned (.tuple #[.int .i64 0, .int .i64 2]) ∧ Below W.heap.size W w')) :
    Calls Tryd.prog 8 #[.agg #[.int .i64 O, .int .i64 b, .int .i64 r], .int .i64 v, .int .i64 h, .int .i64 o] w (KnownOk w) := by
  have B0 := (Below.refl w.heap.size w).alloc (Nat.le_refl _) (.cells #[.int .i64 O, .int .i64 b, .int .i64 r] 23)
  have q0 := hw.next B0
  go_enter Tryd.func8, Tryd.ntmps8
  go_wp2_with fail
  refine (C1.out _).mono ?_
  rintro e w1 ⟨rfl, hb⟩
  have B1 := chain B0 hb
  have Q1 := Lib.hid (q0.next hb)
  clear hb B0 q0
  go_wp2_with fail
  refine (known_any _ Q1.out).mono ?_
  rintro e w2 ⟨rfl, hb⟩
  go_wp2
  go_ret
  exact ⟨rfl, chain B1 hb⟩

set_option maxRecDepth 100000 in
set_option maxHeartbeats 2000000 in
theorem law8_yes (O b r v h o : Int) (w : World) (hw : Wor w) (hv : vB O b r = true) (hn : offOk v b h o) : Calls Tryd.prog 8 #[.agg #[.int .i64 O, .int .i64 b, .int .i64 r], .int .i64 v, .int .i64 h, .int .i64 o] w (KnownOk w) := by
  have C1 := Lib.hid (fun (W : World) (q : Wor W) => price_yes O b r v h o W q hv hn)
  have C2 := Lib.hid (fun (W : World) => left_yes O b r W hv)
  obtain ⟨v1, v2, v3, v4, v5, v6⟩ := (vB_iff O b r).1 hv
  have hv0 : vB O b 0 = true := (vB_iff _ _ _).2 ⟨v1, v2, v3, v4, by omega, by omega⟩
  have hlen := bases_len v1 v3 v4
  have HAP := Lib.hid (fun k => after_pos v1 v3 v4 (k := k))
  have HBD := Lib.hid (fun k => after_bd v1 v3 k)
  have HP := Lib.hid (fun k => price_bd (offOk_after v1 v3 hn k))
  have HM := Lib.hid (fun k => price_mono (offOk_after v1 v3 hn k) (foll_bd v1 (after_bd v1 v3 k).1).2)
  have HA := Lib.hid (fun (k : Nat) (hk : k ≤ (bases O b).length) (W : World) => after_yes O b 0 (k : Int) W hv0 (by omega) (by omega) (by omega))
  have HR := Lib.hid (fun (k : Nat) (hk : k ≤ (bases O b).length) (W : World) (q : Wor W) => price_yes O (after O b k) k v h o W q (vB_after hv (by omega)) (offOk_after v1 v3 hn k))
  have HL := Lib.hid (fun (k : Nat) (hk : k ≤ (bases O b).length) (W : World) (q : Wor W) => loss_yes O (after O b k) k v h o W q (vB_after hv (by omega)) (offOk_after v1 v3 hn k))
  have HZ := Lib.hid (show priceI v (after O b (bases O b).length) h o = 0 from by
    have h1 := (after_bd v1 v3 (bases O b).length).1
    have h2 : ¬ 0 < after O b (bases O b).length := fun hh => absurd ((after_pos v1 v3 v4).2 hh) (by omega)
    rw [show after O b (bases O b).length = 0 by omega]
    exact price_zero _ _ _)
  have hpb := price_bd hn
  have hp0 : 0 ≤ priceI v b h o := hpb.1
  have hp1 : priceI v b h o ≤ 1000000000 := hpb.2
  clear hpb hv0 hn hv
  obtain ⟨L, hL⟩ : ∃ L, L = (bases O b).length := ⟨_, rfl⟩
  rw [← hL] at C2 HAP HA HR HL HZ hlen
  clear hL
  have B0 := (Below.refl w.heap.size w).alloc (Nat.le_refl _) (.cells #[.int .i64 O, .int .i64 b, .int .i64 r] 23)
  have q0 := hw.next B0
  have l0 : w.heap.size < (w.alloc (.cells #[.int .i64 O, .int .i64 b, .int .i64 r] 23)).heap.size := by simp
  have c0 : (w.alloc (.cells #[.int .i64 O, .int .i64 b, .int .i64 r] 23)).cell? ⟨w.heap.size, 0, none⟩ = some (.int .i64 O) := by go_simp
  have c1 : (w.alloc (.cells #[.int .i64 O, .int .i64 b, .int .i64 r] 23)).cell? ⟨w.heap.size, 1, none⟩ = some (.int .i64 b) := by go_simp
  have c2 : (w.alloc (.cells #[.int .i64 O, .int .i64 b, .int .i64 r] 23)).cell? ⟨w.heap.size, 2, none⟩ = some (.int .i64 r) := by go_simp
  go_enter Tryd.func8, Tryd.ntmps8
  go_wp2_with fail
  obtain ⟨W0, hW0⟩ : ∃ W0, W0 = w.alloc (.cells #[.int .i64 O, .int .i64 b, .int .i64 r] 23) := ⟨_, rfl⟩
  rw [← hW0] at B0 q0 l0 c0 c1 c2 ⊢
  clear hW0
  refine (C1.out _ q0).mono ?_
  rintro e w1 ⟨rfl, hb⟩
  have d0 := gcell hb l0 c0
  have d1 := gcell hb l0 c1
  have d2 := gcell hb l0 c2
  have l1 := Nat.lt_of_lt_of_le l0 hb.size
  have B1 := chain B0 hb
  have Q1 := Lib.hid (q0.next hb)
  clear hb B0 q0 c0 c1 c2 l0 C1
  obtain ⟨pr, hpr⟩ : ∃ pr, pr = priceI v b h o := ⟨_, rfl⟩
  rw [← hpr] at hp0 hp1 ⊢
  have HPR := Lib.hid hpr
  clear hpr
  go_wp2_with fail
  refine (C2.out _).mono ?_
  rintro e w2 ⟨rfl, hb⟩
  have c0 := gcell hb l1 d0
  have c1 := gcell hb l1 d1
  have l2 := Nat.lt_of_lt_of_le l1 hb.size
  have B2 := Lib.hid (chain B1 hb)
  have Q2 := Lib.hid (Q1.out.next hb)
  clear hb B1 Q1 d0 d1 d2 l1 C2
  go_wp2_with fail
  go_loopw [13, 14] (fun s i wr => ∃ k : Nat, s = .int .i64 (pr - priceI v (after O b k) h o) ∧ i = .int .i64 (k : Int) ∧ k ≤ L ∧ Below w2.heap.size w2 wr) (fun _ i _ => L - (intOf i).toNat)
  case atStart => exact ⟨0, by rw [HPR.out]; simp [after], rfl, Nat.zero_le _, Below.refl _ _⟩
  case round =>
    obtain ⟨k, rfl, rfl, hk, hG⟩ := hrel
    have c0_0 := gcell hG l2 c0
    have c1_0 := gcell hG l2 c1
    have sc_0 := Nat.lt_of_lt_of_le l2 hG.size
    have B3 := Lib.hid (chain B2.out hG)
    have Q3 := Lib.hid (Q2.out.next hG)
    have HG := Lib.hid hG
    have hpk := HP.out k
    clear hG
    by_cases hkl : k < L
    · have A1 := Lib.hid (HA.out k hk)
      have A2 := Lib.hid (HA.out (k + 1) hkl)
      have P1 := Lib.hid (HR.out k hk)
      have P2 := Lib.hid (HR.out (k + 1) hkl)
      have L1 := Lib.hid (HL.out k hk)
      have hpk1 := HP.out (k + 1)
      have hmk : priceI v (after O b (k + 1)) h o ≤ priceI v (after O b k) h o := HM.out k
      have hak := HBD.out k
      have hak1 := HBD.out (k + 1)
      have hlt : after O b (k + 1) < after O b k := foll_lt ((HAP.out k).1 hkl)
      have hend : k + 1 = L → after O b (k + 1) = 0 := fun he => by
        have h2 : ¬ 0 < after O b (k + 1) := fun hh => absurd ((HAP.out (k + 1)).2 hh) (by omega)
        omega
      have HRel := Lib.hid (show ∀ p', p' = priceI v (after O b (k + 1)) h o → ∃ k' : Nat, Value.int .i64 (pr - p') = .int .i64 (pr - priceI v (after O b k') h o) ∧ Value.int .i64 ((k : Int) + 1) = .int .i64 (k' : Int) ∧ k' ≤ L from fun p' hp => ⟨k + 1, by rw [hp], by simp, hkl⟩)
      simp only [Int.toNat_natCast, Int.zero_add, Int.natCast_add, Int.natCast_one, show ((k : Int) + 1).toNat = k + 1 by omega] at A1 A2 P1 P2 L1
      rw [show foll O (after O b k) = after O b (k + 1) from rfl] at L1
      obtain ⟨a, ha⟩ : ∃ a, a = after O b k := ⟨_, rfl⟩
      obtain ⟨a', ha'⟩ : ∃ a', a' = after O b (k + 1) := ⟨_, rfl⟩
      obtain ⟨p, hp⟩ : ∃ p, p = priceI v a h o := ⟨_, rfl⟩
      obtain ⟨p', hp'⟩ : ∃ p', p' = priceI v a' h o := ⟨_, rfl⟩
      rw [← ha] at A1 P1 L1 hpk hmk hak hlt ⊢
      rw [← ha'] at A2 P2 L1 hpk1 hmk hak1 hlt hend HRel
      rw [← hp] at P1 L1 hpk hmk ⊢
      rw [← hp'] at P2 L1 hpk1 hmk HRel
      have HE := Lib.hid hend
      obtain ⟨g1, g2⟩ := hpk
      obtain ⟨g3, g4⟩ := hpk1
      obtain ⟨g5, g6⟩ := hak
      obtain ⟨g7, g8⟩ := hak1
      have hrun1 : pr - p + (p - p') = pr - p' := by omega
      have hp2 : p ≤ pr ∨ True := .inr trivial
      clear hp2 hend ha ha' hp hp' HAP HBD HP HM HA HR HL HZ
      by_cases hlast : k + 1 = L
      · have hz : a' = 0 := HE.out hlast
        have hlb : ((k : Int) == (L : Int) - 1) = true := by simp; omega
        subst hz
        go_wp2_with fail
        refine (A1.out _).mono ?_
        rintro e v1_ ⟨rfl, hb⟩
        have hal := (Below.refl v1_.heap.size v1_).alloc (Nat.le_refl _) (.cells #[.int .i64 O, .int .i64 a, .int .i64 (k : Int)] 23)
        have hb := chain hb hal
        have c0_1 := gcell hb sc_0 c0_0
        have c1_1 := gcell hb sc_0 c1_0
        have sc_1 := Nat.lt_of_lt_of_le sc_0 hb.size
        have B1_ := Lib.hid (chain B3.out hb)
        have G1_ := Lib.hid (chain HG.out hb)
        have Q1_ := Lib.hid (Q3.out.next hb)
        have x0_1 : (v1_.alloc (.cells #[.int .i64 O, .int .i64 a, .int .i64 (k : Int)] 23)).cell? ⟨v1_.heap.size, 0, none⟩ = some (.int .i64 O) := by go_simp
        have x1_1 : (v1_.alloc (.cells #[.int .i64 O, .int .i64 a, .int .i64 (k : Int)] 23)).cell? ⟨v1_.heap.size, 1, none⟩ = some (.int .i64 a) := by go_simp
        have x2_1 : (v1_.alloc (.cells #[.int .i64 O, .int .i64 a, .int .i64 (k : Int)] 23)).cell? ⟨v1_.heap.size, 2, none⟩ = some (.int .i64 (k : Int)) := by go_simp
        have sx_1 : v1_.heap.size < (v1_.alloc (.cells #[.int .i64 O, .int .i64 a, .int .i64 (k : Int)] 23)).heap.size := by simp
        clear hb hal c0_0 c1_0 sc_0 B3 HG Q3 A1
        go_wp2_with fail
        obtain ⟨V1_, hV⟩ : ∃ V, V = (v1_.alloc (.cells #[.int .i64 O, .int .i64 a, .int .i64 (k : Int)] 23)) := ⟨_, rfl⟩
        rw [← hV] at c0_1 c1_1 sc_1 B1_ G1_ Q1_ x0_1 x1_1 x2_1 sx_1 ⊢
        clear hV
        refine (A2.out _).mono ?_
        rintro e v2_ ⟨rfl, hb⟩
        have hal := (Below.refl v2_.heap.size v2_).alloc (Nat.le_refl _) (.cells #[.int .i64 O, .int .i64 0, .int .i64 ((k : Int) + 1)] 23)
        have hb := chain hb hal
        have c0_2 := gcell hb sc_1 c0_1
        have c1_2 := gcell hb sc_1 c1_1
        have sc_2 := Nat.lt_of_lt_of_le sc_1 hb.size
        have x0_2 := gcell hb sx_1 x0_1
        have x1_2 := gcell hb sx_1 x1_1
        have x2_2 := gcell hb sx_1 x2_1
        have sx_2 := Nat.lt_of_lt_of_le sx_1 hb.size
        have B2_ := Lib.hid (chain B1_.out hb)
        have G2_ := Lib.hid (chain G1_.out hb)
        have Q2_ := Lib.hid (Q1_.out.next hb)
        have y0_2 : (v2_.alloc (.cells #[.int .i64 O, .int .i64 0, .int .i64 ((k : Int) + 1)] 23)).cell? ⟨v2_.heap.size, 0, none⟩ = some (.int .i64 O) := by go_simp
        have y1_2 : (v2_.alloc (.cells #[.int .i64 O, .int .i64 0, .int .i64 ((k : Int) + 1)] 23)).cell? ⟨v2_.heap.size, 1, none⟩ = some (.int .i64 0) := by go_simp
        have y2_2 : (v2_.alloc (.cells #[.int .i64 O, .int .i64 0, .int .i64 ((k : Int) + 1)] 23)).cell? ⟨v2_.heap.size, 2, none⟩ = some (.int .i64 ((k : Int) + 1)) := by go_simp
        have sy_2 : v2_.heap.size < (v2_.alloc (.cells #[.int .i64 O, .int .i64 0, .int .i64 ((k : Int) + 1)] 23)).heap.size := by simp
        clear hb hal c0_1 c1_1 sc_1 x0_1 x1_1 x2_1 sx_1 B1_ G1_ Q1_ A2
        go_wp2_with fail
        obtain ⟨V2_, hV⟩ : ∃ V, V = (v2_.alloc (.cells #[.int .i64 O, .int .i64 0, .int .i64 ((k : Int) + 1)] 23)) := ⟨_, rfl⟩
        rw [← hV] at c0_2 c1_2 sc_2 x0_2 x1_2 x2_2 sx_2 B2_ G2_ Q2_ y0_2 y1_2 y2_2 sy_2 ⊢
        clear hV
        refine (P1.out _ Q2_.out).mono ?_
        rintro e v3_ ⟨rfl, hb⟩
        have c0_3 := gcell hb sc_2 c0_2
        have c1_3 := gcell hb sc_2 c1_2
        have sc_3 := Nat.lt_of_lt_of_le sc_2 hb.size
        have x0_3 := gcell hb sx_2 x0_2
        have x1_3 := gcell hb sx_2 x1_2
        have x2_3 := gcell hb sx_2 x2_2
        have sx_3 := Nat.lt_of_lt_of_le sx_2 hb.size
        have y0_3 := gcell hb sy_2 y0_2
        have y1_3 := gcell hb sy_2 y1_2
        have y2_3 := gcell hb sy_2 y2_2
        have sy_3 := Nat.lt_of_lt_of_le sy_2 hb.size
        have B3_ := Lib.hid (chain B2_.out hb)
        have G3_ := Lib.hid (chain G2_.out hb)
        have Q3_ := Lib.hid (Q2_.out.next hb)
        clear hb c0_2 c1_2 sc_2 x0_2 x1_2 x2_2 sx_2 y0_2 y1_2 y2_2 sy_2 B2_ G2_ Q2_ P1
        go_wp2_with fail
        refine (P2.out _ Q3_.out).mono ?_
        rintro e v4_ ⟨rfl, hb⟩
        have c0_4 := gcell hb sc_3 c0_3
        have c1_4 := gcell hb sc_3 c1_3
        have sc_4 := Nat.lt_of_lt_of_le sc_3 hb.size
        have x0_4 := gcell hb sx_3 x0_3
        have x1_4 := gcell hb sx_3 x1_3
        have x2_4 := gcell hb sx_3 x2_3
        have sx_4 := Nat.lt_of_lt_of_le sx_3 hb.size
        have y0_4 := gcell hb sy_3 y0_3
        have y1_4 := gcell hb sy_3 y1_3
        have y2_4 := gcell hb sy_3 y2_3
        have sy_4 := Nat.lt_of_lt_of_le sy_3 hb.size
        have B4_ := Lib.hid (chain B3_.out hb)
        have G4_ := Lib.hid (chain G3_.out hb)
        have Q4_ := Lib.hid (Q3_.out.next hb)
        clear hb c0_3 c1_3 sc_3 x0_3 x1_3 x2_3 sx_3 y0_3 y1_3 y2_3 sy_3 B3_ G3_ Q3_ P2
        go_wp2_with fail
        refine (L1.out _ Q4_.out).mono ?_
        rintro e v5_ ⟨rfl, hb⟩
        have c0_5 := gcell hb sc_4 c0_4
        have c1_5 := gcell hb sc_4 c1_4
        have sc_5 := Nat.lt_of_lt_of_le sc_4 hb.size
        have x0_5 := gcell hb sx_4 x0_4
        have x1_5 := gcell hb sx_4 x1_4
        have x2_5 := gcell hb sx_4 x2_4
        have sx_5 := Nat.lt_of_lt_of_le sx_4 hb.size
        have y0_5 := gcell hb sy_4 y0_4
        have y1_5 := gcell hb sy_4 y1_4
        have y2_5 := gcell hb sy_4 y2_4
        have sy_5 := Nat.lt_of_lt_of_le sy_4 hb.size
        have B5_ := Lib.hid (chain B4_.out hb)
        have G5_ := Lib.hid (chain G4_.out hb)
        have Q5_ := Lib.hid (Q4_.out.next hb)
        clear hb c0_4 c1_4 sc_4 x0_4 x1_4 x2_4 sx_4 y0_4 y1_4 y2_4 sy_4 B4_ G4_ Q4_ L1
        go_wp2
        go_roundw
        case rel =>
          obtain ⟨k', e1, e2, e3⟩ := HRel.out _ rfl
          exact ⟨k', e1, e2, e3, G5_.out⟩
        case measure => simp [intOf]; omega
      · have hlb : ((k : Int) == (L : Int) - 1) = false := by simp; omega
        go_wp2_with fail
        refine (A1.out _).mono ?_
        rintro e v1_ ⟨rfl, hb⟩
        have hal := (Below.refl v1_.heap.size v1_).alloc (Nat.le_refl _) (.cells #[.int .i64 O, .int .i64 a, .int .i64 (k : Int)] 23)
        have hb := chain hb hal
        have c0_1 := gcell hb sc_0 c0_0
        have c1_1 := gcell hb sc_0 c1_0
        have sc_1 := Nat.lt_of_lt_of_le sc_0 hb.size
        have B1_ := Lib.hid (chain B3.out hb)
        have G1_ := Lib.hid (chain HG.out hb)
        have Q1_ := Lib.hid (Q3.out.next hb)
        have x0_1 : (v1_.alloc (.cells #[.int .i64 O, .int .i64 a, .int .i64 (k : Int)] 23)).cell? ⟨v1_.heap.size, 0, none⟩ = some (.int .i64 O) := by go_simp
        have x1_1 : (v1_.alloc (.cells #[.int .i64 O, .int .i64 a, .int .i64 (k : Int)] 23)).cell? ⟨v1_.heap.size, 1, none⟩ = some (.int .i64 a) := by go_simp
        have x2_1 : (v1_.alloc (.cells #[.int .i64 O, .int .i64 a, .int .i64 (k : Int)] 23)).cell? ⟨v1_.heap.size, 2, none⟩ = some (.int .i64 (k : Int)) := by go_simp
        have sx_1 : v1_.heap.size < (v1_.alloc (.cells #[.int .i64 O, .int .i64 a, .int .i64 (k : Int)] 23)).heap.size := by simp
        clear hb hal c0_0 c1_0 sc_0 B3 HG Q3 A1
        go_wp2_with fail
        obtain ⟨V1_, hV⟩ : ∃ V, V = (v1_.alloc (.cells #[.int .i64 O, .int .i64 a, .int .i64 (k : Int)] 23)) := ⟨_, rfl⟩
        rw [← hV] at c0_1 c1_1 sc_1 B1_ G1_ Q1_ x0_1 x1_1 x2_1 sx_1 ⊢
        clear hV
        refine (A2.out _).mono ?_
        rintro e v2_ ⟨rfl, hb⟩
        have hal := (Below.refl v2_.heap.size v2_).alloc (Nat.le_refl _) (.cells #[.int .i64 O, .int .i64 a', .int .i64 ((k : Int) + 1)] 23)
        have hb := chain hb hal
        have c0_2 := gcell hb sc_1 c0_1
        have c1_2 := gcell hb sc_1 c1_1
        have sc_2 := Nat.lt_of_lt_of_le sc_1 hb.size
        have x0_2 := gcell hb sx_1 x0_1
        have x1_2 := gcell hb sx_1 x1_1
        have x2_2 := gcell hb sx_1 x2_1
        have sx_2 := Nat.lt_of_lt_of_le sx_1 hb.size
        have B2_ := Lib.hid (chain B1_.out hb)
        have G2_ := Lib.hid (chain G1_.out hb)
        have Q2_ := Lib.hid (Q1_.out.next hb)
        have y0_2 : (v2_.alloc (.cells #[.int .i64 O, .int .i64 a', .int .i64 ((k : Int) + 1)] 23)).cell? ⟨v2_.heap.size, 0, none⟩ = some (.int .i64 O) := by go_simp
        have y1_2 : (v2_.alloc (.cells #[.int .i64 O, .int .i64 a', .int .i64 ((k : Int) + 1)] 23)).cell? ⟨v2_.heap.size, 1, none⟩ = some (.int .i64 a') := by go_simp
        have y2_2 : (v2_.alloc (.cells #[.int .i64 O, .int .i64 a', .int .i64 ((k : Int) + 1)] 23)).cell? ⟨v2_.heap.size, 2, none⟩ = some (.int .i64 ((k : Int) + 1)) := by go_simp
        have sy_2 : v2_.heap.size < (v2_.alloc (.cells #[.int .i64 O, .int .i64 a', .int .i64 ((k : Int) + 1)] 23)).heap.size := by simp
        clear hb hal c0_1 c1_1 sc_1 x0_1 x1_1 x2_1 sx_1 B1_ G1_ Q1_ A2
        go_wp2_with fail
        obtain ⟨V2_, hV⟩ : ∃ V, V = (v2_.alloc (.cells #[.int .i64 O, .int .i64 a', .int .i64 ((k : Int) + 1)] 23)) := ⟨_, rfl⟩
        rw [← hV] at c0_2 c1_2 sc_2 x0_2 x1_2 x2_2 sx_2 B2_ G2_ Q2_ y0_2 y1_2 y2_2 sy_2 ⊢
        clear hV
        refine (P1.out _ Q2_.out).mono ?_
        rintro e v3_ ⟨rfl, hb⟩
        have c0_3 := gcell hb sc_2 c0_2
        have c1_3 := gcell hb sc_2 c1_2
        have sc_3 := Nat.lt_of_lt_of_le sc_2 hb.size
        have x0_3 := gcell hb sx_2 x0_2
        have x1_3 := gcell hb sx_2 x1_2
        have x2_3 := gcell hb sx_2 x2_2
        have sx_3 := Nat.lt_of_lt_of_le sx_2 hb.size
        have y0_3 := gcell hb sy_2 y0_2
        have y1_3 := gcell hb sy_2 y1_2
        have y2_3 := gcell hb sy_2 y2_2
        have sy_3 := Nat.lt_of_lt_of_le sy_2 hb.size
        have B3_ := Lib.hid (chain B2_.out hb)
        have G3_ := Lib.hid (chain G2_.out hb)
        have Q3_ := Lib.hid (Q2_.out.next hb)
        clear hb c0_2 c1_2 sc_2 x0_2 x1_2 x2_2 sx_2 y0_2 y1_2 y2_2 sy_2 B2_ G2_ Q2_ P1
        go_wp2_with fail
        refine (P2.out _ Q3_.out).mono ?_
        rintro e v4_ ⟨rfl, hb⟩
        have c0_4 := gcell hb sc_3 c0_3
        have c1_4 := gcell hb sc_3 c1_3
        have sc_4 := Nat.lt_of_lt_of_le sc_3 hb.size
        have x0_4 := gcell hb sx_3 x0_3
        have x1_4 := gcell hb sx_3 x1_3
        have x2_4 := gcell hb sx_3 x2_3
        have sx_4 := Nat.lt_of_lt_of_le sx_3 hb.size
        have y0_4 := gcell hb sy_3 y0_3
        have y1_4 := gcell hb sy_3 y1_3
        have y2_4 := gcell hb sy_3 y2_3
        have sy_4 := Nat.lt_of_lt_of_le sy_3 hb.size
        have B4_ := Lib.hid (chain B3_.out hb)
        have G4_ := Lib.hid (chain G3_.out hb)
        have Q4_ := Lib.hid (Q3_.out.next hb)
        clear hb c0_3 c1_3 sc_3 x0_3 x1_3 x2_3 sx_3 y0_3 y1_3 y2_3 sy_3 B3_ G3_ Q3_ P2
        go_wp2_with fail
        refine (L1.out _ Q4_.out).mono ?_
        rintro e v5_ ⟨rfl, hb⟩
        have c0_5 := gcell hb sc_4 c0_4
        have c1_5 := gcell hb sc_4 c1_4
        have sc_5 := Nat.lt_of_lt_of_le sc_4 hb.size
        have x0_5 := gcell hb sx_4 x0_4
        have x1_5 := gcell hb sx_4 x1_4
        have x2_5 := gcell hb sx_4 x2_4
        have sx_5 := Nat.lt_of_lt_of_le sx_4 hb.size
        have y0_5 := gcell hb sy_4 y0_4
        have y1_5 := gcell hb sy_4 y1_4
        have y2_5 := gcell hb sy_4 y2_4
        have sy_5 := Nat.lt_of_lt_of_le sy_4 hb.size
        have B5_ := Lib.hid (chain B4_.out hb)
        have G5_ := Lib.hid (chain G4_.out hb)
        have Q5_ := Lib.hid (Q4_.out.next hb)
        clear hb c0_4 c1_4 sc_4 x0_4 x1_4 x2_4 sx_4 y0_4 y1_4 y2_4 sy_4 B4_ G4_ Q4_ L1
        go_wp2
        go_roundw
        case rel =>
          obtain ⟨k', e1, e2, e3⟩ := HRel.out _ rfl
          exact ⟨k', e1, e2, e3, G5_.out⟩
        case measure => simp [intOf]; omega
    · have hkL : k = L := by omega
      have HZ2 : priceI v (after O b k) h o = 0 := by rw [hkL]; exact HZ.out
      have hpos : (0 < L ∧ 0 < b) ∨ (L = 0 ∧ b = 0) := by
        have h0 := HAP.out 0
        simp only [after] at h0
        omega
      rw [HZ2, Int.sub_zero]
      clear HAP HBD HP HM HA HR HL HZ hpk HZ2
      rcases hpos with ⟨x1, x2⟩ | ⟨x1, x2⟩
      all_goals
        go_wp2_with fail
        refine (known_any _ Q3.out).mono ?_
        rintro e w3 ⟨rfl, hb⟩
        go_wp2
        go_ret
        exact ⟨rfl, chain B3.out hb⟩

theorem law8 (O b r v h o : Int) (w : World) (hw : Wor w) : Calls Tryd.prog 8 #[.agg #[.int .i64 O, .int .i64 b, .int .i64 r], .int .i64 v, .int .i64 h, .int .i64 o] w (KnownOk w) := by
  by_cases hv : vB O b r = true
  · rcases off_cases v b h o with hn | hn
    · exact law8_yes O b r v h o w hw hv hn
    · exact law8_no O b r v h o w hw fun W => price_no O b r v h o W hv hn
  · exact law8_no O b r v h o w hw fun W => price_bad O b r v h o W (by simpa using hv)
end Go.Proofs.YtfgobighpkemkaaDoor
