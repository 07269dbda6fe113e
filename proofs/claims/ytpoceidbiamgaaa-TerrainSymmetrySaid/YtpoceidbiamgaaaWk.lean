/- Contract of terrain.Profile. -/
import Derived.Test.YtpoceidbiamgaaaWj
set_option linter.unusedVariables false
set_option linter.unusedSimpArgs false
namespace Go.Proofs.Ytpoceidbiamgaaa
open Go.RowKit
theorem below_via {wL V V' : World} (h : Below wL.heap.size wL V) (hb : Below V.heap.size V.drew V') : Below wL.heap.size wL V' := h.drew.trans (hb.mono h.size)
theorem Ints.at_ {w : World} {B b off n : Nat} {xs : List Int} (h : Ints w B (some ⟨b, off, none⟩) n xs) (k : Nat) (hk : k < n) : w.cell? ⟨b, off + k, none⟩ = some (.int .i64 (atI xs k)) := by
  obtain ⟨b', off', e, _, hc⟩ := h.2 (by omega)
  injection e with e
  injection e with e1 e2
  subst e1 e2
  exact hc k hk
theorem Own.ne_size {w : World} {base n c : Nat} {e : TypeId} {A : Option Addr} {xs : List Int} (h : Own w base e A n c xs) : some w.heap.size ≠ (Value.slice A n c).ownBlock := by
  rcases h.form with ⟨e, _⟩ | ⟨g', cur, e, _, h1, _⟩
  · rw [e]; simp [Value.ownBlock]
  · rw [e]; simp [Value.ownBlock]; omega
theorem run_make0 {P : Program} (t e : TypeId) (i : TypeInfo) (z : Value) (ht : P.underlying t = some (.slice e)) (hi : P.info? e = some i) (hz : i.zero = some z) (hs : i.size = 1) (hb : i.bytes = 8) (c : Nat) (hc : c ≤ 4096) (w : World) :
    (Instr.makeSlice t (.int .i64 0) (.int .i64 ((c : Int) + 2))).run P w = .ok (.slice (some ⟨w.heap.size, 0, none⟩) 0 (c + 2)) (w.alloc (.cells (madeCells z.cells (c + 2)) e)) := by
  have hr := run_make (P := P) w t e i z ht hi hz .i64 .i64 0 ((c : Int) + 2) (Int.le_refl _) (by omega) (by rw [hb]; omega) (by omega)
  rw [hs, Nat.mul_one, show ((c : Int) + 2).toNat = c + 2 by omega] at hr
  exact hr
/-- The ground of the first cells of a line. -/
def pfK (g : List Int) (W a1 a2 b1 b2 : Int) (k : Nat) : List Int := atI g (place W (a1, a2)) :: (lineK a1 a2 b1 b2 k).map (fun c => atI g (place W c))
theorem pfK_succ (g : List Int) (W a1 a2 b1 b2 : Int) (k : Nat) : pfK g W a1 a2 b1 b2 (k + 1) = pfK g W a1 a2 b1 b2 k ++ [atI g (place W (lineC a1 a2 b1 b2 k))] := by simp [pfK, lineK_succ]
theorem profL_eq (g : List Int) (W a1 a2 b1 b2 : Int) : profL g W a1 a2 b1 b2 = pfK g W a1 a2 b1 b2 (lineN a1 a2 b1 b2) ++ (if a1 = b1 ∧ a2 = b2 then [] else [atI g (place W (b1, b2))]) := rfl
/-- A row that is filled, beside memory that stays. -/
def PfI (wL : World) (L : List Int) (l : Value) (wr : World) : Prop := ∃ (R : Option Addr) (k d : Nat), l = .slice R k d ∧ Own wr wL.heap.size 3 R k d L ∧ Below wL.heap.size wL wr
/-- A cell of the terrain: its place, and what place answers. -/
theorem place_at (W H : Int) (A : Option Addr) (n c : Nat) (A2 : Option Addr) (m c2 : Nat) (x y : Int) (v1 : 1 ≤ W) (v2 : W ≤ 64) (v4 : H ≤ 64) (hn : (n : Int) = W * H) (x0 : 0 ≤ x) (x1 : x < W) (y0 : 0 ≤ y) (y1 : y < H) :
    place W (x, y) < n ∧ (∀ V, Calls Try.prog 41 #[.agg #[.int .i64 W, .int .i64 H, .slice A n c, .slice A2 m c2], .agg #[.int .i64 x, .int .i64 y]] V fun e w' => e = .returned (.int .i64 (place W (x, y) : Nat)) ∧ Below V.heap.size V w') ∧
      (∀ V, Calls Try.prog 21 #[.agg #[.int .i64 W, .int .i64 H, .slice A n c, .slice A2 m c2], .agg #[.int .i64 x, .int .i64 y]] V fun e w' => e = .returned (.int .i64 (place W (x, y) : Nat)) ∧ Below V.heap.size V w') := by
  obtain ⟨b1, b2⟩ := place_bd x0 x1 y0 y1
  have e : ((place W (x, y) : Nat) : Int) = y * W + x := by show (((y * W + x).toNat : Nat) : Int) = _; omega
  refine ⟨by omega, fun V => ?_, fun V => ?_⟩
  · rw [e]; exact place_any W H A n c A2 m c2 x y V v1 v2 x0 (by omega) y0 (by omega)
  · rw [e]; exact refIndex_any W H A n c A2 m c2 x y V v1 v2 x0 (by omega) y0 (by omega)

set_option maxHeartbeats 1000000 in
theorem profile_no (W H : Int) (A : Option Addr) (n c : Nat) (A2 : Option Addr) (m c2 : Nat) (g p : List Int) (a1 a2 b1 b2 : Int) (w : World) (hG : Ints w w.heap.size A n g) (hP : Ints w w.heap.size A2 m p) (hn : n ≤ 4611686018427387904) (hm : m ≤ 4611686018427387904) (h : ¬ (hasB W H g p a1 a2 = true ∧ hasB W H g p b1 b2 = true)) :
    Calls Try.prog 33 #[.agg #[.int .i64 W, .int .i64 H, .slice A n c, .slice A2 m c2], .agg #[.int .i64 a1, .int .i64 a2], .agg #[.int .i64 b1, .int .i64 b2]] w (LineNo w) := by
  have HG := Lib.hid hG
  have HP := Lib.hid hP
  have HV : Hid (terB W H g p = true → insB W H a1 a2 = true → insB W H b1 b2 = true → False) := fun h1 h2 h3 => h ⟨by simp [hasB, h1, h2], by simp [hasB, h1, h3]⟩
  clear hG hP h
  have HS0 := Lib.hid (t3_start W H A n c A2 m c2 a1 a2 b1 b2 w)
  go_enter Try.func33, Try.ntmps33
  go_wp2_with fail
  obtain ⟨W0, hW0⟩ : ∃ W0, W0 = (((w.alloc (.cells #[.int .i64 W, .int .i64 H, .slice A n c, .slice A2 m c2] 24)).alloc (.cells #[.int .i64 a1, .int .i64 a2] 26)).alloc (.cells #[.int .i64 b1, .int .i64 b2] 26)) := ⟨_, rfl⟩
  rw [← hW0] at HS0
  rw [← hW0]
  clear hW0
  refine (valid_any W H A n c A2 m c2 g p W0 (HG.out.next HS0.out.1) (HP.out.next HS0.out.1) hn hm).mono ?_
  rintro e w1 ⟨rfl, hb⟩
  have HS1 := Lib.hid (T3.next HS0.out hb)
  obtain ⟨_, ⟨t0, t1, t2, t3, tf, tl⟩, ⟨u0, u1, uf, ul⟩, ⟨x0, x1, xf, xl⟩⟩ := HS1.out
  clear hb
  obtain ⟨E1, hE1⟩ : ∃ E, E = terB W H g p := ⟨_, rfl⟩
  rw [← hE1] at HV
  rw [← hE1]
  clear hE1
  cases E1
  · go_wp2
    go_ret2
    exact ⟨rfl, HS1.out.1⟩
  · go_wp2_with fail
    clear t0 t1 t2 t3 tf tl u0 u1 uf ul x0 x1 xf xl
    refine (inside_any W H A n c A2 m c2 a1 a2 w1).mono ?_
    rintro e w2 ⟨rfl, hb⟩
    have HS2 := Lib.hid (T3.next HS1.out hb)
    obtain ⟨_, ⟨t0, t1, t2, t3, tf, tl⟩, ⟨u0, u1, uf, ul⟩, ⟨x0, x1, xf, xl⟩⟩ := HS2.out
    clear hb
    obtain ⟨E2, hE2⟩ : ∃ E, E = insB W H a1 a2 := ⟨_, rfl⟩
    rw [← hE2] at HV
    rw [← hE2]
    clear hE2
    cases E2
    · go_wp2
      go_ret2
      exact ⟨rfl, HS2.out.1⟩
    · go_wp2_with fail
      clear t0 t1 t2 t3 tf tl u0 u1 uf ul x0 x1 xf xl
      refine (inside_any W H A n c A2 m c2 b1 b2 w2).mono ?_
      rintro e w3 ⟨rfl, hb⟩
      have HS3 := Lib.hid (T3.next HS2.out hb)
      obtain ⟨_, ⟨t0, t1, t2, t3, tf, tl⟩, ⟨u0, u1, uf, ul⟩, ⟨x0, x1, xf, xl⟩⟩ := HS3.out
      clear hb
      obtain ⟨E3, hE3⟩ : ∃ E, E = insB W H b1 b2 := ⟨_, rfl⟩
      rw [← hE3] at HV
      rw [← hE3]
      clear hE3
      cases E3
      · go_wp2
        go_ret2
        exact ⟨rfl, HS3.out.1⟩
      · exact absurd (HV.out (by simp) (by simp) (by simp)) (fun h => h)

set_option maxHeartbeats 2000000 in
theorem profile_yes (W H : Int) (A : Option Addr) (n c : Nat) (A2 : Option Addr) (m c2 : Nat) (g p : List Int) (a1 a2 b1 b2 : Int) (w : World) (hG : Ints w w.heap.size A n g) (hP : Ints w w.heap.size A2 m p) (hn : n ≤ 4611686018427387904) (hm : m ≤ 4611686018427387904) (ha : hasB W H g p a1 a2 = true) (hb : hasB W H g p b1 b2 = true) :
    Calls Try.prog 33 #[.agg #[.int .i64 W, .int .i64 H, .slice A n c, .slice A2 m c2], .agg #[.int .i64 a1, .int .i64 a2], .agg #[.int .i64 b1, .int .i64 b2]] w (IntsR w (profL g W a1 a2 b1 b2)) := by
  obtain ⟨i0, hi0, hz0, hz1, hz2⟩ := info_parts info3
  have HG := Lib.hid hG
  have HP := Lib.hid hP
  obtain ⟨hv, k1, k2, k3, k4⟩ := hasB_iff.1 ha
  obtain ⟨_, k5, k6, k7, k8⟩ := hasB_iff.1 hb
  obtain ⟨⟨v1, v2, v3, v4, v5, v6⟩, _⟩ := terB_iff.1 hv
  have ia : insB W H a1 a2 = true := by unfold hasB at ha; simp at ha; exact ha.1
  have ib : insB W H b1 b2 = true := by unfold hasB at hb; simp at hb; exact hb.1
  have HV1 : Hid (∀ V, Ints V V.heap.size A n g → Ints V V.heap.size A2 m p → Calls Try.prog 18 #[.agg #[.int .i64 W, .int .i64 H, .slice A n c, .slice A2 m c2]] V fun e w' => e = .returned (.bool true) ∧ Below V.heap.size V w') := fun V q1 q2 => by rw [← hv]; exact valid_any W H A n c A2 m c2 g p V q1 q2 hn hm
  have HV2 : Hid (∀ V, Calls Try.prog 45 #[.agg #[.int .i64 W, .int .i64 H, .slice A n c, .slice A2 m c2], .agg #[.int .i64 a1, .int .i64 a2]] V fun e w' => e = .returned (.bool true) ∧ Below V.heap.size V w') := fun V => by rw [← ia]; exact inside_any W H A n c A2 m c2 a1 a2 V
  have HV3 : Hid (∀ V, Calls Try.prog 45 #[.agg #[.int .i64 W, .int .i64 H, .slice A n c, .slice A2 m c2], .agg #[.int .i64 b1, .int .i64 b2]] V fun e w' => e = .returned (.bool true) ∧ Below V.heap.size V w') := fun V => by rw [← ib]; exact inside_any W H A n c A2 m c2 b1 b2 V
  clear ia ib hv ha hb
  have hl1 := hG.1
  rw [hl1] at v5
  obtain ⟨wb1, wb2⟩ := wh_bd v1 v2 v3 v4
  obtain ⟨gb, go, rfl, hgb, _⟩ := hG.2 (by omega)
  have PA := place_at W H (some ⟨gb, go, none⟩) n c A2 m c2 a1 a2 v1 v2 v4 v5 k1 k2 k3 k4
  have PB := place_at W H (some ⟨gb, go, none⟩) n c A2 m c2 b1 b2 v1 v2 v4 v5 k5 k6 k7 k8
  have PC := fun (k : Nat) (hk : k < lineN a1 a2 b1 b2) => by
    have q := lineC_bd hk
    exact place_at W H (some ⟨gb, go, none⟩) n c A2 m c2 (lineC a1 a2 b1 b2 k).1 (lineC a1 a2 b1 b2 k).2 v1 v2 v4 v5 (by omega) (by omega) (by omega) (by omega)
  have HPC := Lib.hid PC
  have HPA := Lib.hid PA
  have HPB := Lib.hid PB
  have HV5 := Lib.hid v5
  have hs1 := span_le (a1 := a1) (a2 := a2) (b1 := b1) (b2 := b2) k1 (by omega) k3 (by omega) k5 (by omega) k7 (by omega)
  have hN : lineN a1 a2 b1 b2 ≤ 62 := by unfold lineN; omega
  have HLN := Lib.hid hN
  have hmk := run_make0 (P := Try.prog) 22 3 i0 (.int .i64 0) Try.underlying22 hi0 hz0 hz1 hz2 (lineN a1 a2 b1 b2) (by omega)
  clear PA PB PC v5 hG hP hl1 hs1
  have HS0 := Lib.hid (t3_start W H (some ⟨gb, go, none⟩) n c A2 m c2 a1 a2 b1 b2 w)
  go_enter Try.func33, Try.ntmps33
  go_wp2_with fail
  obtain ⟨W0, hW0⟩ : ∃ W0, W0 = (((w.alloc (.cells #[.int .i64 W, .int .i64 H, .slice (some ⟨gb, go, none⟩) n c, .slice A2 m c2] 24)).alloc (.cells #[.int .i64 a1, .int .i64 a2] 26)).alloc (.cells #[.int .i64 b1, .int .i64 b2] 26)) := ⟨_, rfl⟩
  rw [← hW0] at HS0
  rw [← hW0]
  clear hW0
  refine (HV1.out W0 (HG.out.next HS0.out.1) (HP.out.next HS0.out.1)).mono ?_
  rintro e w1 ⟨rfl, hb⟩
  have HS1 := Lib.hid (T3.next HS0.out hb)
  obtain ⟨_, ⟨t0, t1, t2, t3, tf, tl⟩, ⟨u0, u1, uf, ul⟩, ⟨x0, x1, xf, xl⟩⟩ := HS1.out
  clear hb
  go_wp2_with fail
  clear t0 t1 t2 t3 tf tl u0 u1 uf ul x0 x1 xf xl
  refine (HV2.out w1).mono ?_
  rintro e w2 ⟨rfl, hb⟩
  have HS2 := Lib.hid (T3.next HS1.out hb)
  obtain ⟨_, ⟨t0, t1, t2, t3, tf, tl⟩, ⟨u0, u1, uf, ul⟩, ⟨x0, x1, xf, xl⟩⟩ := HS2.out
  clear hb
  go_wp2_with fail
  clear t0 t1 t2 t3 tf tl u0 u1 uf ul x0 x1 xf xl
  refine (HV3.out w2).mono ?_
  rintro e w3 ⟨rfl, hb⟩
  have HS3 := Lib.hid (T3.next HS2.out hb)
  obtain ⟨_, ⟨t0, t1, t2, t3, tf, tl⟩, ⟨u0, u1, uf, ul⟩, ⟨x0, x1, xf, xl⟩⟩ := HS3.out
  clear hb HS0 HS1 HS2 HV1 HV2 HV3
  go_wp2_with fail
  refine (line_yes a1 a2 b1 b2 w3 ⟨k1, by omega, k3, by omega⟩ ⟨k5, by omega, k7, by omega⟩).mono ?_
  rintro e wL ⟨lA, ln, lc, rfl, hol, hbL⟩
  have TL := Lib.hid (T3.next HS3.out hbL)
  have HGL := Lib.hid (HG.out.next TL.out.1)
  have HCL := Lib.hid hol.cels
  obtain rfl : ln = lineN a1 a2 b1 b2 := by have := hol.len; rw [lineL_len] at this; exact this.symm
  clear hol hbL t0 t1 t2 t3 tf tl u0 u1 uf ul x0 x1 xf xl HS3
  go_wp2
  obtain ⟨V0, hV0⟩ : ∃ V0, V0 = wL.alloc (.cells (madeCells #[.int .i64 0] (lineN a1 a2 b1 b2 + 2)) 3) := ⟨_, rfl⟩
  have HBv : Hid (Below wL.heap.size wL V0) := by rw [hV0]; exact (Below.refl _ _).alloc (Nat.le_refl _) _
  have HOv : Hid (Own V0 wL.heap.size 3 (some ⟨wL.heap.size, 0, none⟩) 0 (lineN a1 a2 b1 b2 + 2) []) := by rw [hV0]; exact World.ownsRow_made wL _ _ (Nat.le_refl _) (by unfold maxLen; have := HLN.out; omega) (by rw [size_madeCells, Nat.mul_one])
  rw [← hV0]
  clear hV0 hmk
  obtain ⟨kA, hkA⟩ : ∃ kA, kA = place W (a1, a2) := ⟨_, rfl⟩
  obtain ⟨vA, hvA⟩ : ∃ vA, atI g kA = vA := ⟨_, rfl⟩
  have hkkA : kA < n := by rw [hkA]; exact HPA.out.1
  have HCA := Lib.hid HPA.out.2.1
  rw [← hkA] at HCA
  have HKA := Lib.hid hkA
  have HVkA := Lib.hid hvA
  clear hkA hvA
  have i1 : (0 : Int) ≤ (kA : Int) := by omega
  have i2 : (kA : Int) < (n : Int) := by omega
  obtain ⟨_, ⟨t0, t1, t2, t3, _, _⟩, ⟨u0, u1, _, _⟩, _⟩ := T3.next TL.out HBv.out
  have gc := (Ints.at_ (HGL.out.below HBv.out) kA hkkA)
  rw [HVkA.out] at gc
  go_region_held3 (fun w' => w'.cell? ⟨w.heap.size, 0, none⟩ = some (.int .i64 W) ∧ w'.cell? ⟨w.heap.size, 1, none⟩ = some (.int .i64 H) ∧ w'.cell? ⟨w.heap.size, 2, none⟩ = some (.slice (some ⟨gb, go, none⟩) n c) ∧ w'.cell? ⟨w.heap.size, 3, none⟩ = some (.slice A2 m c2) ∧ w'.cell? ⟨w.heap.size + 1, 0, none⟩ = some (.int .i64 a1) ∧ w'.cell? ⟨w.heap.size + 1, 1, none⟩ = some (.int .i64 a2) ∧ w'.cell? ⟨gb, go + kA, none⟩ = some (.int .i64 vA))
    (first | go_keep | exact ⟨by assumption, by assumption, by assumption, by assumption, by assumption, by assumption, by assumption⟩)
    (first | (go_at_call 41; refine (HCA.out _).mono ?_; rintro e w1 ⟨rfl, hb1⟩; have HB1 := Lib.hid (below_via HBv.out hb1); have HO1 := Lib.hid ((Own.drewN HOv.out 1).next hb1); obtain ⟨_, ⟨t0, t1, t2, t3, _, _⟩, _, _⟩ := T3.next TL.out HB1.out; obtain ⟨_, _, ⟨u0, u1, _, _⟩, _⟩ := T3.next TL.out HB1.out; have gc := (Ints.at_ (HGL.out.below HB1.out) kA hkkA); rw [HVkA.out] at gc; have hw1 : V0.heap.size ≤ w1.heap.size := hb1.size; clear hb1) | (refine step_append_ints _ (by rfl) (.tmp 41) (.tmp 49) 22 (by rfl) wL.heap.size 3 i0 Try.underlying22 hi0 hz0 hz1 hz2 (some ⟨wL.heap.size, 0, none⟩) 0 (lineN a1 a2 b1 b2 + 2) _ (by rfl) (HO1.out.alloc _) _ (some ⟨w1.heap.size, 0, none⟩) 1 1 [vA] (by rfl) (ints_one w1 3 vA) (by omega) (by have := HB1.out.size; simp; omega) ?_; intro R' d' w2 hown hg hat; have HB2 := Lib.hid ((HB1.out.alloc HB1.out.size (.cells #[.int .i64 vA] 3)).grown hg (by have := HB1.out.size; simp; omega) HO1.out.row_ge); have HO2 := Lib.hid hown; obtain ⟨_, ⟨t0, t1, t2, t3, _, _⟩, _, _⟩ := T3.next TL.out HB2.out; obtain ⟨_, _, ⟨u0, u1, _, _⟩, _⟩ := T3.next TL.out HB2.out; have gc := (Ints.at_ (HGL.out.below HB2.out) kA hkkA); rw [HVkA.out] at gc; clear hown hg hat))
  have HF : Hid (PfI wL (pfK g W a1 a2 b1 b2 0) (.slice R' 1 d') w2) := ⟨R', 1, d', rfl, by have h := HO2.out; rw [Nat.zero_add, List.nil_append, ← HVkA.out, HKA.out] at h; exact h, HB2.out⟩
  go_wp2
  clear t0 t1 t2 t3 u0 u1 gc HBv HOv HB1 HO1 HB2 HO2
  go_loopw [10, 53] (fun l i wr => ∃ k : Nat, k ≤ lineN a1 a2 b1 b2 ∧ i = .int .i64 k ∧ PfI wL (pfK g W a1 a2 b1 b2 k) l wr) (fun _ i _ => 64 - (intOf i).toNat)
  case atStart => exact ⟨0, Nat.zero_le _, rfl, HF.out⟩
  case round =>
    clear HF
    obtain ⟨k, hk, rfl, R, r, d, rfl, ho, hbr⟩ := hrel
    have HOr := Lib.hid ho
    have HBr := Lib.hid hbr
    have hr : r ≤ 64 := by
      have l := ho.len
      have := HLN.out
      simp only [pfK, List.length_cons, List.length_map, lineK_len] at l
      omega
    clear ho hbr
    by_cases hlt : k < lineN a1 a2 b1 b2
    · obtain ⟨lb, rfl, hlb, hc⟩ := (HCL.out.below HBr.out).2 (by omega)
      have hcc := hc k hlt
      have HPC1 := Lib.hid (HPC.out k hlt)
      have HSU := Lib.hid (pfK_succ g W a1 a2 b1 b2 k)
      rw [lineL_at hlt] at hcc
      simp only [Option.getD_some] at hcc
      obtain ⟨C, hC⟩ : ∃ C, lineC a1 a2 b1 b2 k = C := ⟨_, rfl⟩
      rw [hC] at hcc HPC1 HSU
      obtain ⟨cx, cy⟩ := C
      simp only at hcc
      obtain ⟨c1, c2'⟩ := hcc
      clear hc hC
      have hk63 : k ≤ 62 := by have := HLN.out; omega
      go_wp2
      obtain ⟨V0, hV0⟩ : ∃ V0, V0 = wr.alloc (.cells #[.int .i64 cx, .int .i64 cy] 26) := ⟨_, rfl⟩
      have HBv : Hid (Below wL.heap.size wL V0) := by rw [hV0]; exact HBr.out.alloc HBr.out.size _
      have HOv : Hid (Own V0 wL.heap.size 3 R r d (pfK g W a1 a2 b1 b2 k)) := by rw [hV0]; exact HOr.out.alloc _
      have HBQ : Hid (Box2 V0 wr.heap.size (.int .i64 cx) (.int .i64 cy)) := by rw [hV0]; exact Box2.new _ _ _ _
      have HNE := Lib.hid HOr.out.ne_size
      rw [← hV0]
      clear hV0 c1 c2'
      obtain ⟨kC, hkC⟩ : ∃ kC, kC = place W (cx, cy) := ⟨_, rfl⟩
      obtain ⟨vC, hvC⟩ : ∃ vC, atI g kC = vC := ⟨_, rfl⟩
      have hkkC : kC < n := by rw [hkC]; exact HPC1.out.1
      have HCC := Lib.hid HPC1.out.2.1
      rw [← hkC] at HCC HSU
      rw [hvC] at HSU
      have HVkC := Lib.hid hvC
      clear hkC hvC HPC1
      have i3 : (0 : Int) ≤ (kC : Int) := by omega
      have i4 : (kC : Int) < (n : Int) := by omega
      obtain ⟨_, ⟨t0, t1, t2, t3, _, _⟩, _, _⟩ := T3.next TL.out HBv.out
      obtain ⟨u0, u1, _, _⟩ := HBQ.out
      have gc := (Ints.at_ (HGL.out.below HBv.out) kC hkkC)
      rw [HVkC.out] at gc
      go_region_held3 (fun w' => w'.cell? ⟨w.heap.size, 0, none⟩ = some (.int .i64 W) ∧ w'.cell? ⟨w.heap.size, 1, none⟩ = some (.int .i64 H) ∧ w'.cell? ⟨w.heap.size, 2, none⟩ = some (.slice (some ⟨gb, go, none⟩) n c) ∧ w'.cell? ⟨w.heap.size, 3, none⟩ = some (.slice A2 m c2) ∧ w'.cell? ⟨wr.heap.size, 0, none⟩ = some (.int .i64 cx) ∧ w'.cell? ⟨wr.heap.size, 1, none⟩ = some (.int .i64 cy) ∧ w'.cell? ⟨gb, go + kC, none⟩ = some (.int .i64 vC))
        (first | go_keep | exact ⟨by assumption, by assumption, by assumption, by assumption, by assumption, by assumption, by assumption⟩)
        (first | (go_at_call 41; refine (HCC.out _).mono ?_; rintro e w1 ⟨rfl, hb1⟩; have HB1 := Lib.hid (below_via HBv.out hb1); have HO1 := Lib.hid ((Own.drewN HOv.out 1).next hb1); obtain ⟨_, ⟨t0, t1, t2, t3, _, _⟩, _, _⟩ := T3.next TL.out HB1.out; have HBQ1 := Lib.hid ((Box2.drewN HBQ.out 1).next hb1); obtain ⟨u0, u1, _, _⟩ := HBQ1.out; have gc := (Ints.at_ (HGL.out.below HB1.out) kC hkkC); rw [HVkC.out] at gc; have hw1 : V0.heap.size ≤ w1.heap.size := hb1.size; clear hb1) | (refine step_append_ints _ (by rfl) (.tmp 57) (.tmp 65) 22 (by rfl) wL.heap.size 3 i0 Try.underlying22 hi0 hz0 hz1 hz2 R r d _ (by rfl) (HO1.out.alloc _) _ (some ⟨w1.heap.size, 0, none⟩) 1 1 [vC] (by rfl) (ints_one w1 3 vC) (by omega) (by have := HB1.out.size; simp; omega) ?_; intro R' d' w2 hown hg hat; have HB2 := Lib.hid ((HB1.out.alloc HB1.out.size (.cells #[.int .i64 vC] 3)).grown hg (by have := HB1.out.size; simp; omega) HO1.out.row_ge); have HO2 := Lib.hid hown; obtain ⟨_, ⟨t0, t1, t2, t3, _, _⟩, _, _⟩ := T3.next TL.out HB2.out; obtain ⟨u0, u1, _, _⟩ := (HBQ1.out.alloc _).grown hg HNE.out; have gc := (Ints.at_ (HGL.out.below HB2.out) kC hkkC); rw [HVkC.out] at gc; clear hown hg hat))
      have HF : Hid (PfI wL (pfK g W a1 a2 b1 b2 (k + 1)) (.slice R' (r + 1) d') w2) := ⟨R', r + 1, d', rfl, by rw [HSU.out]; exact HO2.out, HB2.out⟩
      go_wp2
      go_roundw
      case rel => first | exact ⟨k + 1, by omega, by go_num, HF.out⟩ | ((repeat apply Exists.intro); exact ⟨⟨k + 1, by omega, by go_num, HF.out⟩, rfl⟩)
      case measure => simp [intOf]; omega
    · obtain rfl : k = lineN a1 a2 b1 b2 := by omega
      have HTr := Lib.hid (T3.next TL.out HBr.out)
      obtain ⟨_, _, ⟨u0, u1, _, _⟩, ⟨x0, x1, _, _⟩⟩ := HTr.out
      by_cases hab : a1 = b1 ∧ a2 = b2
      · have HE : Hid (profL g W a1 a2 b1 b2 = pfK g W a1 a2 b1 b2 (lineN a1 a2 b1 b2)) := by show _ = _; rw [profL_eq, if_pos hab, List.append_nil]
        obtain ⟨rfl, rfl⟩ := hab
        go_wp2
        go_ret2
        exact ⟨R, r, d, rfl, by rw [HE.out]; exact HOr.out.less (by have := TL.out.1.size; omega), chain TL.out.1 HBr.out⟩
      · have HE : Hid (profL g W a1 a2 b1 b2 = pfK g W a1 a2 b1 b2 (lineN a1 a2 b1 b2) ++ [atI g (place W (b1, b2))]) := by show _ = _; rw [profL_eq, if_neg hab]
        obtain ⟨kB, hkB⟩ : ∃ kB, kB = place W (b1, b2) := ⟨_, rfl⟩
        obtain ⟨vB, hvB⟩ : ∃ vB, atI g kB = vB := ⟨_, rfl⟩
        have hkkB : kB < n := by rw [hkB]; exact HPB.out.1
        have HCB := Lib.hid HPB.out.2.1
        rw [← hkB] at HCB HE
        rw [hvB] at HE
        have HVkB := Lib.hid hvB
        clear hkB hvB
        have i3 : (0 : Int) ≤ (kB : Int) := by omega
        have i4 : (kB : Int) < (n : Int) := by omega
        obtain ⟨_, ⟨t0, t1, t2, t3, _, _⟩, _, _⟩ := HTr.out
        obtain ⟨V0, hV0⟩ : ∃ V0, V0 = wr := ⟨_, rfl⟩
        have HBv := HBr
        have HOv := HOr
        have gc := (Ints.at_ (HGL.out.below HBv.out) kB hkkB)
        rw [HVkB.out] at gc
        rw [← hV0] at HBv HOv gc t0 t1 t2 t3 u0 u1 x0 x1
        rw [← hV0]
        clear hV0 HTr
        have hab' : a1 = b1 → ¬ a2 = b2 := fun e f => hab ⟨e, f⟩
        clear hab
        by_cases hq : a1 = b1
        · subst hq
          have hq2 : ¬ a2 = b2 := hab' rfl
          clear hab'
          go_wp2
          go_region_held3 (fun w' => w'.cell? ⟨w.heap.size, 0, none⟩ = some (.int .i64 W) ∧ w'.cell? ⟨w.heap.size, 1, none⟩ = some (.int .i64 H) ∧ w'.cell? ⟨w.heap.size, 2, none⟩ = some (.slice (some ⟨gb, go, none⟩) n c) ∧ w'.cell? ⟨w.heap.size, 3, none⟩ = some (.slice A2 m c2) ∧ w'.cell? ⟨w.heap.size + 1 + 1, 0, none⟩ = some (.int .i64 a1) ∧ w'.cell? ⟨w.heap.size + 1 + 1, 1, none⟩ = some (.int .i64 b2) ∧ w'.cell? ⟨gb, go + kB, none⟩ = some (.int .i64 vB))
            (first | go_keep | exact ⟨by assumption, by assumption, by assumption, by assumption, by assumption, by assumption, by assumption⟩)
            (first | (go_at_call 41; refine (HCB.out _).mono ?_; rintro e w1 ⟨rfl, hb1⟩; have HB1 := Lib.hid (below_via HBv.out hb1); have HO1 := Lib.hid ((Own.drewN HOv.out 1).next hb1); obtain ⟨_, ⟨t0, t1, t2, t3, _, _⟩, _, _⟩ := T3.next TL.out HB1.out; obtain ⟨_, _, _, ⟨x0, x1, _, _⟩⟩ := T3.next TL.out HB1.out; have gc := (Ints.at_ (HGL.out.below HB1.out) kB hkkB); rw [HVkB.out] at gc; have hw1 : V0.heap.size ≤ w1.heap.size := hb1.size; clear hb1) | (refine step_append_ints _ (by rfl) (.tmp 71) (.tmp 79) 22 (by rfl) wL.heap.size 3 i0 Try.underlying22 hi0 hz0 hz1 hz2 R r d _ (by rfl) (HO1.out.alloc _) _ (some ⟨w1.heap.size, 0, none⟩) 1 1 [vB] (by rfl) (ints_one w1 3 vB) (by omega) (by have := HB1.out.size; simp; omega) ?_; intro R' d' w2 hown hg hat; have HB2 := Lib.hid ((HB1.out.alloc HB1.out.size (.cells #[.int .i64 vB] 3)).grown hg (by have := HB1.out.size; simp; omega) HO1.out.row_ge); have HO2 := Lib.hid hown; obtain ⟨_, ⟨t0, t1, t2, t3, _, _⟩, _, _⟩ := T3.next TL.out HB2.out; obtain ⟨_, _, _, ⟨x0, x1, _, _⟩⟩ := T3.next TL.out HB2.out; have gc := (Ints.at_ (HGL.out.below HB2.out) kB hkkB); rw [HVkB.out] at gc; clear hown hg hat))
          go_wp2
          go_ret2
          exact ⟨R', r + 1, d', rfl, by rw [HE.out]; exact HO2.out.less (by have := TL.out.1.size; omega), chain TL.out.1 HB2.out⟩
        · clear hab'
          go_wp2
          go_region_held3 (fun w' => w'.cell? ⟨w.heap.size, 0, none⟩ = some (.int .i64 W) ∧ w'.cell? ⟨w.heap.size, 1, none⟩ = some (.int .i64 H) ∧ w'.cell? ⟨w.heap.size, 2, none⟩ = some (.slice (some ⟨gb, go, none⟩) n c) ∧ w'.cell? ⟨w.heap.size, 3, none⟩ = some (.slice A2 m c2) ∧ w'.cell? ⟨w.heap.size + 1 + 1, 0, none⟩ = some (.int .i64 b1) ∧ w'.cell? ⟨w.heap.size + 1 + 1, 1, none⟩ = some (.int .i64 b2) ∧ w'.cell? ⟨gb, go + kB, none⟩ = some (.int .i64 vB))
            (first | go_keep | exact ⟨by assumption, by assumption, by assumption, by assumption, by assumption, by assumption, by assumption⟩)
            (first | (go_at_call 41; refine (HCB.out _).mono ?_; rintro e w1 ⟨rfl, hb1⟩; have HB1 := Lib.hid (below_via HBv.out hb1); have HO1 := Lib.hid ((Own.drewN HOv.out 1).next hb1); obtain ⟨_, ⟨t0, t1, t2, t3, _, _⟩, _, _⟩ := T3.next TL.out HB1.out; obtain ⟨_, _, _, ⟨x0, x1, _, _⟩⟩ := T3.next TL.out HB1.out; have gc := (Ints.at_ (HGL.out.below HB1.out) kB hkkB); rw [HVkB.out] at gc; have hw1 : V0.heap.size ≤ w1.heap.size := hb1.size; clear hb1) | (refine step_append_ints _ (by rfl) (.tmp 71) (.tmp 79) 22 (by rfl) wL.heap.size 3 i0 Try.underlying22 hi0 hz0 hz1 hz2 R r d _ (by rfl) (HO1.out.alloc _) _ (some ⟨w1.heap.size, 0, none⟩) 1 1 [vB] (by rfl) (ints_one w1 3 vB) (by omega) (by have := HB1.out.size; simp; omega) ?_; intro R' d' w2 hown hg hat; have HB2 := Lib.hid ((HB1.out.alloc HB1.out.size (.cells #[.int .i64 vB] 3)).grown hg (by have := HB1.out.size; simp; omega) HO1.out.row_ge); have HO2 := Lib.hid hown; obtain ⟨_, ⟨t0, t1, t2, t3, _, _⟩, _, _⟩ := T3.next TL.out HB2.out; obtain ⟨_, _, _, ⟨x0, x1, _, _⟩⟩ := T3.next TL.out HB2.out; have gc := (Ints.at_ (HGL.out.below HB2.out) kB hkkB); rw [HVkB.out] at gc; clear hown hg hat))
          go_wp2
          go_ret2
          exact ⟨R', r + 1, d', rfl, by rw [HE.out]; exact HO2.out.less (by have := TL.out.1.size; omega), chain TL.out.1 HB2.out⟩
end Go.Proofs.Ytpoceidbiamgaaa
