/- Contract of bandplanref10.Profile. -/
import Derived.Test.YtpoceidbiamgaaaWq
set_option linter.unusedVariables false
set_option linter.unusedSimpArgs false
namespace Go.Proofs.Ytpoceidbiamgaaa
open Go.RowKit
section
variable {w V V' : World} {W H : Int} {A : Option Addr} {n c : Nat} {A2 : Option Addr} {m c2 : Nat} {a1 a2 b1 b2 : Int} {R : Option Addr} {k d : Nat} {L : List Int}
theorem Ints.keepB {B : Nat} {xs : List Int} (h : Ints V B A n xs) (hb : Below V.heap.size V V') (hB : B ≤ V.heap.size) : Ints V' B A n xs := h.keep fun p hp => hb.cell (Nat.lt_of_lt_of_le hp hB)
theorem T3.drew' (h : Below w.heap.size w V ∧ Box4 V w.heap.size (.int .i64 W) (.int .i64 H) (.slice A n c) (.slice A2 m c2) ∧ Box2 V (w.heap.size + 1) (.int .i64 a1) (.int .i64 a2) ∧ Box2 V (w.heap.size + 2) (.int .i64 b1) (.int .i64 b2)) : Below w.heap.size w V.drew ∧ Box4 V.drew w.heap.size (.int .i64 W) (.int .i64 H) (.slice A n c) (.slice A2 m c2) ∧ Box2 V.drew (w.heap.size + 1) (.int .i64 a1) (.int .i64 a2) ∧ Box2 V.drew (w.heap.size + 2) (.int .i64 b1) (.int .i64 b2) := ⟨h.1.drew, h.2.1, h.2.2.1, h.2.2.2⟩
theorem T3.grownA {o : Obj} (h : Below w.heap.size w V ∧ Box4 V w.heap.size (.int .i64 W) (.int .i64 H) (.slice A n c) (.slice A2 m c2) ∧ Box2 V (w.heap.size + 1) (.int .i64 a1) (.int .i64 a2) ∧ Box2 V (w.heap.size + 2) (.int .i64 b1) (.int .i64 b2)) (hg : (V.alloc o).grownBy V' (Value.slice R k d).ownBlock) (ho : Own V (w.heap.size + 3) 3 R k d L) : Below w.heap.size w V' ∧ Box4 V' w.heap.size (.int .i64 W) (.int .i64 H) (.slice A n c) (.slice A2 m c2) ∧ Box2 V' (w.heap.size + 1) (.int .i64 a1) (.int .i64 a2) ∧ Box2 V' (w.heap.size + 2) (.int .i64 b1) (.int .i64 b2) := by
  obtain ⟨f1, f2, f3, f4⟩ := h
  have hs := f4.lt
  exact ⟨(f1.alloc (by omega) _).grown hg (by simp; omega) (fun j e => by have := ho.row_ge j e; omega), (f2.alloc _).grown hg (ho.row_ne (by omega)), (f3.alloc _).grown hg (ho.row_ne (by omega)), (f4.alloc _).grown hg (ho.row_ne (by omega))⟩
theorem Ints.grownA {o : Obj} {xs : List Int} (h : Ints V w.heap.size A n xs) (hg : (V.alloc o).grownBy V' (Value.slice R k d).ownBlock) (ho : Own V (w.heap.size + 3) 3 R k d L) (hs : w.heap.size ≤ V.heap.size) : Ints V' w.heap.size A n xs :=
  h.keep fun q hq => by
    obtain ⟨b, off, pth⟩ := q
    have hq' : b < w.heap.size := hq
    have e1 : V'.cell? ⟨b, off, pth⟩ = (V.alloc o).cell? ⟨b, off, pth⟩ := World.cell?_of_block (a := ⟨b, off, pth⟩) (hg.block b (by simp; omega) (ho.row_ne (by omega)))
    exact e1.trans (World.cell?_alloc_lt V o ⟨b, off, pth⟩ (by show b < V.heap.size; omega))
theorem Cels.keepB {w w' : World} {B ln : Nat} {lA : Option Addr} {cs : List (Int × Int)} (h : Cels w B lA ln cs) (hb : Below w.heap.size w w') (hB : B ≤ w.heap.size) : Cels w' B lA ln cs := h.below (hb.mono hB)
theorem Cels.grownA {o : Obj} {B ln : Nat} {lA : Option Addr} {cs : List (Int × Int)} (h : Cels V B lA ln cs) (hB : B ≤ V.heap.size) (hg : (V.alloc o).grownBy V' (Value.slice R k d).ownBlock) (ho : Own V (w.heap.size + 3) 3 R k d L) (hne : 0 < ln → ∀ b b', lA = some ⟨b, 0, none⟩ → R = some ⟨b', 0, none⟩ → b ≠ b') : Cels V' B lA ln cs := by
  refine ⟨h.1, fun hn => ?_⟩
  obtain ⟨b, e, hb, hc⟩ := h.2 hn
  have hbl : V'.heap[b]? = V.heap[b]? := (hg.block b (by simp; omega) (by
    rcases ho.addr with e' | ⟨q, e'⟩
    · rw [e']; simp [Value.ownBlock]
    · rw [e']; simp [Value.ownBlock]; exact hne hn b q e e')).trans (Below.heap_alloc V o b (by omega))
  exact ⟨b, e, hb, fun j hj => ⟨(World.cell?_of_block (a := ⟨b, j * 2, none⟩) hbl).trans (hc j hj).1, (World.cell?_of_block (a := ⟨b, j * 2 + 1, none⟩) hbl).trans (hc j hj).2⟩⟩
end
/-- The loop of the reference's Profile. -/
def PrI (w : World) (W H : Int) (gb go : Nat) (n c : Nat) (A2 : Option Addr) (m c2 : Nat) (a1 a2 b1 b2 : Int) (g : List Int) (lA : Option Addr) (ln : Nat) (cs : List (Int × Int)) (B : Nat) (L : List Int) (l : Value) (wr : World) : Prop :=
  ∃ (R : Option Addr) (k d : Nat), l = .slice R k d ∧ Own wr (w.heap.size + 3) 3 R k d L ∧ (Below w.heap.size w wr ∧ Box4 wr w.heap.size (.int .i64 W) (.int .i64 H) (.slice (some ⟨gb, go, none⟩) n c) (.slice A2 m c2) ∧ Box2 wr (w.heap.size + 1) (.int .i64 a1) (.int .i64 a2) ∧ Box2 wr (w.heap.size + 2) (.int .i64 b1) (.int .i64 b2)) ∧ Ints wr w.heap.size (some ⟨gb, go, none⟩) n g ∧ Cels wr B lA ln cs ∧ B ≤ wr.heap.size ∧ (0 < ln → ∀ b b', lA = some ⟨b, 0, none⟩ → R = some ⟨b', 0, none⟩ → b ≠ b')
set_option maxHeartbeats 4000000 in
theorem refProfile_yes (W H : Int) (A : Option Addr) (n c : Nat) (A2 : Option Addr) (m c2 : Nat) (g p : List Int) (a1 a2 b1 b2 : Int) (w : World) (hG : Ints w w.heap.size A n g) (hP : Ints w w.heap.size A2 m p) (hn : n ≤ 4611686018427387904) (hm : m ≤ 4611686018427387904) (ha : hasB W H g p a1 a2 = true) (hb : hasB W H g p b1 b2 = true) :
    Calls Try.prog 36 #[.agg #[.int .i64 W, .int .i64 H, .slice A n c, .slice A2 m c2], .agg #[.int .i64 a1, .int .i64 a2], .agg #[.int .i64 b1, .int .i64 b2]] w (IntsR1 w (profL g W a1 a2 b1 b2)) := by
  obtain ⟨i0, hi0, hz0, hz1, hz2⟩ := info_parts info3
  have HG := Lib.hid hG
  obtain ⟨hv, k1, k2, k3, k4⟩ := hasB_iff.1 ha
  obtain ⟨_, k5, k6, k7, k8⟩ := hasB_iff.1 hb
  obtain ⟨⟨v1, v2, v3, v4, v5, v6⟩, _⟩ := terB_iff.1 hv
  have hl1 := hG.1
  rw [hl1] at v5
  obtain ⟨wb1, wb2⟩ := wh_bd v1 v2 v3 v4
  obtain ⟨gb, go, rfl, hgb, hgc⟩ := hG.2 (by omega)
  have PA := place_at W H (some ⟨gb, go, none⟩) n c A2 m c2 a1 a2 v1 v2 v4 v5 k1 k2 k3 k4
  have PB := place_at W H (some ⟨gb, go, none⟩) n c A2 m c2 b1 b2 v1 v2 v4 v5 k5 k6 k7 k8
  have PC := fun (k : Nat) (hk : k < lineN a1 a2 b1 b2) => by
    have q := lineC_bd hk
    exact place_at W H (some ⟨gb, go, none⟩) n c A2 m c2 (lineC a1 a2 b1 b2 k).1 (lineC a1 a2 b1 b2 k).2 v1 v2 v4 v5 (by omega) (by omega) (by omega) (by omega)
  have HPC := Lib.hid PC
  have HPA := Lib.hid PA
  have HPB := Lib.hid PB
  have hs1 := span_le (a1 := a1) (a2 := a2) (b1 := b1) (b2 := b2) k1 (by omega) k3 (by omega) k5 (by omega) k7 (by omega)
  have hN : lineN a1 a2 b1 b2 ≤ 62 := by unfold lineN; omega
  have HLN := Lib.hid hN
  have CL := Lib.hid (fun V => refLine_yes a1 a2 b1 b2 V ⟨k1, by omega, k3, by omega⟩ ⟨k5, by omega, k7, by omega⟩)
  have CS := Lib.hid (fun V => span_any a1 a2 b1 b2 V k1 (by omega) k3 (by omega) k5 (by omega) k7 (by omega))
  clear PA PB PC v5 v6 hG hP hl1 hs1 hgc hv ha hb
  have HS0 := Lib.hid (t3_start W H (some ⟨gb, go, none⟩) n c A2 m c2 a1 a2 b1 b2 w)
  go_enter Try.func36, Try.ntmps36
  go_wp2
  obtain ⟨V0, hV0⟩ : ∃ V, V = (((w.alloc (.cells #[.int .i64 W, .int .i64 H, .slice (some ⟨gb, go, none⟩) n c, .slice A2 m c2] 24)).alloc (.cells #[.int .i64 a1, .int .i64 a2] 26)).alloc (.cells #[.int .i64 b1, .int .i64 b2] 26)) := ⟨_, rfl⟩
  rw [← hV0] at HS0
  rw [← hV0]
  clear hV0
  have TV := HS0
  have GV : Hid (Ints V0 w.heap.size (some ⟨gb, go, none⟩) n g) := HG.out.below TV.out.1
  have TVS : w.heap.size ≤ V0.heap.size := TV.out.1.size
  clear HS0
  obtain ⟨kA, hkA⟩ : ∃ kA, kA = place W (a1, a2) := ⟨_, rfl⟩
  obtain ⟨vA, hvA⟩ : ∃ vA, atI g kA = vA := ⟨_, rfl⟩
  have hkkA : kA < n := by rw [hkA]; exact HPA.out.1
  have HCA := Lib.hid HPA.out.2.2
  rw [← hkA] at HCA
  have HKA := Lib.hid hkA
  have HVkA := Lib.hid hvA
  clear hkA hvA
  have i1 : (0 : Int) ≤ (kA : Int) := by omega
  have i2 : (kA : Int) < (n : Int) := by omega
  obtain ⟨_, ⟨t0, t1, t2, t3, _, _⟩, ⟨u0, u1, _, _⟩, _⟩ := TV.out
  have gc := (Ints.at_ GV.out kA hkkA)
  rw [HVkA.out] at gc
  go_region_held3 (fun w' => w'.cell? ⟨w.heap.size, 0, none⟩ = some (.int .i64 W) ∧ w'.cell? ⟨w.heap.size, 1, none⟩ = some (.int .i64 H) ∧ w'.cell? ⟨w.heap.size, 2, none⟩ = some (.slice (some ⟨gb, go, none⟩) n c) ∧ w'.cell? ⟨w.heap.size, 3, none⟩ = some (.slice A2 m c2) ∧ w'.cell? ⟨w.heap.size + 1, 0, none⟩ = some (.int .i64 a1) ∧ w'.cell? ⟨w.heap.size + 1, 1, none⟩ = some (.int .i64 a2) ∧ w'.cell? ⟨gb, go + kA, none⟩ = some (.int .i64 vA))
    (first | go_keep | exact ⟨by assumption, by assumption, by assumption, by assumption, by assumption, by assumption, by assumption⟩)
    (first | (go_at_call 21; refine (HCA.out _).mono ?_; rintro e w1 ⟨rfl, hb1⟩; have TV := Lib.hid (T3.next (T3.drew' TV.out) hb1); have GV := Lib.hid (Ints.keepB (V := V0.drew) GV.out hb1 TVS); obtain ⟨_, ⟨t0, t1, t2, t3, _, _⟩, ⟨u0, u1, _, _⟩, _⟩ := TV.out; have gc := (Ints.at_ GV.out kA hkkA); rw [HVkA.out] at gc; clear hb1))
  clear t0 t1 t2 t3 u0 u1 gc
  obtain ⟨V1, hV1⟩ : ∃ V, V = w1.alloc (.cells #[.int .i64 vA] 3) := ⟨_, rfl⟩
  have hb1 : Below w1.heap.size w1 V1 := by rw [hV1]; exact (Below.refl _ _).alloc (Nat.le_refl _) _
  have hw1s : w.heap.size + 3 ≤ w1.heap.size := by have := TV.out.2.2.2.lt; omega
  have TV1 := Lib.hid (T3.next TV.out hb1)
  have GV1 := Lib.hid (Ints.keepB GV.out hb1 (by omega))
  have OV1 : Hid (Own V1 (w.heap.size + 3) 3 (some ⟨w1.heap.size, 0, none⟩) 1 1 (pfK g W a1 a2 b1 b2 0)) := by
    rw [hV1]
    have e : pfK g W a1 a2 b1 b2 0 = [vA] := by unfold pfK; rw [← HKA.out, HVkA.out]; rfl
    rw [e]
    exact ⟨rfl, .inr ⟨w1.heap.size, 1, #[.int .i64 vA], rfl, hw1s, (MapKept.heap_alloc w1 _).1, Nat.le_refl _, by unfold maxLen; omega, rfl, rfl⟩⟩
  have hV1s : w1.heap.size < V1.heap.size := by rw [hV1]; simp
  rw [← hV1]
  clear hV1 hb1 TV GV HKA HVkA HCA
  obtain ⟨_, ⟨t0, t1, t2, t3, _, _⟩, ⟨u0, u1, _, _⟩, ⟨x0, x1, _, _⟩⟩ := TV1.out
  go_wp2_with fail
  clear t0 t1 t2 t3 u0 u1 x0 x1
  refine (CL.out V1).mono ?_
  rintro e wL ⟨lA, ln, lc, rfl, hol, hbL⟩
  obtain rfl : ln = lineN a1 a2 b1 b2 := by have := hol.len; rw [lineL_len] at this; exact this.symm
  have HI0 : Hid (PrI w W H gb go n c A2 m c2 a1 a2 b1 b2 g lA (lineN a1 a2 b1 b2) (lineL a1 a2 b1 b2) wL.heap.size (pfK g W a1 a2 b1 b2 0) (.slice (some ⟨w1.heap.size, 0, none⟩) 1 1) wL) :=
    ⟨_, 1, 1, rfl, OV1.out.next hbL, T3.next TV1.out hbL, Ints.keepB GV1.out hbL (by omega), hol.cels, Nat.le_refl _, fun hn b b' e1 e2 => by
      injection e2 with e2
      injection e2 with e2
      rcases hol.form with ⟨e3, _⟩ | ⟨q, _, e3, h4, _⟩
      · rw [e3] at e1; cases e1
      · rw [e3] at e1; injection e1 with e1; injection e1 with e1; omega⟩
  clear hol hbL TV1 GV1 OV1
  go_wp2
  go_loopw [7, 9] (fun l i wr => ∃ k : Nat, k ≤ lineN a1 a2 b1 b2 ∧ i = .int .i64 k ∧ PrI w W H gb go n c A2 m c2 a1 a2 b1 b2 g lA (lineN a1 a2 b1 b2) (lineL a1 a2 b1 b2) wL.heap.size (pfK g W a1 a2 b1 b2 k) l wr) (fun _ i _ => 64 - (intOf i).toNat)
  case atStart => exact ⟨0, Nat.zero_le _, rfl, HI0.out⟩
  case round =>
    clear HI0
    obtain ⟨k, hk, rfl, R, r, d, rfl, ho, hT, hI, hCe, hBs, hne⟩ := hrel
    have OV := Lib.hid ho
    have TV := Lib.hid hT
    have GV := Lib.hid hI
    have CV := Lib.hid hCe
    have NE := Lib.hid hne
    have hr : r ≤ 64 := by
      have l := ho.len
      have := HLN.out
      simp only [pfK, List.length_cons, List.length_map, lineK_len] at l
      omega
    have TVS : w.heap.size ≤ wr.heap.size := hT.1.size
    have TV3 : w.heap.size + 3 ≤ wr.heap.size := by have := hT.2.2.2.lt; omega
    clear ho hI hCe hne hT
    by_cases hlt : k < lineN a1 a2 b1 b2
    · obtain ⟨lb, rfl, hlb, hc⟩ := CV.out.2 (by omega)
      have hcc := hc k hlt
      have HPC1 := Lib.hid (HPC.out k hlt)
      have HSU := Lib.hid (pfK_succ g W a1 a2 b1 b2 k)
      have HCE := Lib.hid (lineL_at hlt)
      rw [lineL_at hlt] at hcc
      simp only [Option.getD_some] at hcc
      obtain ⟨Cc, hC⟩ : ∃ C, lineC a1 a2 b1 b2 k = C := ⟨_, rfl⟩
      rw [hC] at hcc HPC1 HSU HCE
      obtain ⟨cx, cy⟩ := Cc
      simp only at hcc
      obtain ⟨u0, u1⟩ := hcc
      clear hc hC
      have hk63 : k ≤ 62 := by have := HLN.out; omega
      obtain ⟨kC, hkC⟩ : ∃ kC, kC = place W (cx, cy) := ⟨_, rfl⟩
      obtain ⟨vC, hvC⟩ : ∃ vC, atI g kC = vC := ⟨_, rfl⟩
      have hkkC : kC < n := by rw [hkC]; exact HPC1.out.1
      have HCC := Lib.hid HPC1.out.2.2
      rw [← hkC] at HCC HSU
      rw [hvC] at HSU
      have HVkC := Lib.hid hvC
      clear hkC hvC HPC1
      have i3 : (0 : Int) ≤ (kC : Int) := by omega
      have i4 : (kC : Int) < (n : Int) := by omega
      have i5 : (0 : Int) ≤ (k : Int) := by omega
      have i6 : (k : Int) < (lineN a1 a2 b1 b2 : Int) := by omega
      obtain ⟨_, ⟨t0, t1, t2, t3, _, _⟩, _, _⟩ := TV.out
      have gc := (Ints.at_ GV.out kC hkkC)
      rw [HVkC.out] at gc
      go_wp2
      obtain ⟨V0, hV0⟩ : ∃ V0, V0 = wr := ⟨_, rfl⟩
      rw [← hV0] at TV GV OV CV TVS TV3 t0 t1 t2 t3 u0 u1 gc hBs
      rw [← hV0]
      clear hV0
      have CAT : Hid (∀ V, Cels V wL.heap.size (some ⟨lb, 0, none⟩) (lineN a1 a2 b1 b2) (lineL a1 a2 b1 b2) → V.cell? ⟨lb, k * 2, none⟩ = some (.int .i64 cx) ∧ V.cell? ⟨lb, k * 2 + 1, none⟩ = some (.int .i64 cy)) := fun V h => by
        obtain ⟨b, e, _, hc⟩ := h.2 (by omega)
        injection e with e
        injection e with e
        subst e
        have := hc k hlt
        rw [HCE.out] at this
        exact this
      go_region_held3 (fun w' => w'.cell? ⟨w.heap.size, 0, none⟩ = some (.int .i64 W) ∧ w'.cell? ⟨w.heap.size, 1, none⟩ = some (.int .i64 H) ∧ w'.cell? ⟨w.heap.size, 2, none⟩ = some (.slice (some ⟨gb, go, none⟩) n c) ∧ w'.cell? ⟨w.heap.size, 3, none⟩ = some (.slice A2 m c2) ∧ w'.cell? ⟨lb, k * 2, none⟩ = some (.int .i64 cx) ∧ w'.cell? ⟨lb, k * 2 + 1, none⟩ = some (.int .i64 cy) ∧ w'.cell? ⟨gb, go + kC, none⟩ = some (.int .i64 vC))
        (first | go_keep | exact ⟨by assumption, by assumption, by assumption, by assumption, by assumption, by assumption, by assumption⟩)
        (first | (go_at_call 21; refine (HCC.out _).mono ?_; rintro e w1 ⟨rfl, hb1⟩; have TV := Lib.hid (T3.next (T3.drew' TV.out) hb1); have GV := Lib.hid (Ints.keepB (V := V0.drew) GV.out hb1 TVS); have OV := Lib.hid (Own.next (w := V0.drew) OV.out hb1); have CV := Lib.hid (Cels.keepB (w := V0.drew) CV.out hb1 hBs); obtain ⟨_, ⟨t0, t1, t2, t3, _, _⟩, _, _⟩ := TV.out; obtain ⟨u0, u1⟩ := CAT.out _ CV.out; have gc := (Ints.at_ GV.out kC hkkC); rw [HVkC.out] at gc; have hw1 : V0.heap.size ≤ w1.heap.size := hb1.size; clear hb1) | (refine step_append_ints _ (by rfl) (.tmp 27) (.tmp 38) 22 (by rfl) (w.heap.size + 3) 3 i0 Try.underlying22 hi0 hz0 hz1 hz2 R r d _ (by rfl) (OV.out.alloc _) _ (some ⟨w1.heap.size, 0, none⟩) 1 1 [vC] (by rfl) (ints_one w1 3 vC) (by omega) (by simp; omega) ?_; intro R' d' w2 hown hg hat; have TV2 := Lib.hid (T3.grownA TV.out hg OV.out); have GV2 := Lib.hid (Ints.grownA GV.out hg OV.out (by omega)); have OV2 := Lib.hid hown; have CV2 := Lib.hid (Cels.grownA CV.out (by omega) hg OV.out NE.out); obtain ⟨_, ⟨t0, t1, t2, t3, _, _⟩, _, _⟩ := TV2.out; obtain ⟨u0, u1⟩ := CAT.out _ CV2.out; have gc := (Ints.at_ GV2.out kC hkkC); rw [HVkC.out] at gc; have hw2 : w1.heap.size + 1 ≤ w2.heap.size := (by have := hg.size; simpa using this); have HAT := Lib.hid hat; clear hown hg hat))
      have HF : Hid (PrI w W H gb go n c A2 m c2 a1 a2 b1 b2 g (some ⟨lb, 0, none⟩) (lineN a1 a2 b1 b2) (lineL a1 a2 b1 b2) wL.heap.size (pfK g W a1 a2 b1 b2 (k + 1)) (.slice R' (r + 1) d') w2) :=
        ⟨R', r + 1, d', rfl, by rw [HSU.out]; exact OV2.out, TV2.out, GV2.out, CV2.out, by omega, fun hn b b' e1 e2 => by
          rcases HAT.out b' e2 with q | q
          · exact NE.out hn b b' e1 q
          · injection e1 with e1
            injection e1 with e1
            simp at q
            omega⟩
      go_wp2
      go_roundw
      case rel => first | exact ⟨k + 1, by omega, by go_num, HF.out⟩ | ((repeat apply Exists.intro); exact ⟨⟨k + 1, by omega, by go_num, HF.out⟩, rfl⟩)
      case measure => simp [intOf]; omega
    · obtain rfl : k = lineN a1 a2 b1 b2 := by omega
      obtain ⟨_, ⟨t0, t1, t2, t3, _, _⟩, ⟨u0, u1, _, _⟩, ⟨x0, x1, _, _⟩⟩ := TV.out
      go_wp2_with fail
      clear t0 t1 t2 t3 u0 u1 x0 x1
      refine (CS.out wr).mono ?_
      rintro e V0 ⟨rfl, hbS⟩
      have TV := Lib.hid (T3.next TV.out hbS)
      have GV := Lib.hid (Ints.keepB GV.out hbS TVS)
      have OV := Lib.hid (OV.out.next hbS)
      have TVS : w.heap.size ≤ V0.heap.size := TV.out.1.size
      have TV3 : w.heap.size + 3 ≤ V0.heap.size := by have := TV.out.2.2.2.lt; omega
      clear hbS CV
      by_cases hab : a1 = b1 ∧ a2 = b2
      · have hs : decide (0 < span a1 a2 b1 b2) = false := decide_eq_false (fun h => span_pos.1 h hab)
        have HE : Hid (profL g W a1 a2 b1 b2 = pfK g W a1 a2 b1 b2 (lineN a1 a2 b1 b2)) := by show _ = _; rw [profL_eq, if_pos hab, List.append_nil]
        clear hab
        go_wp2
        go_ret
        exact ⟨R, r, d, rfl, by rw [HE.out]; exact OV.out.less (by omega), TV.out.1⟩
      · have hs : decide (0 < span a1 a2 b1 b2) = true := decide_eq_true (span_pos.2 hab)
        have HE : Hid (profL g W a1 a2 b1 b2 = pfK g W a1 a2 b1 b2 (lineN a1 a2 b1 b2) ++ [atI g (place W (b1, b2))]) := by show _ = _; rw [profL_eq, if_neg hab]
        obtain ⟨kB, hkB⟩ : ∃ kB, kB = place W (b1, b2) := ⟨_, rfl⟩
        obtain ⟨vB, hvB⟩ : ∃ vB, atI g kB = vB := ⟨_, rfl⟩
        have hkkB : kB < n := by rw [hkB]; exact HPB.out.1
        have HCB := Lib.hid HPB.out.2.2
        rw [← hkB] at HCB HE
        rw [hvB] at HE
        have HVkB := Lib.hid hvB
        clear hkB hvB hab
        have i3 : (0 : Int) ≤ (kB : Int) := by omega
        have i4 : (kB : Int) < (n : Int) := by omega
        obtain ⟨_, ⟨t0, t1, t2, t3, _, _⟩, _, ⟨u0, u1, _, _⟩⟩ := TV.out
        have gc := (Ints.at_ GV.out kB hkkB)
        rw [HVkB.out] at gc
        go_wp2
        go_region_held3 (fun w' => w'.cell? ⟨w.heap.size, 0, none⟩ = some (.int .i64 W) ∧ w'.cell? ⟨w.heap.size, 1, none⟩ = some (.int .i64 H) ∧ w'.cell? ⟨w.heap.size, 2, none⟩ = some (.slice (some ⟨gb, go, none⟩) n c) ∧ w'.cell? ⟨w.heap.size, 3, none⟩ = some (.slice A2 m c2) ∧ w'.cell? ⟨w.heap.size + 1 + 1, 0, none⟩ = some (.int .i64 b1) ∧ w'.cell? ⟨w.heap.size + 1 + 1, 1, none⟩ = some (.int .i64 b2) ∧ w'.cell? ⟨gb, go + kB, none⟩ = some (.int .i64 vB))
          (first | go_keep | exact ⟨by assumption, by assumption, by assumption, by assumption, by assumption, by assumption, by assumption⟩)
          (first | (go_at_call 21; refine (HCB.out _).mono ?_; rintro e w1 ⟨rfl, hb1⟩; have TV := Lib.hid (T3.next (T3.drew' TV.out) hb1); have GV := Lib.hid (Ints.keepB (V := V0.drew) GV.out hb1 TVS); have OV := Lib.hid (Own.next (w := V0.drew) OV.out hb1); obtain ⟨_, ⟨t0, t1, t2, t3, _, _⟩, _, _⟩ := TV.out; obtain ⟨_, _, _, ⟨u0, u1, _, _⟩⟩ := TV.out; have gc := (Ints.at_ GV.out kB hkkB); rw [HVkB.out] at gc; have hw1 : V0.heap.size ≤ w1.heap.size := hb1.size; clear hb1) | (refine step_append_ints _ (by rfl) (.tmp 44) (.tmp 52) 22 (by rfl) (w.heap.size + 3) 3 i0 Try.underlying22 hi0 hz0 hz1 hz2 R r d _ (by rfl) (OV.out.alloc _) _ (some ⟨w1.heap.size, 0, none⟩) 1 1 [vB] (by rfl) (ints_one w1 3 vB) (by omega) (by simp; omega) ?_; intro R' d' w2 hown hg hat; have TV2 := Lib.hid (T3.grownA TV.out hg OV.out); have GV2 := Lib.hid (Ints.grownA GV.out hg OV.out (by omega)); have OV2 := Lib.hid hown; obtain ⟨_, ⟨t0, t1, t2, t3, _, _⟩, _, _⟩ := TV2.out; obtain ⟨_, _, _, ⟨u0, u1, _, _⟩⟩ := TV2.out; have gc := (Ints.at_ GV2.out kB hkkB); rw [HVkB.out] at gc; have hw2 : w1.heap.size + 1 ≤ w2.heap.size := (by have := hg.size; simpa using this); have HAT := Lib.hid hat; clear hown hg hat))
        go_wp2
        go_ret
        exact ⟨R', r + 1, d', rfl, by rw [HE.out]; exact OV2.out.less (by omega), TV2.out.1⟩
end Go.Proofs.Ytpoceidbiamgaaa
