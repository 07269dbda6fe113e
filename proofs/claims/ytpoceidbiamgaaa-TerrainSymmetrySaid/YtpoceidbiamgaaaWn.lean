/- Contract of bandplanlaw10.known: it returns true. -/
import Derived.Test.YtpoceidbiamgaaaWm
import Derived.Test.YtpoceidbiamgaaaWe
import Derived.Test.YtpoceidbiamgaaaWh
set_option linter.unusedVariables false
set_option linter.unusedSimpArgs false
namespace Go.Proofs.Ytpoceidbiamgaaa
open Go.RowKit
def KnownOk (w : World) (e : Ending) (w' : World) : Prop := e = .returned (.bool true) ∧ Below w.heap.size w w'
def gK : List Int := List.replicate 12 100
def pK : List Int := List.replicate 12 7
def KT (V : World) (A A2 : Option Addr) : Prop := Ints V V.heap.size A 12 gK ∧ Ints V V.heap.size A2 12 pK
theorem KT.next {V V' : World} {A A2 : Option Addr} (h : KT V A A2) (hb : Below V.heap.size V V') : KT V' A A2 := ⟨h.1.next hb, h.2.next hb⟩
theorem kn_ter : terB 4 3 gK pK = true := by decide
theorem kn_has1 : hasB 4 3 gK pK 3 1 = true := hasB_iff.2 ⟨kn_ter, by omega, by omega, by omega, by omega⟩
theorem kn_has2 : hasB 4 3 gK pK 2 1 = true := hasB_iff.2 ⟨kn_ter, by omega, by omega, by omega, by omega⟩
theorem kn_has3 : hasB 4 3 gK pK 1 0 = true := hasB_iff.2 ⟨kn_ter, by omega, by omega, by omega, by omega⟩
theorem kn_has0 : hasB 4 3 gK pK 0 0 = true := hasB_iff.2 ⟨kn_ter, by omega, by omega, by omega, by omega⟩
theorem kn_line : lineL 0 0 4 2 = [(1, 1), (2, 1), (3, 2)] := by decide
theorem kn_rect : rectAB 4 2 1 1 0 = [1, 2, 5, 6] := by decide
theorem kn_tot : totE 4 3 gK pK [0, 5, 0] = (14, 0) := by decide
theorem kn_prof : profL gK 4 0 0 0 0 = [100] := by decide
theorem kn_eq : eqT 4 3 gK pK 4 3 (List.replicate 12 100) (List.replicate 12 7) = true := by decide
section
variable (A A2 : Option Addr) (c c2 : Nat)
theorem kc_index (V : World) (h : KT V A A2) : Calls Try.prog 14 #[.agg #[.int .i64 4, .int .i64 3, .slice A 12 c, .slice A2 12 c2], .agg #[.int .i64 3, .int .i64 1]] V fun e w' => e = .returned (.tuple #[.int .i64 7, .int .i64 0]) ∧ Below V.heap.size V w' := index_yes 4 3 A 12 c A2 12 c2 gK pK 3 1 V h.1 h.2 (by omega) (by omega) kn_has1
theorem kc_at7 (V : World) (h : KT V A A2) : Calls Try.prog 17 #[.agg #[.int .i64 4, .int .i64 3, .slice A 12 c, .slice A2 12 c2], .int .i64 7] V fun e w' => e = .returned (.tuple #[.agg #[.int .i64 3, .int .i64 1], .int .i64 0]) ∧ Below V.heap.size V w' := at_yes 4 3 A 12 c A2 12 c2 gK pK 7 V h.1 h.2 (by omega) (by omega) kn_ter (by omega) (by omega)
theorem kc_at12 (V : World) (h : KT V A A2) : Calls Try.prog 17 #[.agg #[.int .i64 4, .int .i64 3, .slice A 12 c, .slice A2 12 c2], .int .i64 12] V fun e w' => e = .returned (.tuple #[.agg #[.int .i64 0, .int .i64 0], .int .i64 2]) ∧ Below V.heap.size V w' := at_out 4 3 A 12 c A2 12 c2 gK pK 12 V h.1 h.2 (by omega) (by omega) kn_ter (.inr (by omega))
theorem kc_rect (V : World) (h : KT V A A2) : Calls Try.prog 34 #[.agg #[.int .i64 4, .int .i64 3, .slice A 12 c, .slice A2 12 c2], .agg #[.int .i64 2, .int .i64 1], .agg #[.int .i64 1, .int .i64 0]] V (IntsR V [1, 2, 5, 6]) := by
  rw [← kn_rect]; exact rect_yes 4 3 A 12 c A2 12 c2 gK pK 2 1 1 0 V h.1 h.2 (by omega) (by omega) kn_has2 kn_has3
theorem kc_total (C : Option Addr) (lc : Nat) (V : World) (h : KT V A A2) (hC : Ints V V.heap.size C 3 [0, 5, 0]) : Calls Try.prog 38 #[.agg #[.int .i64 4, .int .i64 3, .slice A 12 c, .slice A2 12 c2], .slice C 3 lc] V fun e w' => e = .returned (.tuple #[.int .i64 14, .int .i64 0]) ∧ Below V.heap.size V w' := by
  have := total_any 4 3 A 12 c A2 12 c2 gK pK C 3 lc [0, 5, 0] V h.1 h.2 (by omega) (by omega) hC (by omega)
  rw [kn_tot] at this; exact this
theorem kc_prof (V : World) (h : KT V A A2) : Calls Try.prog 33 #[.agg #[.int .i64 4, .int .i64 3, .slice A 12 c, .slice A2 12 c2], .agg #[.int .i64 0, .int .i64 0], .agg #[.int .i64 0, .int .i64 0]] V (IntsR V [100]) := by
  rw [← kn_prof]; exact profile_yes 4 3 A 12 c A2 12 c2 gK pK 0 0 0 0 V h.1 h.2 (by omega) (by omega) kn_has0 kn_has0
theorem kc_set (V : World) (h : KT V A A2) : Calls Try.prog 28 #[.agg #[.int .i64 4, .int .i64 3, .slice A 12 c, .slice A2 12 c2], .agg #[.int .i64 0, .int .i64 0], .int .i64 9001, .int .i64 0] V (TerNo V) := set_no 4 3 A 12 c A2 12 c2 gK pK 0 0 9001 0 V h.1 h.2 (by omega) (by omega) (fun h => by omega)
end
theorem ints_three (w : World) (t : TypeId) (x y z : Int) : Ints (w.alloc (.cells #[.int .i64 x, .int .i64 y, .int .i64 z] t)) (w.heap.size + 1) (some ⟨w.heap.size, 0, none⟩) 3 [x, y, z] :=
  ⟨rfl, fun _ => ⟨w.heap.size, 0, rfl, by omega, fun j hj => by
    match j, hj with
    | 0, _ => go_simp
    | 1, _ => go_simp
    | 2, _ => go_simp⟩⟩
theorem ints_four (w : World) (t : TypeId) (x y z u : Int) : Ints (w.alloc (.cells #[.int .i64 x, .int .i64 y, .int .i64 z, .int .i64 u] t)) (w.heap.size + 1) (some ⟨w.heap.size, 0, none⟩) 4 [x, y, z, u] :=
  ⟨rfl, fun _ => ⟨w.heap.size, 0, rfl, by omega, fun j hj => by
    match j, hj with
    | 0, _ => go_simp
    | 1, _ => go_simp
    | 2, _ => go_simp
    | 3, _ => go_simp⟩⟩
theorem cels_three (w : World) (t : TypeId) (a b c d e f : Int) : Cels (w.alloc (.cells #[.int .i64 a, .int .i64 b, .int .i64 c, .int .i64 d, .int .i64 e, .int .i64 f] t)) (w.heap.size + 1) (some ⟨w.heap.size, 0, none⟩) 3 [(a, b), (c, d), (e, f)] :=
  ⟨rfl, fun _ => ⟨w.heap.size, rfl, by omega, fun j hj => by
    match j, hj with
    | 0, _ => exact ⟨by go_simp, by go_simp⟩
    | 1, _ => exact ⟨by go_simp, by go_simp⟩
    | 2, _ => exact ⟨by go_simp, by go_simp⟩⟩⟩

set_option maxHeartbeats 4000000 in
set_option maxRecDepth 100000 in
theorem known_any (w : World) : Calls Try.prog 12 #[] w (KnownOk w) := by
  go_enter Try.func12, Try.ntmps12
  go_wp2_with fail
  refine (flat_yes 4 3 100 7 12 w (by omega) (by omega) (by omega) (by omega) (by omega) (by omega) (by omega) (by omega) (by omega)).mono ?_
  rintro e w1 ⟨A, n, c, A2, m, c2, rfl, o1, o2, hd, hb⟩
  obtain rfl : n = 12 := by have := o1.len; simpa using this.symm
  obtain rfl : m = 12 := by have := o2.len; simpa using this.symm
  have BL := Lib.hid hb
  have HK : Hid (KT w1 A A2) := ⟨o1.ints, o2.ints⟩
  clear o1 o2 hd hb
  go_wp2_with fail
  obtain ⟨V1, hV1⟩ : ∃ V, V = w1.alloc (.cells #[.int .i64 4, .int .i64 3, .slice A 12 c, .slice A2 12 c2] 24) := ⟨_, rfl⟩
  have hb : Below w1.heap.size w1 V1 := by rw [hV1]; exact (Below.refl _ _).alloc (Nat.le_refl _) _
  have BL := Lib.hid (chain BL.out hb)
  have HK := Lib.hid (HK.out.next hb)
  have TB : Hid (Box4 V1 w1.heap.size (.int .i64 4) (.int .i64 3) (.slice A 12 c) (.slice A2 12 c2)) := by rw [hV1]; exact Box4.new _ _ _ _ _ _
  rw [← hV1]
  clear hV1 hb
  obtain ⟨q, hq⟩ : ∃ q, w1.heap.size = q := ⟨_, rfl⟩
  rw [hq] at TB
  rw [hq]
  clear hq
  refine (line_yes 0 0 4 2 V1 (by omega) (by omega)).mono ?_
  rintro e w2 ⟨lA, ln, lc, rfl, ol, hb⟩
  rw [kn_line] at ol
  obtain rfl : ln = 3 := by have := ol.len; simpa using this.symm
  have LC := Lib.hid ol.cels
  have BL := Lib.hid (chain BL.out hb)
  have HK := Lib.hid (HK.out.next hb)
  have TB := Lib.hid (TB.out.next hb)
  clear ol hb
  go_wp2_with fail
  refine (line_no 0 0 64 0 w2 (by omega)).mono ?_
  rintro e w3 ⟨rfl, hb⟩
  have BL := Lib.hid (chain BL.out hb)
  have HK := Lib.hid (HK.out.next hb)
  have TB := Lib.hid (TB.out.next hb)
  have LC := Lib.hid (LC.out.next hb)
  clear hb
  obtain ⟨t0, t1, t2, t3, tf, tl⟩ := TB.out
  have CFL := Lib.hid (fun V => refFlat_any 4 3 100 7 12 V (by omega) (by omega))
  have HEQ := Lib.hid kn_eq
  have HEC : Hid (eqC [(1, 1), (2, 1), (3, 2)] [(1, 1), (2, 1), (3, 2)] = true) := decide_eq_true rfl
  go_wp2
  go_region_held3 (fun w' => w'.cell? ⟨q, 0, none⟩ = some (.int .i64 4) ∧ w'.cell? ⟨q, 1, none⟩ = some (.int .i64 3) ∧ w'.cell? ⟨q, 2, none⟩ = some (.slice A 12 c) ∧ w'.cell? ⟨q, 3, none⟩ = some (.slice A2 12 c2))
    (first | go_keep | exact ⟨by assumption, by assumption, by assumption, by assumption⟩)
    (first | (go_at_call 27; refine (CFL.out _).mono ?_; rintro e w4 ⟨B1, n1, d1, B2, m1, d2, rfl, o1, o2, hd, hb⟩; obtain rfl : n1 = 12 := (by have := o1.len; simpa using this.symm); obtain rfl : m1 = 12 := (by have := o2.len; simpa using this.symm); have FG := Lib.hid o1.ints; have FP := Lib.hid o2.ints; have BL := Lib.hid (chain BL.out.drew hb); have HK := Lib.hid (KT.next (V := w3.drew) HK.out hb); have TB := Lib.hid ((Box4.drew' TB.out).next hb); have LC := Lib.hid (Cels.next (w := w3.drew) LC.out hb); obtain ⟨t0, t1, t2, t3, tf, tl⟩ := TB.out; clear o1 o2 hd hb) | (go_at_call 24; refine (refEqual_any 4 3 A 12 c A2 12 c2 gK pK 4 3 B1 12 d1 B2 12 d2 (List.replicate 12 100) (List.replicate 12 7) w4 HK.out.1 HK.out.2 (by omega) (by omega) FG.out FP.out (by omega) (by omega)).mono ?_; rintro e w5 ⟨he, hb⟩; rw [HEQ.out] at he; subst he; have BL := Lib.hid (chain BL.out hb); have HK := Lib.hid (KT.next (V := w4) HK.out hb); have TB := Lib.hid ((TB.out).next hb); have LC := Lib.hid (Cels.next (w := w4) LC.out hb); obtain ⟨t0, t1, t2, t3, tf, tl⟩ := TB.out; clear hb) | (go_at_call 31; refine (same_any lA 3 lc [(1, 1), (2, 1), (3, 2)] (some ⟨w5.heap.size, 0, none⟩) 3 3 [(1, 1), (2, 1), (3, 2)] _ (LC.out.next ((Below.refl _ _).alloc (Nat.le_refl _) _)) ((cels_three w5 26 1 1 2 1 3 2).more (by simp)) (by omega) (by omega)).mono ?_; rintro e w6 ⟨he, hb⟩; rw [HEC.out] at he; subst he; have hb := chain ((Below.refl w5.heap.size w5).alloc (Nat.le_refl _) (.cells #[.int .i64 1, .int .i64 1, .int .i64 2, .int .i64 1, .int .i64 3, .int .i64 2] 26)) hb; have BL := Lib.hid (chain BL.out hb); have HK := Lib.hid (KT.next (V := w5) HK.out hb); have TB := Lib.hid ((TB.out).next hb); have LC := Lib.hid (Cels.next (w := w5) LC.out hb); obtain ⟨t0, t1, t2, t3, tf, tl⟩ := TB.out; clear hb))
  clear FG FP CFL HEQ HEC
  go_wp2_with fail
  clear t0 t1 t2 t3 tf tl
  refine (kc_index A A2 c c2 w6 HK.out).mono ?_
  rintro e w7 ⟨rfl, hb⟩
  have BL := Lib.hid (chain BL.out hb)
  have HK := Lib.hid (HK.out.next hb)
  have TB := Lib.hid (TB.out.next hb)
  clear hb
  obtain ⟨t0, t1, t2, t3, tf, tl⟩ := TB.out
  go_wp2_with fail
  clear t0 t1 t2 t3 tf tl
  refine (kc_at7 A A2 c c2 w7 HK.out).mono ?_
  rintro e w8 ⟨rfl, hb⟩
  have BL := Lib.hid (chain BL.out hb)
  have HK := Lib.hid (HK.out.next hb)
  have TB := Lib.hid (TB.out.next hb)
  clear hb
  obtain ⟨t0, t1, t2, t3, tf, tl⟩ := TB.out
  go_wp2_with fail
  clear t0 t1 t2 t3 tf tl
  obtain ⟨V8, hV8⟩ : ∃ V, V = w8.alloc (.cells #[.int .i64 3, .int .i64 1] 26) := ⟨_, rfl⟩
  have hb : Below w8.heap.size w8 V8 := by rw [hV8]; exact (Below.refl _ _).alloc (Nat.le_refl _) _
  have BL := Lib.hid (chain BL.out hb)
  have HK := Lib.hid (HK.out.next hb)
  have TB := Lib.hid (TB.out.next hb)
  have B9 : Hid (Box2 V8 w8.heap.size (.int .i64 3) (.int .i64 1)) := by rw [hV8]; exact Box2.new _ _ _ _
  rw [← hV8]
  clear hV8 hb
  refine (kc_at12 A A2 c c2 V8 HK.out).mono ?_
  rintro e w9 ⟨rfl, hb⟩
  have BL := Lib.hid (chain BL.out hb)
  have HK := Lib.hid (HK.out.next hb)
  have TB := Lib.hid (TB.out.next hb)
  have B9 := Lib.hid (B9.out.next hb)
  clear hb
  obtain ⟨t0, t1, t2, t3, tf, tl⟩ := TB.out
  go_wp2_with fail
  clear t0 t1 t2 t3 tf tl
  obtain ⟨V9, hV9⟩ : ∃ V, V = w9.alloc (.cells #[.int .i64 0, .int .i64 0] 26) := ⟨_, rfl⟩
  have hb : Below w9.heap.size w9 V9 := by rw [hV9]; exact (Below.refl _ _).alloc (Nat.le_refl _) _
  have BL := Lib.hid (chain BL.out hb)
  have HK := Lib.hid (HK.out.next hb)
  have TB := Lib.hid (TB.out.next hb)
  have B9 := Lib.hid (B9.out.next hb)
  rw [← hV9]
  clear hV9 hb
  refine (kc_rect A A2 c c2 V9 HK.out).mono ?_
  rintro e w10 ⟨R, rn, rc, rfl, orr, hb⟩
  obtain rfl : rn = 4 := by have := orr.len; simpa using this.symm
  have RI := Lib.hid orr.ints
  have BL := Lib.hid (chain BL.out hb)
  have HK := Lib.hid (HK.out.next hb)
  have TB := Lib.hid (TB.out.next hb)
  have B9 := Lib.hid (B9.out.next hb)
  clear hb orr
  obtain ⟨t0, t1, t2, t3, tf, tl⟩ := TB.out
  go_wp2_with fail
  clear t0 t1 t2 t3 tf tl
  obtain ⟨V10, hV10⟩ : ∃ V, V = w10.alloc (.cells #[.int .i64 0, .int .i64 5, .int .i64 0] 3) := ⟨_, rfl⟩
  have hb : Below w10.heap.size w10 V10 := by rw [hV10]; exact (Below.refl _ _).alloc (Nat.le_refl _) _
  have BL := Lib.hid (chain BL.out hb)
  have HK := Lib.hid (HK.out.next hb)
  have TB := Lib.hid (TB.out.next hb)
  have B9 := Lib.hid (B9.out.next hb)
  have RI := Lib.hid (RI.out.next hb)
  have CI : Hid (Ints V10 V10.heap.size (some ⟨w10.heap.size, 0, none⟩) 3 [0, 5, 0]) := by rw [hV10]; exact (ints_three w10 3 0 5 0).more (by simp)
  rw [← hV10]
  clear hV10 hb
  refine (kc_total A A2 c c2 _ 3 V10 HK.out CI.out).mono ?_
  rintro e w11 ⟨rfl, hb⟩
  have BL := Lib.hid (chain BL.out hb)
  have HK := Lib.hid (HK.out.next hb)
  have TB := Lib.hid (TB.out.next hb)
  have B9 := Lib.hid (B9.out.next hb)
  have RI := Lib.hid (RI.out.next hb)
  clear hb CI
  obtain ⟨t0, t1, t2, t3, tf, tl⟩ := TB.out
  go_wp2_with fail
  clear t0 t1 t2 t3 tf tl
  refine (kc_prof A A2 c c2 w11 HK.out).mono ?_
  rintro e w12 ⟨F, fn, fc, rfl, off, hb⟩
  obtain rfl : fn = 1 := by have := off.len; simpa using this.symm
  have FI := Lib.hid off.ints
  have BL := Lib.hid (chain BL.out hb)
  have HK := Lib.hid (HK.out.next hb)
  have TB := Lib.hid (TB.out.next hb)
  have B9 := Lib.hid (B9.out.next hb)
  have RI := Lib.hid (RI.out.next hb)
  clear hb off
  obtain ⟨t0, t1, t2, t3, tf, tl⟩ := TB.out
  go_wp2_with fail
  clear t0 t1 t2 t3 tf tl
  refine (flat_no 65 1 0 0 w12 (by omega)).mono ?_
  rintro e w13 ⟨rfl, hb⟩
  have BL := Lib.hid (chain BL.out hb)
  have HK := Lib.hid (HK.out.next hb)
  have TB := Lib.hid (TB.out.next hb)
  have B9 := Lib.hid (B9.out.next hb)
  have RI := Lib.hid (RI.out.next hb)
  have FI := Lib.hid (FI.out.next hb)
  clear hb
  obtain ⟨t0, t1, t2, t3, tf, tl⟩ := TB.out
  go_wp2_with fail
  clear t0 t1 t2 t3 tf tl
  obtain ⟨V13, hV13⟩ : ∃ V, V = w13.alloc (.cells #[.int .i64 0, .int .i64 0, .slice none 0 0, .slice none 0 0] 24) := ⟨_, rfl⟩
  have hb : Below w13.heap.size w13 V13 := by rw [hV13]; exact (Below.refl _ _).alloc (Nat.le_refl _) _
  have BL := Lib.hid (chain BL.out hb)
  have HK := Lib.hid (HK.out.next hb)
  have TB := Lib.hid (TB.out.next hb)
  have B9 := Lib.hid (B9.out.next hb)
  have RI := Lib.hid (RI.out.next hb)
  have FI := Lib.hid (FI.out.next hb)
  rw [← hV13]
  clear hV13 hb
  refine (kc_set A A2 c c2 V13 HK.out).mono ?_
  rintro e w14 ⟨rfl, hb⟩
  have BL := Lib.hid (chain BL.out hb)
  have HK := Lib.hid (HK.out.next hb)
  have TB := Lib.hid (TB.out.next hb)
  have B9 := Lib.hid (B9.out.next hb)
  have RI := Lib.hid (RI.out.next hb)
  have FI := Lib.hid (FI.out.next hb)
  clear hb
  obtain ⟨z0, z1, zf, zl⟩ := B9.out
  have HE1 : Hid (eqB [1, 2, 5, 6] [1, 2, 5, 6] = true) := decide_eq_true rfl
  have HE2 : Hid (eqB [100] [100] = true) := decide_eq_true rfl
  have hzl : w8.heap.size < w14.heap.size := zl
  have hzn : w8.heap.size ≠ w14.heap.size := by omega
  go_wp2_with fail
  clear z0 z1 zf zl hzl hzn
  obtain ⟨VX, hVX⟩ : ∃ V, V = w14.alloc (.cells #[.int .i64 0, .int .i64 0, .slice none 0 0, .slice none 0 0] 24) := ⟨_, rfl⟩
  have hb : Below w14.heap.size w14 VX := by rw [hVX]; exact (Below.refl _ _).alloc (Nat.le_refl _) _
  have BL := Lib.hid (chain BL.out hb)
  have RI := Lib.hid (RI.out.next hb)
  have FI := Lib.hid (FI.out.next hb)
  clear hb
  obtain ⟨VY, hVY⟩ : ∃ V, V = VX.alloc (.cells #[.int .i64 1, .int .i64 2, .int .i64 5, .int .i64 6] 3) := ⟨_, rfl⟩
  have hb : Below VX.heap.size VX VY := by rw [hVY]; exact (Below.refl _ _).alloc (Nat.le_refl _) _
  have BL := Lib.hid (chain BL.out hb)
  have RI := Lib.hid (RI.out.next hb)
  have FI := Lib.hid (FI.out.next hb)
  clear hb
  have E4 : Hid (Ints VY VY.heap.size (some ⟨VX.heap.size, 0, none⟩) 4 [1, 2, 5, 6]) := by rw [hVY]; exact (ints_four VX 3 1 2 5 6).more (by simp)
  have hs : VX.heap.size = w14.heap.size + 1 := by rw [hVX]; simp
  rw [hs] at E4
  rw [← hVX, ← hVY]
  clear hVX hVY hs
  refine (lawEqual_any R 4 rc [1, 2, 5, 6] (some ⟨w14.heap.size + 1, 0, none⟩) 4 4 [1, 2, 5, 6] VY RI.out E4.out (by omega) (by omega)).mono ?_
  rintro e w15 ⟨he, hb⟩
  rw [HE1.out] at he
  subst he
  have BL := Lib.hid (chain BL.out hb)
  have RI := Lib.hid (RI.out.next hb)
  have FI := Lib.hid (FI.out.next hb)
  clear hb E4 RI HE1
  go_wp2_with fail
  obtain ⟨VZ, hVZ⟩ : ∃ V, V = w15.alloc (.cells #[.int .i64 100] 3) := ⟨_, rfl⟩
  have hb : Below w15.heap.size w15 VZ := by rw [hVZ]; exact (Below.refl _ _).alloc (Nat.le_refl _) _
  have BL := Lib.hid (chain BL.out hb)
  have FI := Lib.hid (FI.out.next hb)
  have E1 : Hid (Ints VZ VZ.heap.size (some ⟨w15.heap.size, 0, none⟩) 1 [100]) := by rw [hVZ]; exact (ints_one w15 3 100).more (by simp)
  rw [← hVZ]
  clear hVZ hb
  refine (lawEqual_any F 1 fc [100] (some ⟨w15.heap.size, 0, none⟩) 1 1 [100] VZ FI.out E1.out (by omega) (by omega)).mono ?_
  rintro e w16 ⟨he, hb⟩
  rw [HE2.out] at he
  subst he
  have BL := Lib.hid (chain BL.out hb)
  have FI := Lib.hid (FI.out.next hb)
  clear hb
  go_wp2
  go_ret
  exact ⟨rfl, BL.out⟩
end Go.Proofs.Ytpoceidbiamgaaa
