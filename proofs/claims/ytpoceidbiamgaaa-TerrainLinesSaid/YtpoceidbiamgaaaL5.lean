/- TerrainLines: the walk of the law. -/
import Derived.Test.YtpoceidbiamgaaaWn
set_option linter.unusedVariables false
set_option linter.unusedSimpArgs false
namespace Go.Proofs.Ytpoceidbiamgaaa
open Go.RowKit

/-- The loop of the law: the coordinates so far are fine. -/
def L7I (w : World) (a1 a2 b1 b2 : Int) (i : Value) (wr : World) : Prop := ((i = .int .i64 0) ∨ (i = .int .i64 1 ∧ (0 ≤ a1 ∧ a1 ≤ 63)) ∨ (i = .int .i64 2 ∧ (0 ≤ a1 ∧ a1 ≤ 63) ∧ (0 ≤ a2 ∧ a2 ≤ 63)) ∨ (i = .int .i64 3 ∧ (0 ≤ a1 ∧ a1 ≤ 63) ∧ (0 ≤ a2 ∧ a2 ≤ 63) ∧ (0 ≤ b1 ∧ b1 ≤ 63)) ∨ (i = .int .i64 4 ∧ (0 ≤ a1 ∧ a1 ≤ 63) ∧ (0 ≤ a2 ∧ a2 ≤ 63) ∧ (0 ≤ b1 ∧ b1 ≤ 63) ∧ (0 ≤ b2 ∧ b2 ≤ 63))) ∧ Below w.heap.size w wr ∧ Box2 wr w.heap.size (.int .i64 a1) (.int .i64 a2) ∧ Box2 wr (w.heap.size + 1) (.int .i64 b1) (.int .i64 b2)
set_option maxHeartbeats 4000000 in
set_option maxRecDepth 100000 in
theorem law7_no (a1 a2 b1 b2 : Int) (w : World) (h : ¬ ((0 ≤ a1 ∧ a1 ≤ 63 ∧ 0 ≤ a2 ∧ a2 ≤ 63) ∧ 0 ≤ b1 ∧ b1 ≤ 63 ∧ 0 ≤ b2 ∧ b2 ≤ 63)) : Calls Try.prog 7 #[.agg #[.int .i64 a1, .int .i64 a2], .agg #[.int .i64 b1, .int .i64 b2]] w (KnownOk w) := by
  have HS := Lib.hid (ln_start w a1 a2 b1 b2)
  have CN := Lib.hid (fun V => line_no a1 a2 b1 b2 V h)
  have HH := Lib.hid h
  clear h
  go_enter Try.func7, Try.ntmps7
  go_wp2_with fail
  obtain ⟨W0, hW0⟩ : ∃ W0, W0 = ((w.alloc (.cells #[.int .i64 a1, .int .i64 a2] 26)).alloc (.cells #[.int .i64 b1, .int .i64 b2] 26)) := ⟨_, rfl⟩
  rw [← hW0] at HS
  rw [← hW0]
  clear hW0
  refine (CN.out W0).mono ?_
  rintro e w1 ⟨rfl, hb⟩
  have HS1 : Hid (Below w.heap.size w w1 ∧ Box2 w1 w.heap.size (.int .i64 a1) (.int .i64 a2) ∧ Box2 w1 (w.heap.size + 1) (.int .i64 b1) (.int .i64 b2)) := ⟨chain HS.out.1 hb, HS.out.2.1.next hb, HS.out.2.2.next hb⟩
  clear hb HS CN
  go_wp2
  go_loopw [7] (fun i wr => L7I w a1 a2 b1 b2 i wr) (fun i _ => 4 - (intOf i).toNat)
  case atStart => exact ⟨.inl rfl, HS1.out⟩
  case round =>
    clear HS1
    obtain ⟨hi, hb, hA, hB⟩ := hrel
    have BL := Lib.hid hb
    have HA := Lib.hid hA
    have HB := Lib.hid hB
    obtain ⟨t0, t1, tf, tl⟩ := hA
    obtain ⟨u0, u1, uf, ul⟩ := hB
    clear hb
    rcases hi with rfl | ⟨rfl, c1⟩ | ⟨rfl, c1, c2⟩ | ⟨rfl, c1, c2, c3⟩ | ⟨rfl, c1, c2, c3, c4⟩
    · have kk : a1 < 0 ∨ (0 ≤ a1 ∧ 63 < a1) ∨ (0 ≤ a1 ∧ a1 ≤ 63) := by omega
      rcases kk with kk | ⟨ka, kk⟩ | ⟨ka, kb⟩
      · have BL : Hid (Below w.heap.size w wr) := BL
        go_wp2_with fail
        obtain ⟨V, hV⟩ : ∃ V, V = wr.alloc (.cells #[.int .i64 a1, .int .i64 a2, .int .i64 b1, .int .i64 b2] 3) := ⟨_, rfl⟩
        have BV : Hid (Below w.heap.size w V) := by rw [hV]; exact BL.out.alloc BL.out.size _
        rw [← hV]
        clear hV
        refine (known_any V).mono ?_
        rintro e w2 ⟨rfl, hb⟩
        have BV := Lib.hid (chain BV.out hb)
        clear hb
        go_wp2
        go_ret
        exact ⟨rfl, BV.out⟩
      · have BL : Hid (Below w.heap.size w wr) := BL
        go_wp2_with fail
        obtain ⟨V, hV⟩ : ∃ V, V = wr.alloc (.cells #[.int .i64 a1, .int .i64 a2, .int .i64 b1, .int .i64 b2] 3) := ⟨_, rfl⟩
        have BV : Hid (Below w.heap.size w V) := by rw [hV]; exact BL.out.alloc BL.out.size _
        rw [← hV]
        clear hV
        refine (known_any V).mono ?_
        rintro e w2 ⟨rfl, hb⟩
        have BV := Lib.hid (chain BV.out hb)
        clear hb
        go_wp2
        go_ret
        exact ⟨rfl, BV.out⟩
      · go_wp2
        go_roundw
        case rel => exact ⟨.inr (.inl ⟨rfl, ⟨ka, kb⟩⟩), BL.out.alloc BL.out.size _, HA.out.alloc _, HB.out.alloc _⟩
        case measure => simp [intOf]
    · have kk : a2 < 0 ∨ (0 ≤ a2 ∧ 63 < a2) ∨ (0 ≤ a2 ∧ a2 ≤ 63) := by omega
      rcases kk with kk | ⟨ka, kk⟩ | ⟨ka, kb⟩
      · have BL : Hid (Below w.heap.size w wr) := BL
        go_wp2_with fail
        obtain ⟨V, hV⟩ : ∃ V, V = wr.alloc (.cells #[.int .i64 a1, .int .i64 a2, .int .i64 b1, .int .i64 b2] 3) := ⟨_, rfl⟩
        have BV : Hid (Below w.heap.size w V) := by rw [hV]; exact BL.out.alloc BL.out.size _
        rw [← hV]
        clear hV
        refine (known_any V).mono ?_
        rintro e w2 ⟨rfl, hb⟩
        have BV := Lib.hid (chain BV.out hb)
        clear hb
        go_wp2
        go_ret
        exact ⟨rfl, BV.out⟩
      · have BL : Hid (Below w.heap.size w wr) := BL
        go_wp2_with fail
        obtain ⟨V, hV⟩ : ∃ V, V = wr.alloc (.cells #[.int .i64 a1, .int .i64 a2, .int .i64 b1, .int .i64 b2] 3) := ⟨_, rfl⟩
        have BV : Hid (Below w.heap.size w V) := by rw [hV]; exact BL.out.alloc BL.out.size _
        rw [← hV]
        clear hV
        refine (known_any V).mono ?_
        rintro e w2 ⟨rfl, hb⟩
        have BV := Lib.hid (chain BV.out hb)
        clear hb
        go_wp2
        go_ret
        exact ⟨rfl, BV.out⟩
      · go_wp2
        go_roundw
        case rel => exact ⟨.inr (.inr (.inl ⟨rfl, c1, ⟨ka, kb⟩⟩)), BL.out.alloc BL.out.size _, HA.out.alloc _, HB.out.alloc _⟩
        case measure => simp [intOf]
    · have kk : b1 < 0 ∨ (0 ≤ b1 ∧ 63 < b1) ∨ (0 ≤ b1 ∧ b1 ≤ 63) := by omega
      rcases kk with kk | ⟨ka, kk⟩ | ⟨ka, kb⟩
      · have BL : Hid (Below w.heap.size w wr) := BL
        go_wp2_with fail
        obtain ⟨V, hV⟩ : ∃ V, V = wr.alloc (.cells #[.int .i64 a1, .int .i64 a2, .int .i64 b1, .int .i64 b2] 3) := ⟨_, rfl⟩
        have BV : Hid (Below w.heap.size w V) := by rw [hV]; exact BL.out.alloc BL.out.size _
        rw [← hV]
        clear hV
        refine (known_any V).mono ?_
        rintro e w2 ⟨rfl, hb⟩
        have BV := Lib.hid (chain BV.out hb)
        clear hb
        go_wp2
        go_ret
        exact ⟨rfl, BV.out⟩
      · have BL : Hid (Below w.heap.size w wr) := BL
        go_wp2_with fail
        obtain ⟨V, hV⟩ : ∃ V, V = wr.alloc (.cells #[.int .i64 a1, .int .i64 a2, .int .i64 b1, .int .i64 b2] 3) := ⟨_, rfl⟩
        have BV : Hid (Below w.heap.size w V) := by rw [hV]; exact BL.out.alloc BL.out.size _
        rw [← hV]
        clear hV
        refine (known_any V).mono ?_
        rintro e w2 ⟨rfl, hb⟩
        have BV := Lib.hid (chain BV.out hb)
        clear hb
        go_wp2
        go_ret
        exact ⟨rfl, BV.out⟩
      · go_wp2
        go_roundw
        case rel => exact ⟨.inr (.inr (.inr (.inl ⟨rfl, c1, c2, ⟨ka, kb⟩⟩))), BL.out.alloc BL.out.size _, HA.out.alloc _, HB.out.alloc _⟩
        case measure => simp [intOf]
    · have kk : b2 < 0 ∨ (0 ≤ b2 ∧ 63 < b2) := by have := HH.out; omega
      rcases kk with kk | ⟨ka, kk⟩
      · have BL : Hid (Below w.heap.size w wr) := BL
        go_wp2_with fail
        obtain ⟨V, hV⟩ : ∃ V, V = wr.alloc (.cells #[.int .i64 a1, .int .i64 a2, .int .i64 b1, .int .i64 b2] 3) := ⟨_, rfl⟩
        have BV : Hid (Below w.heap.size w V) := by rw [hV]; exact BL.out.alloc BL.out.size _
        rw [← hV]
        clear hV
        refine (known_any V).mono ?_
        rintro e w2 ⟨rfl, hb⟩
        have BV := Lib.hid (chain BV.out hb)
        clear hb
        go_wp2
        go_ret
        exact ⟨rfl, BV.out⟩
      · have BL : Hid (Below w.heap.size w wr) := BL
        go_wp2_with fail
        obtain ⟨V, hV⟩ : ∃ V, V = wr.alloc (.cells #[.int .i64 a1, .int .i64 a2, .int .i64 b1, .int .i64 b2] 3) := ⟨_, rfl⟩
        have BV : Hid (Below w.heap.size w V) := by rw [hV]; exact BL.out.alloc BL.out.size _
        rw [← hV]
        clear hV
        refine (known_any V).mono ?_
        rintro e w2 ⟨rfl, hb⟩
        have BV := Lib.hid (chain BV.out hb)
        clear hb
        go_wp2
        go_ret
        exact ⟨rfl, BV.out⟩
    · exact absurd (by omega) HH.out

set_option maxHeartbeats 4000000 in
set_option maxRecDepth 100000 in
theorem law7_yes (a1 a2 b1 b2 : Int) (w : World) (ha : 0 ≤ a1 ∧ a1 ≤ 63 ∧ 0 ≤ a2 ∧ a2 ≤ 63) (hb : 0 ≤ b1 ∧ b1 ≤ 63 ∧ 0 ≤ b2 ∧ b2 ≤ 63) : Calls Try.prog 7 #[.agg #[.int .i64 a1, .int .i64 a2], .agg #[.int .i64 b1, .int .i64 b2]] w (KnownOk w) := by
  have HS := Lib.hid (ln_start w a1 a2 b1 b2)
  have CY := Lib.hid (fun V => line_yes a1 a2 b1 b2 V ha hb)
  have CR := Lib.hid (fun V => refLine_yes a1 a2 b1 b2 V ha hb)
  obtain ⟨h1, h2, h3, h4⟩ := ha
  obtain ⟨h5, h6, h7, h8⟩ := hb
  have hs1 := span_le h1 h2 h3 h4 h5 h6 h7 h8
  have HN : Hid (lineN a1 a2 b1 b2 ≤ 62) := by show _ ≤ _; unfold lineN; omega
  have HEQ : Hid (eqC (lineL a1 a2 b1 b2) (lineL a1 a2 b1 b2) = true) := decide_eq_true rfl
  clear hs1
  go_enter Try.func7, Try.ntmps7
  go_wp2_with fail
  obtain ⟨W0, hW0⟩ : ∃ W0, W0 = ((w.alloc (.cells #[.int .i64 a1, .int .i64 a2] 26)).alloc (.cells #[.int .i64 b1, .int .i64 b2] 26)) := ⟨_, rfl⟩
  rw [← hW0] at HS
  rw [← hW0]
  clear hW0
  refine (CY.out W0).mono ?_
  rintro e w1 ⟨lA, ln, lc, rfl, ol, hb⟩
  have HS1 : Hid (Below w.heap.size w w1 ∧ Box2 w1 w.heap.size (.int .i64 a1) (.int .i64 a2) ∧ Box2 w1 (w.heap.size + 1) (.int .i64 b1) (.int .i64 b2)) := ⟨chain HS.out.1 hb, HS.out.2.1.next hb, HS.out.2.2.next hb⟩
  have LC := Lib.hid ol.cels
  have hln : ln ≤ 62 := by have := ol.len; rw [lineL_len] at this; have := HN.out; omega
  clear hb HS CY ol HN
  go_wp2
  go_loopw [7] (fun i wr => L7I w a1 a2 b1 b2 i wr ∧ Below w1.heap.size w1 wr) (fun i _ => 4 - (intOf i).toNat)
  case atStart => exact ⟨⟨.inl rfl, HS1.out⟩, Below.refl _ _⟩
  case round =>
    clear HS1
    obtain ⟨⟨hi, hb, hA, hB⟩, hb1⟩ := hrel
    have BL := Lib.hid hb
    have BR := Lib.hid hb1
    have HA := Lib.hid hA
    have HB := Lib.hid hB
    obtain ⟨t0, t1, tf, tl⟩ := hA
    obtain ⟨u0, u1, uf, ul⟩ := hB
    clear hb hb1
    rcases hi with rfl | ⟨rfl, c1⟩ | ⟨rfl, c1, c2⟩ | ⟨rfl, c1, c2, c3⟩ | ⟨rfl, c1, c2, c3, c4⟩
    · go_wp2
      go_roundw
      case rel => exact ⟨⟨.inr (.inl ⟨rfl, ⟨h1, h2⟩⟩), BL.out.alloc BL.out.size _, HA.out.alloc _, HB.out.alloc _⟩, BR.out.alloc BR.out.size _⟩
      case measure => simp [intOf]
    · go_wp2
      go_roundw
      case rel => exact ⟨⟨.inr (.inr (.inl ⟨rfl, c1, ⟨h3, h4⟩⟩)), BL.out.alloc BL.out.size _, HA.out.alloc _, HB.out.alloc _⟩, BR.out.alloc BR.out.size _⟩
      case measure => simp [intOf]
    · go_wp2
      go_roundw
      case rel => exact ⟨⟨.inr (.inr (.inr (.inl ⟨rfl, c1, c2, ⟨h5, h6⟩⟩))), BL.out.alloc BL.out.size _, HA.out.alloc _, HB.out.alloc _⟩, BR.out.alloc BR.out.size _⟩
      case measure => simp [intOf]
    · go_wp2
      go_roundw
      case rel => exact ⟨⟨.inr (.inr (.inr (.inr (⟨rfl, c1, c2, c3, ⟨h7, h8⟩⟩)))), BL.out.alloc BL.out.size _, HA.out.alloc _, HB.out.alloc _⟩, BR.out.alloc BR.out.size _⟩
      case measure => simp [intOf]
    · clear c1 c2 c3 c4
      go_wp2_with fail
      refine (CR.out wr).mono ?_
      rintro e w2 ⟨rA, rn, rc, rfl, orr, hb⟩
      have BL := Lib.hid (chain BL.out hb)
      have LC2 := Lib.hid ((LC.out.next BR.out).next hb)
      have RC := Lib.hid orr.cels
      have hrn : rn = ln := by have e1 := orr.len; have e2 := LC.out.1; omega
      have hrn2 : rn ≤ 62 := by omega
      clear orr hb hrn
      go_wp2_with fail
      refine (same_any lA ln lc _ rA rn rc _ w2 LC2.out RC.out (by omega) (by omega)).mono ?_
      rintro e w3 ⟨he, hb⟩
      rw [HEQ.out] at he
      subst he
      have BL := Lib.hid (chain BL.out hb)
      clear hb
      go_wp2_with fail
      refine (known_any w3).mono ?_
      rintro e w4 ⟨rfl, hb⟩
      have BL := Lib.hid (chain BL.out hb)
      clear hb
      go_wp2
      go_ret
      exact ⟨rfl, BL.out⟩

theorem law7 (a1 a2 b1 b2 : Int) (w : World) : Calls Try.prog 7 #[.agg #[.int .i64 a1, .int .i64 a2], .agg #[.int .i64 b1, .int .i64 b2]] w (KnownOk w) := by
  by_cases h : (0 ≤ a1 ∧ a1 ≤ 63 ∧ 0 ≤ a2 ∧ a2 ≤ 63) ∧ 0 ≤ b1 ∧ b1 ≤ 63 ∧ 0 ≤ b2 ∧ b2 ≤ 63
  · exact law7_yes a1 a2 b1 b2 w h.1 h.2
  · exact law7_no a1 a2 b1 b2 w h
end Go.Proofs.Ytpoceidbiamgaaa
