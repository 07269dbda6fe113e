/- Contract of terrain.Line. -/
import Derived.Test.YtpoceidbiamgaaaWc
import Derived.Lib.MinMax
set_option linter.unusedVariables false
set_option linter.unusedSimpArgs false
namespace Go.Proofs.Ytpoceidbiamgaaa
open Go.RowKit

theorem info26 : (Try.prog.info? 26).map (fun i => (i.zero, i.size, i.bytes)) = some (some (.agg #[.int .i64 0, .int .i64 0]), 2, 16) := by kernel_rfl
theorem idx0 (a b c d : Value) (w : World) : (Instr.index 66 (.agg #[a, b, c, d]) (.int .i64 0)).run Try.prog w = .ok (.agg #[a, b]) w := by kernel_rfl
theorem idx1 (a b c d : Value) (w : World) : (Instr.index 66 (.agg #[a, b, c, d]) (.int .i64 1)).run Try.prog w = .ok (.agg #[c, d]) w := by kernel_rfl
attribute [local go_sem ↓ high] idx0 idx1
/-- No line and errno 2. -/
def LineNo (w : World) (e : Ending) (w' : World) : Prop := e = .returned (.tuple #[.slice none 0 0, .int .i64 2]) ∧ Below w.heap.size w w'
/-- The line and errno 0. -/
def LineR (w : World) (cs : List (Int × Int)) (e : Ending) (w' : World) : Prop :=
  ∃ A n c, e = .returned (.tuple #[.slice A n c, .int .i64 0]) ∧ OwnC w' w.heap.size A n c cs ∧ Below w.heap.size w w'
/-- The line alone. -/
def LineR1 (w : World) (cs : List (Int × Int)) (e : Ending) (w' : World) : Prop :=
  ∃ A n c, e = .returned (.slice A n c) ∧ OwnC w' w.heap.size A n c cs ∧ Below w.heap.size w w'
/-- The first loop of Line. -/
def Ln1 (w : World) (a1 a2 b1 b2 : Int) (i : Value) (wr : World) : Prop :=
  (i = .int .i64 0 ∨ (i = .int .i64 1 ∧ 0 ≤ a1 ∧ a1 ≤ 63 ∧ 0 ≤ a2 ∧ a2 ≤ 63) ∨ (i = .int .i64 2 ∧ (0 ≤ a1 ∧ a1 ≤ 63 ∧ 0 ≤ a2 ∧ a2 ≤ 63) ∧ 0 ≤ b1 ∧ b1 ≤ 63 ∧ 0 ≤ b2 ∧ b2 ≤ 63)) ∧ Below w.heap.size w wr ∧ Box2 wr w.heap.size (.int .i64 a1) (.int .i64 a2) ∧ Box2 wr (w.heap.size + 1) (.int .i64 b1) (.int .i64 b2)
theorem ln_start (w : World) (a1 a2 b1 b2 : Int) : Below w.heap.size w ((w.alloc (.cells #[.int .i64 a1, .int .i64 a2] 26)).alloc (.cells #[.int .i64 b1, .int .i64 b2] 26)) ∧ Box2 ((w.alloc (.cells #[.int .i64 a1, .int .i64 a2] 26)).alloc (.cells #[.int .i64 b1, .int .i64 b2] 26)) w.heap.size (.int .i64 a1) (.int .i64 a2) ∧ Box2 ((w.alloc (.cells #[.int .i64 a1, .int .i64 a2] 26)).alloc (.cells #[.int .i64 b1, .int .i64 b2] 26)) (w.heap.size + 1) (.int .i64 b1) (.int .i64 b2) :=
  ⟨((Below.refl _ _).alloc (Nat.le_refl _) _).alloc (by simp) _, (Box2.new w _ _ _).alloc _, by have := Box2.new (w.alloc (.cells #[.int .i64 a1, .int .i64 a2] 26)) (.int .i64 b1) (.int .i64 b2) 26; rwa [alloc_size] at this⟩

set_option maxHeartbeats 1000000 in
theorem line_no (a1 a2 b1 b2 : Int) (w : World) (h : ¬ ((0 ≤ a1 ∧ a1 ≤ 63 ∧ 0 ≤ a2 ∧ a2 ≤ 63) ∧ 0 ≤ b1 ∧ b1 ≤ 63 ∧ 0 ≤ b2 ∧ b2 ≤ 63)) : Calls Try.prog 30 #[.agg #[.int .i64 a1, .int .i64 a2], .agg #[.int .i64 b1, .int .i64 b2]] w (LineNo w) := by
  have HS := Lib.hid (ln_start w a1 a2 b1 b2)
  have HH := Lib.hid h
  clear h
  go_enter Try.func30, Try.ntmps30
  go_wp2
  go_loopw [14] (fun i wr => Ln1 w a1 a2 b1 b2 i wr) (fun i _ => 2 - (intOf i).toNat)
  case atStart => exact ⟨.inl rfl, HS.out⟩
  case round =>
    obtain ⟨hi, hb, hA, hB⟩ := hrel
    have HB := Lib.hid hb
    have HA := Lib.hid hA
    have HB2 := Lib.hid hB
    clear hb hA hB HS
    rcases hi with rfl | ⟨rfl, k1, k2, k3, k4⟩ | ⟨rfl, k1, k2⟩
    · have kk : (a1 < 0 ∨ 63 < a1) ∨ ((0 ≤ a1 ∧ a1 ≤ 63) ∧ (a2 < 0 ∨ 63 < a2)) ∨ ((0 ≤ a1 ∧ a1 ≤ 63) ∧ (0 ≤ a2 ∧ a2 ≤ 63)) := by omega
      rcases kk with kk | ⟨⟨k1, k2⟩, kk⟩ | ⟨⟨k1, k2⟩, ⟨k3, k4⟩⟩
      · go_wp2_with (first | (go_at_call 42; (first | refine (within_yes _ _ _ _ (by omega) (by omega)).mono ?_ | refine (within_no _ _ _ _ (by omega)).mono ?_); rintro e w' ⟨rfl, rfl⟩))
        go_ret2
        exact ⟨rfl, HB.out.alloc HB.out.size _⟩
      · go_wp2_with (first | (go_at_call 42; (first | refine (within_yes _ _ _ _ (by omega) (by omega)).mono ?_ | refine (within_no _ _ _ _ (by omega)).mono ?_); rintro e w' ⟨rfl, rfl⟩))
        go_ret2
        exact ⟨rfl, HB.out.alloc HB.out.size _⟩
      · go_wp2_with (first | (go_at_call 42; (first | refine (within_yes _ _ _ _ (by omega) (by omega)).mono ?_ | refine (within_no _ _ _ _ (by omega)).mono ?_); rintro e w' ⟨rfl, rfl⟩))
        go_roundw
        case rel => exact ⟨.inr (.inl ⟨rfl, k1, k2, k3, k4⟩), HB.out.alloc HB.out.size _, HA.out.alloc _, HB2.out.alloc _⟩
        case measure => simp [intOf]
    · have kk : (b1 < 0 ∨ 63 < b1) ∨ ((0 ≤ b1 ∧ b1 ≤ 63) ∧ (b2 < 0 ∨ 63 < b2)) := by have := HH.out; omega
      rcases kk with kk | ⟨⟨k5, k6⟩, kk⟩
      all_goals
        go_wp2_with (first | (go_at_call 42; (first | refine (within_yes _ _ _ _ (by omega) (by omega)).mono ?_ | refine (within_no _ _ _ _ (by omega)).mono ?_); rintro e w' ⟨rfl, rfl⟩))
        go_ret2
        exact ⟨rfl, HB.out.alloc HB.out.size _⟩
    · exact absurd ⟨k1, k2⟩ HH.out

theorem mul_bd {x d : Int} (h1 : 0 ≤ x) (h2 : x ≤ 126) (h3 : -63 ≤ d) (h4 : d ≤ 63) : -7938 ≤ x * d ∧ x * d ≤ 7938 := by
  have p1 : x * d ≤ x * 63 := Int.mul_le_mul_of_nonneg_left h4 h1
  have p2 : x * (-63) ≤ x * d := Int.mul_le_mul_of_nonneg_left h3 h1
  omega
/-- The second loop of Line: the cells so far, and the counter. -/
def Ln2 (w : World) (a1 a2 b1 b2 : Int) (l i : Value) (wr : World) : Prop :=
  ∃ (k : Nat) (A : Option Addr) (c : Nat), k ≤ lineN a1 a2 b1 b2 ∧ l = .slice A k c ∧ i = .int .i64 ((k : Int) + 1) ∧ OwnC wr (w.heap.size + 2) A k c (lineK a1 a2 b1 b2 k) ∧ Below w.heap.size w wr ∧
    Box2 wr w.heap.size (.int .i64 a1) (.int .i64 a2) ∧ Box2 wr (w.heap.size + 1) (.int .i64 b1) (.int .i64 b2)
set_option maxHeartbeats 2000000 in
theorem line_yes (a1 a2 b1 b2 : Int) (w : World) (ha : 0 ≤ a1 ∧ a1 ≤ 63 ∧ 0 ≤ a2 ∧ a2 ≤ 63) (hb : 0 ≤ b1 ∧ b1 ≤ 63 ∧ 0 ≤ b2 ∧ b2 ≤ 63) : Calls Try.prog 30 #[.agg #[.int .i64 a1, .int .i64 a2], .agg #[.int .i64 b1, .int .i64 b2]] w (LineR w (lineL a1 a2 b1 b2)) := by
  have HS := Lib.hid (ln_start w a1 a2 b1 b2)
  obtain ⟨h1, h2, h3, h4⟩ := ha
  obtain ⟨h5, h6, h7, h8⟩ := hb
  have HSP : Hid (max (a1 - b1) (max (b1 - a1) (max (a2 - b2) (b2 - a2))) = span a1 a2 b1 b2) := by show _ = _; unfold span; omega
  have hs0 := span_nonneg a1 a2 b1 b2
  obtain ⟨i0, hi0, hz0, hz1, hz2⟩ := info_parts info26
  have hs1 := span_le h1 h2 h3 h4 h5 h6 h7 h8
  go_enter Try.func30, Try.ntmps30
  go_wp2
  go_loopw [14] (fun i wr => Ln1 w a1 a2 b1 b2 i wr) (fun i _ => 2 - (intOf i).toNat)
  case atStart => exact ⟨.inl rfl, HS.out⟩
  case round =>
    obtain ⟨hi, hb, hA, hB⟩ := hrel
    have HB := Lib.hid hb
    have HA := Lib.hid hA
    have HB2 := Lib.hid hB
    rcases hi with rfl | ⟨rfl, k1, k2, k3, k4⟩ | ⟨rfl, _⟩
    · clear hb hA hB HS
      go_wp2_with (first | (go_at_call 42; (first | refine (within_yes _ _ _ _ (by omega) (by omega)).mono ?_ | refine (within_no _ _ _ _ (by omega)).mono ?_); rintro e w' ⟨rfl, rfl⟩))
      go_roundw
      case rel => exact ⟨.inr (.inl ⟨rfl, h1, h2, h3, h4⟩), HB.out.alloc HB.out.size _, HA.out.alloc _, HB2.out.alloc _⟩
      case measure => simp [intOf]
    · clear hb hA hB HS
      go_wp2_with (first | (go_at_call 42; (first | refine (within_yes _ _ _ _ (by omega) (by omega)).mono ?_ | refine (within_no _ _ _ _ (by omega)).mono ?_); rintro e w' ⟨rfl, rfl⟩))
      go_roundw
      case rel => exact ⟨.inr (.inr ⟨rfl, ⟨h1, h2, h3, h4⟩, h5, h6, h7, h8⟩), HB.out.alloc HB.out.size _, HA.out.alloc _, HB2.out.alloc _⟩
      case measure => simp [intOf]
    · obtain ⟨t0, t1, tf, tl⟩ := hA
      obtain ⟨u0, u1, uf, ul⟩ := hB
      clear hb HS
      go_wp2
      go_region_held3 (fun w' => w'.cell? ⟨w.heap.size, 0, none⟩ = some (.int .i64 a1) ∧ w'.cell? ⟨w.heap.size, 1, none⟩ = some (.int .i64 a2) ∧ w'.cell? ⟨w.heap.size + 1, 0, none⟩ = some (.int .i64 b1) ∧ w'.cell? ⟨w.heap.size + 1, 1, none⟩ = some (.int .i64 b2))
        (go_keep) (first | (go_at_call 48; refine (distance_any _ _ _ (by omega) (by omega) (by omega) (by omega)).mono ?_; rintro e w' ⟨rfl, rfl⟩))
      all_goals
        go_wp2
        rw [HSP.out]
        go_loopw [9, 10] (fun l i wr => Ln2 w a1 a2 b1 b2 l i wr) (fun _ i _ => 64 - (intOf i).toNat)
        case atStart => exact ⟨0, none, 0, Nat.zero_le _, rfl, rfl, OwnC.none_, below_drewN HB.out 1, HA.out, HB2.out⟩
        case round =>
          clear HB HA HB2 t0 t1 tf tl u0 u1 uf ul
          obtain ⟨k, A, c, hk, rfl, rfl, ho, hb, hA, hB⟩ := hrel
          have HB := Lib.hid hb
          have HA := Lib.hid hA
          have HB2 := Lib.hid hB
          have HO := Lib.hid ho
          have hk63 : k ≤ 62 := by unfold lineN at hk; omega
          obtain ⟨t0, t1, tf, tl⟩ := hA
          obtain ⟨u0, u1, uf, ul⟩ := hB
          clear ho hb
          by_cases hlt : k < lineN a1 a2 b1 b2
          · have hkn : (k : Int) + 1 < span a1 a2 b1 b2 := by unfold lineN at hlt; omega
            have HBD := Lib.hid (lineC_bd hlt)
            have HLK := Lib.hid (lineK_succ a1 a2 b1 b2 k)
            have hC : lineC a1 a2 b1 b2 k = (lineAt a1 b1 (span a1 a2 b1 b2) ((k : Int) + 1), lineAt a2 b2 (span a1 a2 b1 b2) ((k : Int) + 1)) := rfl
            obtain ⟨n, hn⟩ : ∃ n, n = span a1 a2 b1 b2 := ⟨_, rfl⟩
            obtain ⟨I, hI⟩ : ∃ I, I = (k : Int) + 1 := ⟨_, rfl⟩
            rw [← hn, ← hI] at hC
            rw [← hn] at hkn hs0 hs1
            rw [← hI] at hkn
            have hI0 : 1 ≤ I := by omega
            have hI1 : I ≤ 63 := by omega
            rw [← hn, ← hI]
            have HIk := Lib.hid hI
            clear hn
            obtain ⟨X, hX⟩ : ∃ X, X = lineAt a1 b1 n I := ⟨_, rfl⟩
            obtain ⟨Y, hY⟩ : ∃ Y, Y = lineAt a2 b2 n I := ⟨_, rfl⟩
            rw [← hX, ← hY] at hC
            have bd := HBD.out
            rw [hC] at bd
            have x0 : 0 ≤ X := by simp only at bd; omega
            have x1 : X ≤ 63 := by simp only at bd; omega
            have y0 : 0 ≤ Y := by simp only at bd; omega
            have y1 : Y ≤ 63 := by simp only at bd; omega
            obtain ⟨P1, hP1⟩ : ∃ P1, 2 * I * (b1 - a1) = P1 := ⟨_, rfl⟩
            obtain ⟨P2, hP2⟩ : ∃ P2, 2 * I * (b2 - a2) = P2 := ⟨_, rfl⟩
            obtain ⟨p1, p2⟩ : -7938 ≤ P1 ∧ P1 ≤ 7938 := hP1 ▸ mul_bd (by omega) (by omega) (by omega) (by omega)
            obtain ⟨p3, p4⟩ : -7938 ≤ P2 ∧ P2 ≤ 7938 := hP2 ▸ mul_bd (by omega) (by omega) (by omega) (by omega)
            have g3 : IntKind.i64.wrap (2 * I * (b1 - a1)) = P1 := by rw [hP1, IntKind.wrap_i64]; omega
            have g4 : IntKind.i64.wrap (2 * I * (b2 - a2)) = P2 := by rw [hP2, IntKind.wrap_i64]; omega
            have qX : a1 + (P1 + n) / (2 * n) = X := by rw [hX, ← hP1]; rfl
            have qY : a2 + (P2 + n) / (2 * n) = Y := by rw [hY, ← hP2]; rfl
            have g1 : IntKind.i64.wrap (2 * I) = 2 * I := by rw [IntKind.wrap_i64]; omega
            have g2 : IntKind.i64.wrap (2 * n) = 2 * n := by rw [IntKind.wrap_i64]; omega
            have g5 : IntKind.i64.wrap (b1 - a1) = b1 - a1 := by rw [IntKind.wrap_i64]; omega
            have g6 : IntKind.i64.wrap (b2 - a2) = b2 - a2 := by rw [IntKind.wrap_i64]; omega
            have g7 : IntKind.i64.wrap (P1 + n) = P1 + n := by rw [IntKind.wrap_i64]; omega
            have g8 : IntKind.i64.wrap (P2 + n) = P2 + n := by rw [IntKind.wrap_i64]; omega
            have g9 : IntKind.i64.wrap (a1 + (P1 + n) / (2 * n)) = X := by rw [qX, IntKind.wrap_i64]; omega
            have ga : IntKind.i64.wrap (a2 + (P2 + n) / (2 * n)) = Y := by rw [qY, IntKind.wrap_i64]; omega
            have HC := Lib.hid hC
            have HPX := Lib.hid qX
            have HPY := Lib.hid qY
            have HOA : Hid (OwnC (wr.drew.alloc (.cells #[.int .i64 X, .int .i64 Y] 26)) (w.heap.size + 2) A k c (lineK a1 a2 b1 b2 k)) := OwnC.alloc (w := wr.drew) HO.out _
            have HNW : Hid (∀ j u, [Value.int .i64 X, .int .i64 Y][j]? = some u → (wr.drew.alloc (.cells #[.int .i64 X, .int .i64 Y] 26)).cell? ((⟨wr.heap.size, 0, none⟩ : Addr).add j) = some u) := World.news_of_block (MapKept.heap_alloc wr.drew (.cells #[.int .i64 X, .int .i64 Y] 26)).1
            have H1C : Hid (∀ u ∈ [Value.int .i64 X, .int .i64 Y], u.oneCell' = true) := fun u hu => by simp at hu; rcases hu with rfl | rfl <;> rfl
            have R0 : Hid (some w.heap.size ≠ (Value.slice A k c).ownBlock) := HO.out.row_ne (by omega)
            have R1 : Hid (some (w.heap.size + 1) ≠ (Value.slice A k c).ownBlock) := HO.out.row_ne (by omega)
            have XA : Hid (Box2 (wr.drew.alloc (.cells #[.int .i64 X, .int .i64 Y] 26)) w.heap.size (.int .i64 a1) (.int .i64 a2)) := Box2.alloc (w := wr.drew) HA.out _
            have XB : Hid (Box2 (wr.drew.alloc (.cells #[.int .i64 X, .int .i64 Y] 26)) (w.heap.size + 1) (.int .i64 b1) (.int .i64 b2)) := Box2.alloc (w := wr.drew) HB2.out _
            have HBA : Hid (Below w.heap.size w (wr.drew.alloc (.cells #[.int .i64 X, .int .i64 Y] 26))) := (HB.out.drew).alloc (by show w.heap.size ≤ wr.heap.size; omega) _
            clear hX hY hC hP1 hP2 qX qY bd HBD hI
            go_wp2
            go_region_held3 (fun w' => w'.cell? ⟨w.heap.size, 0, none⟩ = some (.int .i64 a1) ∧ w'.cell? ⟨w.heap.size, 1, none⟩ = some (.int .i64 a2) ∧ w'.cell? ⟨w.heap.size + 1, 0, none⟩ = some (.int .i64 b1) ∧ w'.cell? ⟨w.heap.size + 1, 1, none⟩ = some (.int .i64 b2))
              (first | go_keep | exact ⟨by assumption, by assumption, by assumption, by assumption⟩)
              (first | (go_at_call 49; refine (divide_any _ _ _ (by omega) (by omega) (by omega) (by omega)).mono ?_; rintro e w' ⟨rfl, rfl⟩) | (refine step_append_lies _ (by rfl) (.tmp 44) (.tmp 78) 47 (by rfl) (w.heap.size + 2) 26 i0 (.agg #[.int .i64 0, .int .i64 0]) 2 16 Try.underlying47 hi0 hz0 hz1 hz2 rfl (by omega) (.slice A k c) k (flatC (lineK a1 a2 b1 b2 k)) (by rfl) HOA.out ⟨wr.heap.size, 0, none⟩ 1 1 [.int .i64 X, .int .i64 Y] (by rfl) rfl HNW.out H1C.out (by omega) (by unfold maxLen; omega) (by omega) (by show w.heap.size + 2 ≤ _; simp; omega) (wr.heap.size + 1) (by simp) ?_; intro g cap w1 hown hg hat hgl; have t0 := (cell_grown hg 0 XA.out.lt R0.out).trans XA.out.1; have t1 := (cell_grown hg 1 XA.out.lt R0.out).trans XA.out.2.1; have u0 := (cell_grown hg 0 XB.out.lt R1.out).trans XB.out.1; have u1 := (cell_grown hg 1 XB.out.lt R1.out).trans XB.out.2.1; have HOW := Lib.hid hown; have HG := Lib.hid hg; have HAT := Lib.hid hat; clear hown hat hg))
            all_goals
              have HFIN : Hid (Ln2 w a1 a2 b1 b2 (.slice (some ⟨g, 0, none⟩) (k + 1) cap) (.int .i64 (I + 1)) w1) :=
                ⟨k + 1, _, _, by omega, rfl, by rw [HIk.out]; congr 1, by rw [HLK.out, HC.out]; show World.ownsRow _ _ _ _ _ _ _; rw [flatC_append]; exact HOW.out,
                  HBA.out.grown HG.out (by simp; omega) (fun j e => by have := HO.out.row_ge j e; omega), XA.out.grown HG.out R0.out, XB.out.grown HG.out R1.out⟩
              clear g1 g2 g3 g4 g5 g6 g7 g8 g9 ga
              go_wp2
              go_roundw
              case rel => exact HFIN.out
              case measure => simp [intOf]; omega
          · obtain rfl : k = lineN a1 a2 b1 b2 := by omega
            have hge : decide ((lineN a1 a2 b1 b2 : Int) + 1 < span a1 a2 b1 b2) = false := decide_eq_false (by unfold lineN; omega)
            go_wp2
            go_ret2
            exact ⟨A, _, c, rfl, HO.out.less (by omega), HB.out⟩

set_option maxHeartbeats 2000000 in
theorem refLine_yes (a1 a2 b1 b2 : Int) (w : World) (ha : 0 ≤ a1 ∧ a1 ≤ 63 ∧ 0 ≤ a2 ∧ a2 ≤ 63) (hb : 0 ≤ b1 ∧ b1 ≤ 63 ∧ 0 ≤ b2 ∧ b2 ≤ 63) : Calls Try.prog 32 #[.agg #[.int .i64 a1, .int .i64 a2], .agg #[.int .i64 b1, .int .i64 b2]] w (LineR1 w (lineL a1 a2 b1 b2)) := by
  have HS := Lib.hid (ln_start w a1 a2 b1 b2)
  obtain ⟨h1, h2, h3, h4⟩ := ha
  obtain ⟨h5, h6, h7, h8⟩ := hb
  have hs0 := span_nonneg a1 a2 b1 b2
  obtain ⟨i0, hi0, hz0, hz1, hz2⟩ := info_parts info26
  have hs1 := span_le h1 h2 h3 h4 h5 h6 h7 h8
  go_enter Try.func32, Try.ntmps32
  go_wp2_with fail
  obtain ⟨W0, hW0⟩ : ∃ W0, W0 = ((w.alloc (.cells #[.int .i64 a1, .int .i64 a2] 26)).alloc (.cells #[.int .i64 b1, .int .i64 b2] 26)) := ⟨_, rfl⟩
  rw [← hW0] at HS
  rw [← hW0]
  clear hW0
  refine (span_any a1 a2 b1 b2 W0 h1 (by omega) h3 (by omega) h5 (by omega) h7 (by omega)).mono ?_
  rintro e w1 ⟨rfl, hb1⟩
  have HS1 : Hid (Below w.heap.size w w1 ∧ Box2 w1 w.heap.size (.int .i64 a1) (.int .i64 a2) ∧ Box2 w1 (w.heap.size + 1) (.int .i64 b1) (.int .i64 b2)) := ⟨chain HS.out.1 hb1, HS.out.2.1.next hb1, HS.out.2.2.next hb1⟩
  clear hb1 HS
  go_wp2
  go_loopw [5, 7] (fun l i wr => Ln2 w a1 a2 b1 b2 l i wr) (fun _ i _ => 64 - (intOf i).toNat)
  case atStart => exact ⟨0, none, 0, Nat.zero_le _, rfl, rfl, OwnC.none_, HS1.out⟩
  case round =>
    clear HS1
    obtain ⟨k, A, c, hk, rfl, rfl, ho, hb, hA, hB⟩ := hrel
    have HB := Lib.hid hb
    have HA := Lib.hid hA
    have HB2 := Lib.hid hB
    have HO := Lib.hid ho
    have hk63 : k ≤ 62 := by unfold lineN at hk; omega
    obtain ⟨t0, t1, tf, tl⟩ := hA
    obtain ⟨u0, u1, uf, ul⟩ := hB
    clear ho hb
    by_cases hlt : k < lineN a1 a2 b1 b2
    · have hkn : (k : Int) + 1 < span a1 a2 b1 b2 := by unfold lineN at hlt; omega
      have HBD := Lib.hid (lineC_bd hlt)
      have HLK := Lib.hid (lineK_succ a1 a2 b1 b2 k)
      have hC : lineC a1 a2 b1 b2 k = (lineAt a1 b1 (span a1 a2 b1 b2) ((k : Int) + 1), lineAt a2 b2 (span a1 a2 b1 b2) ((k : Int) + 1)) := rfl
      obtain ⟨n, hn⟩ : ∃ n, n = span a1 a2 b1 b2 := ⟨_, rfl⟩
      obtain ⟨I, hI⟩ : ∃ I, I = (k : Int) + 1 := ⟨_, rfl⟩
      rw [← hn, ← hI] at hC
      rw [← hn] at hkn hs0 hs1
      rw [← hI] at hkn
      have hI0 : 1 ≤ I := by omega
      have hI1 : I ≤ 63 := by omega
      rw [← hn, ← hI]
      have HIk := Lib.hid hI
      clear hn
      obtain ⟨X, hX⟩ : ∃ X, X = lineAt a1 b1 n I := ⟨_, rfl⟩
      obtain ⟨Y, hY⟩ : ∃ Y, Y = lineAt a2 b2 n I := ⟨_, rfl⟩
      rw [← hX, ← hY] at hC
      have bd := HBD.out
      rw [hC] at bd
      have x0 : 0 ≤ X := by simp only at bd; omega
      have x1 : X ≤ 63 := by simp only at bd; omega
      have y0 : 0 ≤ Y := by simp only at bd; omega
      have y1 : Y ≤ 63 := by simp only at bd; omega
      obtain ⟨P1, hP1⟩ : ∃ P1, 2 * I * (b1 - a1) = P1 := ⟨_, rfl⟩
      obtain ⟨P2, hP2⟩ : ∃ P2, 2 * I * (b2 - a2) = P2 := ⟨_, rfl⟩
      obtain ⟨p1, p2⟩ : -7938 ≤ P1 ∧ P1 ≤ 7938 := hP1 ▸ mul_bd (by omega) (by omega) (by omega) (by omega)
      obtain ⟨p3, p4⟩ : -7938 ≤ P2 ∧ P2 ≤ 7938 := hP2 ▸ mul_bd (by omega) (by omega) (by omega) (by omega)
      have g3 : IntKind.i64.wrap (2 * I * (b1 - a1)) = P1 := by rw [hP1, IntKind.wrap_i64]; omega
      have g4 : IntKind.i64.wrap (2 * I * (b2 - a2)) = P2 := by rw [hP2, IntKind.wrap_i64]; omega
      have qX : a1 + (P1 + n) / (2 * n) = X := by rw [hX, ← hP1]; rfl
      have qY : a2 + (P2 + n) / (2 * n) = Y := by rw [hY, ← hP2]; rfl
      have g1 : IntKind.i64.wrap (2 * I) = 2 * I := by rw [IntKind.wrap_i64]; omega
      have g2 : IntKind.i64.wrap (2 * n) = 2 * n := by rw [IntKind.wrap_i64]; omega
      have g5 : IntKind.i64.wrap (b1 - a1) = b1 - a1 := by rw [IntKind.wrap_i64]; omega
      have g6 : IntKind.i64.wrap (b2 - a2) = b2 - a2 := by rw [IntKind.wrap_i64]; omega
      have g7 : IntKind.i64.wrap (P1 + n) = P1 + n := by rw [IntKind.wrap_i64]; omega
      have g8 : IntKind.i64.wrap (P2 + n) = P2 + n := by rw [IntKind.wrap_i64]; omega
      have g9 : IntKind.i64.wrap (a1 + (P1 + n) / (2 * n)) = X := by rw [qX, IntKind.wrap_i64]; omega
      have ga : IntKind.i64.wrap (a2 + (P2 + n) / (2 * n)) = Y := by rw [qY, IntKind.wrap_i64]; omega
      have HC := Lib.hid hC
      have HPX := Lib.hid qX
      have HPY := Lib.hid qY
      have HOA : Hid (OwnC (wr.drew.alloc (.cells #[.int .i64 X, .int .i64 Y] 26)) (w.heap.size + 2) A k c (lineK a1 a2 b1 b2 k)) := OwnC.alloc (w := wr.drew) HO.out _
      have HNW : Hid (∀ j u, [Value.int .i64 X, .int .i64 Y][j]? = some u → (wr.drew.alloc (.cells #[.int .i64 X, .int .i64 Y] 26)).cell? ((⟨wr.heap.size, 0, none⟩ : Addr).add j) = some u) := World.news_of_block (MapKept.heap_alloc wr.drew (.cells #[.int .i64 X, .int .i64 Y] 26)).1
      have H1C : Hid (∀ u ∈ [Value.int .i64 X, .int .i64 Y], u.oneCell' = true) := fun u hu => by simp at hu; rcases hu with rfl | rfl <;> rfl
      have R0 : Hid (some w.heap.size ≠ (Value.slice A k c).ownBlock) := HO.out.row_ne (by omega)
      have R1 : Hid (some (w.heap.size + 1) ≠ (Value.slice A k c).ownBlock) := HO.out.row_ne (by omega)
      have XA : Hid (Box2 (wr.drew.alloc (.cells #[.int .i64 X, .int .i64 Y] 26)) w.heap.size (.int .i64 a1) (.int .i64 a2)) := Box2.alloc (w := wr.drew) HA.out _
      have XB : Hid (Box2 (wr.drew.alloc (.cells #[.int .i64 X, .int .i64 Y] 26)) (w.heap.size + 1) (.int .i64 b1) (.int .i64 b2)) := Box2.alloc (w := wr.drew) HB2.out _
      have HBA : Hid (Below w.heap.size w (wr.drew.alloc (.cells #[.int .i64 X, .int .i64 Y] 26))) := (HB.out.drew).alloc (by show w.heap.size ≤ wr.heap.size; omega) _
      clear hX hY hC hP1 hP2 qX qY bd HBD hI
      go_wp2
      go_region_held3 (fun w' => w'.cell? ⟨w.heap.size, 0, none⟩ = some (.int .i64 a1) ∧ w'.cell? ⟨w.heap.size, 1, none⟩ = some (.int .i64 a2) ∧ w'.cell? ⟨w.heap.size + 1, 0, none⟩ = some (.int .i64 b1) ∧ w'.cell? ⟨w.heap.size + 1, 1, none⟩ = some (.int .i64 b2))
        (first | go_keep | exact ⟨by assumption, by assumption, by assumption, by assumption⟩)
        (first | (go_at_call 51; refine (floor_any _ _ _ (by omega) (by omega) (by omega) (by omega)).mono ?_; rintro e w' ⟨rfl, rfl⟩) | (refine step_append_lies _ (by rfl) (.tmp 16) (.tmp 50) 47 (by rfl) (w.heap.size + 2) 26 i0 (.agg #[.int .i64 0, .int .i64 0]) 2 16 Try.underlying47 hi0 hz0 hz1 hz2 rfl (by omega) (.slice A k c) k (flatC (lineK a1 a2 b1 b2 k)) (by rfl) HOA.out ⟨wr.heap.size, 0, none⟩ 1 1 [.int .i64 X, .int .i64 Y] (by rfl) rfl HNW.out H1C.out (by omega) (by unfold maxLen; omega) (by omega) (by show w.heap.size + 2 ≤ _; simp; omega) (wr.heap.size + 1) (by simp) ?_; intro g cap w1 hown hg hat hgl; have t0 := (cell_grown hg 0 XA.out.lt R0.out).trans XA.out.1; have t1 := (cell_grown hg 1 XA.out.lt R0.out).trans XA.out.2.1; have u0 := (cell_grown hg 0 XB.out.lt R1.out).trans XB.out.1; have u1 := (cell_grown hg 1 XB.out.lt R1.out).trans XB.out.2.1; have HOW := Lib.hid hown; have HG := Lib.hid hg; have HAT := Lib.hid hat; clear hown hat hg))
      all_goals
        have HFIN : Hid (Ln2 w a1 a2 b1 b2 (.slice (some ⟨g, 0, none⟩) (k + 1) cap) (.int .i64 (I + 1)) w1) :=
          ⟨k + 1, _, _, by omega, rfl, by rw [HIk.out]; congr 1, by rw [HLK.out, HC.out]; show World.ownsRow _ _ _ _ _ _ _; rw [flatC_append]; exact HOW.out,
            HBA.out.grown HG.out (by simp; omega) (fun j e => by have := HO.out.row_ge j e; omega), XA.out.grown HG.out R0.out, XB.out.grown HG.out R1.out⟩
        clear g1 g2 g3 g4 g5 g6 g7 g8 g9 ga
        go_wp2
        go_roundw
        case rel => exact HFIN.out
        case measure => simp [intOf]; omega
    · obtain rfl : k = lineN a1 a2 b1 b2 := by omega
      have hge : decide ((lineN a1 a2 b1 b2 : Int) + 1 < span a1 a2 b1 b2) = false := decide_eq_false (by unfold lineN; omega)
      go_wp2
      go_ret
      exact ⟨A, _, c, rfl, HO.out.less (by omega), HB.out⟩
end Go.Proofs.Ytpoceidbiamgaaa
