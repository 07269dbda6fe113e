/- Contracts of package score and bandplanref28: Offer. -/
import Derived.Test.YtfgobighpkemkaaDoorW1
namespace Go.Proofs.YtfgobighpkemkaaDoor
open Go.RowKit

/-- The table's block. -/
def worCells : Array Value := #[.int .i64 0, .int .i64 250, .int .i64 600, .int .i64 1000]
def Wor (w : World) : Prop := ∃ t fr, w.heap[0]? = some (.cells worCells t fr)
theorem Wor.pos {w : World} (h : Wor w) : 0 < w.heap.size := by
  obtain ⟨t, fr, h⟩ := h
  rcases Nat.lt_or_ge 0 w.heap.size with hlt | hge
  · exact hlt
  · rw [Array.getElem?_eq_none hge] at h; cases h
theorem Wor.below {w w' : World} {B : Nat} (h : Wor w) (hb : Below B w w') (hB : 0 < B) : Wor w' := by
  obtain ⟨t, fr, h⟩ := h
  exact ⟨t, fr, (hb.block 0 hB).trans h⟩
theorem Wor.next {w w' : World} (h : Wor w) (hb : Below w.heap.size w w') : Wor w' := h.below hb h.pos
def worth (h : Int) : Int := if h = 1 then 250 else if h = 2 then 600 else if h = 3 then 1000 else 0
theorem worth_bd (h : Int) : 0 ≤ worth h ∧ worth h ≤ 1000 := by unfold worth; repeat' split <;> omega
theorem worth_mono {h o : Int} (h1 : 1 ≤ h) (h3 : h ≤ 3) (o0 : 0 ≤ o) (oh : o ≤ h) : worth o ≤ worth h := by
  unfold worth; repeat' split <;> omega
theorem Wor.cell {w : World} (h : Wor w) {k : Int} (h0 : 0 ≤ k) (h3 : k ≤ 3) : w.cell? ⟨0, k.toNat, none⟩ = some (.int .i64 (worth k)) := by
  obtain ⟨t, fr, h⟩ := h
  have hk : k = 0 ∨ k = 1 ∨ k = 2 ∨ k = 3 := by omega
  rcases hk with rfl | rfl | rfl | rfl <;> (simp [World.cell?, h, worCells, worth])

def redOk (h o : Int) : Prop := 1 ≤ h ∧ h ≤ 3 ∧ 0 ≤ o ∧ o ≤ h
def homB (h : Int) : Bool := decide (1 ≤ h ∧ h ≤ 3)

set_option maxHeartbeats 400000 in
theorem isHome_any (h : Int) (w : World) : Calls Tryd.prog 40 #[.int .i64 h] w fun e w' => e = .returned (.bool (homB h)) ∧ w = w' := by
  by_cases h1 : 1 ≤ h
  · go_enter Tryd.func40, Tryd.ntmps40
    go_wp2
    go_ret
    exact ⟨ret_bool (by simp [homB, h1]), rfl⟩
  · go_enter Tryd.func40, Tryd.ntmps40
    go_wp2
    go_ret
    exact ⟨ret_bool (by simp [homB]; omega), rfl⟩
set_option maxHeartbeats 400000 in
theorem home_any (h : Int) (w : World) : Calls Tryd.prog 38 #[.int .i64 h] w fun e w' => e = .returned (.bool (homB h)) ∧ w = w' := by
  by_cases h1 : 1 ≤ h
  · go_enter Tryd.func38, Tryd.ntmps38
    go_wp2
    go_ret
    exact ⟨ret_bool (by simp [homB, h1]), rfl⟩
  · go_enter Tryd.func38, Tryd.ntmps38
    go_wp2
    go_ret
    exact ⟨ret_bool (by simp [homB]; omega), rfl⟩
set_option maxHeartbeats 400000 in
theorem worth_any (h : Int) (w : World) : Calls Tryd.prog 39 #[.int .i64 h] w fun e w' => e = .returned (.int .i64 (worth h)) ∧ w = w' := by
  by_cases h1 : h = 1
  · subst h1
    go_enter Tryd.func39, Tryd.ntmps39
    go_wp2
    go_ret
    exact ⟨rfl, rfl⟩
  · have e1 : (h == 1) = false := by simpa using h1
    by_cases h2 : h = 2
    · subst h2
      clear h1
      go_enter Tryd.func39, Tryd.ntmps39
      go_wp2
      go_ret
      exact ⟨rfl, rfl⟩
    · have e2 : (h == 2) = false := by simpa using h2
      by_cases h3 : h = 3
      · subst h3
        clear h1 h2
        go_enter Tryd.func39, Tryd.ntmps39
        go_wp2
        go_ret
        exact ⟨rfl, rfl⟩
      · have e3 : (h == 3) = false := by simpa using h3
        have ew : worth h = 0 := by unfold worth; rw [if_neg h1, if_neg h2, if_neg h3]
        rw [ew]
        clear h1 h2 h3 ew
        go_enter Tryd.func39, Tryd.ntmps39
        go_wp2
        go_ret
        exact ⟨rfl, rfl⟩

def redNo (h o : Int) : Prop := homB h = false ∨ (homB h = true ∧ o < 0) ∨ (homB h = true ∧ 0 ≤ o ∧ h < o)
theorem red_cases (h o : Int) : redOk h o ∨ redNo h o := by
  unfold redOk redNo
  by_cases hh : 1 ≤ h ∧ h ≤ 3
  · have e : homB h = true := by simp [homB, hh]
    by_cases c1 : o < 0
    · exact .inr (.inr (.inl ⟨e, c1⟩))
    · by_cases c2 : h < o
      · exact .inr (.inr (.inr ⟨e, by omega, c2⟩))
      · exact .inl ⟨hh.1, hh.2, by omega, by omega⟩
  · exact .inr (.inl (by simp only [homB, decide_eq_false_iff_not]; exact hh))

set_option maxHeartbeats 400000 in
theorem red_no (h o : Int) (w : World) (hn : redNo h o) : Calls Tryd.prog 37 #[.int .i64 h, .int .i64 o] w fun e w' => e = .returned (.tuple #[.int .i64 0, .int .i64 2]) ∧ Below w.heap.size w w' := by
  rcases hn with hn | ⟨hn, k⟩ | ⟨hn, k, k2⟩
  all_goals
    go_enter Tryd.func37, Tryd.ntmps37
    go_wp2_with (go_at_call 40; refine (isHome_any _ _).mono ?_; rintro e w' ⟨rfl, rfl⟩)
    go_ret2
    exact ⟨rfl, Below.refl _ _⟩
set_option maxHeartbeats 400000 in
theorem refRed_no (h o : Int) (w : World) (hn : redNo h o) : Calls Tryd.prog 35 #[.int .i64 h, .int .i64 o] w fun e w' => e = .returned (.tuple #[.int .i64 0, .int .i64 2]) ∧ w = w' := by
  rcases hn with hn | ⟨hn, k⟩ | ⟨hn, k, k2⟩
  all_goals
    go_enter Tryd.func35, Tryd.ntmps35
    go_wp2_with (go_at_call 38; refine (home_any _ _).mono ?_; rintro e w' ⟨rfl, rfl⟩)
    go_ret2
    exact ⟨rfl, rfl⟩
set_option maxHeartbeats 400000 in
theorem red_yes (h o : Int) (w : World) (hw : Wor w) (ho : redOk h o) : Calls Tryd.prog 37 #[.int .i64 h, .int .i64 o] w fun e w' => e = .returned (.tuple #[.int .i64 (worth h - worth o), .int .i64 0]) ∧ Below w.heap.size w w' := by
  obtain ⟨h1, h2, h3, h4⟩ := ho
  have e : homB h = true := by simp [homB, h1, h2]
  have c1 := hw.cell (k := h) (by omega) h2
  have c2 := hw.cell (k := o) h3 (by omega)
  have b1 := (worth_bd h).1
  have b2 := (worth_bd h).2
  have b3 := (worth_bd o).1
  have b4 := (worth_bd o).2
  have h0 : 0 ≤ h := by omega
  have hl : h < 4 := by omega
  have ol : o < 4 := by omega
  have e1 : IntKind.i64.wrap (worth h - worth o) = worth h - worth o := IntWalk.i64_in _ (by omega)
  go_enter Tryd.func37, Tryd.ntmps37
  go_wp2_with (go_at_call 40; refine (isHome_any _ _).mono ?_; rintro e w' ⟨rfl, rfl⟩)
  go_quiet (fail)
  go_wp2
  go_ret2
  exact ⟨rfl, below_drewN (Below.refl _ _) _⟩
set_option maxHeartbeats 400000 in
theorem refRed_yes (h o : Int) (w : World) (ho : redOk h o) : Calls Tryd.prog 35 #[.int .i64 h, .int .i64 o] w fun e w' => e = .returned (.tuple #[.int .i64 (worth h - worth o), .int .i64 0]) ∧ w = w' := by
  obtain ⟨h1, h2, h3, h4⟩ := ho
  have e : homB h = true := by simp [homB, h1, h2]
  have b1 := (worth_bd h).1
  have b2 := (worth_bd h).2
  have b3 := (worth_bd o).1
  have b4 := (worth_bd o).2
  go_enter Tryd.func35, Tryd.ntmps35
  go_wp2_with (first | (go_at_call 38; refine (home_any _ _).mono ?_; rintro e w' ⟨rfl, rfl⟩) | (go_at_call 39; refine (worth_any _ _).mono ?_; rintro e w' ⟨rfl, rfl⟩))
  go_ret2
  exact ⟨rfl, rfl⟩
end Go.Proofs.YtfgobighpkemkaaDoor
