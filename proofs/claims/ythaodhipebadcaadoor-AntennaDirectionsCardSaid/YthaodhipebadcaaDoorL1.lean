/- The walk of bandplanlaw12.AntennaDirections: it returns true for any two ints, in a world whose variable quadrants is laid. -/
import Derived.Test.YthaodhipebadcaaDoorW7
namespace Go.Proofs.YthaodhipebadcaaDoor
open Go.RowKit

set_option maxHeartbeats 400000 in
theorem law3 (dx dy : Int) (w : World) (hq : Quad w) : Calls Tryd.prog 3 #[.int .i64 dx, .int .i64 dy] w (KnownOk w) := by
  by_cases hx : farB dx = true
  · go_enter Tryd.func3, Tryd.ntmps3
    go_wp2_with fail
    refine (dir_far dx dy _ (.inl hx)).mono ?_
    rintro e w1 ⟨rfl, hb1⟩
    go_wp2_with (go_at_call 11; refine (far_any _ _).mono ?_; rintro e w' ⟨rfl, rfl⟩)
    refine (known_any _ (hq.below hb1 hq.pos)).mono ?_
    rintro e w2 ⟨rfl, hb2⟩
    go_wp2
    go_ret
    exact ⟨rfl, chain hb1 hb2⟩
  · have hx' : farB dx = false := by simpa using hx
    clear hx
    by_cases hy : farB dy = true
    · go_enter Tryd.func3, Tryd.ntmps3
      go_wp2_with fail
      refine (dir_far dx dy _ (.inr hy)).mono ?_
      rintro e w1 ⟨rfl, hb1⟩
      go_wp2_with (go_at_call 11; refine (far_any _ _).mono ?_; rintro e w' ⟨rfl, rfl⟩)
      refine (known_any _ (hq.below hb1 hq.pos)).mono ?_
      rintro e w2 ⟨rfl, hb2⟩
      go_wp2
      go_ret
      exact ⟨rfl, chain hb1 hb2⟩
    · have hy' : farB dy = false := by simpa using hy
      clear hy
      by_cases h0 : dx = 0 ∧ dy = 0
      · obtain ⟨rfl, rfl⟩ := h0
        go_enter Tryd.func3, Tryd.ntmps3
        go_wp2_with fail
        refine (dir_zero _ hq).mono ?_
        rintro e w1 ⟨rfl, hb1⟩
        go_wp2_with (go_at_call 11; refine (far_any _ _).mono ?_; rintro e w' ⟨rfl, rfl⟩)
        refine (known_any _ (hq.below hb1 hq.pos)).mono ?_
        rintro e w2 ⟨rfl, hb2⟩
        go_wp2
        go_ret
        exact ⟨rfl, chain hb1 hb2⟩
      · have H0 := Lib.hid h0
        have hz : ((dx == 0) = false) ∨ ((dx == 0) = true ∧ (dy == 0) = false) := by
          by_cases hx : dx = 0
          · right; refine ⟨by simp [hx], ?_⟩; rw [beq_eq_false_iff_ne]; rintro rfl; exact h0 ⟨hx, rfl⟩
          · left; simpa using hx
        clear h0
        rcases hz with hz | ⟨hz, hz2⟩
        all_goals
          go_enter Tryd.func3, Tryd.ntmps3
          go_wp2_with fail
          refine (dir_yes dx dy _ hq hx' hy' H0.out).mono ?_
          rintro e w1 ⟨rfl, hb1⟩
          go_wp2_with (first | (go_at_call 11; refine (far_any _ _).mono ?_; rintro e w' ⟨rfl, rfl⟩) | (go_at_call 13; refine (refDir_any _ _ _ hx' hy' H0.out).mono ?_; rintro e w' ⟨rfl, rfl⟩))
          refine (known_any _ (hq.below hb1 hq.pos)).mono ?_
          rintro e w2 ⟨rfl, hb2⟩
          go_wp2
          go_ret
          exact ⟨rfl, chain hb1 hb2⟩
end Go.Proofs.YthaodhipebadcaaDoor
