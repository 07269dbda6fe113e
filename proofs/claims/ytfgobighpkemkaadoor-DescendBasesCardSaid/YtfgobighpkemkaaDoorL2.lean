/- The walk of bandplanlaw29.DescendBases. -/
import Derived.Test.YtfgobighpkemkaaDoorWo
import Derived.Test.YtfgobighpkemkaaDoorWk
namespace Go.Proofs.YtfgobighpkemkaaDoor
open Go.RowKit

theorem basesV_len (O b r : Int) : (basesV O b r).length ≤ 199 := by
  unfold basesV
  split
  · rename_i hv
    obtain ⟨v1, _, v3, v4, _, _⟩ := (vB_iff O b r).1 hv
    exact bases_len v1 v3 v4
  · simp
theorem refBases_any (O b r : Int) (w : World) : Calls Tryd.prog 22 #[.agg #[.int .i64 O, .int .i64 b, .int .i64 r]] w (SlR w (basesV O b r)) := by
  unfold basesV
  split
  · rename_i hv; exact refBases_yes O b r w hv
  · rename_i hv; exact refBases_no O b r w (by simpa using hv)

set_option maxRecDepth 100000 in
set_option maxHeartbeats 1000000 in
theorem law6 (O b r many : Int) (w : World) (hw : Wor w) (hmm : (Lit.int .i64 many).wf = true) : Calls Tryd.prog 6 #[.agg #[.int .i64 O, .int .i64 b, .int .i64 r], .int .i64 many] w (KnownOk w) := by
  simp only [Lit.wf, IntKind.min, IntKind.max, IntKind.signed, IntKind.bits, Bool.and_eq_true, decide_eq_true_eq, if_true] at hmm
  have m0 : -9223372036854775808 ≤ many := by omega
  have m1 : many < 9223372036854775808 := by omega
  clear hmm
  have B0 := (Below.refl w.heap.size w).alloc (Nat.le_refl _) (.cells #[.int .i64 O, .int .i64 b, .int .i64 r] 23)
  have q0 := hw.next B0
  have l0 : w.heap.size < (w.alloc (.cells #[.int .i64 O, .int .i64 b, .int .i64 r] 23)).heap.size := by simp
  have c0 : (w.alloc (.cells #[.int .i64 O, .int .i64 b, .int .i64 r] 23)).cell? ⟨w.heap.size, 0, none⟩ = some (.int .i64 O) := by go_simp
  have c1 : (w.alloc (.cells #[.int .i64 O, .int .i64 b, .int .i64 r] 23)).cell? ⟨w.heap.size, 1, none⟩ = some (.int .i64 b) := by go_simp
  have c2 : (w.alloc (.cells #[.int .i64 O, .int .i64 b, .int .i64 r] 23)).cell? ⟨w.heap.size, 2, none⟩ = some (.int .i64 r) := by go_simp
  go_enter Tryd.func6, Tryd.ntmps6
  go_wp2_with fail
  obtain ⟨W0, hW0⟩ : ∃ W0, W0 = w.alloc (.cells #[.int .i64 O, .int .i64 b, .int .i64 r] 23) := ⟨_, rfl⟩
  rw [← hW0] at B0 q0 l0 c0 c1 c2 ⊢
  clear hW0
  have e0 : (W0.alloc (.cells #[.int .i64 O, .int .i64 b, .int .i64 r] 23)).cell? ⟨W0.heap.size, 0, none⟩ = some (.int .i64 O) := by go_simp
  have e1 : (W0.alloc (.cells #[.int .i64 O, .int .i64 b, .int .i64 r] 23)).cell? ⟨W0.heap.size, 1, none⟩ = some (.int .i64 b) := by go_simp
  have e2 : (W0.alloc (.cells #[.int .i64 O, .int .i64 b, .int .i64 r] 23)).cell? ⟨W0.heap.size, 2, none⟩ = some (.int .i64 r) := by go_simp
  refine (basesF_any O b r _).mono ?_
  rintro e w1 ⟨rfl, hw1⟩
  have hb : Below W0.heap.size W0 w1 := by rw [← hw1]; exact (Below.refl _ _).alloc (Nat.le_refl _) _
  rw [hw1] at e0
  rw [hw1] at e1
  rw [hw1] at e2
  have le : W0.heap.size < w1.heap.size := by rw [← hw1]; simp
  have d0 := gcell hb l0 c0
  have d1 := gcell hb l0 c1
  have d2 := gcell hb l0 c2
  have B1 := chain B0 hb
  have q1 := q0.next hb
  clear hw1 hb B0 q0 c0 c1 c2 l0
  go_wp2_with fail
  refine (refBases_any O b r _).mono ?_
  rintro e w2 ⟨A, n, c, rfl, hown, hb⟩
  have g0 := gcell hb le e0
  have g1 := gcell hb le e1
  have g2 := gcell hb le e2
  have l2 := Nat.lt_of_lt_of_le le hb.size
  have hI := hown.ints
  have hn : n ≤ 199 := by have := basesV_len O b r; rw [hown.len] at this; exact this
  have B2 := chain B1 hb
  have q2 := q1.next hb
  clear hb B1 q1 d0 d1 d2 e0 e1 e2 le
  have HI := Lib.hid hI
  have C1 := Lib.hid (over_any O b r many w2 _ l2 A n c hI hn m0 m1 g0 g1 g2)
  have HN := Lib.hid (fun (w3 : World) (hb3 : Below w2.heap.size w2 w3) => over_any O b r 1000 w3 _ (Nat.lt_of_lt_of_le l2 hb3.size) A n c (hI.next hb3) hn (by omega) (by omega) (gcell hb3 l2 g0) (gcell hb3 l2 g1) (gcell hb3 l2 g2))
  have Q2 := Lib.hid q2
  clear q2 hI hown g0 g1 g2
  go_wp2_with fail
  refine C1.out.mono ?_
  rintro e w3 ⟨rfl, hb3⟩
  have C2 := Lib.hid (HN.out w3 hb3)
  have B3 := Lib.hid (chain B2 hb3)
  have Q3 := Lib.hid (Q2.out.next hb3)
  clear C1 HN hb3 B2 HI Q2
  go_wp2_with fail
  refine C2.out.mono ?_
  rintro e w4 ⟨rfl, hb4⟩
  have B4 := Lib.hid (chain B3.out hb4)
  have Q4 := Lib.hid (Q3.out.next hb4)
  clear C2 hb4 B3 Q3
  go_wp2_with fail
  refine (known_any _ Q4.out).mono ?_
  rintro e w5 ⟨rfl, hb5⟩
  go_wp2
  go_ret
  exact ⟨rfl, chain B4.out hb5⟩
end Go.Proofs.YtfgobighpkemkaaDoor
