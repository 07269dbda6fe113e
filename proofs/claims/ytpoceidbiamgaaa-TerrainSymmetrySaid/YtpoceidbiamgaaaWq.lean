/- Plain laws: the cells that a filter finds are the rectangle's; totals of rectangles. -/
import Derived.Test.YtpoceidbiamgaaaWp
set_option linter.unusedVariables false
set_option linter.unusedSimpArgs false
namespace Go.Proofs.Ytpoceidbiamgaaa

theorem filter_mid (lo cnt N : Nat) (h : lo + cnt ≤ N) : (List.range N).filter (fun i => decide (lo ≤ i ∧ i < lo + cnt)) = (List.range cnt).map (lo + ·) := by
  obtain ⟨d, rfl⟩ : ∃ d, N = lo + cnt + d := ⟨N - (lo + cnt), by omega⟩
  rw [List.range_add, List.range_add, List.filter_append, List.filter_append]
  have e1 : (List.range lo).filter (fun i => decide (lo ≤ i ∧ i < lo + cnt)) = [] := by
    rw [List.filter_eq_nil_iff]; intro a ha; simp at ha; simp; omega
  have e2 : ((List.range cnt).map (lo + ·)).filter (fun i => decide (lo ≤ i ∧ i < lo + cnt)) = (List.range cnt).map (lo + ·) := by
    rw [List.filter_eq_self]; intro a ha; simp at ha; obtain ⟨b, hb, rfl⟩ := ha; simp; omega
  have e3 : ((List.range d).map (lo + cnt + ·)).filter (fun i => decide (lo ≤ i ∧ i < lo + cnt)) = [] := by
    rw [List.filter_eq_nil_iff]; intro a ha; simp at ha; obtain ⟨b, hb, rfl⟩ := ha; simp
  rw [e1, e2, e3]; simp
theorem flatMap_if {α : Type} (c : Nat → Bool) (f : Nat → List α) (l : List Nat) : l.flatMap (fun j => if c j then f j else []) = (l.filter c).flatMap f := by
  induction l with
  | nil => rfl
  | cons a l ih =>
    rw [List.flatMap_cons, List.filter_cons, ih]
    cases c a <;> simp
/-- Row by row. -/
theorem fil_rows (P : Nat → Bool) (w x0 nx y0 ny : Nat) (hx : x0 + nx ≤ w) (hP : ∀ j i, i < w → P (j * w + i) = (decide (x0 ≤ i ∧ i < x0 + nx) && decide (y0 ≤ j ∧ j < y0 + ny))) :
    ∀ h, (List.range (h * w)).filter P = (List.range h).flatMap fun j => if decide (y0 ≤ j ∧ j < y0 + ny) then (List.range nx).map (fun i => j * w + (x0 + i)) else []
  | 0 => by simp
  | h + 1 => by
    rw [Nat.succ_mul, List.range_add, List.filter_append, fil_rows P w x0 nx y0 ny hx hP h, List.range_succ, List.flatMap_append]
    congr 1
    rw [List.filter_map]
    simp only [List.flatMap_cons, List.flatMap_nil, List.append_nil]
    have e : (List.range w).filter (P ∘ fun x => h * w + x) = (List.range w).filter (fun i => decide (x0 ≤ i ∧ i < x0 + nx) && decide (y0 ≤ h ∧ h < y0 + ny)) := by
      apply List.filter_congr
      intro i hi
      exact hP h i (by simpa using hi)
    rw [e]
    by_cases hc : y0 ≤ h ∧ h < y0 + ny
    · have e2 : (fun i => decide (x0 ≤ i ∧ i < x0 + nx) && decide (y0 ≤ h ∧ h < y0 + ny)) = fun i => decide (x0 ≤ i ∧ i < x0 + nx) := by funext i; rw [decide_eq_true hc, Bool.and_true]
      rw [e2, filter_mid x0 nx w hx, if_pos (by simpa using hc), List.map_map]
      rfl
    · have e2 : (fun i => decide (x0 ≤ i ∧ i < x0 + nx) && decide (y0 ≤ h ∧ h < y0 + ny)) = fun _ : Nat => false := by funext i; rw [decide_eq_false hc, Bool.and_false]
      rw [e2, if_neg (by simpa using hc)]
      simp
theorem filK_rect {W H a1 a2 b1 b2 : Int} {N : Nat} (v1 : 1 ≤ W) (hN : W * H = N) (k1 : 0 ≤ a1) (k2 : a1 < W) (k3 : 0 ≤ a2) (k4 : a2 < H) (k5 : 0 ≤ b1) (k6 : b1 < W) (k7 : 0 ≤ b2) (k8 : b2 < H) : filK W a1 a2 b1 b2 N = rectAB W a1 a2 b1 b2 := by
  obtain ⟨w, rfl⟩ : ∃ w : Nat, W = w := ⟨W.toNat, by omega⟩
  obtain ⟨h, rfl⟩ : ∃ h : Nat, H = h := ⟨H.toNat, by omega⟩
  have hN' : N = h * w := by
    have : (N : Int) = ((h * w : Nat) : Int) := by rw [← hN, Int.natCast_mul, Int.mul_comm]
    omega
  obtain ⟨x0, hx0⟩ : ∃ x0 : Nat, min a1 b1 = x0 := ⟨(min a1 b1).toNat, by omega⟩
  obtain ⟨y0, hy0⟩ : ∃ y0 : Nat, min a2 b2 = y0 := ⟨(min a2 b2).toNat, by omega⟩
  obtain ⟨nx, hnx⟩ : ∃ nx : Nat, max a1 b1 - min a1 b1 + 1 = nx := ⟨(max a1 b1 - min a1 b1 + 1).toNat, by omega⟩
  obtain ⟨ny, hny⟩ : ∃ ny : Nat, max a2 b2 - min a2 b2 + 1 = ny := ⟨(max a2 b2 - min a2 b2 + 1).toNat, by omega⟩
  have hx : x0 + nx ≤ w := by omega
  have hy : y0 + ny ≤ h := by omega
  have hP : ∀ j i, i < w → inR w a1 a2 b1 b2 (j * w + i) = (decide (x0 ≤ i ∧ i < x0 + nx) && decide (y0 ≤ j ∧ j < y0 + ny)) := by
    intro j i hi
    have e1 : (((j * w + i : Nat)) : Int) % (w : Int) = i := by
      rw [← Int.natCast_emod, Nat.add_comm, Nat.add_mul_mod_self_right, Nat.mod_eq_of_lt hi]
    have e2 : (((j * w + i : Nat)) : Int) / (w : Int) = j := by
      rw [← Int.natCast_ediv, Nat.add_comm, Nat.add_mul_div_right _ _ (by omega), Nat.div_eq_of_lt hi, Nat.zero_add]
    unfold inR btwB
    rw [e1, e2]
    congr 1 <;> rw [decide_eq_decide] <;> omega
  unfold filK rectAB
  rw [hN', fil_rows _ w x0 nx y0 ny hx hP h, flatMap_if (fun j => decide (y0 ≤ j ∧ j < y0 + ny)), filter_mid y0 ny h hy, hnx, hny, hx0, hy0]
  simp only [rectL, rowL, Int.toNat_natCast, List.flatMap_map, List.map_flatMap, List.map_map]
  congr 1

/-! ### totals of lists without repeats -/
theorem totK_sum {p cs : List Int} (hd : cs.Pairwise (· < ·)) : ∀ k, k ≤ cs.length → totK p cs k = ((cs.take k).map fun x => atI p x.toNat).sum
  | 0, _ => by simp [totK]
  | k + 1, hk => by
    have hk' : k < cs.length := by omega
    have e : atI cs k = cs[k] := by simp [atI, hk']
    have hn : (cs.take k).contains (atI cs k) = false := by
      rw [Bool.eq_false_iff]
      intro hc
      rw [List.contains_iff_mem, e] at hc
      obtain ⟨j, hj, hje⟩ := List.getElem_of_mem hc
      rw [List.length_take] at hj
      rw [List.getElem_take] at hje
      have := List.pairwise_iff_getElem.1 hd j k (by omega) hk' (by omega)
      omega
    rw [totK, hn, totK_sum hd k (by omega), List.take_succ_eq_append_getElem hk', List.map_append, List.sum_append, e]
    simp
theorem rowL_lt (W x0 y : Int) (nx : Nat) : (rowL W x0 y nx).Pairwise (· < ·) := by
  unfold rowL
  rw [List.pairwise_map]
  refine List.Pairwise.imp ?_ List.pairwise_lt_range
  intro a b h
  omega
theorem rowL_mem {W x0 y v : Int} {nx : Nat} (h : v ∈ rowL W x0 y nx) : y * W + x0 ≤ v ∧ v < y * W + x0 + nx := by
  unfold rowL at h
  rw [List.mem_map] at h
  obtain ⟨i, hi, rfl⟩ := h
  rw [List.mem_range] at hi
  omega
theorem rectL_mem {W x0 y0 v : Int} {nx ny : Nat} (h : v ∈ rectL W x0 y0 nx ny) : ∃ j : Nat, j < ny ∧ (y0 + j) * W + x0 ≤ v ∧ v < (y0 + j) * W + x0 + nx := by
  unfold rectL at h
  rw [List.mem_flatMap] at h
  obtain ⟨j, hj, hv⟩ := h
  exact ⟨j, by simpa using hj, rowL_mem hv⟩
theorem rectL_lt {W x0 y0 : Int} {nx : Nat} (hx0 : 0 ≤ x0) (hx : x0 + nx ≤ W) : ∀ ny, (rectL W x0 y0 nx ny).Pairwise (· < ·)
  | 0 => by simp [rectL]
  | ny + 1 => by
    rw [rectL_succ, List.pairwise_append]
    refine ⟨rectL_lt hx0 hx ny, rowL_lt _ _ _ _, fun a ha b hb => ?_⟩
    obtain ⟨j, hj, h1, h2⟩ := rectL_mem ha
    have h3 := rowL_mem hb
    have h4 : (y0 + j + 1) * W ≤ (y0 + ny) * W := Int.mul_le_mul_of_nonneg_right (by omega) (by omega)
    rw [Int.add_mul (y0 + j) 1 W, Int.one_mul] at h4
    omega
theorem rectL_bd {W H x0 y0 : Int} {nx ny : Nat} (hx0 : 0 ≤ x0) (hx : x0 + nx ≤ W) (hy0 : 0 ≤ y0) (hy : y0 + ny ≤ H) : allB 0 (W * H - 1) (rectL W x0 y0 nx ny) = true := by
  rw [allB_iff]
  intro v hv
  obtain ⟨j, hj, h1, h2⟩ := rectL_mem hv
  have h3 : 0 ≤ (y0 + j) * W := Int.mul_nonneg (by omega) (by omega)
  have h4 : (y0 + j + 1) * W ≤ H * W := Int.mul_le_mul_of_nonneg_right (by omega) (by omega)
  rw [Int.add_mul (y0 + j) 1 W, Int.one_mul, Int.mul_comm H W] at h4
  omega
theorem rowL_split (W x0 y : Int) (n1 n2 : Nat) : rowL W x0 y (n1 + n2) = rowL W x0 y n1 ++ rowL W (x0 + n1) y n2 := by
  unfold rowL
  rw [List.range_add, List.map_append, List.map_map]
  congr 1
  apply List.map_congr_left
  intro i _
  simp only [Function.comp_apply, Int.natCast_add]
  omega
theorem rect_sum (f : Int → Int) (W x0 y0 : Int) (n1 n2 : Nat) : ∀ ny, ((rectL W x0 y0 (n1 + n2) ny).map f).sum = ((rectL W x0 y0 n1 ny).map f).sum + ((rectL W (x0 + n1) y0 n2 ny).map f).sum
  | 0 => by simp [rectL]
  | ny + 1 => by
    rw [rectL_succ, rectL_succ, rectL_succ, List.map_append, List.map_append, List.map_append, List.sum_append, List.sum_append, List.sum_append, rect_sum f W x0 y0 n1 n2 ny, rowL_split, List.map_append, List.sum_append]
    omega
/-- The total of a rectangle is that of both its parts. -/
theorem tot_split (p : List Int) {W x0 y0 : Int} {n1 n2 ny : Nat} (hx0 : 0 ≤ x0) (hx : x0 + n1 + n2 ≤ W) :
    totK p (rectL W x0 y0 (n1 + n2) ny) (rectL W x0 y0 (n1 + n2) ny).length = totK p (rectL W x0 y0 n1 ny) (rectL W x0 y0 n1 ny).length + totK p (rectL W (x0 + n1) y0 n2 ny) (rectL W (x0 + n1) y0 n2 ny).length := by
  rw [totK_sum (rectL_lt hx0 (by omega) ny) _ (Nat.le_refl _), totK_sum (rectL_lt hx0 (by omega) ny) _ (Nat.le_refl _), totK_sum (rectL_lt (by omega) (by omega) ny) _ (Nat.le_refl _), List.take_length, List.take_length, List.take_length]
  exact rect_sum _ W x0 y0 n1 n2 ny
end Go.Proofs.Ytpoceidbiamgaaa
