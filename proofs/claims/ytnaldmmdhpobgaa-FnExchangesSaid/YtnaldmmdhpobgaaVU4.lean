/- The greatest exchange: plain facts. -/
import Derived.Test.YtnaldmmdhpobgaaV24
import Derived.Test.YtnaldmmdhpobgaaV15
set_option linter.unusedVariables false
set_option linter.unusedSimpArgs false
set_option maxRecDepth 100000
set_option maxHeartbeats 1000000
namespace Go.Proofs.Ytnaldmmdhpobgaa
open Go Go.RowKit Go.Proofs

theorem lst_rowL (l : List Int) : lst l.length (rowL l) = l := by
  unfold lst rowL
  refine List.ext_getElem? fun i => ?_
  rw [List.getElem?_map]
  by_cases hi : i < l.length
  · rw [List.getElem?_range hi, List.getElem?_eq_getElem hi]
    simp [List.getD_eq_getElem?_getD, List.getElem?_eq_getElem hi]
  · rw [List.getElem?_eq_none (by simp; omega), List.getElem?_eq_none (by omega)]
    rfl
/-- One who comes next was not there before. -/
theorem new_one {ls : List (List Int)} (h : ls.flatten.Nodup) {i k : Nat} (hi : i < ls.length) (hk : k < (rowOf ls i).length) : decide ((rowOf ls i).getD k 0 ∈ (ls.take i).flatten ++ (rowOf ls i).take k) = false := by
  have e : ls.take (i + 1) ++ ls.drop (i + 1) = ls := List.take_append_drop _ _
  have h1 : ((ls.take (i + 1)).flatten ++ (ls.drop (i + 1)).flatten).Nodup := by rw [← List.flatten_append, e]; exact h
  have h2 := (List.pairwise_append.1 h1).1
  rw [take_rowOf hi, List.flatten_append] at h2
  simp only [List.flatten_cons, List.flatten_nil, List.append_nil] at h2
  obtain ⟨p1, p2, p3⟩ := List.pairwise_append.1 h2
  have hx : (rowOf ls i).getD k 0 = (rowOf ls i)[k] := by rw [List.getD_eq_getElem?_getD, List.getElem?_eq_getElem hk]; rfl
  rw [hx, decide_eq_false_iff_not, List.mem_append]
  rintro (hm | hm)
  · exact p3 _ hm _ (List.getElem_mem hk) rfl
  · obtain ⟨j, hj, e9⟩ := List.getElem_of_mem hm
    rw [List.length_take] at hj
    rw [List.getElem_take] at e9
    exact (List.pairwise_iff_getElem.1 p2) j k (by omega) hk (by omega) e9
theorem sumW_bd {w : List Int → Int} {ls : List (List Int)} (h : ∀ c ∈ ls, 0 ≤ w c ∧ w c ≤ 8000) : ∀ k, k ≤ ls.length → 0 ≤ sumW w (ls.take k) ∧ sumW w (ls.take k) ≤ 8000 * (k : Int)
  | 0, _ => by simp [sumW]
  | k + 1, hk => by
    have ih := sumW_bd h k (by omega)
    have h1 := h _ (rowOf_mem (show k < ls.length by omega))
    rw [take_rowOf (by omega), sumW_app, sumW_one]
    omega
theorem bsG_le {N : Int} {m : Nat} {f : Nat → Nat → Int} {ls : List (List Int)} {M : Int} (h0 : 0 ≤ M) (h : ∀ k, k < ls.length → sumV N m f (rowOf ls k).length (rowL (rowOf ls k)) ≤ M) : ∀ k, k ≤ ls.length → (bsG N m f ls k).2 ≤ M
  | 0, _ => h0
  | k + 1, hk => by
    have ih := bsG_le h0 h k (by omega)
    have h1 := h k (by omega)
    simp only [bsG]
    split
    · exact h1
    · exact ih
/-- What is asked of the greatest exchange. -/
theorem gx_all {n m : Nat} {f : Nat → Nat → Int} (hok : wssOk (n : Int) m f) : exB (n : Int) m f (bestX n m f false).1 = true ∧ (bestX n m f false).1.flatten.Nodup ∧ (bestX n m f false).1.flatten.length ≤ 8 ∧ (((bestX n m f false).1.flatten.length : Nat) : Int) ≤ (bestX n m f true).2 ∧ (bestX n m f true).2 ≤ (n : Int) ∧
    (bestX n m f false).2 = sumW (wC (n : Int) m f false) (bestX n m f false).1 ∧ (bsV (n : Int) m f).2 ≤ (bestX n m f false).2 ∧ (bestX n m f false).1.length ≤ 8 := by
  obtain ⟨first, h⟩ := bestX_sv n m f false
  obtain ⟨first', h'⟩ := bestX_sv n m f true
  have hN := hok.1
  have hp := h.people
  have hp' := h'.people
  have hwc : wC (n : Int) m f true = fun c => (c.length : Int) := by funext c; unfold wC; rw [if_pos rfl]
  have e1 := pplL_sum (bestX n m f false).1
  have e2 := pplL_sum (bestX n m f true).1
  have hge : ((pplL (bestX n m f false).1 : Nat) : Int) ≤ (bestX n m f true).2 := by
    have := srch_ge (allC n m f n) (wC (n : Int) m f true) (h.other (w' := wC (n : Int) m f true)) ([], 0)
    rw [hwc] at this
    rw [e1]
    unfold bestX
    rw [hwc]
    exact this
  have hv' := h'.val
  rw [hwc] at hv'
  refine ⟨exB_iff.2 h.ex, hp.1, by rw [← pplL_flat]; omega, by rw [← pplL_flat]; exact hge, by omega, h.val, ?_, ?_⟩
  · have hb : bsV (n : Int) m f = bsG (n : Int) m f (allC n m f n) (allC n m f n).length := by unfold bsV; rw [if_pos (wssB_iff.2 hok), Int.toNat_natCast]
    rw [hb]
    refine bsG_le (bestX_TP hok false).most.1 (fun k hk => ?_) _ (Nat.le_refl _)
    have := srch_ge (allC n m f n) (wC (n : Int) m f false) (SV.one (w := wC (n : Int) m f false) hk) ([], 0)
    unfold wC at this
    rw [if_neg (by simp)] at this
    exact this
  · have h1 : ∀ k, k ≤ (bestX n m f false).1.length → k ≤ llLen (bestX n m f false).1 k := fun k => by
      induction k with
      | zero => intro _; exact Nat.zero_le _
      | succ k ih =>
        intro hk
        have := ih (by omega)
        have := (bestX_row hok false k (by omega)).1
        rw [llLen]
        omega
    have h2 := h1 _ (Nat.le_refl _)
    have h3 : pplL (bestX n m f false).1 = llLen (bestX n m f false).1 (bestX n m f false).1.length := rfl
    omega
end Go.Proofs.Ytnaldmmdhpobgaa
