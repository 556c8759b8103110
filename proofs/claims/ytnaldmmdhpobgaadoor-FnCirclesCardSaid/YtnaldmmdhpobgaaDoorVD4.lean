/- Circles: plain facts. -/
import Derived.Test.YtnaldmmdhpobgaaDoorVD1
import Derived.Test.YtnaldmmdhpobgaaDoorV15
import Derived.Test.YtnaldmmdhpobgaaDoorV17
set_option linter.unusedVariables false
set_option linter.unusedSimpArgs false
set_option maxRecDepth 100000
set_option maxHeartbeats 1000000
namespace Go.Proofs.YtnaldmmdhpobgaaDoor
open Go Go.RowKit Go.Proofs

theorem coL_all {N : Int} {m : Nat} {f : Nat → Nat → Int} {x : Int} {i : Nat} (hi : i < (coL N m f x).length) : wssB N m f = true ∧ crOk N m f (rowOf (coL N m f x) i).length (rowL (rowOf (coL N m f x) i)) := by
  cases hb : coB N m f x
  · have e : coL N m f x = [] := if_neg (by rw [hb]; simp)
    rw [e] at hi
    simp at hi
  · have e : coL N m f x = circs N.toNat m f x.toNat N.toNat [x] := if_pos hb
    have hb2 := hb
    simp only [coB, Bool.and_eq_true] at hb2
    have hok := wssB_iff.1 hb2.1.1
    have hx := inR_true.1 hb2.1.2
    obtain ⟨n, rfl⟩ : ∃ n : Nat, N = (n : Int) := ⟨N.toNat, by have := hok.1; omega⟩
    obtain ⟨p, rfl⟩ : ∃ p : Nat, x = (p : Int) := ⟨x.toNat, by omega⟩
    rw [Int.toNat_natCast, Int.toNat_natCast] at e
    refine ⟨hb2.1.1, ?_⟩
    have hm := rowOf_mem hi
    rw [e] at hm ⊢
    exact (circs_ok (show p < n by omega) n [(p : Int)] (begC.one (by omega)) _ hm).1
theorem sumG_ge {n : Int} {m : Nat} {f : Nat → Nat → Int} (h : wssOk n m f) {c : Nat} {g : Nat → Nat → Int} (hc : ∀ i, i < c → gnAt m f c g i ≠ 0) : ∀ k : Nat, k ≤ c → (k : Int) ≤ sumG m f c g k
  | 0, _ => Int.le_refl _
  | k + 1, hk => by
    have ih := sumG_ge h hc k (by omega)
    have h1 := gnV_bd h (g k 0) (nxt c g k)
    have h2 := hc k (by omega)
    simp only [sumG]
    unfold gnAt at h2 ⊢
    omega
theorem sumV_ge {n : Int} {m : Nat} {f : Nat → Nat → Int} (h : wssOk n m f) {c : Nat} {g : Nat → Nat → Int} (hc : crOk n m f c g) : (c : Int) ≤ sumV n m f c g := by
  rw [sumV_yes hc]
  exact sumG_ge h hc.2 c (Nat.le_refl _)
theorem shG_min {ls : List (List Int)} (h2 : ∀ i, i < ls.length → 2 ≤ (rowOf ls i).length) : ∀ k, k ≤ ls.length → (0 < k → 2 ≤ (shG ls k).length) ∧ ∀ i, i < k → (shG ls k).length ≤ (rowOf ls i).length
  | 0, _ => ⟨fun h => by omega, fun i hi => by omega⟩
  | k + 1, hk => by
    obtain ⟨a, b⟩ := shG_min h2 k (by omega)
    have h3 := h2 k (by omega)
    simp only [shG]
    split
    · rename_i hh
      refine ⟨fun _ => h3, fun i hi => ?_⟩
      rcases Nat.lt_or_ge i k with e | e
      · have := b i e
        have := a (by omega)
        omega
      · have : i = k := by omega
        subst this
        exact Nat.le_refl _
    · rename_i hh
      refine ⟨fun _ => ?_, fun i hi => ?_⟩
      · rcases Nat.eq_zero_or_pos k with e | e
        · subst e
          exact absurd (.inl rfl) hh
        · exact a e
      · rcases Nat.lt_or_ge i k with e | e
        · exact b i e
        · have : i = k := by omega
          subst this
          omega
theorem bsG_in {n m : Nat} {f : Nat → Nat → Int} (hok : wssOk (n : Int) m f) {ls : List (List Int)} (hc : ∀ i, i < ls.length → crOk (n : Int) m f (rowOf ls i).length (rowL (rowOf ls i))) : ∀ k, k ≤ ls.length → (k = 0 ∧ bsG (n : Int) m f ls k = ([], 0)) ∨ (0 < (bsG (n : Int) m f ls k).2 ∧ ∃ i, i < k ∧ (bsG (n : Int) m f ls k).1 = rowOf ls i)
  | 0, _ => .inl ⟨rfl, rfl⟩
  | k + 1, hk => by
    have ih := bsG_in hok hc k (by omega)
    have h1 := hc k (by omega)
    have h2 := sumV_ge hok h1
    have h3 := h1.1.2.1
    refine .inr ?_
    simp only [bsG]
    split
    · exact ⟨by simp only; omega, k, by omega, rfl⟩
    · rename_i hh
      rcases ih with ⟨rfl, e⟩ | ⟨e1, i, hi, e2⟩
      · rw [e] at hh
        simp only at hh
        omega
      · exact ⟨e1, i, by omega, e2⟩
theorem laG_mem {ls : List (List Int)} {x : Int} : ∀ k, x ∈ laG ls k → ∃ j, j < k ∧ x = (j : Int) ∧ seenB ls ls.length j = false
  | 0, h => by simp [laG] at h
  | k + 1, h => by
    simp only [laG] at h
    split at h
    · obtain ⟨j, h1, h2, h3⟩ := laG_mem k h
      exact ⟨j, by omega, h2, h3⟩
    · rename_i hh
      rcases List.mem_append.1 h with h | h
      · obtain ⟨j, h1, h2, h3⟩ := laG_mem k h
        exact ⟨j, by omega, h2, h3⟩
      · exact ⟨k, by omega, by simpa using h, by simpa using hh⟩
/-- The shortest circle, the best one, those left alone. -/
theorem three_all (N : Int) (m : Nat) (f : Nat → Nat → Int) : decide (0 < (bsV N m f).2) = shB N m f ∧ decide (((bsV N m f).1.length : Int) < ((shV N m f).length : Int)) = false ∧ ∀ i, i < (bsV N m f).1.length → decide ((bsV N m f).1.getD i 0 ∈ laV N m f) = false := by
  cases hw : wssB N m f
  · have e1 : bsV N m f = ([], 0) := if_neg (by rw [hw]; simp)
    have e2 : shV N m f = [] := if_neg (by rw [hw]; simp)
    unfold shB
    rw [e1, e2]
    exact ⟨rfl, rfl, fun i hi => by simp at hi⟩
  · have hok := wssB_iff.1 hw
    obtain ⟨n, rfl⟩ : ∃ n : Nat, N = (n : Int) := ⟨N.toNat, by have := hok.1; omega⟩
    have e1 : bsV (n : Int) m f = bsG (n : Int) m f (allC n m f n) (allC n m f n).length := by unfold bsV; rw [if_pos hw, Int.toNat_natCast]
    have e2 : shV (n : Int) m f = shG (allC n m f n) (allC n m f n).length := by unfold shV; rw [if_pos hw, Int.toNat_natCast]
    have e3 : laV (n : Int) m f = laG (allC n m f n) n := by unfold laV; rw [if_pos hw, Int.toNat_natCast]
    obtain ⟨hl, hcr, hr8⟩ := allC_all hok
    have hb := bsG_in hok hcr _ (Nat.le_refl _)
    have hs := shG_min (fun i hi => (hcr i hi).1.2.1) _ (Nat.le_refl (allC n m f n).length)
    unfold shB
    rw [e1, e2, e3]
    rcases hb with ⟨h0, e⟩ | ⟨h1, i, hi, e⟩
    · have es : shG (allC n m f n) (allC n m f n).length = [] := by rw [h0]; rfl
      rw [e, es]
      exact ⟨rfl, rfl, fun i hi => by simp at hi⟩
    · have h4 := hs.1 (by omega)
      have h5 := hs.2 i hi
      refine ⟨by rw [decide_eq_true h1, decide_eq_true (show 0 < (shG (allC n m f n) (allC n m f n).length).length by omega)], by rw [e]; exact decide_eq_false (by omega), fun j hj => ?_⟩
      rw [decide_eq_false_iff_not]
      intro hm
      obtain ⟨k, hk, ek, hse⟩ := laG_mem _ hm
      rw [e] at hj hm ek
      have hin : (k : Int) ∈ rowOf (allC n m f n) i := by
        rw [← ek, List.getD_eq_getElem?_getD, List.getElem?_eq_getElem hj]
        exact List.getElem_mem _
      rw [Bool.eq_false_iff, Ne, seenB_true] at hse
      exact hse ⟨i, hi, hin⟩
theorem vGain_flag (N : Int) (m : Nat) (f : Nat → Nat → Int) (l : List Int) : ∃ x : Int, vGain N m f l = .tuple #[.int .i64 x, .bool (wssB N m f && crB N m f l.length (rowL l))] := by
  unfold vGain
  cases h : wssB N m f
  · exact ⟨0, by simp⟩
  · exact ⟨_, by simp; rfl⟩
theorem lst_rowL (l : List Int) : lst l.length (rowL l) = l := by
  unfold lst rowL
  refine List.ext_getElem? fun i => ?_
  rw [List.getElem?_map]
  by_cases hi : i < l.length
  · rw [List.getElem?_range hi, List.getElem?_eq_getElem hi]
    simp [List.getD_eq_getElem?_getD, List.getElem?_eq_getElem hi]
  · rw [List.getElem?_eq_none (by simp; omega), List.getElem?_eq_none (by omega)]
    rfl
end Go.Proofs.YtnaldmmdhpobgaaDoor
