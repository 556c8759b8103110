/- Items with a price: plain laws. -/
import Derived.Test.YtnjlleopgjggpaaDoorP4
import Derived.Test.YtnjlleopgjggpaaDoorP10
import Derived.Test.YtnjlleopgjggpaaDoorP11
set_option linter.unusedVariables false
set_option linter.unusedSimpArgs false
set_option maxRecDepth 100000
set_option maxHeartbeats 1000000
namespace Go.Proofs.YtnjlleopgjggpaaDoor
open Go Go.RowKit Go.Proofs

def lastD (l : List Int) : Int := l.getD (l.length - 1) 0
theorem lastD_snoc (l : List Int) (x : Int) : lastD (l ++ [x]) = x := by simp [lastD]
theorem cpt_congr {f g : Nat → Nat → Int} : ∀ {k}, (∀ i, i < k → f i 0 = g i 0) → cptF f k = cptF g k
  | 0, _ => rfl
  | k + 1, h => by
    have h1 := cpt_congr (k := k) (fun i hi => h i (by omega))
    have h2 := h k (by omega)
    have h3 : k = 0 ∨ f (k - 1) 0 = g (k - 1) 0 := by
      rcases Nat.eq_zero_or_pos k with e | e
      · exact .inl e
      · exact .inr (h (k - 1) (by omega))
    simp only [cptF]
    rw [h1, h2]
    rcases h3 with e | e
    · rw [if_pos (.inl e), if_pos (.inl e)]
    · rw [e]
theorem cpt_last (f : Nat → Nat → Int) : ∀ k, 0 < (cptF f (k + 1)).length ∧ lastD (cptF f (k + 1)) = f k 0
  | 0 => by simp [cptF, lastD]
  | k + 1 => by
    have h1 := cpt_last f k
    have e : cptF f (k + 1 + 1) = if k + 1 = 0 ∨ f (k + 1 - 1) 0 ≠ f (k + 1) 0 then cptF f (k + 1) ++ [f (k + 1) 0] else cptF f (k + 1) := rfl
    rw [e]
    split
    · exact ⟨by simp, lastD_snoc _ _⟩
    · rename_i h2
      refine ⟨h1.1, ?_⟩
      rw [h1.2]
      have : f (k + 1 - 1) 0 = f (k + 1) 0 := Classical.byContradiction fun e => h2 (.inr e)
      simpa using this
section
variable (p : Int → Int) (f : Nat → Nat → Int)
def rawL : Nat → List Int
  | 0 => []
  | k + 1 => if 0 < p (f k 0) then rawL k ++ [f k 0] else rawL k
def itP : Nat → List Int
  | 0 => []
  | k + 1 => if 0 < p (f k 0) ∧ ((itP k).length = 0 ∨ lastD (itP k) ≠ f k 0) then itP k ++ [f k 0] else itP k
theorem rawL_len : ∀ k, (rawL p f k).length ≤ k
  | 0 => Nat.le_refl _
  | k + 1 => by
    have := rawL_len k
    simp only [rawL]
    split
    · simp; omega
    · omega
theorem itP_len : ∀ k, (itP p f k).length ≤ k
  | 0 => Nat.le_refl _
  | k + 1 => by
    have := itP_len k
    simp only [itP]
    split
    · simp; omega
    · omega
theorem raw_it : ∀ k, cptF (rowL (rawL p f k)) (rawL p f k).length = itP p f k
  | 0 => rfl
  | k + 1 => by
    have ih := raw_it k
    simp only [rawL, itP]
    by_cases hp : 0 < p (f k 0)
    · rw [if_pos hp]
      have hl : (rawL p f k ++ [f k 0]).length = (rawL p f k).length + 1 := by simp
      rw [hl]
      have hc : cptF (rowL (rawL p f k ++ [f k 0])) (rawL p f k).length = itP p f k := by
        rw [← ih]
        exact cpt_congr fun i hi => by simp [rowL, List.getD_eq_getElem?_getD, List.getElem?_append_left hi]
      have e : cptF (rowL (rawL p f k ++ [f k 0])) ((rawL p f k).length + 1) = if (rawL p f k).length = 0 ∨ rowL (rawL p f k ++ [f k 0]) ((rawL p f k).length - 1) 0 ≠ rowL (rawL p f k ++ [f k 0]) (rawL p f k).length 0 then cptF (rowL (rawL p f k ++ [f k 0])) (rawL p f k).length ++ [rowL (rawL p f k ++ [f k 0]) (rawL p f k).length 0] else cptF (rowL (rawL p f k ++ [f k 0])) (rawL p f k).length := rfl
      have hx : rowL (rawL p f k ++ [f k 0]) (rawL p f k).length 0 = f k 0 := by simp [rowL]
      rw [e, hc, hx]
      rcases Nat.eq_zero_or_pos (rawL p f k).length with h0 | h0
      · have hi : (itP p f k).length = 0 := by rw [← ih, h0]; rfl
        rw [if_pos (.inl h0), if_pos ⟨hp, .inl hi⟩]
      · obtain ⟨m, hm⟩ : ∃ m, (rawL p f k).length = m + 1 := ⟨(rawL p f k).length - 1, by omega⟩
        have hcl := cpt_last (rowL (rawL p f k)) m
        rw [← hm, ih] at hcl
        have hr : rowL (rawL p f k ++ [f k 0]) ((rawL p f k).length - 1) 0 = lastD (itP p f k) := by
          rw [hcl.2, hm]
          simp [rowL, List.getD_eq_getElem?_getD, List.getElem?_append_left (show m < (rawL p f k).length by omega)]
        rw [hr]
        by_cases hne : lastD (itP p f k) = f k 0
        · rw [if_neg (by omega), if_neg (by omega)]
        · rw [if_pos (.inr hne), if_pos ⟨hp, .inr hne⟩]
    · rw [if_neg hp, if_neg (fun h => hp h.1)]
      exact ih
def dGo : Nat → Int × Int
  | 0 => (0, 0)
  | k + 1 => if (dGo k).2 < p (f k 0) then (f k 0, p (f k 0)) else dGo k
def lGo (l : List Int) : Nat → Int × Int
  | 0 => (0, 0)
  | k + 1 => if (lGo l k).2 < p (l.getD k 0) then (l.getD k 0, p (l.getD k 0)) else lGo l k
theorem lGo_app (l : List Int) (x : Int) : ∀ m, m ≤ l.length → lGo p (l ++ [x]) m = lGo p l m
  | 0, _ => rfl
  | m + 1, h => by
    have ih := lGo_app l x m (by omega)
    have e : (l ++ [x]).getD m 0 = l.getD m 0 := by simp [List.getD_eq_getElem?_getD, List.getElem?_append_left (show m < l.length by omega)]
    simp only [lGo]
    rw [ih, e]
theorem lGo_ge (l : List Int) : ∀ m i, i < m → p (l.getD i 0) ≤ (lGo p l m).2
  | 0, _, h => absurd h (by omega)
  | m + 1, i, h => by
    simp only [lGo]
    rcases Nat.lt_succ_iff_lt_or_eq.1 h with h | rfl
    · have := lGo_ge l m i h
      split <;> (try dsimp only) <;> omega
    · split
      · simp
      · omega
theorem lGo_pos (l : List Int) : ∀ m, 0 ≤ (lGo p l m).2
  | 0 => Int.le_refl _
  | m + 1 => by
    have := lGo_pos l m
    simp only [lGo]
    split <;> (try dsimp only) <;> omega
theorem dGo_eq : ∀ k, dGo p f k = lGo p (itP p f k) (itP p f k).length
  | 0 => rfl
  | k + 1 => by
    have ih := dGo_eq k
    have hpos := lGo_pos p (itP p f k) (itP p f k).length
    simp only [dGo]
    rw [ih]
    by_cases hp : 0 < p (f k 0)
    · by_cases hl : (itP p f k).length = 0 ∨ lastD (itP p f k) ≠ f k 0
      · have e : itP p f (k + 1) = itP p f k ++ [f k 0] := by simp only [itP]; rw [if_pos ⟨hp, hl⟩]
        have e2 : (itP p f k ++ [f k 0]).length = (itP p f k).length + 1 := by simp
        have e3 : (itP p f k ++ [f k 0]).getD (itP p f k).length 0 = f k 0 := by simp
        rw [e, e2]
        conv => rhs; unfold lGo
        rw [lGo_app _ _ _ _ (Nat.le_refl _), e3]
      · have e : itP p f (k + 1) = itP p f k := by simp only [itP]; rw [if_neg (fun h => hl h.2)]
        rw [e]
        have h1 : 0 < (itP p f k).length := by omega
        have h2 : lastD (itP p f k) = f k 0 := by omega
        have h3 := lGo_ge p (itP p f k) (itP p f k).length ((itP p f k).length - 1) (by omega)
        unfold lastD at h2
        rw [h2] at h3
        rw [if_neg (by omega)]
    · have e : itP p f (k + 1) = itP p f k := by simp only [itP]; rw [if_neg (fun h => hp h.1)]
      rw [e, if_neg (by omega)]
end
/-- The items rise, and stay below what comes. -/
theorem it_inv {n : Nat} {f : Nat → Nat → Int} (hok : prsOk n f) (p : Int → Int) : ∀ k, k ≤ n → (∀ i j, i < j → j < (itP p f k).length → (itP p f k).getD i 0 < (itP p f k).getD j 0) ∧ (∀ i, i < (itP p f k).length → ∀ q, k ≤ q → q < n → (itP p f k).getD i 0 ≤ f q 0)
  | 0, _ => ⟨fun i j h1 h2 => by simp [itP] at h2, fun i h => by simp [itP] at h⟩
  | k + 1, hk => by
    obtain ⟨h1, h2⟩ := it_inv hok p k (by omega)
    simp only [itP]
    split
    · rename_i hc
      have hlt : ∀ i, i < (itP p f k).length → (itP p f k).getD i 0 < f k 0 := by
        intro i hi
        have hle := h2 ((itP p f k).length - 1) (by omega) k (Nat.le_refl _) (by omega)
        have hne : lastD (itP p f k) ≠ f k 0 := hc.2.resolve_left (by omega)
        unfold lastD at hne
        rcases Nat.lt_or_ge i ((itP p f k).length - 1) with h3 | h3
        · have := h1 i _ h3 (by omega); omega
        · have : i = (itP p f k).length - 1 := by omega
          subst this
          omega
      have hL : ∀ i, i < (itP p f k).length → (itP p f k ++ [f k 0]).getD i 0 = (itP p f k).getD i 0 := fun i hi => by simp [List.getD_eq_getElem?_getD, List.getElem?_append_left hi]
      have hR : (itP p f k ++ [f k 0]).getD (itP p f k).length 0 = f k 0 := by simp
      refine ⟨fun i j h3 h4 => ?_, fun i hi q hq hqn => ?_⟩
      · simp only [List.length_append, List.length_singleton] at h4
        rcases Nat.lt_succ_iff_lt_or_eq.1 h4 with h5 | rfl
        · rw [hL i (by omega), hL j h5]; exact h1 i j h3 h5
        · rw [hL i h3, hR]; exact hlt i h3
      · simp only [List.length_append, List.length_singleton] at hi
        have hkq := prs_lt hok q (show k < q by omega) hqn
        unfold prLt at hkq
        rcases Nat.lt_succ_iff_lt_or_eq.1 hi with h5 | rfl
        · rw [hL i h5]; have := hlt i h5; omega
        · rw [hR]; omega
    · exact ⟨h1, fun i hi q hq hqn => h2 i hi q (by omega) hqn⟩
theorem it_put {n : Nat} {f : Nat → Nat → Int} (hok : prsOk n f) (p : Int → Int) {k : Nat} (hk : k < n) (hp : 0 < p (f k 0)) : putL (itP p f k) (f k 0) = itP p f (k + 1) := by
  obtain ⟨h1, h2⟩ := it_inv hok p k (by omega)
  have h2 := fun i hi => h2 i hi k (Nat.le_refl _) hk
  by_cases hl : (itP p f k).length = 0 ∨ lastD (itP p f k) ≠ f k 0
  · have e : itP p f (k + 1) = itP p f k ++ [f k 0] := by simp only [itP]; rw [if_pos ⟨hp, hl⟩]
    have hlt : ∀ i, i < (itP p f k).length → (itP p f k).getD i 0 < f k 0 := by
      intro i hi
      have hle := h2 ((itP p f k).length - 1) (by omega)
      have hne : lastD (itP p f k) ≠ f k 0 := hl.resolve_left (by omega)
      unfold lastD at hne
      rcases Nat.lt_or_ge i ((itP p f k).length - 1) with h3 | h3
      · have := h1 i _ h3 (by omega); omega
      · have : i = (itP p f k).length - 1 := by omega
        subst this
        omega
    rw [putL_at (Nat.le_refl _) hlt (fun h => absurd h (by omega)), if_neg (by omega), e]
    simp
  · have e : itP p f (k + 1) = itP p f k := by simp only [itP]; rw [if_neg (fun h => hl h.2)]
    have h3 : 0 < (itP p f k).length := by omega
    have h4 : (itP p f k).getD ((itP p f k).length - 1) 0 = f k 0 := by unfold lastD at hl; omega
    rw [putL_at (k := (itP p f k).length - 1) (by omega) (fun i hi => by rw [← h4]; exact h1 i _ hi (by omega)) (fun _ => by omega), if_pos ⟨by omega, h4⟩, e]
end Go.Proofs.YtnjlleopgjggpaaDoor
