/- FnBaskets: plain laws. -/
import Derived.Test.YtnjlleopgjggpaaDoorP8
import Derived.Test.YtnjlleopgjggpaaDoorP9
import Derived.Test.YtnjlleopgjggpaaDoorP13
import Derived.Test.YtnjlleopgjggpaaDoorP14
import Derived.Test.YtnjlleopgjggpaaDoorP6
import Derived.Test.YtnjlleopgjggpaaDoorXP
set_option linter.unusedVariables false
set_option linter.unusedSimpArgs false
set_option maxRecDepth 100000
set_option maxHeartbeats 1000000
namespace Go.Proofs.YtnjlleopgjggpaaDoor
open Go Go.RowKit Go.Proofs
section
variable {p : Int → Int} {f : Nat → Nat → Int}
theorem itP_mem : ∀ k i, i < (itP p f k).length → ∃ q, q < k ∧ (itP p f k).getD i 0 = f q 0 ∧ 0 < p (f q 0)
  | 0, i, h => by simp [itP] at h
  | k + 1, i, h => by
    simp only [itP] at h ⊢
    by_cases e : 0 < p (f k 0) ∧ ((itP p f k).length = 0 ∨ lastD (itP p f k) ≠ f k 0)
    · rw [if_pos e] at h ⊢
      simp only [List.length_append, List.length_cons, List.length_nil] at h
      by_cases hi : i < (itP p f k).length
      · obtain ⟨q, h1, h2, h3⟩ := itP_mem k i hi
        exact ⟨q, by omega, by rw [List.getD_eq_getElem?_getD, List.getElem?_append_left hi, ← List.getD_eq_getElem?_getD]; exact h2, h3⟩
      · obtain rfl : i = (itP p f k).length := by omega
        exact ⟨k, by omega, by simp, e.1⟩
    · rw [if_neg e] at h ⊢
      obtain ⟨q, h1, h2, h3⟩ := itP_mem k i h
      exact ⟨q, by omega, h2, h3⟩
theorem lGo_best {l : List Int} : ∀ m, (∀ i, i < m → 0 < p (l.getD i 0)) → 0 < m → ∃ i, i < m ∧ lGo p l m = (l.getD i 0, p (l.getD i 0))
  | 0, _, h => absurd h (by omega)
  | m + 1, hp, _ => by
    simp only [lGo]
    by_cases hm : m = 0
    · subst hm
      refine ⟨0, by omega, ?_⟩
      have := hp 0 (by omega)
      rw [if_pos (by simpa [lGo] using this)]
    · obtain ⟨i, hi, e⟩ := lGo_best m (fun i hi => hp i (by omega)) (by omega)
      split
      · exact ⟨m, by omega, rfl⟩
      · exact ⟨i, by omega, e⟩
end
theorem askP_iff {n : Nat} {f : Nat → Nat → Int} {y : Int} : askP n f y = true ↔ prsB n f = true ∧ inR y 1840 2100 = true := by simp [askP]
theorem itAll_ask {n : Nat} {f : Nat → Nat → Int} {y : Int} (h : askP n f y = true) : itAll n f y = itP (pY n f y) f n := if_pos (askP_iff.1 h)
theorem itAll_mem {n : Nat} {f : Nat → Nat → Int} {y : Int} (h : askP n f y = true) {i : Nat} (hi : i < (itAll n f y).length) : inR ((itAll n f y).getD i 0) 1 999 = true ∧ 0 < pY n f y ((itAll n f y).getD i 0) := by
  rw [itAll_ask h] at hi ⊢
  obtain ⟨q, h1, h2, h3⟩ := itP_mem n i hi
  rw [h2]
  have := prs_bd (prsB_iff.1 (askP_iff.1 h).1) h1
  exact ⟨inR_true.2 (by omega), h3⟩
/-- The price of an item that is told. -/
theorem price_it {n : Nat} {f : Nat → Nat → Int} {y : Int} (h : askP n f y = true) {i : Nat} (hi : i < (itAll n f y).length) : vPriceIn n f ((itAll n f y).getD i 0) y = .tuple #[.int .i64 (pY n f y ((itAll n f y).getD i 0)), .bool true] := by
  obtain ⟨h1, h2⟩ := itAll_mem h hi
  obtain ⟨h3, h4⟩ := askP_iff.1 h
  unfold vPriceIn
  rw [if_pos ⟨h3, h1, h4⟩]
  have e : decide (0 < priceV n f ((itAll n f y).getD i 0) y) = true := decide_eq_true h2
  rw [e]
  rfl
theorem pY_bd {n : Nat} {f : Nat → Nat → Int} {y : Int} (h : askP n f y = true) (x : Int) : 0 ≤ pY n f y x ∧ pY n f y x ≤ 10000000 := priceV_bd (prsB_iff.1 (askP_iff.1 h).1) x y
/-- The dearest item is one of them and costs no less than any other. -/
theorem dear_ex (n : Nat) (f : Nat → Nat → Int) (y : Int) : ∃ (b w : Int) (t : Bool), vDear n f y = .tuple #[.int .i64 b, .int .i64 w, .bool t] ∧ (t = true → askP n f y = true ∧ 0 < (itAll n f y).length) ∧ (askP n f y = true → 0 < (itAll n f y).length → t = true) ∧
    (t = true → ∀ i, i < (itAll n f y).length → pY n f y ((itAll n f y).getD i 0) ≤ w ∧ ((itAll n f y).getD i 0 = b → pY n f y ((itAll n f y).getD i 0) = w)) := by
  unfold vDear
  by_cases h : prsB n f = true ∧ inR y 1840 2100 = true
  · rw [if_pos h]
    have ha := askP_iff.2 h
    have hL := itAll_ask ha
    have hm : ∀ i, i < (itP (pY n f y) f n).length → inR ((itP (pY n f y) f n).getD i 0) 1 999 = true ∧ 0 < pY n f y ((itP (pY n f y) f n).getD i 0) := fun i hi => by
      have := itAll_mem ha (i := i) (by rw [hL]; exact hi)
      rwa [hL] at this
    rw [dGo_eq, hL]
    generalize itP (pY n f y) f n = L at hm ⊢
    refine ⟨_, _, _, rfl, fun ht => ⟨ha, ?_⟩, fun _ h0 => ?_, fun ht i hi => ⟨lGo_ge _ _ _ _ hi, fun e => ?_⟩⟩
    · rcases Nat.eq_zero_or_pos L.length with e | e
      · rw [e] at ht
        simp [lGo] at ht
      · exact e
    · obtain ⟨i, hi, e⟩ := lGo_best (p := pY n f y) (l := L) L.length (fun i hi => (hm i hi).2) h0
      rw [e]
      have := inR_true.1 (hm i hi).1
      exact decide_eq_true (by dsimp only; omega)
    · obtain ⟨j, hj, e2⟩ := lGo_best (p := pY n f y) (l := L) L.length (fun i hi => (hm i hi).2) (by omega)
      rw [e2] at e ⊢
      dsimp only at e ⊢
      rw [e]
  · rw [if_neg h]
    exact ⟨0, 0, false, rfl, fun h => by simp at h, fun ha => absurd (askP_iff.1 ha) h, fun h => by simp at h⟩
/-- A basket of all of them: no item lacks its price. -/
theorem basket_all {n : Nat} {f : Nat → Nat → Int} {y : Int} (h : askP n f y = true) (hl : (itAll n f y).length ≤ 12) :
    vBasket n f (itAll n f y).length (rowL (itAll n f y)) y = .tuple #[.int .i64 (bkS (pB n f (rowL (itAll n f y)) y) (itAll n f y).length), .int .i64 0, .bool true] := by
  obtain ⟨h3, h4⟩ := askP_iff.1 h
  have hN : ∀ k, k ≤ (itAll n f y).length → bkN (pB n f (rowL (itAll n f y)) y) k = 0 := by
    intro k
    induction k with
    | zero => intro _; rfl
    | succ k ih =>
      intro hk
      have h1 := (itAll_mem h (i := k) (by omega)).2
      have h2 : ¬ pB n f (rowL (itAll n f y)) y k = 0 := fun e => by
        have : pB n f (rowL (itAll n f y)) y k = pY n f y ((itAll n f y).getD k 0) := rfl
        omega
      simp only [bkN]
      rw [if_neg h2]
      exact ih (by omega)
  have hA : anyB (fun i => !inR (rowL (itAll n f y) i 0) 1 999) (itAll n f y).length = false := by
    rw [anyB_false]
    intro i hi
    have := (itAll_mem h hi).1
    show (!inR ((itAll n f y).getD i 0) 1 999) = false
    rw [this]
    rfl
  unfold vBasket
  rw [if_pos ⟨h3, hl, hA, h4⟩, hN _ (Nat.le_refl _)]
theorem basket_bd {n : Nat} {f : Nat → Nat → Int} {y : Int} (h : askP n f y = true) (L : List Int) (k : Nat) : 0 ≤ bkS (pB n f (rowL L) y) k ∧ bkS (pB n f (rowL L) y) k ≤ 10000000 * k := by
  have := bk_bd (p := pB n f (rowL L) y) (fun i => pY_bd h _) k
  omega
theorem basket_succ (n : Nat) (f : Nat → Nat → Int) (y : Int) (L : List Int) (k : Nat) : bkS (pB n f (rowL L) y) (k + 1) = bkS (pB n f (rowL L) y) k + pY n f y (L.getD k 0) := rfl
/-- Raised prices are no less; the other years' stay. -/
theorem raise_ex {n : Nat} {f : Nat → Nat → Int} {y q : Int} (h : raB n f y q = true) : raN n f y q = n ∧ ∀ i, i < n → f i 2 ≤ rF f y q i 2 ∧ rF f y q i 0 = f i 0 ∧ rF f y q i 1 = f i 1 ∧ (f i 1 ≠ y → rF f y q i 2 = f i 2) := by
  refine ⟨if_pos h, fun i hi => ?_⟩
  simp only [raB, Bool.and_eq_true] at h
  have h1 := prs_bd (prsB_iff.1 h.1.1.1) hi
  have h2 := inR_true.1 h.1.2
  refine ⟨?_, by simp [rF], by simp [rF], fun hne => by simp [rF, hne]⟩
  by_cases e : f i 1 = y
  · have e2 : rF f y q i 2 = (f i 2 * (100 + q) + 99).tdiv 100 := by simp [rF, e]
    rw [e2]
    have h3 : f i 2 * 100 ≤ f i 2 * (100 + q) := Int.mul_le_mul_of_nonneg_left (by omega) (by omega)
    rw [Int.tdiv_eq_ediv_of_nonneg (by omega)]
    omega
  · have e2 : rF f y q i 2 = f i 2 := by simp [rF, e]
    omega
theorem vBasket_ex (n : Nat) (f : Nat → Nat → Int) (m : Nat) (g : Nat → Nat → Int) (y : Int) : ∃ (a b : Int) (t : Bool), vBasket n f m g y = .tuple #[.int .i64 a, .int .i64 b, .bool t] := by
  unfold vBasket
  split <;> exact ⟨_, _, _, rfl⟩
theorem vSteep_ex (n : Nat) (f : Nat → Nat → Int) (x : Int) : ∃ (a b : Int) (t : Bool), vSteep n f x = .tuple #[.int .i64 a, .int .i64 b, .bool t] := by
  unfold vSteep
  split <;> exact ⟨_, _, _, rfl⟩
theorem vPriceText_ex (a b c : Int) : ∃ (s : ByteArray) (t : Bool), vPriceText a b c = .tuple #[.string s, .bool t] := by
  unfold vPriceText
  split <;> exact ⟨_, _, rfl⟩
end Go.Proofs.YtnjlleopgjggpaaDoor
