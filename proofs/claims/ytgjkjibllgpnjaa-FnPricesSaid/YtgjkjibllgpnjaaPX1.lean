/- FnPrices: plain laws. -/
import Derived.Test.YtgjkjibllgpnjaaP7
import Derived.Test.YtgjkjibllgpnjaaP6
import Derived.Test.YtgjkjibllgpnjaaP16
set_option linter.unusedVariables false
set_option linter.unusedSimpArgs false
set_option maxRecDepth 100000
set_option maxHeartbeats 1000000
namespace Go.Proofs.Ytgjkjibllgpnjaa
open Go Go.RowKit Go.Proofs

theorem vPrice_ex (n : Nat) (f : Nat → Nat → Int) (x y : Int) : ∃ (p : Int) (t : Bool), vPriceIn n f x y = .tuple #[.int .i64 p, .bool t] ∧ (t = true ↔ (prsB n f = true ∧ inR x 1 999 = true ∧ inR y 1840 2100 = true) ∧ 0 < priceV n f x y) ∧ (t = true → p = priceV n f x y) := by
  unfold vPriceIn
  split
  · rename_i h
    exact ⟨_, _, rfl, ⟨fun e => ⟨h, by simpa using e⟩, fun e => by simpa using e.2⟩, fun _ => rfl⟩
  · rename_i h
    exact ⟨_, _, rfl, ⟨fun e => by simp at e, fun e => absurd e.1 h⟩, fun e => by simp at e⟩
/-- A set price is the price of its year. -/
theorem vPrice_set {n : Nat} {f : Nat → Nat → Int} {x y c : Int} (h : spB n f x y c = true) : vPriceIn (spN n f x y c) (spF n f x y c) x y = .tuple #[.int .i64 c, .bool true] := by
  have h1 := spB_one h
  have e : spN n f x y c = spM n f x y := if_pos h
  have h2 : prsB (spM n f x y) (spF n f x y c) = true := by
    simp only [spB, Bool.and_eq_true] at h
    exact h.2
  have h3 : priceV (spM n f x y) (spF n f x y c) x y = c := by
    rw [priceV_at (prsB_iff.1 h2) (spM_pos (f := f) (item := x) (year := y)) (by unfold prAt; rw [spF_pos, spF_pos]; exact ⟨rfl, rfl⟩), spF_pos]
    rfl
  have h4 := inR_true.1 h1.2.2
  rw [e]
  unfold vPriceIn
  rw [if_pos ⟨h2, h1.1, h1.2.1⟩, h3]
  have : decide (0 < c) = true := decide_eq_true (by omega)
  rw [this]
/-- The least price of an item, and the greatest one. -/
def lowV (f : Nat → Nat → Int) (x : Int) : Nat → Int
  | 0 => 10000000
  | k + 1 => if f k 0 = x ∧ f k 2 < lowV f x k then f k 2 else lowV f x k
def higV (f : Nat → Nat → Int) (x : Int) : Nat → Int
  | 0 => 0
  | k + 1 => if f k 0 = x ∧ higV f x k < f k 2 then f k 2 else higV f x k
theorem lowV_le {f : Nat → Nat → Int} {x : Int} {i : Nat} (h : f i 0 = x) : ∀ k, i < k → lowV f x k ≤ f i 2
  | 0, hk => by omega
  | k + 1, hk => by
    simp only [lowV]
    by_cases e : i = k
    · subst e
      split
      · exact Int.le_refl _
      · rename_i hh; omega
    · have := lowV_le h k (by omega)
      split <;> omega
theorem higV_ge {f : Nat → Nat → Int} {x : Int} {i : Nat} (h : f i 0 = x) : ∀ k, i < k → f i 2 ≤ higV f x k
  | 0, hk => by omega
  | k + 1, hk => by
    simp only [higV]
    by_cases e : i = k
    · subst e
      split
      · exact Int.le_refl _
      · rename_i hh; omega
    · have := higV_ge h k (by omega)
      split <;> omega
/-- A price between two years lies between theirs. -/
theorem price_mid {n : Nat} {f : Nat → Nat → Int} (hok : prsOk n f) {x y : Int} (h : 0 < priceV n f x y) : lowV f x n ≤ priceV n f x y ∧ priceV n f x y ≤ higV f x n := by
  by_cases h1 : ∃ k, k < n ∧ prAt f x y k
  · obtain ⟨k, hk, h2⟩ := h1
    rw [priceV_at hok hk h2]
    exact ⟨lowV_le h2.1 _ hk, higV_ge h2.1 _ hk⟩
  · by_cases h3 : ∃ k, prBr n f x y k
    · obtain ⟨k, h2⟩ := h3
      rw [priceV_br hok h2]
      obtain ⟨b1, b2, b3, b4, b5⟩ := h2
      have q := ipt_bd (c1 := f k 2) (c2 := f (k + 1) 2) b4 b5
      have l1 := lowV_le b2 n (by omega)
      have l2 := lowV_le b3 n (by omega)
      have u1 := higV_ge b2 n (by omega)
      have u2 := higV_ge b3 n (by omega)
      omega
    · rw [priceV_no (fun k hk h => h1 ⟨k, hk, h⟩) (fun k h => h3 ⟨k, h⟩)] at h
      omega
theorem faGo_some {n : Nat} {f : Nat → Nat → Int} {x c : Int} : ∀ (F : Nat) (y b : Int), faGo n f x c F y = some b → y ≤ b ∧ b ≤ 2100 ∧ c ≤ priceV n f x b ∧ ∀ z, y ≤ z → z < b → priceV n f x z < c
  | 0, y, b, h => by simp [faGo] at h
  | F + 1, y, b, h => by
    simp only [faGo] at h
    split at h
    · rename_i h1
      split at h
      · rename_i h2
        cases h
        exact ⟨Int.le_refl _, h1, h2, fun z hz1 hz2 => by omega⟩
      · rename_i h2
        obtain ⟨a1, a2, a3, a4⟩ := faGo_some F (y + 1) b h
        refine ⟨by omega, a2, a3, fun z hz1 hz2 => ?_⟩
        by_cases e : z = y
        · subst e; omega
        · exact a4 z (by omega) hz2
    · cases h
/-- The first year above: its price, and the year before. -/
theorem vFirst_ex (n : Nat) (f : Nat → Nat → Int) (x c : Int) : ∃ (y : Int) (t : Bool), vFirst n f x c = .tuple #[.int .i64 y, .bool t] ∧ (t = true → prsB n f = true ∧ 1840 ≤ y ∧ y ≤ 2100 ∧ 
    (∃ p, vPriceIn n f x y = .tuple #[.int .i64 p, .bool true] ∧ c ≤ p) ∧ ∃ q u, vPriceIn n f x (y - 1) = .tuple #[.int .i64 q, .bool u] ∧ (u = true → q < c)) := by
  unfold vFirst
  split
  · rename_i h
    have hc := inR_true.1 h.2.2
    cases e : faGo n f x c 261 1840 with
    | none => exact ⟨0, false, rfl, fun e => by simp at e⟩
    | some y =>
      obtain ⟨a1, a2, a3, a4⟩ := faGo_some _ _ _ e
      refine ⟨y, true, rfl, fun _ => ⟨h.1, a1, a2, ⟨_, ?_, a3⟩, ?_⟩⟩
      · unfold vPriceIn
        rw [if_pos ⟨h.1, h.2.1, inR_true.2 ⟨a1, a2⟩⟩]
        have : decide (0 < priceV n f x y) = true := decide_eq_true (by omega)
        rw [this]
      · obtain ⟨q, u, h1, h2, h3⟩ := vPrice_ex n f x (y - 1)
        refine ⟨q, u, h1, fun hu => ?_⟩
        have h4 := h2.1 hu
        have h5 := inR_true.1 h4.1.2.2
        rw [h3 hu]
        exact a4 (y - 1) (by omega) (by omega)
  · exact ⟨0, false, rfl, fun e => by simp at e⟩
/-- The growth, times the price at the begin. -/
theorem vGrowth_ex (n : Nat) (f : Nat → Nat → Int) (x a b : Int) : ∃ (p q : Int) (t : Bool), vGrowth n f x a b = .tuple #[.int .i64 p, .int .i64 q, .bool t] ∧ (t = true → prsB n f = true ∧ ∃ u v, 
    vPriceIn n f x a = .tuple #[.int .i64 u, .bool true] ∧ vPriceIn n f x b = .tuple #[.int .i64 v, .bool true] ∧ p * u = q * v ∧ 0 ≤ p * u ∧ p * u ≤ 100000000000000) := by
  unfold vGrowth
  split
  · rename_i h
    obtain ⟨⟨h1, h2, h3, h4, h5⟩, h6, h7⟩ := h
    have hok := prsB_iff.1 h1
    have ba := priceV_bd hok x a
    have bb := priceV_bd hok x b
    refine ⟨_, _, _, rfl, fun _ => ⟨h1, priceV n f x a, priceV n f x b, ?_, ?_, ?_⟩⟩
    · unfold vPriceIn
      rw [if_pos ⟨h1, h2, h3⟩]
      have : decide (0 < priceV n f x a) = true := decide_eq_true (by omega)
      rw [this]
    · unfold vPriceIn
      rw [if_pos ⟨h1, h2, h4⟩]
      have : decide (0 < priceV n f x b) = true := decide_eq_true (by omega)
      rw [this]
    · obtain ⟨u, hu⟩ : ∃ u : Nat, priceV n f x a = u := ⟨(priceV n f x a).toNat, by omega⟩
      obtain ⟨v, hv⟩ : ∃ v : Nat, priceV n f x b = v := ⟨(priceV n f x b).toNat, by omega⟩
      rw [hu, hv, Int.toNat_natCast, Int.toNat_natCast]
      have e1 : v / Nat.gcd v u * u = u / Nat.gcd v u * v := by
        have d1 := Nat.gcd_dvd_left v u
        have d2 := Nat.gcd_dvd_right v u
        rw [Nat.div_mul_right_comm d1, Nat.div_mul_right_comm d2, Nat.mul_comm]
      have e2 : v / Nat.gcd v u * u ≤ 10000000 * 10000000 := Nat.mul_le_mul (Nat.le_trans (Nat.div_le_self _ _) (by omega)) (by omega)
      rw [← Int.natCast_mul, ← Int.natCast_mul, e1]
      rw [e1] at e2
      exact ⟨rfl, by omega, by omega⟩
  · exact ⟨0, 0, false, rfl, fun e => by simp at e⟩
end Go.Proofs.Ytgjkjibllgpnjaa
