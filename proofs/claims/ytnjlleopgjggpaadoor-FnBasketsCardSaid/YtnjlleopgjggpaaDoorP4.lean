/- Prices: plain laws. No program stands here. -/
import Derived.Test.YtnjlleopgjggpaaDoorD3
set_option linter.unusedVariables false
set_option linter.unusedSimpArgs false
namespace Go.Proofs.YtnjlleopgjggpaaDoor
open Go Go.RowKit

/-- Before, by item, then by year. -/
def prLt (f : Nat → Nat → Int) (i j : Nat) : Prop := f i 0 < f j 0 ∨ (f i 0 = f j 0 ∧ f i 1 < f j 1)
def prOne (g : Nat → Int) : Prop := inR (g 0) 1 999 = true ∧ inR (g 1) 1840 2100 = true ∧ inR (g 2) 1 10000000 = true
def prOk (f : Nat → Nat → Int) (i : Nat) : Prop := prOne (f i) ∧ (0 < i → prLt f (i - 1) i)
def prsOk (n : Nat) (f : Nat → Nat → Int) : Prop := (∀ i, i < n → prOk f i) ∧ n ≤ 15
open Classical in
noncomputable def prsB (n : Nat) (f : Nat → Nat → Int) : Bool := decide (prsOk n f)
open Classical in
theorem prsB_iff {n : Nat} {f : Nat → Nat → Int} : prsB n f = true ↔ prsOk n f := by unfold prsB; exact decide_eq_true_iff
theorem prsB_no {n : Nat} {f : Nat → Nat → Int} {k : Nat} (hk : k < n) (h : ¬ prOk f k) : prsB n f = false := by
  rw [Bool.eq_false_iff, Ne, prsB_iff]; exact fun hh => h (hh.1 k hk)
theorem prsB_end {n : Nat} {f : Nat → Nat → Int} (h : ∀ i, i < n → prOk f i) : prsB n f = decide ((n : Int) ≤ 15) := by
  rw [Bool.eq_iff_iff, prsB_iff, decide_eq_true_iff]; exact ⟨fun hh => by have := hh.2; omega, fun hh => ⟨h, by omega⟩⟩
theorem prOne_bd {g : Nat → Int} (h : prOne g) : 1 ≤ g 0 ∧ g 0 ≤ 999 ∧ 1840 ≤ g 1 ∧ g 1 ≤ 2100 ∧ 1 ≤ g 2 ∧ g 2 ≤ 10000000 := by
  obtain ⟨h0, h1, h2⟩ := h
  have := inR_true.1 h0; have := inR_true.1 h1; have := inR_true.1 h2
  omega
theorem prs_bd {n : Nat} {f : Nat → Nat → Int} (h : prsOk n f) {i : Nat} (hi : i < n) : 1 ≤ f i 0 ∧ f i 0 ≤ 999 ∧ 1840 ≤ f i 1 ∧ f i 1 ≤ 2100 ∧ 1 ≤ f i 2 ∧ f i 2 ≤ 10000000 := prOne_bd (h.1 i hi).1
theorem prs_lt {n : Nat} {f : Nat → Nat → Int} (h : prsOk n f) {i : Nat} : ∀ j, i < j → j < n → prLt f i j
  | 0, h0, _ => absurd h0 (by omega)
  | j + 1, hij, hj => by
    have h1 := (h.1 (j + 1) hj).2 (by omega)
    simp only [Nat.add_sub_cancel] at h1
    by_cases e : i = j
    · subst e; exact h1
    · have h2 := prs_lt (i := i) h j (by omega) (by omega)
      unfold prLt at h1 h2 ⊢
      omega

/-- Between two years. -/
def ipt (c1 c2 y1 y2 y : Int) : Int := c1 + (c2 - c1) * (y - y1) / (y2 - y1)
theorem ipt_bd {c1 c2 y1 y2 y : Int} (h1 : y1 < y) (h2 : y < y2) : (c1 ≤ ipt c1 c2 y1 y2 y ∨ c2 ≤ ipt c1 c2 y1 y2 y) ∧ (ipt c1 c2 y1 y2 y ≤ c1 ∨ ipt c1 c2 y1 y2 y ≤ c2) := by
  have hd : 0 < y2 - y1 := by omega
  unfold ipt
  rcases Int.le_total 0 (c2 - c1) with h | h
  · have a1 : 0 ≤ (c2 - c1) * (y - y1) := Int.mul_nonneg h (by omega)
    have a2 : 0 ≤ (c2 - c1) * (y - y1) / (y2 - y1) := Int.ediv_nonneg a1 (by omega)
    have a3 : (c2 - c1) * (y - y1) ≤ (c2 - c1) * (y2 - y1) := Int.mul_le_mul_of_nonneg_left (by omega) h
    have a4 := Int.ediv_le_ediv hd a3
    rw [Int.mul_ediv_cancel _ (by omega)] at a4
    omega
  · have a1 : (c2 - c1) * (y - y1) ≤ 0 := Int.mul_nonpos_of_nonpos_of_nonneg h (by omega)
    have a2 : (c2 - c1) * (y - y1) / (y2 - y1) ≤ 0 := by
      have := Int.ediv_le_ediv hd a1
      simpa using this
    have a3 : (c2 - c1) * (y2 - y1) ≤ (c2 - c1) * (y - y1) := Int.mul_le_mul_of_nonpos_left h (by omega)
    have a4 := Int.ediv_le_ediv hd a3
    rw [Int.mul_ediv_cancel _ (by omega)] at a4
    omega
theorem ediv_of {a b q r : Int} (hb : 0 < b) (h : a = b * q + r) (h0 : 0 ≤ r) (h1 : r < b) : a / b = q := by
  have := (Int.ediv_emod_unique (a := a) (b := b) (r := r) (q := q) hb).2 ⟨by omega, h0, h1⟩
  exact this.1
/-- Go's division, mended. -/
theorem tdiv_adj {a b : Int} (hb : 0 < b) : (if a.tmod b < 0 then a.tdiv b - 1 else a.tdiv b) = a / b := by
  have h1 := Int.mul_tdiv_add_tmod a b
  have h2 : a.tmod b < b := Int.tmod_lt_of_pos a hb
  have h3 : -b < a.tmod b := by
    have := Int.lt_tmod_of_pos a hb
    exact this
  split
  · symm
    refine ediv_of hb (r := a.tmod b + b) ?_ (by omega) (by omega)
    rw [Int.mul_sub]
    omega
  · symm
    exact ediv_of hb (r := a.tmod b) (by omega) (by omega) h2
/-- The reference's way to round down. -/
theorem neg_ceil {m d : Int} (hd : 0 < d) (hm : 0 ≤ m) : -((m + d - 1).tdiv d) = (-m) / d := by
  rw [Int.tdiv_eq_ediv_of_nonneg (by omega)]
  have h1 := Int.mul_ediv_add_emod (m + d - 1) d
  have h2 := Int.emod_nonneg (m + d - 1) (b := d) (by omega)
  have h3 := Int.emod_lt_of_pos (m + d - 1) hd
  symm
  refine ediv_of hd (r := d - 1 - (m + d - 1) % d) ?_ (by omega) (by omega)
  rw [Int.mul_neg]
  omega

def prAt (f : Nat → Nat → Int) (item year : Int) (k : Nat) : Prop := f k 0 = item ∧ f k 1 = year
def prBr (n : Nat) (f : Nat → Nat → Int) (item year : Int) (k : Nat) : Prop := k + 1 < n ∧ f k 0 = item ∧ f (k + 1) 0 = item ∧ f k 1 < year ∧ year < f (k + 1) 1
open Classical in
/-- The price of an item in a year, or 0. -/
noncomputable def priceV (n : Nat) (f : Nat → Nat → Int) (item year : Int) : Int :=
  if h : ∃ k, k < n ∧ prAt f item year k then f h.choose 2
  else if h : ∃ k, prBr n f item year k then ipt (f h.choose 2) (f (h.choose + 1) 2) (f h.choose 1) (f (h.choose + 1) 1) year
  else 0
theorem priceV_at {n : Nat} {f : Nat → Nat → Int} (hok : prsOk n f) {item year : Int} {k : Nat} (hk : k < n) (h : prAt f item year k) : priceV n f item year = f k 2 := by
  have hex : ∃ k, k < n ∧ prAt f item year k := ⟨k, hk, h⟩
  unfold priceV
  rw [dif_pos hex]
  obtain ⟨h1, h2⟩ := hex.choose_spec
  have : hex.choose = k := by
    generalize hex.choose = j at h1 h2
    rcases Nat.lt_trichotomy j k with e | e | e
    · have := prs_lt hok _ e hk
      unfold prLt at this; unfold prAt at h h2; omega
    · exact e
    · have := prs_lt hok _ e h1
      unfold prLt at this; unfold prAt at h h2; omega
  rw [this]
theorem priceV_br {n : Nat} {f : Nat → Nat → Int} (hok : prsOk n f) {item year : Int} {k : Nat} (h : prBr n f item year k) :
    priceV n f item year = ipt (f k 2) (f (k + 1) 2) (f k 1) (f (k + 1) 1) year := by
  have hno : ¬ ∃ k, k < n ∧ prAt f item year k := by
    rintro ⟨j, hj, h2⟩
    obtain ⟨b1, b2, b3, b4, b5⟩ := h
    rcases Nat.lt_or_ge j (k + 1) with e | e
    · rcases Nat.lt_or_ge j k with e' | e'
      · have := prs_lt hok _ e' (by omega)
        unfold prLt at this; unfold prAt at h2; omega
      · have : j = k := by omega
        subst this
        unfold prAt at h2; omega
    · rcases Nat.lt_or_ge (k + 1) j with e' | e'
      · have := prs_lt hok _ e' hj
        unfold prLt at this; unfold prAt at h2; omega
      · have : j = k + 1 := by omega
        subst this
        unfold prAt at h2; omega
  have hex : ∃ k, prBr n f item year k := ⟨k, h⟩
  unfold priceV
  rw [dif_neg hno, dif_pos hex]
  have h2 := hex.choose_spec
  have : hex.choose = k := by
    generalize hex.choose = j at h2
    obtain ⟨b1, b2, b3, b4, b5⟩ := h
    obtain ⟨c1, c2, c3, c4, c5⟩ := h2
    rcases Nat.lt_trichotomy j k with e | e | e
    · rcases Nat.lt_or_ge (j + 1) k with e' | e'
      · have := prs_lt hok _ e' (by omega)
        unfold prLt at this; omega
      · have : j + 1 = k := by omega
        subst this
        omega
    · exact e
    · rcases Nat.lt_or_ge (k + 1) j with e' | e'
      · have := prs_lt hok _ e' (by omega)
        unfold prLt at this; omega
      · have : k + 1 = j := by omega
        subst this
        omega
  rw [this]
theorem priceV_no {n : Nat} {f : Nat → Nat → Int} {item year : Int} (h1 : ∀ k, k < n → ¬ prAt f item year k) (h2 : ∀ k, ¬ prBr n f item year k) : priceV n f item year = 0 := by
  unfold priceV
  rw [dif_neg (fun ⟨k, hk, h⟩ => h1 k hk h), dif_neg (fun ⟨k, h⟩ => h2 k h)]
theorem priceV_bd {n : Nat} {f : Nat → Nat → Int} (hok : prsOk n f) (item year : Int) : 0 ≤ priceV n f item year ∧ priceV n f item year ≤ 10000000 := by
  by_cases h1 : ∃ k, k < n ∧ prAt f item year k
  · obtain ⟨k, hk, h⟩ := h1
    rw [priceV_at hok hk h]
    have := prs_bd hok hk
    omega
  · by_cases h2 : ∃ k, prBr n f item year k
    · obtain ⟨k, h⟩ := h2
      rw [priceV_br hok h]
      obtain ⟨b1, b2, b3, b4, b5⟩ := h
      have := prs_bd hok b1
      have := prs_bd hok (show k < n by omega)
      have := ipt_bd (c1 := f k 2) (c2 := f (k + 1) 2) b4 b5
      omega
    · rw [priceV_no (fun k hk h => h1 ⟨k, hk, h⟩) (fun k h => h2 ⟨k, h⟩)]
      omega
theorem priceV_br_pos {n : Nat} {f : Nat → Nat → Int} (hok : prsOk n f) {item year : Int} {k : Nat} (h : prBr n f item year k) : 0 < priceV n f item year := by
  rw [priceV_br hok h]
  obtain ⟨b1, b2, b3, b4, b5⟩ := h
  have := prs_bd hok b1
  have := prs_bd hok (show k < n by omega)
  have := ipt_bd (c1 := f k 2) (c2 := f (k + 1) 2) b4 b5
  omega
theorem priceV_gap {n : Nat} {f : Nat → Nat → Int} (hok : prsOk n f) {item year : Int} {k : Nat} (hk : k < n) (hall : ∀ i, i < k → f i 0 ≠ item ∨ f i 1 < year) (h0 : f k 0 = item) (h1 : year < f k 1) (hp : k = 0 ∨ f (k - 1) 0 ≠ item) : priceV n f item year = 0 := by
  refine priceV_no (fun i hi h2 => ?_) (fun i h2 => ?_)
  · unfold prAt at h2
    rcases Nat.lt_trichotomy i k with e | e | e
    · have := hall i e; omega
    · subst e; omega
    · have := prs_lt hok _ e hi
      unfold prLt at this; omega
  · obtain ⟨b1, b2, b3, b4, b5⟩ := h2
    rcases Nat.lt_trichotomy (i + 1) k with e | e | e
    · have := hall (i + 1) e; omega
    · subst e
      rcases hp with e | e
      · omega
      · exact e (by simpa using b2)
    · rcases Nat.eq_or_lt_of_le (show k ≤ i by omega) with e' | e'
      · subst e'; omega
      · have := prs_lt hok _ e' (by omega)
        unfold prLt at this; omega
theorem priceV_br1 {n : Nat} {f : Nat → Nat → Int} (hok : prsOk n f) {item year : Int} {k : Nat} (hk : k < n) (hk0 : 0 < k) (hall : ∀ i, i < k → f i 0 ≠ item ∨ f i 1 < year) (h0 : f k 0 = item) (h1 : year < f k 1) (hp : f (k - 1) 0 = item) :
    f (k - 1) 1 < year ∧ priceV n f item year = f (k - 1) 2 + (f k 2 - f (k - 1) 2) * (year - f (k - 1) 1) / (f k 1 - f (k - 1) 1) := by
  obtain ⟨j, rfl⟩ : ∃ j, k = j + 1 := ⟨k - 1, by omega⟩
  simp only [Nat.add_sub_cancel] at hp ⊢
  have h2 := hall j (by omega)
  have hbr : prBr n f item year j := ⟨hk, hp, h0, by omega, h1⟩
  exact ⟨by omega, priceV_br hok hbr⟩
end Go.Proofs.YtnjlleopgjggpaaDoor
