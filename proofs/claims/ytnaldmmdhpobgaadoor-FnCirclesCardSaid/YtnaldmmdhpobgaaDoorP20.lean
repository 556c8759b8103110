/- Wishes and circles: plain laws. No program stands here. -/
import Derived.Test.YtnaldmmdhpobgaaDoorD4
set_option linter.unusedVariables false
set_option linter.unusedSimpArgs false
namespace Go.Proofs.YtnaldmmdhpobgaaDoor
open Go Go.RowKit

/-- Before, by giver, then by taker. -/
def wsLt (f : Nat → Nat → Int) (i j : Nat) : Prop := f i 0 < f j 0 ∨ (f i 0 = f j 0 ∧ f i 1 < f j 1)
def wsOne (n : Int) (g : Nat → Int) : Prop := inR (g 0) 0 (n - 1) = true ∧ inR (g 1) 0 (n - 1) = true ∧ g 0 ≠ g 1 ∧ inR (g 2) 1 1000 = true
def wsOk (n : Int) (f : Nat → Nat → Int) (i : Nat) : Prop := wsOne n (f i) ∧ (0 < i → wsLt f (i - 1) i)
def wssOk (n : Int) (m : Nat) (f : Nat → Nat → Int) : Prop := (1 ≤ n ∧ n ≤ 8) ∧ m ≤ 30 ∧ ∀ i, i < m → wsOk n f i
open Classical in
noncomputable def wssB (n : Int) (m : Nat) (f : Nat → Nat → Int) : Bool := decide (wssOk n m f)
open Classical in
theorem wssB_iff {n : Int} {m : Nat} {f : Nat → Nat → Int} : wssB n m f = true ↔ wssOk n m f := by unfold wssB; exact decide_eq_true_iff
theorem wssB_no {n : Int} {m : Nat} {f : Nat → Nat → Int} (h : ¬ wssOk n m f) : wssB n m f = false := by
  rw [Bool.eq_false_iff, Ne, wssB_iff]; exact h
theorem wssB_yes {n : Int} {m : Nat} {f : Nat → Nat → Int} (h1 : 1 ≤ n) (h2 : n ≤ 8) (h3 : m ≤ 30) (h : ∀ i, i < m → wsOk n f i) : wssB n m f = true := wssB_iff.2 ⟨⟨h1, h2⟩, h3, h⟩
theorem wss_bd {n : Int} {m : Nat} {f : Nat → Nat → Int} (h : wssOk n m f) {i : Nat} (hi : i < m) : 0 ≤ f i 0 ∧ f i 0 < n ∧ 0 ≤ f i 1 ∧ f i 1 < n ∧ 1 ≤ f i 2 ∧ f i 2 ≤ 1000 := by
  obtain ⟨h0, h1, h2, h3⟩ := (h.2.2 i hi).1
  have := inR_true.1 h0; have := inR_true.1 h1; have := inR_true.1 h3
  omega

/-- The gain of the wish of one for another, or 0. -/
def gnV (m : Nat) (f : Nat → Nat → Int) (a b : Int) : Int := match (List.range m).find? (fun i => decide (f i 0 = a) && decide (f i 1 = b)) with
  | some i => f i 2
  | none => 0
theorem gnV_none {m : Nat} {f : Nat → Nat → Int} {a b : Int} (h : ∀ i, i < m → ¬ (f i 0 = a ∧ f i 1 = b)) : gnV m f a b = 0 := by
  unfold gnV
  rw [List.find?_eq_none.2 (fun i hi => by simp only [List.mem_range] at hi; simpa using fun e => fun e' => h i hi ⟨e, e'⟩)]
theorem gnV_hit {m k : Nat} {f : Nat → Nat → Int} {a b : Int} (hk : k < m) (h : f k 0 = a ∧ f k 1 = b) (hb : ∀ i, i < k → ¬ (f i 0 = a ∧ f i 1 = b)) : gnV m f a b = f k 2 := by
  unfold gnV
  have : (List.range m).find? (fun i => decide (f i 0 = a) && decide (f i 1 = b)) = some k := by
    rw [List.find?_range_eq_some]
    refine ⟨by simp [h.1, h.2], by simpa using hk, fun j hj => ?_⟩
    have := hb j hj
    simp only [Bool.not_eq_eq_eq_not, Bool.not_true, Bool.and_eq_false_imp, decide_eq_true_eq, decide_eq_false_iff_not]
    exact fun e e' => this ⟨e, e'⟩
  rw [this]
theorem gnV_bd {n : Int} {m : Nat} {f : Nat → Nat → Int} (h : wssOk n m f) (a b : Int) : 0 ≤ gnV m f a b ∧ gnV m f a b ≤ 1000 := by
  unfold gnV
  split
  · rename_i i hi
    have hm := List.mem_of_find?_eq_some hi
    have := wss_bd h (i := i) (by simpa using hm)
    omega
  · omega

/-- Different people of n, the first one the least, two at least. -/
def rgAt (n : Int) (g : Nat → Nat → Int) (i : Nat) : Prop := 0 ≤ g i 0 ∧ g i 0 < n ∧ g 0 0 ≤ g i 0 ∧ ∀ k, k < i → g k 0 ≠ g i 0
def rgOk (n : Int) (c : Nat) (g : Nat → Nat → Int) : Prop := (∀ i, i < c → rgAt n g i) ∧ 2 ≤ c ∧ (c : Int) ≤ n
open Classical in
noncomputable def rgB (n : Int) (c : Nat) (g : Nat → Nat → Int) : Bool := decide (rgOk n c g)
open Classical in
theorem rgB_iff {n : Int} {c : Nat} {g : Nat → Nat → Int} : rgB n c g = true ↔ rgOk n c g := by unfold rgB; exact decide_eq_true_iff
theorem rgB_no {n : Int} {c : Nat} {g : Nat → Nat → Int} (h : ¬ rgOk n c g) : rgB n c g = false := by
  rw [Bool.eq_false_iff, Ne, rgB_iff]; exact h
theorem rgB_yes {n : Int} {c : Nat} {g : Nat → Nat → Int} (h : rgOk n c g) : rgB n c g = true := rgB_iff.2 h
/-- The next one in the circle. -/
def nxt (c : Nat) (g : Nat → Nat → Int) (i : Nat) : Int := g ((i + 1) % c) 0
def gnAt (m : Nat) (f : Nat → Nat → Int) (c : Nat) (g : Nat → Nat → Int) (i : Nat) : Int := gnV m f (g i 0) (nxt c g i)
def crOk (n : Int) (m : Nat) (f : Nat → Nat → Int) (c : Nat) (g : Nat → Nat → Int) : Prop := rgOk n c g ∧ ∀ i, i < c → gnAt m f c g i ≠ 0
open Classical in
noncomputable def crB (n : Int) (m : Nat) (f : Nat → Nat → Int) (c : Nat) (g : Nat → Nat → Int) : Bool := decide (crOk n m f c g)
open Classical in
theorem crB_iff {n : Int} {m : Nat} {f : Nat → Nat → Int} {c : Nat} {g : Nat → Nat → Int} : crB n m f c g = true ↔ crOk n m f c g := by unfold crB; exact decide_eq_true_iff
theorem crB_no {n : Int} {m : Nat} {f : Nat → Nat → Int} {c : Nat} {g : Nat → Nat → Int} (h : ¬ crOk n m f c g) : crB n m f c g = false := by
  rw [Bool.eq_false_iff, Ne, crB_iff]; exact h
theorem crB_yes {n : Int} {m : Nat} {f : Nat → Nat → Int} {c : Nat} {g : Nat → Nat → Int} (h : crOk n m f c g) : crB n m f c g = true := crB_iff.2 h
/-- The gains of the first so many of a circle. -/
def sumG (m : Nat) (f : Nat → Nat → Int) (c : Nat) (g : Nat → Nat → Int) : Nat → Int
  | 0 => 0
  | k + 1 => sumG m f c g k + gnAt m f c g k
theorem sumG_bd {n : Int} {m : Nat} {f : Nat → Nat → Int} (h : wssOk n m f) (c : Nat) (g : Nat → Nat → Int) : ∀ k : Nat, 0 ≤ sumG m f c g k ∧ sumG m f c g k ≤ 1000 * (k : Int)
  | 0 => by simp [sumG]
  | k + 1 => by
    have h1 := sumG_bd h c g k
    have h2 := gnV_bd h (g k 0) (nxt c g k)
    simp only [sumG, gnAt]
    omega
theorem sumG_pos {n : Int} {m : Nat} {f : Nat → Nat → Int} (h : wssOk n m f) {c : Nat} {g : Nat → Nat → Int} (hc : ∀ i, i < c → gnAt m f c g i ≠ 0) {k : Nat} (hk : k < c) : 0 < sumG m f c g (k + 1) := by
  have h1 := sumG_bd h c g k
  have h2 := gnV_bd h (g k 0) (nxt c g k)
  have h3 := hc k hk
  simp only [sumG]
  simp only [gnAt] at h3 ⊢
  omega
/-- The gain of a circle, or 0. -/
noncomputable def sumV (n : Int) (m : Nat) (f : Nat → Nat → Int) (c : Nat) (g : Nat → Nat → Int) : Int := if crB n m f c g = true then sumG m f c g c else 0
theorem sumV_yes {n : Int} {m : Nat} {f : Nat → Nat → Int} {c : Nat} {g : Nat → Nat → Int} (h : crOk n m f c g) : sumV n m f c g = sumG m f c g c := by rw [sumV, if_pos (crB_iff.2 h)]
theorem sumV_no {n : Int} {m : Nat} {f : Nat → Nat → Int} {c : Nat} {g : Nat → Nat → Int} (h : ¬ crOk n m f c g) : sumV n m f c g = 0 := by rw [sumV, if_neg (fun hh => h (crB_iff.1 hh))]
theorem sumV_pos {n : Int} {m : Nat} {f : Nat → Nat → Int} (h : wssOk n m f) {c : Nat} {g : Nat → Nat → Int} : decide (0 < sumV n m f c g) = crB n m f c g := by
  by_cases hc : crOk n m f c g
  · rw [sumV_yes hc, crB_yes hc]
    obtain ⟨k, rfl⟩ : ∃ k, c = k + 1 := ⟨c - 1, by have := hc.1.2.1; omega⟩
    simpa using sumG_pos h hc.2 (Nat.lt_succ_self k)
  · rw [sumV_no hc, crB_no hc]; rfl
theorem sumV_bd {n : Int} {m : Nat} {f : Nat → Nat → Int} (h : wssOk n m f) {c : Nat} {g : Nat → Nat → Int} : 0 ≤ sumV n m f c g ∧ sumV n m f c g ≤ 8000 := by
  by_cases hc : crOk n m f c g
  · rw [sumV_yes hc]
    have := sumG_bd h c g c
    have := hc.1.2.2; have := h.1
    omega
  · rw [sumV_no hc]; omega
theorem sumV_nz {n : Int} {m : Nat} {f : Nat → Nat → Int} (h : wssOk n m f) {c : Nat} {g : Nat → Nat → Int} : sumV n m f c g = 0 ↔ ¬ crOk n m f c g := by
  have e := sumV_pos h (c := c) (g := g)
  have b := sumV_bd h (c := c) (g := g)
  rw [← crB_iff, ← e]
  simp only [decide_eq_true_eq]
  omega
end Go.Proofs.YtnaldmmdhpobgaaDoor
