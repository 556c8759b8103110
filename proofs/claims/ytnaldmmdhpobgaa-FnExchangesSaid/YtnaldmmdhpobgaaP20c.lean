/- Exchanges: plain laws. No program stands here. -/
import Derived.Test.YtnaldmmdhpobgaaP20b
import Derived.Test.YtnaldmmdhpobgaaD11
set_option linter.unusedVariables false
set_option linter.unusedSimpArgs false
namespace Go.Proofs.Ytnaldmmdhpobgaa
open Go Go.RowKit

def aptB (a b : List Int) : Bool := decide (∀ x ∈ a, x ∉ b)
def exAt (N : Int) (m : Nat) (f : Nat → Nat → Int) (ls : List (List Int)) (i : Nat) : Prop :=
  crOk N m f (rowOf ls i).length (rowL (rowOf ls i)) ∧ (0 < i → (rowOf ls (i - 1)).getD 0 0 < (rowOf ls i).getD 0 0) ∧ ∀ k, k < i → ∀ x ∈ rowOf ls k, x ∉ rowOf ls i
def exOk (N : Int) (m : Nat) (f : Nat → Nat → Int) (ls : List (List Int)) : Prop := ∀ i, i < ls.length → exAt N m f ls i
open Classical in
noncomputable def exB (N : Int) (m : Nat) (f : Nat → Nat → Int) (ls : List (List Int)) : Bool := decide (exOk N m f ls)
open Classical in
theorem exB_iff {N : Int} {m : Nat} {f : Nat → Nat → Int} {ls : List (List Int)} : exB N m f ls = true ↔ exOk N m f ls := by unfold exB; exact decide_eq_true_iff
theorem exB_no {N : Int} {m : Nat} {f : Nat → Nat → Int} {ls : List (List Int)} {k : Nat} (hk : k < ls.length) (h : ¬ exAt N m f ls k) : exB N m f ls = false := by
  rw [Bool.eq_false_iff, Ne, exB_iff]; exact fun hh => h (hh k hk)
theorem exB_yes {N : Int} {m : Nat} {f : Nat → Nat → Int} {ls : List (List Int)} (h : ∀ i, i < ls.length → exAt N m f ls i) : exB N m f ls = true := exB_iff.2 h
/-- The first ones of the circles rise: there are no more circles than people. -/
theorem ex_first {N : Int} {m : Nat} {f : Nat → Nat → Int} {ls : List (List Int)} : ∀ k : Nat, (∀ i, i ≤ k → exAt N m f ls i) → (k : Int) ≤ (rowOf ls k).getD 0 0
  | 0, h => by
    have := (h 0 (Nat.le_refl _)).1.1.1 0 (by have := (h 0 (Nat.le_refl _)).1.1.2.1; omega)
    have := this.1
    simpa [rowL] using this
  | k + 1, h => by
    have h1 := ex_first k (fun i hi => h i (by omega))
    have h2 := (h (k + 1) (Nat.le_refl _)).2.1 (by omega)
    rw [Nat.add_sub_cancel] at h2
    omega
theorem ex_few {N : Int} {m : Nat} {f : Nat → Nat → Int} {ls : List (List Int)} {k : Nat} (h : ∀ i, i < k → exAt N m f ls i) : (k : Int) ≤ N ∨ k = 0 := by
  rcases Nat.eq_zero_or_pos k with e | e
  · exact .inr e
  · refine .inl ?_
    have h1 := ex_first (k - 1) (fun i hi => h i (by omega))
    have h2 := (h (k - 1) (by omega)).1.1
    have h3 := (h2.1 0 (by have := h2.2.1; omega)).2.1
    simp only [rowL] at h3
    omega
def seenB (ls : List (List Int)) (k p : Nat) : Bool := (List.range k).any fun i => (rowOf ls i).contains (p : Int)
theorem seenB_true {ls : List (List Int)} {k p : Nat} : seenB ls k p = true ↔ ∃ i, i < k ∧ (p : Int) ∈ rowOf ls i := by
  simp [seenB]
theorem seenB_succ {ls : List (List Int)} {k p : Nat} : seenB ls (k + 1) p = (seenB ls k p || (rowOf ls k).contains (p : Int)) := by
  simp [seenB, List.range_succ, List.any_append]
theorem take_snoc (l : List Int) (k : Nat) (h : k < l.length) : l.take (k + 1) = l.take k ++ [l.getD k 0] := by
  rw [List.take_succ_eq_append_getElem h]
  simp [List.getD_eq_getElem?_getD, List.getElem?_eq_getElem h]
/-- A row of truths. -/
def blR (n : Nat) (g : Nat → Bool) : List Value := flatV n 1 (fun p _ => .bool (g p))
theorem blR_length (n : Nat) (g : Nat → Bool) : (blR n g).length = n := by simp [blR, flatV_length]
theorem blR_get {n : Nat} {g : Nat → Bool} {p : Nat} (h : p < n) : (blR n g)[p]? = some (.bool (g p)) := by
  have := flatV_get (n := n) (k := 1) (g := fun p _ => .bool (g p)) h (show 0 < 1 by omega)
  rwa [Nat.mul_one, Nat.add_zero] at this
theorem blR_set {n : Nat} {g : Nat → Bool} {p : Nat} (h : p < n) (x : Bool) : (blR n g).set p (.bool x) = blR n (fun q => if q = p then x else g q) := by
  have := flatV_set0 (n := n) (k := 1) (f := fun p _ => .bool (g p)) (i := p) (sp := []) h (by omega) (.bool x)
  rw [List.append_nil, List.append_nil, Nat.mul_one] at this
  unfold blR
  rw [this]
  refine flatV_congr fun i j hi hj => ?_
  have hj0 : j = 0 := by omega
  subst hj0
  by_cases e : i = p <;> simp [setV, e]
theorem blR_congr {n : Nat} {g g' : Nat → Bool} (h : ∀ p, p < n → g p = g' p) : blR n g = blR n g' := flatV_congr fun i j hi hj => by rw [h i hi]
theorem blR_zero (n : Nat) : mkRow #[Value.bool false] n = blR n (fun _ => false) := by
  have := mkRow_flatV #[Value.bool false] n 1 (by omega) rfl
  rw [Nat.mul_one] at this
  rw [this]
  refine flatV_congr fun i j hi hj => ?_
  have hj0 : j = 0 := by omega
  subst hj0
  rfl
end Go.Proofs.Ytnaldmmdhpobgaa
