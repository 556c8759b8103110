/- Exchanges: plain laws. No program stands here. -/
import Derived.Test.YtnaldmmdhpobgaaDoorP20b
import Derived.Test.YtnaldmmdhpobgaaDoorD11
set_option linter.unusedVariables false
set_option linter.unusedSimpArgs false
namespace Go.Proofs.YtnaldmmdhpobgaaDoor
open Go Go.RowKit

def seenB (ls : List (List Int)) (k p : Nat) : Bool := (List.range k).any fun i => (rowOf ls i).contains (p : Int)
theorem seenB_true {ls : List (List Int)} {k p : Nat} : seenB ls k p = true ↔ ∃ i, i < k ∧ (p : Int) ∈ rowOf ls i := by
  simp [seenB]
theorem seenB_succ {ls : List (List Int)} {k p : Nat} : seenB ls (k + 1) p = (seenB ls k p || (rowOf ls k).contains (p : Int)) := by
  simp [seenB, List.range_succ, List.any_append]
theorem take_snoc (l : List Int) (k : Nat) (h : k < l.length) : l.take (k + 1) = l.take k ++ [l.getD k 0] := by
  rw [List.take_succ_eq_append_getElem h]
  simp [List.getD_eq_getElem?_getD, List.getElem?_eq_getElem h]
/-- A row of truths. -/
def blR (n : Nat) (g : Nat → Bool) : List Value := flatV n 1 (fun p _ => .bool (g p))
theorem blR_length (n : Nat) (g : Nat → Bool) : (blR n g).length = n := by simp [blR, flatV_length]
theorem blR_get {n : Nat} {g : Nat → Bool} {p : Nat} (h : p < n) : (blR n g)[p]? = some (.bool (g p)) := by
  have := flatV_get (n := n) (k := 1) (g := fun p _ => .bool (g p)) h (show 0 < 1 by omega)
  rwa [Nat.mul_one, Nat.add_zero] at this
theorem blR_set {n : Nat} {g : Nat → Bool} {p : Nat} (h : p < n) (x : Bool) : (blR n g).set p (.bool x) = blR n (fun q => if q = p then x else g q) := by
  have := flatV_set0 (n := n) (k := 1) (f := fun p _ => .bool (g p)) (i := p) (sp := []) h (by omega) (.bool x)
  rw [List.append_nil, List.append_nil, Nat.mul_one] at this
  unfold blR
  rw [this]
  refine flatV_congr fun i j hi hj => ?_
  have hj0 : j = 0 := by omega
  subst hj0
  by_cases e : i = p <;> simp [setV, e]
theorem blR_congr {n : Nat} {g g' : Nat → Bool} (h : ∀ p, p < n → g p = g' p) : blR n g = blR n g' := flatV_congr fun i j hi hj => by rw [h i hi]
theorem blR_zero (n : Nat) : mkRow #[Value.bool false] n = blR n (fun _ => false) := by
  have := mkRow_flatV #[Value.bool false] n 1 (by omega) rfl
  rw [Nat.mul_one] at this
  rw [this]
  refine flatV_congr fun i j hi hj => ?_
  have hj0 : j = 0 := by omega
  subst hj0
  rfl
end Go.Proofs.YtnaldmmdhpobgaaDoor
