/- Plain facts on first places, and rows cut or lengthened. For every program. -/
import Derived.Test.YtnjlleopgjggpaaDoorD
set_option linter.unusedVariables false
set_option linter.unusedSimpArgs false
namespace Go.Proofs.YtnjlleopgjggpaaDoor
open Go Go.RowKit
/-- The first place below n where p holds, or -1. -/
def idxOf (p : Nat → Bool) (n : Nat) : Int := match (List.range n).find? p with
  | some k => (k : Int)
  | none => -1
theorem idxOf_none {p : Nat → Bool} {n : Nat} (h : ∀ i, i < n → p i = false) : idxOf p n = -1 := by
  unfold idxOf
  rw [List.find?_eq_none.2 (fun i hi => by simp [h i (List.mem_range.1 hi)])]
theorem idxOf_hit {p : Nat → Bool} {n k : Nat} (hk : k < n) (h : p k = true) (hb : ∀ i, i < k → p i = false) : idxOf p n = k := by
  unfold idxOf
  have : (List.range n).find? p = some k := by
    rw [List.find?_eq_some_iff_getElem]
    refine ⟨h, k, by simpa using hk, by simp, fun j hj => ?_⟩
    simp [hb j hj]
  rw [this]
theorem idxOf_cases (p : Nat → Bool) (n : Nat) : (idxOf p n = -1 ∧ ∀ i, i < n → p i = false) ∨ ∃ k : Nat, idxOf p n = (k : Int) ∧ k < n ∧ p k = true ∧ ∀ i, i < k → p i = false := by
  unfold idxOf
  cases h : (List.range n).find? p with
  | none => exact .inl ⟨rfl, fun i hi => by simpa using List.find?_eq_none.1 h i (List.mem_range.2 hi)⟩
  | some k =>
    right
    rw [List.find?_eq_some_iff_getElem] at h
    obtain ⟨h1, i, hi, h2, h3⟩ := h
    simp at h2 hi
    subst h2
    exact ⟨i, rfl, hi, h1, fun j hj => by simpa using h3 j hj⟩
theorem idxOf_nonneg {p : Nat → Bool} {n : Nat} : 0 ≤ idxOf p n ↔ ∃ k, k < n ∧ p k = true := by
  rcases idxOf_cases p n with ⟨h, h2⟩ | ⟨k, h, hk, hp, _⟩
  · rw [h]
    refine ⟨fun h => absurd h (by omega), fun ⟨k, hk, hp⟩ => by rw [h2 k hk] at hp; cases hp⟩
  · rw [h]
    exact ⟨fun _ => ⟨k, hk, hp⟩, fun _ => by omega⟩
/-- Whether p holds somewhere below n. -/
def anyB (p : Nat → Bool) (n : Nat) : Bool := (List.range n).any p
theorem anyB_true {p : Nat → Bool} {n : Nat} : anyB p n = true ↔ ∃ k, k < n ∧ p k = true := by simp [anyB]
theorem anyB_false {p : Nat → Bool} {n : Nat} : anyB p n = false ↔ ∀ k, k < n → p k = false := by simp [anyB]
theorem idxOf_ge {p : Nat → Bool} {n : Nat} : decide (0 ≤ idxOf p n) = anyB p n := by
  rw [Bool.eq_iff_iff, anyB_true, decide_eq_true_iff, idxOf_nonneg]
theorem Rd.take {H : Hp} {A : Option Addr} {n m k : Nat} {f : Nat → Nat → Int} (h : Rd H A n k f) (hm : m ≤ n) : Rd H A m k f :=
  ⟨fun h0 => by
    obtain ⟨b, off, e, hc⟩ := h.at_ (by omega)
    exact ⟨b, off, e, fun i j hi hj => hc i j (by omega) hj⟩⟩
theorem Rd.drop {H : Hp} {b off n m k : Nat} {f : Nat → Nat → Int} (h : Rd H (some ⟨b, off, none⟩) n k f) (hm : m ≤ n) : Rd H (some ⟨b, off + m * k, none⟩) (n - m) k (fun i j => f (m + i) j) :=
  ⟨fun h0 => by
    obtain ⟨b', off', e, hc⟩ := h.at_ (by omega)
    cases e
    exact ⟨b, off + m * k, rfl, fun i j hi hj => by
      have := hc (m + i) j (by omega) hj
      rw [Nat.add_mul, ← Nat.add_assoc] at this
      exact this⟩⟩
end Go.Proofs.YtnjlleopgjggpaaDoor
