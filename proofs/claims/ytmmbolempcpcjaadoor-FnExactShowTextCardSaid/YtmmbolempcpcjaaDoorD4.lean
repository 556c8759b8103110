/- Rows joined; rows of ints as lists. For every program. -/
import Derived.Test.YtmmbolempcpcjaaDoorD3
set_option linter.unusedVariables false
set_option linter.unusedSimpArgs false
namespace Go.Proofs.YtmmbolempcpcjaaDoor
open Go Go.RowKit

theorem Rd.row {H : Hp} {A : Option Addr} {m k : Nat} {g : Nat → Nat → Int} (h : Rd H A m k g) (hk : 0 < k) : isRow H A (m * k) (flat m k g) := by
  refine ⟨flat_length m k g, fun h0 => ?_⟩
  have hm : 0 < m := by
    rcases Nat.eq_zero_or_pos m with e | e
    · subst e; simp at h0
    · exact e
  obtain ⟨b, off, e, hc⟩ := h.at_ hm
  refine ⟨b, off, e, fun i u hu => ?_⟩
  have hi : i < m * k := by
    have := (List.getElem?_eq_some_iff.1 hu).1
    rwa [flat_length] at this
  have h1 : i / k < m := Nat.div_lt_of_lt_mul (by rwa [Nat.mul_comm] at hi)
  have h2 : i % k < k := Nat.mod_lt _ hk
  have h3 := hc (i / k) (i % k) h1 h2
  have e1 : off + i / k * k + i % k = off + i := by have := Nat.div_add_mod i k; rw [Nat.mul_comm] at this; omega
  rw [e1] at h3
  rw [h3]
  simp [flat, hi] at hu
  simpa using hu
theorem flat_zero (k : Nat) (f : Nat → Nat → Int) : flat 0 k f = [] := by simp [flat]
theorem OwnR.empty {H : Hp} {lo nx b k : Nat} {f : Nat → Nat → Int} {ty : TypeId} (hb : lo ≤ b) (hx : b < nx) (h : H b = some (.rw [] ty)) : OwnR H lo nx 0 k f ty (.slice (some ⟨b, 0, none⟩) 0 0) :=
  .full hb hx (by rw [flat_zero]; exact h) (by omega)

/-! Rows of ints as lists. -/
def rowL (l : List Int) : Nat → Nat → Int := fun i _ => l.getD i 0
def OwnL (H : Hp) (lo nx : Nat) (l : List Int) (ty : TypeId) (v : Value) : Prop := OwnR H lo nx l.length 1 (rowL l) ty v
structure NewL (H : Hp) (nx : Nat) (l : List Int) (ty : TypeId) (v : Value) (H' : Hp) (nx' : Nat) : Prop where
  own : OwnL H' nx nx' l ty v
  s : Sub H H'
theorem NewL.r {H H' : Hp} {nx nx' : Nat} {l : List Int} {ty : TypeId} {v : Value} (h : NewL H nx l ty v H' nx') : NewR H nx l.length 1 (rowL l) ty v H' nx' := ⟨h.own, h.s⟩
theorem OwnL.nil {H : Hp} {lo nx : Nat} {ty : TypeId} : OwnL H lo nx [] ty (.slice none 0 0) := OwnR.nil
theorem OwnL.empty {H : Hp} {lo nx b : Nat} {ty : TypeId} (hb : lo ≤ b) (hx : b < nx) (h : H b = some (.rw [] ty)) : OwnL H lo nx [] ty (.slice (some ⟨b, 0, none⟩) 0 0) := OwnR.empty hb hx h
theorem mul_bd {a b A B : Int} (ha : -A ≤ a ∧ a ≤ A) (hb : -B ≤ b ∧ b ≤ B) : -(A * B) ≤ a * b ∧ a * b ≤ A * B := by
  have hA : 0 ≤ A := by omega
  rcases Int.le_total 0 b with h | h
  · have h1 := Int.mul_le_mul_of_nonneg_right ha.2 h
    have h2 := Int.mul_le_mul_of_nonneg_right ha.1 h
    have h3 := Int.mul_le_mul_of_nonneg_left hb.2 hA
    rw [Int.neg_mul] at h2
    omega
  · have h0 : 0 ≤ -b := by omega
    have h1 := Int.mul_le_mul_of_nonneg_right ha.2 h0
    have h2 := Int.mul_le_mul_of_nonneg_right ha.1 h0
    have h3 := Int.mul_le_mul_of_nonneg_left (show -b ≤ B by omega) hA
    simp only [Int.mul_neg, Int.neg_mul, Int.neg_neg] at h1 h2 h3
    omega
end Go.Proofs.YtmmbolempcpcjaaDoor
