/- Rows of whatever cells. For every program. -/
import Derived.Test.YtnjlleopgjggpaaDoorD4
set_option linter.unusedVariables false
set_option linter.unusedSimpArgs false
namespace Go.Proofs.YtnjlleopgjggpaaDoor
open Go Go.RowKit

/-- n elements of k cells each. -/
def flatV (n k : Nat) (g : Nat → Nat → Value) : List Value := (List.range (n * k)).map fun i => g (i / k) (i % k)
theorem flatV_length (n k : Nat) (g : Nat → Nat → Value) : (flatV n k g).length = n * k := by simp [flatV]
theorem flatV_get {n k : Nat} {g : Nat → Nat → Value} {i j : Nat} (hi : i < n) (hj : j < k) : (flatV n k g)[i * k + j]? = some (g i j) := by
  have h1 : i * k + j < n * k := by
    have : (i + 1) * k ≤ n * k := Nat.mul_le_mul_right _ hi
    rw [Nat.add_mul] at this; omega
  have h2 : (i * k + j) / k = i := by rw [Nat.mul_comm, Nat.mul_add_div (by omega), Nat.div_eq_of_lt hj]; omega
  have h3 : (i * k + j) % k = j := by rw [Nat.mul_comm, Nat.mul_add_mod, Nat.mod_eq_of_lt hj]
  simp [flatV, h1, h2, h3]
theorem flatV_congr {n k : Nat} {f g : Nat → Nat → Value} (h : ∀ i j, i < n → j < k → f i j = g i j) : flatV n k f = flatV n k g := by
  unfold flatV
  refine List.map_congr_left fun i hi => ?_
  have hi := List.mem_range.1 hi
  rcases Nat.eq_zero_or_pos k with hk | hk
  · subst hk; simp at hi
  · rw [h _ _ (Nat.div_lt_of_lt_mul (by rwa [Nat.mul_comm] at hi)) (Nat.mod_lt _ hk)]
/-- A slice of n elements, k cells each, read off a block that is known. -/
structure RdV (H : Hp) (A : Option Addr) (n k : Nat) (g : Nat → Nat → Value) : Prop where
  at_ : 0 < n → ∃ b off, A = some ⟨b, off, none⟩ ∧ ∀ i j, i < n → j < k → rd H b (off + i * k + j) = some (g i j)
theorem RdV.sub {H H' : Hp} {A : Option Addr} {n k : Nat} {f : Nat → Nat → Value} (h : RdV H A n k f) (hs : Sub H H') : RdV H' A n k f :=
  ⟨fun hn => by
    obtain ⟨b, off, e, hc⟩ := h.at_ hn
    exact ⟨b, off, e, fun i j hi hj => rd_sub hs (hc i j hi hj)⟩⟩
theorem RdV.zero {H : Hp} {A : Option Addr} {k : Nat} {f : Nat → Nat → Value} : RdV H A 0 k f := ⟨fun h => absurd h (by omega)⟩
theorem RdV.rw_ {H : Hp} {b n k : Nat} {f : Nat → Nat → Value} {sp : List Value} {ty : TypeId} (h : H b = some (.rw (flatV n k f ++ sp) ty)) : RdV H (some ⟨b, 0, none⟩) n k f :=
  ⟨fun hn => ⟨b, 0, rfl, fun i j hi hj => by
    rw [rd_rw h, Nat.zero_add]
    have h1 : i * k + j < n * k := by
      have : (i + 1) * k ≤ n * k := Nat.mul_le_mul_right _ hi
      rw [Nat.add_mul] at this; omega
    rw [List.getElem?_append_left (by rw [flatV_length]; exact h1), flatV_get hi hj]⟩⟩
theorem RdV.take {H : Hp} {A : Option Addr} {n m k : Nat} {f : Nat → Nat → Value} (h : RdV H A n k f) (hm : m ≤ n) : RdV H A m k f :=
  ⟨fun h0 => by
    obtain ⟨b, off, e, hc⟩ := h.at_ (by omega)
    exact ⟨b, off, e, fun i j hi hj => hc i j (by omega) hj⟩⟩
end Go.Proofs.YtnjlleopgjggpaaDoor
