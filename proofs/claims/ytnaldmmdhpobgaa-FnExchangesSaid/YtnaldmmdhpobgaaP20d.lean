/- Sets of people as bits: plain laws. No program stands here. -/
import Derived.Test.YtnaldmmdhpobgaaP20c
set_option linter.unusedVariables false
set_option linter.unusedSimpArgs false
namespace Go.Proofs.Ytnaldmmdhpobgaa
open Go Go.RowKit

theorem ofInt_nat (a : Nat) (h : a < 4611686018427387904) : (BitVec.ofInt 64 (a : Int)).toNat = a := by
  rw [BitVec.toNat_ofInt]
  omega
theorem bitv_or {a b : Nat} (ha : a < 4611686018427387904) (hb : b < 4611686018427387904) : bitv .or .i64 (a : Int) (b : Int) = ((a ||| b : Nat) : Int) := by
  have h1 : a ||| b < 2 ^ 62 := Nat.or_lt_two_pow (by omega) (by omega)
  show IntKind.i64.wrap (((BitVec.ofInt 64 (a : Int)) ||| (BitVec.ofInt 64 (b : Int))).toNat : Int) = _
  rw [BitVec.toNat_or, ofInt_nat a ha, ofInt_nat b hb]
  exact wrap_in (by omega) (by omega)
theorem bitv_and {a b : Nat} (ha : a < 4611686018427387904) (hb : b < 4611686018427387904) : bitv .and .i64 (a : Int) (b : Int) = ((a &&& b : Nat) : Int) := by
  have h1 : a &&& b ≤ a := Nat.and_le_left
  show IntKind.i64.wrap (((BitVec.ofInt 64 (a : Int)) &&& (BitVec.ofInt 64 (b : Int))).toNat : Int) = _
  rw [BitVec.toNat_and, ofInt_nat a ha, ofInt_nat b hb]
  exact wrap_in (by omega) (by omega)
/-- People as bits. -/
def mskL : List Int → Nat
  | [] => 0
  | x :: l => 1 <<< x.toNat ||| mskL l
theorem mskL_bit : ∀ (l : List Int) (p : Nat), (mskL l).testBit p = true ↔ ∃ x ∈ l, x.toNat = p
  | [], p => by simp [mskL]
  | x :: l, p => by
    have ih := mskL_bit l p
    simp only [mskL, Nat.testBit_or, Bool.or_eq_true, ih, Nat.one_shiftLeft, Nat.testBit_two_pow, List.mem_cons, decide_eq_true_eq]
    constructor
    · rintro (h1 | ⟨y, hy, e⟩)
      · exact ⟨x, .inl rfl, h1⟩
      · exact ⟨y, .inr hy, e⟩
    · rintro ⟨y, rfl | hy, e⟩
      · exact .inl e
      · exact .inr ⟨y, hy, e⟩
theorem mskL_lt : ∀ (l : List Int), (∀ x ∈ l, 0 ≤ x ∧ x < 8) → mskL l < 2 ^ 8
  | [], _ => by simp [mskL]
  | x :: l, h => by
    have ih := mskL_lt l (fun y hy => h y (List.mem_cons_of_mem _ hy))
    have hx := h x List.mem_cons_self
    refine Nat.or_lt_two_pow ?_ ih
    rw [Nat.one_shiftLeft]
    exact Nat.pow_lt_pow_right (by omega) (by omega)
/-- The bits of several circles. -/
def mskLL : List (List Int) → Nat
  | [] => 0
  | c :: ls => mskL c ||| mskLL ls
theorem mskLL_bit : ∀ (ls : List (List Int)) (p : Nat), (mskLL ls).testBit p = true ↔ ∃ c ∈ ls, ∃ x ∈ c, x.toNat = p
  | [], p => by simp [mskLL]
  | c :: ls, p => by
    have ih := mskLL_bit ls p
    simp only [mskLL, Nat.testBit_or, Bool.or_eq_true, ih, mskL_bit, List.mem_cons]
    constructor
    · rintro (h | ⟨d, hd, e⟩)
      · exact ⟨c, .inl rfl, h⟩
      · exact ⟨d, .inr hd, e⟩
    · rintro ⟨d, rfl | hd, e⟩
      · exact .inl e
      · exact .inr ⟨d, hd, e⟩
/-- No person in common: no bit in common. -/
theorem msk_apart {ls : List (List Int)} {c : List Int} (hc : ∀ x ∈ c, 0 ≤ x) (hl : ∀ d ∈ ls, ∀ x ∈ d, 0 ≤ x) : (mskL c &&& mskLL ls = 0) ↔ ∀ d ∈ ls, ∀ x ∈ d, x ∉ c := by
  constructor
  · intro h d hd x hx hxc
    have h1 := (mskL_bit c x.toNat).2 ⟨x, hxc, rfl⟩
    have h2 := (mskLL_bit ls x.toNat).2 ⟨d, hd, x, hx, rfl⟩
    have h3 : (mskL c &&& mskLL ls).testBit x.toNat = true := by rw [Nat.testBit_and, h1, h2]; rfl
    rw [h] at h3
    simp at h3
  · intro h
    refine Nat.eq_of_testBit_eq fun p => ?_
    rw [Nat.testBit_and, Nat.zero_testBit, Bool.and_eq_false_iff]
    by_cases h1 : (mskL c).testBit p = true
    · refine .inr ?_
      rw [Bool.eq_false_iff]
      intro h2
      obtain ⟨x, hx, e1⟩ := (mskL_bit c p).1 h1
      obtain ⟨d, hd, y, hy, e2⟩ := (mskLL_bit ls p).1 h2
      have := hc x hx
      have := hl d hd y hy
      have e : y = x := by omega
      exact h d hd y hy (e ▸ hx)
    · exact .inl (by simpa using h1)
end Go.Proofs.Ytnaldmmdhpobgaa
