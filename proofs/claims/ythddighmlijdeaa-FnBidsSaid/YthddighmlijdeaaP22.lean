/- Bids, plain: the last bid is a bid, the next one is beyond the bound, as many are counted. -/
import Derived.Test.YthddighmlijdeaaC2
set_option linter.unusedVariables false
set_option linter.unusedSimpArgs false
namespace Go.Proofs.Ythddighmlijdeaa
open Go Go.RowKit Go.Proofs
theorem countB_gt (n : Nat) (f : Nat → Nat → Int) (l : Int) : ∀ (m : Nat) (b : Int), l < b → countB n f l m b = 0
  | 0, _, _ => rfl
  | m + 1, b, h => by
    simp only [countB]
    rw [if_neg (by omega)]
theorem countB_pos (n : Nat) (f : Nat → Nat → Int) (l : Int) (m : Nat) (b : Int) (h : b ≤ l) : 0 < countB n f l (m + 1) b := by
  have := (countB_bd n f l m (nextB n f b)).1
  simp only [countB]
  rw [if_pos h]
  omega
theorem lastB_all {n : Nat} {f : Nat → Nat → Int} (hok : stepsOk n f) (l : Int) : ∀ (m : Nat) (b : Int), 0 ≤ b → b ≤ l → l - b < m →
    b ≤ lastB n f l m b ∧ lastB n f l m b ≤ l ∧ l < nextB n f (lastB n f l m b) ∧ meetB n f (lastB n f l m b) m b = lastB n f l m b ∧ countB n f (lastB n f l m b) m b = countB n f l m b
  | 0, b, h0, h1, h2 => by omega
  | m + 1, b, h0, h1, h2 => by
    have hn := nextB_bd hok h0
    by_cases h : nextB n f b ≤ l
    · have ih := lastB_all hok l m (nextB n f b) (by omega) h (by omega)
      have e : lastB n f l (m + 1) b = lastB n f l m (nextB n f b) := by simp only [lastB]; rw [if_pos h]
      rw [e]
      obtain ⟨i1, i2, i3, i4, i5⟩ := ih
      refine ⟨by omega, i2, i3, ?_, ?_⟩
      · simp only [meetB]
        rw [if_pos (by omega), i4]
      · simp only [countB]
        rw [if_pos (by omega), if_pos h1, i5]
    · have e : lastB n f l (m + 1) b = b := by simp only [lastB]; rw [if_neg h]
      rw [e]
      refine ⟨Int.le_refl _, h1, by omega, ?_, ?_⟩
      · simp only [meetB]
        rw [if_neg (by omega)]
      · simp only [countB]
        rw [if_pos (Int.le_refl _), if_pos h1, countB_gt n f b m _ (by omega), countB_gt n f l m _ (by omega)]
end Go.Proofs.Ythddighmlijdeaa
