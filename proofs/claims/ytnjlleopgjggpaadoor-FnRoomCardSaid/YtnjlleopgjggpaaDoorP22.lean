/- Bids, plain: the last bid is a bid, the next one is beyond the bound, as many are counted. -/
import Derived.Test.YtnjlleopgjggpaaDoorC2
set_option linter.unusedVariables false
set_option linter.unusedSimpArgs false
namespace Go.Proofs.YtnjlleopgjggpaaDoor
open Go Go.RowKit Go.Proofs
theorem countB_gt (n : Nat) (f : Nat → Nat → Int) (l : Int) : ∀ (m : Nat) (b : Int), l < b → countB n f l m b = 0
  | 0, _, _ => rfl
  | m + 1, b, h => by
    simp only [countB]
    rw [if_neg (by omega)]
end Go.Proofs.YtnjlleopgjggpaaDoor
