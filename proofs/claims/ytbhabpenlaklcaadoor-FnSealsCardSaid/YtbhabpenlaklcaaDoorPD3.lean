/- What the laws on puzzles draw. -/
import Derived.Test.YtbhabpenlaklcaaDoorPD2
set_option linter.unusedVariables false
set_option linter.unusedSimpArgs false
set_option maxRecDepth 100000
set_option maxHeartbeats 4000000
namespace Go.Proofs.YtbhabpenlaklcaaDoor
open Go Go.RowKit Go.Proofs
theorem StayB.sub {bC nx : Nat} {H H' : Hp} (h : StayB bC H H') (hB : Bd H nx) (hb : nx ≤ bC) : Sub H H' := fun c o e => by
  have := hB c o e
  exact h c o (by omega) e
end Go.Proofs.YtbhabpenlaklcaaDoor
