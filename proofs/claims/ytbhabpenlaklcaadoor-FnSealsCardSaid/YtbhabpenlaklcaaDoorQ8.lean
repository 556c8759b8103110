/- Puzzles: a new one. -/
import Derived.Test.YtbhabpenlaklcaaDoorQ7
set_option linter.unusedVariables false
set_option linter.unusedSimpArgs false
set_option maxRecDepth 100000
set_option maxHeartbeats 1000000
namespace Go.Proofs.YtbhabpenlaklcaaDoor
open Go Go.RowKit Go.Proofs

theorem ownP_nil (H : Hp) (lo hi : Nat) (tot hand : Int) (sl : Bool) : OwnP H lo hi tot [] hand [] sl (.agg #[.int .i64 tot, .slice none 0 0, .int .i64 hand, .slice none 0 0, .bool sl]) :=
  ⟨_, _, rfl, .nil, .nil, fun b h => by cases h⟩

end Go.Proofs.YtbhabpenlaklcaaDoor
