/- Frames with a medal. -/
import Derived.Test.YtnjlleopgjggpaaDoorR5
set_option linter.unusedVariables false
set_option linter.unusedSimpArgs false
set_option maxRecDepth 100000
set_option maxHeartbeats 1000000
namespace Go.Proofs.YtnjlleopgjggpaaDoor
open Go Go.RowKit Go.Proofs

theorem exs_n {n : Nat} {s : Shw} (h : exsB n s = true) : n ≤ 10 := (exsB_iff.1 h).2
end Go.Proofs.YtnjlleopgjggpaaDoor
