/- How many of each medal. -/
import Derived.Test.YtnjlleopgjggpaaR5
set_option linter.unusedVariables false
set_option linter.unusedSimpArgs false
set_option maxRecDepth 100000
set_option maxHeartbeats 1000000
namespace Go.Proofs.Ytnjlleopgjggpaa
open Go Go.RowKit Go.Proofs

end Go.Proofs.Ytnjlleopgjggpaa
