/- A stable sort of a few; rank. -/
import Derived.Test.YtnjlleopgjggpaaR7
import Derived.Test.YtnjlleopgjggpaaR10
import Derived.Test.YtnjlleopgjggpaaD6
import Derived.Test.YtnjlleopgjggpaaD2
set_option linter.unusedVariables false
set_option linter.unusedSimpArgs false
set_option maxRecDepth 100000
set_option maxHeartbeats 4000000
namespace Go.Proofs.Ytnjlleopgjggpaa
open Go Go.RowKit Go.Proofs

end Go.Proofs.Ytnjlleopgjggpaa
