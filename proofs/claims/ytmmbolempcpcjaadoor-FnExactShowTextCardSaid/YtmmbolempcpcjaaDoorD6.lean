/- Objects that lie in an interval of blocks. For every program. -/
import Derived.Test.YtmmbolempcpcjaaDoorD4
set_option linter.unusedVariables false
set_option linter.unusedSimpArgs false
namespace Go.Proofs.YtmmbolempcpcjaaDoor
open Go Go.RowKit

end Go.Proofs.YtmmbolempcpcjaaDoor
