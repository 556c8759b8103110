/- Objects that lie in an interval of blocks. For every program. -/
import Derived.Test.YtnjlleopgjggpaaDoorD4
set_option linter.unusedVariables false
set_option linter.unusedSimpArgs false
namespace Go.Proofs.YtnjlleopgjggpaaDoor
open Go Go.RowKit

theorem AC.monoC {P : Program} {f : FuncId} {args : Array Value} {H : Hp} {nx : Nat} {R R' : Value → Hp → Nat → Prop} (h : AC P f args H nx R) (hr : ∀ v H' nx', Bd H' nx' → nx ≤ nx' → R v H' nx' → R' v H' nx') : AC P f args H nx R' :=
  ⟨trivial, fun w hw => (h.2 w hw).mono fun _ _ ⟨v, H', nx', e, r, k, n, q⟩ => ⟨v, H', nx', e, r, k, n, hr _ _ _ r.lt n q⟩⟩
end Go.Proofs.YtnjlleopgjggpaaDoor
