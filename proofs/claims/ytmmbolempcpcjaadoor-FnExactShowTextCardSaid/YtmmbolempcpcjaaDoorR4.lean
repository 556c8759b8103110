/- Score and medal of an exhibit. -/
import Derived.Test.YtmmbolempcpcjaaDoorR1
import Derived.Test.YtmmbolempcpcjaaDoorR3
set_option linter.unusedVariables false
set_option linter.unusedSimpArgs false
set_option maxRecDepth 100000
set_option maxHeartbeats 1000000
namespace Go.Proofs.YtmmbolempcpcjaaDoor
open Go Go.RowKit Go.Proofs

theorem AC.monoB {P : Program} {f : FuncId} {args : Array Value} {H : Hp} {nx : Nat} {R R' : Value → Hp → Nat → Prop} (h : AC P f args H nx R) (hr : ∀ v H' nx', Bd H' nx' → nx ≤ nx' → R v H' nx' → R' v H' nx') : AC P f args H nx R' :=
  ⟨h.1, fun w hw => (h.2 w hw).mono fun _ _ ⟨v, H', nx', e, r, k, n, q⟩ => ⟨v, H', nx', e, r, k, n, hr _ _ _ r.lt n q⟩⟩
end Go.Proofs.YtmmbolempcpcjaaDoor
