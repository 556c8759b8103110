/- Objects that lie in an interval of blocks. For every program. -/
import Derived.Test.YtnjlleopgjggpaaDoorD4
set_option linter.unusedVariables false
set_option linter.unusedSimpArgs false
namespace Go.Proofs.YtnjlleopgjggpaaDoor
open Go Go.RowKit

theorem AC.monoC {P : Program} {f : FuncId} {args : Array Value} {H : Hp} {nx : Nat} {R R' : Value → Hp → Nat → Prop} (h : AC P f args H nx R) (hr : ∀ v H' nx', Bd H' nx' → nx ≤ nx' → R v H' nx' → R' v H' nx') : AC P f args H nx R' :=
  ⟨trivial, fun w hw => (h.2 w hw).mono fun _ _ ⟨v, H', nx', e, r, k, n, q⟩ => ⟨v, H', nx', e, r, k, n, hr _ _ _ r.lt n q⟩⟩
theorem OwnR.keepI {H H' : Hp} {lo hi n k : Nat} {f : Nat → Nat → Int} {ty : TypeId} {v : Value} (h : OwnR H lo hi n k f ty v) (hk : ∀ c, lo ≤ c → c < hi → H' c = H c) : OwnR H' lo hi n k f ty v :=
  h.keep (fun b hb => hk b (h.blk hb).1 (h.blk hb).2) (Nat.le_refl _)
end Go.Proofs.YtnjlleopgjggpaaDoor
