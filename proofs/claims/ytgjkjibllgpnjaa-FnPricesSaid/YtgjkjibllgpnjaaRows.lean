/-
  No cell of these rows narrows 'for every input' (looked for: loops, veiled, ifaces, maps, wideKeys, modest, calm, conditions, laid).
  DERIVED. THE GIVEN ROWS OF THIS SEAT. 11 by the template 'for every input the law returns true; each argument reads behind the call as it read before'; 0 by the template 'total and deterministic' (their statements: YtgjkjibllgpnjaaTotals.lean).
  GIVEN WITH THE SEED: the statements are not yours to turn. If you find one false, say at which input.
  Laid BY PROGRAM, IN A SANDBOX (cutbox-rows.mjs): the forced cells as the released guide's own fill.sh prints them over the translation ccffd3e0409f1ca0… (all of the seat's roots in one cut). By AI agents, Wed Nov 11 2026. No macro, syntax, notation, axiom, sorry.
-/
import Derived.Test.YtgjkjibllgpnjaaChecked
import GoSem.Claim
import GoSem.ClaimJoined
import GoSem.ClaimMapViews
import Derived.JoinedTies
import Derived.KernelRfl
namespace Go.Proofs.Ytgjkjibllgpnjaa
/- THE CELL 'sum', in the pinned program and in every row, IS THE sha256 OF THE DUMP (.gsa) THAT YtgjkjibllgpnjaaProg.lean LOADS. Nothing in Lean hashes anything: it is a label: what it is worth is what the hold of that sum in a sandbox is worth. -/
noncomputable def Try.pinned : Pinned := { name := "ytgjkjibllgpnjaa", sum := "ccffd3e0409f1ca058d094af510be2a6f1a421ad2ff0de081020adc537094856", checked := Try.checked }
namespace Rows
def none {H : Type} : Left H := { results := [], args := [] }

/-- 'laws.FnExactArePrices': WHATEVER THE INPUT: true; the input reads as it did. -/
def fnExactArePricesSpec : ChangeSpec := { name := "fnExactArePrices", fn := fun _ => fun
  | [d] => { results := [.lit (.bool true)], args := [d] }
  | _ => none }
def fnExactArePricesRow : OpenClaim := { program := "ytgjkjibllgpnjaa", sum := "ccffd3e0409f1ca058d094af510be2a6f1a421ad2ff0de081020adc537094856", func := "loop.example/g01062/laws.FnExactArePrices", spec := "fnExactArePrices", apart := false }
def FnExactArePricesSaid : Prop := fnExactArePricesRow.holds Try.pinned (OpenSpec.ofChange fnExactArePricesSpec)

/-- ITS FALSE NEIGHBOUR: 'it returns false'. Refute it at one input. -/
def fnExactArePricesWrong : ChangeSpec := { name := "fnExactArePrices", fn := fun _ => fun
  | [d] => { results := [.lit (.bool false)], args := [d] }
  | _ => none }
def FnExactArePricesWrongFalsely : Prop := fnExactArePricesRow.holds Try.pinned (OpenSpec.ofChange fnExactArePricesWrong)

/-- 'laws.FnExactSteepestYears': WHATEVER THE INPUT: true; the input reads as it did. -/
def fnExactSteepestYearsSpec : ChangeSpec := { name := "fnExactSteepestYears", fn := fun _ => fun
  | [d1, d2] => { results := [.lit (.bool true)], args := [d1, d2] }
  | _ => none }
def fnExactSteepestYearsRow : OpenClaim := { program := "ytgjkjibllgpnjaa", sum := "ccffd3e0409f1ca058d094af510be2a6f1a421ad2ff0de081020adc537094856", func := "loop.example/g01062/laws.FnExactSteepestYears", spec := "fnExactSteepestYears", apart := false }
def FnExactSteepestYearsSaid : Prop := fnExactSteepestYearsRow.holds Try.pinned (OpenSpec.ofChange fnExactSteepestYearsSpec)

/-- ITS FALSE NEIGHBOUR: 'it returns false'. Refute it at one input. -/
def fnExactSteepestYearsWrong : ChangeSpec := { name := "fnExactSteepestYears", fn := fun _ => fun
  | [d1, d2] => { results := [.lit (.bool false)], args := [d1, d2] }
  | _ => none }
def FnExactSteepestYearsWrongFalsely : Prop := fnExactSteepestYearsRow.holds Try.pinned (OpenSpec.ofChange fnExactSteepestYearsWrong)

/-- 'laws.FnExactPriceIn': WHATEVER THE INPUT: true; the input reads as it did. -/
def fnExactPriceInSpec : ChangeSpec := { name := "fnExactPriceIn", fn := fun _ => fun
  | [d1, d2, d3] => { results := [.lit (.bool true)], args := [d1, d2, d3] }
  | _ => none }
def fnExactPriceInRow : OpenClaim := { program := "ytgjkjibllgpnjaa", sum := "ccffd3e0409f1ca058d094af510be2a6f1a421ad2ff0de081020adc537094856", func := "loop.example/g01062/laws.FnExactPriceIn", spec := "fnExactPriceIn", apart := false }
def FnExactPriceInSaid : Prop := fnExactPriceInRow.holds Try.pinned (OpenSpec.ofChange fnExactPriceInSpec)

/-- ITS FALSE NEIGHBOUR: 'it returns false'. Refute it at one input. -/
def fnExactPriceInWrong : ChangeSpec := { name := "fnExactPriceIn", fn := fun _ => fun
  | [d1, d2, d3] => { results := [.lit (.bool false)], args := [d1, d2, d3] }
  | _ => none }
def FnExactPriceInWrongFalsely : Prop := fnExactPriceInRow.holds Try.pinned (OpenSpec.ofChange fnExactPriceInWrong)

/-- 'laws.FnExactFirstAbove': WHATEVER THE INPUT: true; the input reads as it did. -/
def fnExactFirstAboveSpec : ChangeSpec := { name := "fnExactFirstAbove", fn := fun _ => fun
  | [d1, d2, d3] => { results := [.lit (.bool true)], args := [d1, d2, d3] }
  | _ => none }
def fnExactFirstAboveRow : OpenClaim := { program := "ytgjkjibllgpnjaa", sum := "ccffd3e0409f1ca058d094af510be2a6f1a421ad2ff0de081020adc537094856", func := "loop.example/g01062/laws.FnExactFirstAbove", spec := "fnExactFirstAbove", apart := false }
def FnExactFirstAboveSaid : Prop := fnExactFirstAboveRow.holds Try.pinned (OpenSpec.ofChange fnExactFirstAboveSpec)

/-- ITS FALSE NEIGHBOUR: 'it returns false'. Refute it at one input. -/
def fnExactFirstAboveWrong : ChangeSpec := { name := "fnExactFirstAbove", fn := fun _ => fun
  | [d1, d2, d3] => { results := [.lit (.bool false)], args := [d1, d2, d3] }
  | _ => none }
def FnExactFirstAboveWrongFalsely : Prop := fnExactFirstAboveRow.holds Try.pinned (OpenSpec.ofChange fnExactFirstAboveWrong)

/-- 'laws.FnExactRaiseAll': WHATEVER THE INPUT: true; the input reads as it did. -/
def fnExactRaiseAllSpec : ChangeSpec := { name := "fnExactRaiseAll", fn := fun _ => fun
  | [d1, d2, d3] => { results := [.lit (.bool true)], args := [d1, d2, d3] }
  | _ => none }
def fnExactRaiseAllRow : OpenClaim := { program := "ytgjkjibllgpnjaa", sum := "ccffd3e0409f1ca058d094af510be2a6f1a421ad2ff0de081020adc537094856", func := "loop.example/g01062/laws.FnExactRaiseAll", spec := "fnExactRaiseAll", apart := false }
def FnExactRaiseAllSaid : Prop := fnExactRaiseAllRow.holds Try.pinned (OpenSpec.ofChange fnExactRaiseAllSpec)

/-- ITS FALSE NEIGHBOUR: 'it returns false'. Refute it at one input. -/
def fnExactRaiseAllWrong : ChangeSpec := { name := "fnExactRaiseAll", fn := fun _ => fun
  | [d1, d2, d3] => { results := [.lit (.bool false)], args := [d1, d2, d3] }
  | _ => none }
def FnExactRaiseAllWrongFalsely : Prop := fnExactRaiseAllRow.holds Try.pinned (OpenSpec.ofChange fnExactRaiseAllWrong)

/-- 'laws.FnExactGrowthIn': WHATEVER THE INPUT: true; the input reads as it did. -/
def fnExactGrowthInSpec : ChangeSpec := { name := "fnExactGrowthIn", fn := fun _ => fun
  | [d1, d2, d3, d4] => { results := [.lit (.bool true)], args := [d1, d2, d3, d4] }
  | _ => none }
def fnExactGrowthInRow : OpenClaim := { program := "ytgjkjibllgpnjaa", sum := "ccffd3e0409f1ca058d094af510be2a6f1a421ad2ff0de081020adc537094856", func := "loop.example/g01062/laws.FnExactGrowthIn", spec := "fnExactGrowthIn", apart := false }
def FnExactGrowthInSaid : Prop := fnExactGrowthInRow.holds Try.pinned (OpenSpec.ofChange fnExactGrowthInSpec)

/-- ITS FALSE NEIGHBOUR: 'it returns false'. Refute it at one input. -/
def fnExactGrowthInWrong : ChangeSpec := { name := "fnExactGrowthIn", fn := fun _ => fun
  | [d1, d2, d3, d4] => { results := [.lit (.bool false)], args := [d1, d2, d3, d4] }
  | _ => none }
def FnExactGrowthInWrongFalsely : Prop := fnExactGrowthInRow.holds Try.pinned (OpenSpec.ofChange fnExactGrowthInWrong)

/-- 'laws.FnExactDearestIn': WHATEVER THE INPUT: true; the input reads as it did. -/
def fnExactDearestInSpec : ChangeSpec := { name := "fnExactDearestIn", fn := fun _ => fun
  | [d1, d2] => { results := [.lit (.bool true)], args := [d1, d2] }
  | _ => none }
def fnExactDearestInRow : OpenClaim := { program := "ytgjkjibllgpnjaa", sum := "ccffd3e0409f1ca058d094af510be2a6f1a421ad2ff0de081020adc537094856", func := "loop.example/g01062/laws.FnExactDearestIn", spec := "fnExactDearestIn", apart := false }
def FnExactDearestInSaid : Prop := fnExactDearestInRow.holds Try.pinned (OpenSpec.ofChange fnExactDearestInSpec)

/-- ITS FALSE NEIGHBOUR: 'it returns false'. Refute it at one input. -/
def fnExactDearestInWrong : ChangeSpec := { name := "fnExactDearestIn", fn := fun _ => fun
  | [d1, d2] => { results := [.lit (.bool false)], args := [d1, d2] }
  | _ => none }
def FnExactDearestInWrongFalsely : Prop := fnExactDearestInRow.holds Try.pinned (OpenSpec.ofChange fnExactDearestInWrong)

/-- 'laws.FnExactBasketIn': WHATEVER THE INPUT: true; the input reads as it did. -/
def fnExactBasketInSpec : ChangeSpec := { name := "fnExactBasketIn", fn := fun _ => fun
  | [d1, d2, d3] => { results := [.lit (.bool true)], args := [d1, d2, d3] }
  | _ => none }
def fnExactBasketInRow : OpenClaim := { program := "ytgjkjibllgpnjaa", sum := "ccffd3e0409f1ca058d094af510be2a6f1a421ad2ff0de081020adc537094856", func := "loop.example/g01062/laws.FnExactBasketIn", spec := "fnExactBasketIn", unfollowed := true, recurses := true, apart := false }
def FnExactBasketInSaid : Prop := fnExactBasketInRow.holds Try.pinned (OpenSpec.ofChange fnExactBasketInSpec)

/-- ITS FALSE NEIGHBOUR: 'it returns false'. Refute it at one input. -/
def fnExactBasketInWrong : ChangeSpec := { name := "fnExactBasketIn", fn := fun _ => fun
  | [d1, d2, d3] => { results := [.lit (.bool false)], args := [d1, d2, d3] }
  | _ => none }
def FnExactBasketInWrongFalsely : Prop := fnExactBasketInRow.holds Try.pinned (OpenSpec.ofChange fnExactBasketInWrong)

/-- 'laws.FnExactItemsPriced': WHATEVER THE INPUT: true; the input reads as it did. -/
def fnExactItemsPricedSpec : ChangeSpec := { name := "fnExactItemsPriced", fn := fun _ => fun
  | [d1, d2] => { results := [.lit (.bool true)], args := [d1, d2] }
  | _ => none }
def fnExactItemsPricedRow : OpenClaim := { program := "ytgjkjibllgpnjaa", sum := "ccffd3e0409f1ca058d094af510be2a6f1a421ad2ff0de081020adc537094856", func := "loop.example/g01062/laws.FnExactItemsPriced", spec := "fnExactItemsPriced", apart := false }
def FnExactItemsPricedSaid : Prop := fnExactItemsPricedRow.holds Try.pinned (OpenSpec.ofChange fnExactItemsPricedSpec)

/-- ITS FALSE NEIGHBOUR: 'it returns false'. Refute it at one input. -/
def fnExactItemsPricedWrong : ChangeSpec := { name := "fnExactItemsPriced", fn := fun _ => fun
  | [d1, d2] => { results := [.lit (.bool false)], args := [d1, d2] }
  | _ => none }
def FnExactItemsPricedWrongFalsely : Prop := fnExactItemsPricedRow.holds Try.pinned (OpenSpec.ofChange fnExactItemsPricedWrong)

/-- 'laws.FnExactSetPrice': WHATEVER THE INPUT: true; the input reads as it did. -/
def fnExactSetPriceSpec : ChangeSpec := { name := "fnExactSetPrice", fn := fun _ => fun
  | [d1, d2, d3, d4] => { results := [.lit (.bool true)], args := [d1, d2, d3, d4] }
  | _ => none }
def fnExactSetPriceRow : OpenClaim := { program := "ytgjkjibllgpnjaa", sum := "ccffd3e0409f1ca058d094af510be2a6f1a421ad2ff0de081020adc537094856", func := "loop.example/g01062/laws.FnExactSetPrice", spec := "fnExactSetPrice", inPlace := ["slices.overlaps[loop.example/g01062/impl.PriceRow]"], unfollowed := true, recurses := true, apart := false }
def FnExactSetPriceSaid : Prop := fnExactSetPriceRow.holds Try.pinned (OpenSpec.ofChange fnExactSetPriceSpec)

/-- ITS FALSE NEIGHBOUR: 'it returns false'. Refute it at one input. -/
def fnExactSetPriceWrong : ChangeSpec := { name := "fnExactSetPrice", fn := fun _ => fun
  | [d1, d2, d3, d4] => { results := [.lit (.bool false)], args := [d1, d2, d3, d4] }
  | _ => none }
def FnExactSetPriceWrongFalsely : Prop := fnExactSetPriceRow.holds Try.pinned (OpenSpec.ofChange fnExactSetPriceWrong)

/-- 'laws.FnPrices': WHATEVER THE INPUT: true; the input reads as it did. -/
def fnPricesSpec : ChangeSpec := { name := "fnPrices", fn := fun _ => fun
  | [d] => { results := [.lit (.bool true)], args := [d] }
  | _ => none }
def fnPricesRow : OpenClaim := { program := "ytgjkjibllgpnjaa", sum := "ccffd3e0409f1ca058d094af510be2a6f1a421ad2ff0de081020adc537094856", func := "loop.example/g01062/laws.FnPrices", spec := "fnPrices", inPlace := ["slices.overlaps[loop.example/g01062/impl.PriceRow]"], unfollowed := true, recurses := true, apart := false }
def FnPricesSaid : Prop := fnPricesRow.holds Try.pinned (OpenSpec.ofChange fnPricesSpec)

/-- ITS FALSE NEIGHBOUR: 'it returns false'. Refute it at one input. -/
def fnPricesWrong : ChangeSpec := { name := "fnPrices", fn := fun _ => fun
  | [d] => { results := [.lit (.bool false)], args := [d] }
  | _ => none }
def FnPricesWrongFalsely : Prop := fnPricesRow.holds Try.pinned (OpenSpec.ofChange fnPricesWrong)

/- THE SECOND FORM. 'bulk': how many values and letters a reading holds, each counted each time it is reached (what is shared counts as often as it is met; a slice's spare places count too). A statement '..UptoSaid' is the law's where the arguments, and the package variables that the reading takes, are together of bulk at most 1048576: NARROWER than '..Said'. Prove '..Said' where nothing that the law and all that it calls make is longer than what came in: it says more and counts as full. Else prove '..UptoSaid'. A law counts once. -/
mutual
def uptoBulk {H : Type} : DataW H → Nat
  | .lit (.string bytes) => bytes.length + 1
  | .lit _ => 1
  | .nil => 1
  | .ptr d => uptoBulk d + 1
  | .slice elems spare => uptoBulkAll elems + uptoBulkAll spare + 1
  | .agg parts => uptoBulkAll parts + 1
  | .iface _ d => uptoBulk d + 1
  | .map entries => uptoBulkEntries entries + 1
  | .held _ => 1
def uptoBulkAll {H : Type} : List (DataW H) → Nat
  | [] => 0
  | d :: r => uptoBulk d + uptoBulkAll r
def uptoBulkEntries {H : Type} : List (Lit × DataW H) → Nat
  | [] => 0
  | x :: r => uptoBulkEntry x + uptoBulkEntries r
def uptoBulkEntry {H : Type} : Lit × DataW H → Nat
  | (.string bytes, d) => bytes.length + uptoBulk d + 1
  | (_, d) => uptoBulk d + 1
 end
def uptoSmall : (H : Type) → List (DataW H) → Bool := fun _ ds => decide (uptoBulkAll ds ≤ 1048576)
def OpenSpec.upto (s : _root_.Go.ChangeSpec) : _root_.Go.OpenSpec := { _root_.Go.OpenSpec.ofChange s with cond := some uptoSmall }

/-- 'laws.FnExactArePrices', WHERE WHAT IT READS IS OF BULK AT MOST 1048576: true; the input reads as it did. -/
def fnExactArePricesUptoRow : OpenClaim := { program := "ytgjkjibllgpnjaa", sum := "ccffd3e0409f1ca058d094af510be2a6f1a421ad2ff0de081020adc537094856", func := "loop.example/g01062/laws.FnExactArePrices", spec := "fnExactArePrices", apart := false, narrowed := true }
def FnExactArePricesUptoSaid : Prop := fnExactArePricesUptoRow.holds Try.pinned (OpenSpec.upto fnExactArePricesSpec)

/-- 'laws.FnExactSteepestYears', WHERE WHAT IT READS IS OF BULK AT MOST 1048576: true; the input reads as it did. -/
def fnExactSteepestYearsUptoRow : OpenClaim := { program := "ytgjkjibllgpnjaa", sum := "ccffd3e0409f1ca058d094af510be2a6f1a421ad2ff0de081020adc537094856", func := "loop.example/g01062/laws.FnExactSteepestYears", spec := "fnExactSteepestYears", apart := false, narrowed := true }
def FnExactSteepestYearsUptoSaid : Prop := fnExactSteepestYearsUptoRow.holds Try.pinned (OpenSpec.upto fnExactSteepestYearsSpec)

/-- 'laws.FnExactPriceIn', WHERE WHAT IT READS IS OF BULK AT MOST 1048576: true; the input reads as it did. -/
def fnExactPriceInUptoRow : OpenClaim := { program := "ytgjkjibllgpnjaa", sum := "ccffd3e0409f1ca058d094af510be2a6f1a421ad2ff0de081020adc537094856", func := "loop.example/g01062/laws.FnExactPriceIn", spec := "fnExactPriceIn", apart := false, narrowed := true }
def FnExactPriceInUptoSaid : Prop := fnExactPriceInUptoRow.holds Try.pinned (OpenSpec.upto fnExactPriceInSpec)

/-- 'laws.FnExactFirstAbove', WHERE WHAT IT READS IS OF BULK AT MOST 1048576: true; the input reads as it did. -/
def fnExactFirstAboveUptoRow : OpenClaim := { program := "ytgjkjibllgpnjaa", sum := "ccffd3e0409f1ca058d094af510be2a6f1a421ad2ff0de081020adc537094856", func := "loop.example/g01062/laws.FnExactFirstAbove", spec := "fnExactFirstAbove", apart := false, narrowed := true }
def FnExactFirstAboveUptoSaid : Prop := fnExactFirstAboveUptoRow.holds Try.pinned (OpenSpec.upto fnExactFirstAboveSpec)

/-- 'laws.FnExactRaiseAll', WHERE WHAT IT READS IS OF BULK AT MOST 1048576: true; the input reads as it did. -/
def fnExactRaiseAllUptoRow : OpenClaim := { program := "ytgjkjibllgpnjaa", sum := "ccffd3e0409f1ca058d094af510be2a6f1a421ad2ff0de081020adc537094856", func := "loop.example/g01062/laws.FnExactRaiseAll", spec := "fnExactRaiseAll", apart := false, narrowed := true }
def FnExactRaiseAllUptoSaid : Prop := fnExactRaiseAllUptoRow.holds Try.pinned (OpenSpec.upto fnExactRaiseAllSpec)

/-- 'laws.FnExactGrowthIn', WHERE WHAT IT READS IS OF BULK AT MOST 1048576: true; the input reads as it did. -/
def fnExactGrowthInUptoRow : OpenClaim := { program := "ytgjkjibllgpnjaa", sum := "ccffd3e0409f1ca058d094af510be2a6f1a421ad2ff0de081020adc537094856", func := "loop.example/g01062/laws.FnExactGrowthIn", spec := "fnExactGrowthIn", apart := false, narrowed := true }
def FnExactGrowthInUptoSaid : Prop := fnExactGrowthInUptoRow.holds Try.pinned (OpenSpec.upto fnExactGrowthInSpec)

/-- 'laws.FnExactDearestIn', WHERE WHAT IT READS IS OF BULK AT MOST 1048576: true; the input reads as it did. -/
def fnExactDearestInUptoRow : OpenClaim := { program := "ytgjkjibllgpnjaa", sum := "ccffd3e0409f1ca058d094af510be2a6f1a421ad2ff0de081020adc537094856", func := "loop.example/g01062/laws.FnExactDearestIn", spec := "fnExactDearestIn", apart := false, narrowed := true }
def FnExactDearestInUptoSaid : Prop := fnExactDearestInUptoRow.holds Try.pinned (OpenSpec.upto fnExactDearestInSpec)

/-- 'laws.FnExactBasketIn', WHERE WHAT IT READS IS OF BULK AT MOST 1048576: true; the input reads as it did. -/
def fnExactBasketInUptoRow : OpenClaim := { program := "ytgjkjibllgpnjaa", sum := "ccffd3e0409f1ca058d094af510be2a6f1a421ad2ff0de081020adc537094856", func := "loop.example/g01062/laws.FnExactBasketIn", spec := "fnExactBasketIn", unfollowed := true, recurses := true, apart := false, narrowed := true }
def FnExactBasketInUptoSaid : Prop := fnExactBasketInUptoRow.holds Try.pinned (OpenSpec.upto fnExactBasketInSpec)

/-- 'laws.FnExactItemsPriced', WHERE WHAT IT READS IS OF BULK AT MOST 1048576: true; the input reads as it did. -/
def fnExactItemsPricedUptoRow : OpenClaim := { program := "ytgjkjibllgpnjaa", sum := "ccffd3e0409f1ca058d094af510be2a6f1a421ad2ff0de081020adc537094856", func := "loop.example/g01062/laws.FnExactItemsPriced", spec := "fnExactItemsPriced", apart := false, narrowed := true }
def FnExactItemsPricedUptoSaid : Prop := fnExactItemsPricedUptoRow.holds Try.pinned (OpenSpec.upto fnExactItemsPricedSpec)

/-- 'laws.FnExactSetPrice', WHERE WHAT IT READS IS OF BULK AT MOST 1048576: true; the input reads as it did. -/
def fnExactSetPriceUptoRow : OpenClaim := { program := "ytgjkjibllgpnjaa", sum := "ccffd3e0409f1ca058d094af510be2a6f1a421ad2ff0de081020adc537094856", func := "loop.example/g01062/laws.FnExactSetPrice", spec := "fnExactSetPrice", inPlace := ["slices.overlaps[loop.example/g01062/impl.PriceRow]"], unfollowed := true, recurses := true, apart := false, narrowed := true }
def FnExactSetPriceUptoSaid : Prop := fnExactSetPriceUptoRow.holds Try.pinned (OpenSpec.upto fnExactSetPriceSpec)

/-- 'laws.FnPrices', WHERE WHAT IT READS IS OF BULK AT MOST 1048576: true; the input reads as it did. -/
def fnPricesUptoRow : OpenClaim := { program := "ytgjkjibllgpnjaa", sum := "ccffd3e0409f1ca058d094af510be2a6f1a421ad2ff0de081020adc537094856", func := "loop.example/g01062/laws.FnPrices", spec := "fnPrices", inPlace := ["slices.overlaps[loop.example/g01062/impl.PriceRow]"], unfollowed := true, recurses := true, apart := false, narrowed := true }
def FnPricesUptoSaid : Prop := fnPricesUptoRow.holds Try.pinned (OpenSpec.upto fnPricesSpec)

end Rows
end Go.Proofs.Ytgjkjibllgpnjaa
