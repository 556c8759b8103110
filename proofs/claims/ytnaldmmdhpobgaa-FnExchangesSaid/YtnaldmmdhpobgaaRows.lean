/-
  No cell of these rows narrows 'for every input' (looked for: loops, veiled, ifaces, maps, wideKeys, modest, calm, conditions, laid).
  DERIVED. THE GIVEN ROWS OF THIS SEAT. 9 by the template 'for every input the law returns true; each argument reads behind the call as it read before'; 0 by the template 'total and deterministic' (their statements: YtnaldmmdhpobgaaTotals.lean).
  GIVEN WITH THE SEED: the statements are not yours to turn. If you find one false, say at which input.
  Laid BY PROGRAM, IN A SANDBOX (cutbox-rows.mjs): the forced cells as the released guide's own fill.sh prints them over the translation 453957ad4b954d8b… (all of the seat's roots in one cut). By AI agents, Wed Nov 11 2026. No macro, syntax, notation, axiom, sorry.
-/
import Derived.Test.YtnaldmmdhpobgaaChecked
import GoSem.Claim
import GoSem.ClaimJoined
import GoSem.ClaimMapViews
import Derived.JoinedTies
import Derived.KernelRfl
namespace Go.Proofs.Ytnaldmmdhpobgaa
/- THE CELL 'sum', in the pinned program and in every row, IS THE sha256 OF THE DUMP (.gsa) THAT YtnaldmmdhpobgaaProg.lean LOADS. Nothing in Lean hashes anything: it is a label: what it is worth is what the hold of that sum in a sandbox is worth. -/
noncomputable def Try.pinned : Pinned := { name := "ytnaldmmdhpobgaa", sum := "453957ad4b954d8b6a52f738d5495a6dbefdffad38d2874df0f285534ae7d1f0", checked := Try.checked }
namespace Rows
def none {H : Type} : Left H := { results := [], args := [] }

/-- 'laws.FnExactGainOf': WHATEVER THE INPUT: true; the input reads as it did. -/
def fnExactGainOfSpec : ChangeSpec := { name := "fnExactGainOf", fn := fun _ => fun
  | [d1, d2, d3] => { results := [.lit (.bool true)], args := [d1, d2, d3] }
  | _ => none }
def fnExactGainOfRow : OpenClaim := { program := "ytnaldmmdhpobgaa", sum := "453957ad4b954d8b6a52f738d5495a6dbefdffad38d2874df0f285534ae7d1f0", func := "loop.example/g01062/laws.FnExactGainOf", spec := "fnExactGainOf", apart := false }
def FnExactGainOfSaid : Prop := fnExactGainOfRow.holds Try.pinned (OpenSpec.ofChange fnExactGainOfSpec)

/-- ITS FALSE NEIGHBOUR: 'it returns false'. Refute it at one input. -/
def fnExactGainOfWrong : ChangeSpec := { name := "fnExactGainOf", fn := fun _ => fun
  | [d1, d2, d3] => { results := [.lit (.bool false)], args := [d1, d2, d3] }
  | _ => none }
def FnExactGainOfWrongFalsely : Prop := fnExactGainOfRow.holds Try.pinned (OpenSpec.ofChange fnExactGainOfWrong)

/-- 'laws.FnExactCirclesOf': WHATEVER THE INPUT: true; the input reads as it did. -/
def fnExactCirclesOfSpec : ChangeSpec := { name := "fnExactCirclesOf", fn := fun _ => fun
  | [d1, d2, d3] => { results := [.lit (.bool true)], args := [d1, d2, d3] }
  | _ => none }
def fnExactCirclesOfRow : OpenClaim := { program := "ytnaldmmdhpobgaa", sum := "453957ad4b954d8b6a52f738d5495a6dbefdffad38d2874df0f285534ae7d1f0", func := "loop.example/g01062/laws.FnExactCirclesOf", spec := "fnExactCirclesOf", unfollowed := true, recurses := true, apart := false }
def FnExactCirclesOfSaid : Prop := fnExactCirclesOfRow.holds Try.pinned (OpenSpec.ofChange fnExactCirclesOfSpec)

/-- ITS FALSE NEIGHBOUR: 'it returns false'. Refute it at one input. -/
def fnExactCirclesOfWrong : ChangeSpec := { name := "fnExactCirclesOf", fn := fun _ => fun
  | [d1, d2, d3] => { results := [.lit (.bool false)], args := [d1, d2, d3] }
  | _ => none }
def FnExactCirclesOfWrongFalsely : Prop := fnExactCirclesOfRow.holds Try.pinned (OpenSpec.ofChange fnExactCirclesOfWrong)

/-- 'laws.FnExactShortestCircle': WHATEVER THE INPUT: true; the input reads as it did. -/
def fnExactShortestCircleSpec : ChangeSpec := { name := "fnExactShortestCircle", fn := fun _ => fun
  | [d1, d2] => { results := [.lit (.bool true)], args := [d1, d2] }
  | _ => none }
def fnExactShortestCircleRow : OpenClaim := { program := "ytnaldmmdhpobgaa", sum := "453957ad4b954d8b6a52f738d5495a6dbefdffad38d2874df0f285534ae7d1f0", func := "loop.example/g01062/laws.FnExactShortestCircle", spec := "fnExactShortestCircle", unfollowed := true, recurses := true, apart := false }
def FnExactShortestCircleSaid : Prop := fnExactShortestCircleRow.holds Try.pinned (OpenSpec.ofChange fnExactShortestCircleSpec)

/-- ITS FALSE NEIGHBOUR: 'it returns false'. Refute it at one input. -/
def fnExactShortestCircleWrong : ChangeSpec := { name := "fnExactShortestCircle", fn := fun _ => fun
  | [d1, d2] => { results := [.lit (.bool false)], args := [d1, d2] }
  | _ => none }
def FnExactShortestCircleWrongFalsely : Prop := fnExactShortestCircleRow.holds Try.pinned (OpenSpec.ofChange fnExactShortestCircleWrong)

/-- 'laws.FnExactBestCircle': WHATEVER THE INPUT: true; the input reads as it did. -/
def fnExactBestCircleSpec : ChangeSpec := { name := "fnExactBestCircle", fn := fun _ => fun
  | [d1, d2] => { results := [.lit (.bool true)], args := [d1, d2] }
  | _ => none }
def fnExactBestCircleRow : OpenClaim := { program := "ytnaldmmdhpobgaa", sum := "453957ad4b954d8b6a52f738d5495a6dbefdffad38d2874df0f285534ae7d1f0", func := "loop.example/g01062/laws.FnExactBestCircle", spec := "fnExactBestCircle", unfollowed := true, recurses := true, apart := false }
def FnExactBestCircleSaid : Prop := fnExactBestCircleRow.holds Try.pinned (OpenSpec.ofChange fnExactBestCircleSpec)

/-- ITS FALSE NEIGHBOUR: 'it returns false'. Refute it at one input. -/
def fnExactBestCircleWrong : ChangeSpec := { name := "fnExactBestCircle", fn := fun _ => fun
  | [d1, d2] => { results := [.lit (.bool false)], args := [d1, d2] }
  | _ => none }
def FnExactBestCircleWrongFalsely : Prop := fnExactBestCircleRow.holds Try.pinned (OpenSpec.ofChange fnExactBestCircleWrong)

/-- 'laws.FnExactIsExchange': WHATEVER THE INPUT: true; the input reads as it did. -/
def fnExactIsExchangeSpec : ChangeSpec := { name := "fnExactIsExchange", fn := fun _ => fun
  | [d1, d2, d3] => { results := [.lit (.bool true)], args := [d1, d2, d3] }
  | _ => none }
def fnExactIsExchangeRow : OpenClaim := { program := "ytnaldmmdhpobgaa", sum := "453957ad4b954d8b6a52f738d5495a6dbefdffad38d2874df0f285534ae7d1f0", func := "loop.example/g01062/laws.FnExactIsExchange", spec := "fnExactIsExchange", apart := false }
def FnExactIsExchangeSaid : Prop := fnExactIsExchangeRow.holds Try.pinned (OpenSpec.ofChange fnExactIsExchangeSpec)

/-- ITS FALSE NEIGHBOUR: 'it returns false'. Refute it at one input. -/
def fnExactIsExchangeWrong : ChangeSpec := { name := "fnExactIsExchange", fn := fun _ => fun
  | [d1, d2, d3] => { results := [.lit (.bool false)], args := [d1, d2, d3] }
  | _ => none }
def FnExactIsExchangeWrongFalsely : Prop := fnExactIsExchangeRow.holds Try.pinned (OpenSpec.ofChange fnExactIsExchangeWrong)

/-- 'laws.FnExactLeftAlone': WHATEVER THE INPUT: true; the input reads as it did. -/
def fnExactLeftAloneSpec : ChangeSpec := { name := "fnExactLeftAlone", fn := fun _ => fun
  | [d1, d2] => { results := [.lit (.bool true)], args := [d1, d2] }
  | _ => none }
def fnExactLeftAloneRow : OpenClaim := { program := "ytnaldmmdhpobgaa", sum := "453957ad4b954d8b6a52f738d5495a6dbefdffad38d2874df0f285534ae7d1f0", func := "loop.example/g01062/laws.FnExactLeftAlone", spec := "fnExactLeftAlone", unfollowed := true, recurses := true, apart := false }
def FnExactLeftAloneSaid : Prop := fnExactLeftAloneRow.holds Try.pinned (OpenSpec.ofChange fnExactLeftAloneSpec)

/-- ITS FALSE NEIGHBOUR: 'it returns false'. Refute it at one input. -/
def fnExactLeftAloneWrong : ChangeSpec := { name := "fnExactLeftAlone", fn := fun _ => fun
  | [d1, d2] => { results := [.lit (.bool false)], args := [d1, d2] }
  | _ => none }
def FnExactLeftAloneWrongFalsely : Prop := fnExactLeftAloneRow.holds Try.pinned (OpenSpec.ofChange fnExactLeftAloneWrong)

/-- 'laws.FnExactMostPeople': WHATEVER THE INPUT: true; the input reads as it did. -/
def fnExactMostPeopleSpec : ChangeSpec := { name := "fnExactMostPeople", fn := fun _ => fun
  | [d1, d2] => { results := [.lit (.bool true)], args := [d1, d2] }
  | _ => none }
def fnExactMostPeopleRow : OpenClaim := { program := "ytnaldmmdhpobgaa", sum := "453957ad4b954d8b6a52f738d5495a6dbefdffad38d2874df0f285534ae7d1f0", func := "loop.example/g01062/laws.FnExactMostPeople", spec := "fnExactMostPeople", unfollowed := true, recurses := true, apart := false }
def FnExactMostPeopleSaid : Prop := fnExactMostPeopleRow.holds Try.pinned (OpenSpec.ofChange fnExactMostPeopleSpec)

/-- ITS FALSE NEIGHBOUR: 'it returns false'. Refute it at one input. -/
def fnExactMostPeopleWrong : ChangeSpec := { name := "fnExactMostPeople", fn := fun _ => fun
  | [d1, d2] => { results := [.lit (.bool false)], args := [d1, d2] }
  | _ => none }
def FnExactMostPeopleWrongFalsely : Prop := fnExactMostPeopleRow.holds Try.pinned (OpenSpec.ofChange fnExactMostPeopleWrong)

/-- 'laws.FnExactGreatestExchange': WHATEVER THE INPUT: true; the input reads as it did. -/
def fnExactGreatestExchangeSpec : ChangeSpec := { name := "fnExactGreatestExchange", fn := fun _ => fun
  | [d1, d2] => { results := [.lit (.bool true)], args := [d1, d2] }
  | _ => none }
def fnExactGreatestExchangeRow : OpenClaim := { program := "ytnaldmmdhpobgaa", sum := "453957ad4b954d8b6a52f738d5495a6dbefdffad38d2874df0f285534ae7d1f0", func := "loop.example/g01062/laws.FnExactGreatestExchange", spec := "fnExactGreatestExchange", unfollowed := true, recurses := true, apart := false }
def FnExactGreatestExchangeSaid : Prop := fnExactGreatestExchangeRow.holds Try.pinned (OpenSpec.ofChange fnExactGreatestExchangeSpec)

/-- ITS FALSE NEIGHBOUR: 'it returns false'. Refute it at one input. -/
def fnExactGreatestExchangeWrong : ChangeSpec := { name := "fnExactGreatestExchange", fn := fun _ => fun
  | [d1, d2] => { results := [.lit (.bool false)], args := [d1, d2] }
  | _ => none }
def FnExactGreatestExchangeWrongFalsely : Prop := fnExactGreatestExchangeRow.holds Try.pinned (OpenSpec.ofChange fnExactGreatestExchangeWrong)

/-- 'laws.FnExchanges': WHATEVER THE INPUT: true; the input reads as it did. -/
def fnExchangesSpec : ChangeSpec := { name := "fnExchanges", fn := fun _ => fun
  | [d] => { results := [.lit (.bool true)], args := [d] }
  | _ => none }
def fnExchangesRow : OpenClaim := { program := "ytnaldmmdhpobgaa", sum := "453957ad4b954d8b6a52f738d5495a6dbefdffad38d2874df0f285534ae7d1f0", func := "loop.example/g01062/laws.FnExchanges", spec := "fnExchanges", unfollowed := true, recurses := true, apart := false }
def FnExchangesSaid : Prop := fnExchangesRow.holds Try.pinned (OpenSpec.ofChange fnExchangesSpec)

/-- ITS FALSE NEIGHBOUR: 'it returns false'. Refute it at one input. -/
def fnExchangesWrong : ChangeSpec := { name := "fnExchanges", fn := fun _ => fun
  | [d] => { results := [.lit (.bool false)], args := [d] }
  | _ => none }
def FnExchangesWrongFalsely : Prop := fnExchangesRow.holds Try.pinned (OpenSpec.ofChange fnExchangesWrong)

/- THE SECOND FORM. 'bulk': how many values and letters a reading holds, each counted each time it is reached (what is shared counts as often as it is met; a slice's spare places count too). A statement '..UptoSaid' is the law's where the arguments, and the package variables that the reading takes, are together of bulk at most 1048576: NARROWER than '..Said'. Prove '..Said' where nothing that the law and all that it calls make is longer than what came in: it says more and counts as full. Else prove '..UptoSaid'. A law counts once. -/
mutual
def uptoBulk {H : Type} : DataW H → Nat
  | .lit (.string bytes) => bytes.length + 1
  | .lit _ => 1
  | .nil => 1
  | .ptr d => uptoBulk d + 1
  | .slice elems spare => uptoBulkAll elems + uptoBulkAll spare + 1
  | .agg parts => uptoBulkAll parts + 1
  | .iface _ d => uptoBulk d + 1
  | .map entries => uptoBulkEntries entries + 1
  | .held _ => 1
def uptoBulkAll {H : Type} : List (DataW H) → Nat
  | [] => 0
  | d :: r => uptoBulk d + uptoBulkAll r
def uptoBulkEntries {H : Type} : List (Lit × DataW H) → Nat
  | [] => 0
  | x :: r => uptoBulkEntry x + uptoBulkEntries r
def uptoBulkEntry {H : Type} : Lit × DataW H → Nat
  | (.string bytes, d) => bytes.length + uptoBulk d + 1
  | (_, d) => uptoBulk d + 1
 end
def uptoSmall : (H : Type) → List (DataW H) → Bool := fun _ ds => decide (uptoBulkAll ds ≤ 1048576)
def OpenSpec.upto (s : _root_.Go.ChangeSpec) : _root_.Go.OpenSpec := { _root_.Go.OpenSpec.ofChange s with cond := some uptoSmall }

/-- 'laws.FnExactGainOf', WHERE WHAT IT READS IS OF BULK AT MOST 1048576: true; the input reads as it did. -/
def fnExactGainOfUptoRow : OpenClaim := { program := "ytnaldmmdhpobgaa", sum := "453957ad4b954d8b6a52f738d5495a6dbefdffad38d2874df0f285534ae7d1f0", func := "loop.example/g01062/laws.FnExactGainOf", spec := "fnExactGainOf", apart := false, narrowed := true }
def FnExactGainOfUptoSaid : Prop := fnExactGainOfUptoRow.holds Try.pinned (OpenSpec.upto fnExactGainOfSpec)

/-- 'laws.FnExactCirclesOf', WHERE WHAT IT READS IS OF BULK AT MOST 1048576: true; the input reads as it did. -/
def fnExactCirclesOfUptoRow : OpenClaim := { program := "ytnaldmmdhpobgaa", sum := "453957ad4b954d8b6a52f738d5495a6dbefdffad38d2874df0f285534ae7d1f0", func := "loop.example/g01062/laws.FnExactCirclesOf", spec := "fnExactCirclesOf", unfollowed := true, recurses := true, apart := false, narrowed := true }
def FnExactCirclesOfUptoSaid : Prop := fnExactCirclesOfUptoRow.holds Try.pinned (OpenSpec.upto fnExactCirclesOfSpec)

/-- 'laws.FnExactShortestCircle', WHERE WHAT IT READS IS OF BULK AT MOST 1048576: true; the input reads as it did. -/
def fnExactShortestCircleUptoRow : OpenClaim := { program := "ytnaldmmdhpobgaa", sum := "453957ad4b954d8b6a52f738d5495a6dbefdffad38d2874df0f285534ae7d1f0", func := "loop.example/g01062/laws.FnExactShortestCircle", spec := "fnExactShortestCircle", unfollowed := true, recurses := true, apart := false, narrowed := true }
def FnExactShortestCircleUptoSaid : Prop := fnExactShortestCircleUptoRow.holds Try.pinned (OpenSpec.upto fnExactShortestCircleSpec)

/-- 'laws.FnExactBestCircle', WHERE WHAT IT READS IS OF BULK AT MOST 1048576: true; the input reads as it did. -/
def fnExactBestCircleUptoRow : OpenClaim := { program := "ytnaldmmdhpobgaa", sum := "453957ad4b954d8b6a52f738d5495a6dbefdffad38d2874df0f285534ae7d1f0", func := "loop.example/g01062/laws.FnExactBestCircle", spec := "fnExactBestCircle", unfollowed := true, recurses := true, apart := false, narrowed := true }
def FnExactBestCircleUptoSaid : Prop := fnExactBestCircleUptoRow.holds Try.pinned (OpenSpec.upto fnExactBestCircleSpec)

/-- 'laws.FnExactIsExchange', WHERE WHAT IT READS IS OF BULK AT MOST 1048576: true; the input reads as it did. -/
def fnExactIsExchangeUptoRow : OpenClaim := { program := "ytnaldmmdhpobgaa", sum := "453957ad4b954d8b6a52f738d5495a6dbefdffad38d2874df0f285534ae7d1f0", func := "loop.example/g01062/laws.FnExactIsExchange", spec := "fnExactIsExchange", apart := false, narrowed := true }
def FnExactIsExchangeUptoSaid : Prop := fnExactIsExchangeUptoRow.holds Try.pinned (OpenSpec.upto fnExactIsExchangeSpec)

/-- 'laws.FnExactLeftAlone', WHERE WHAT IT READS IS OF BULK AT MOST 1048576: true; the input reads as it did. -/
def fnExactLeftAloneUptoRow : OpenClaim := { program := "ytnaldmmdhpobgaa", sum := "453957ad4b954d8b6a52f738d5495a6dbefdffad38d2874df0f285534ae7d1f0", func := "loop.example/g01062/laws.FnExactLeftAlone", spec := "fnExactLeftAlone", unfollowed := true, recurses := true, apart := false, narrowed := true }
def FnExactLeftAloneUptoSaid : Prop := fnExactLeftAloneUptoRow.holds Try.pinned (OpenSpec.upto fnExactLeftAloneSpec)

/-- 'laws.FnExactMostPeople', WHERE WHAT IT READS IS OF BULK AT MOST 1048576: true; the input reads as it did. -/
def fnExactMostPeopleUptoRow : OpenClaim := { program := "ytnaldmmdhpobgaa", sum := "453957ad4b954d8b6a52f738d5495a6dbefdffad38d2874df0f285534ae7d1f0", func := "loop.example/g01062/laws.FnExactMostPeople", spec := "fnExactMostPeople", unfollowed := true, recurses := true, apart := false, narrowed := true }
def FnExactMostPeopleUptoSaid : Prop := fnExactMostPeopleUptoRow.holds Try.pinned (OpenSpec.upto fnExactMostPeopleSpec)

/-- 'laws.FnExactGreatestExchange', WHERE WHAT IT READS IS OF BULK AT MOST 1048576: true; the input reads as it did. -/
def fnExactGreatestExchangeUptoRow : OpenClaim := { program := "ytnaldmmdhpobgaa", sum := "453957ad4b954d8b6a52f738d5495a6dbefdffad38d2874df0f285534ae7d1f0", func := "loop.example/g01062/laws.FnExactGreatestExchange", spec := "fnExactGreatestExchange", unfollowed := true, recurses := true, apart := false, narrowed := true }
def FnExactGreatestExchangeUptoSaid : Prop := fnExactGreatestExchangeUptoRow.holds Try.pinned (OpenSpec.upto fnExactGreatestExchangeSpec)

/-- 'laws.FnExchanges', WHERE WHAT IT READS IS OF BULK AT MOST 1048576: true; the input reads as it did. -/
def fnExchangesUptoRow : OpenClaim := { program := "ytnaldmmdhpobgaa", sum := "453957ad4b954d8b6a52f738d5495a6dbefdffad38d2874df0f285534ae7d1f0", func := "loop.example/g01062/laws.FnExchanges", spec := "fnExchanges", unfollowed := true, recurses := true, apart := false, narrowed := true }
def FnExchangesUptoSaid : Prop := fnExchangesUptoRow.holds Try.pinned (OpenSpec.upto fnExchangesSpec)

end Rows
end Go.Proofs.Ytnaldmmdhpobgaa
