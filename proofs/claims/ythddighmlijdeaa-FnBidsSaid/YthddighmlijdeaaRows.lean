/-
  No cell of these rows narrows 'for every input' (looked for: loops, veiled, ifaces, maps, wideKeys, modest, calm, conditions, laid).
  DERIVED. THE GIVEN ROWS OF THIS SEAT. 11 by the template 'for every input the law returns true; each argument reads behind the call as it read before'; 0 by the template 'total and deterministic' (their statements: YthddighmlijdeaaTotals.lean).
  GIVEN WITH THE SEED: the statements are not yours to turn. If you find one false, say at which input.
  Laid BY PROGRAM, IN A SANDBOX (cutbox-rows.mjs): the forced cells as the released guide's own fill.sh prints them over the translation 1b61a370d899e069… (all of the seat's roots in one cut). By AI agents, Wed Nov 11 2026. No macro, syntax, notation, axiom, sorry.
-/
import Derived.Test.YthddighmlijdeaaChecked
import GoSem.Claim
import GoSem.ClaimJoined
import GoSem.ClaimMapViews
import Derived.JoinedTies
import Derived.KernelRfl
namespace Go.Proofs.Ythddighmlijdeaa
/- THE CELL 'sum', in the pinned program and in every row, IS THE sha256 OF THE DUMP (.gsa) THAT YthddighmlijdeaaProg.lean LOADS. Nothing in Lean hashes anything: it is a label: what it is worth is what the hold of that sum in a sandbox is worth. -/
noncomputable def Try.pinned : Pinned := { name := "ythddighmlijdeaa", sum := "1b61a370d899e069e54c5273d57d540e363cd5651ebb96dba9684f6a5b88341f", checked := Try.checked }
namespace Rows
def none {H : Type} : Left H := { results := [], args := [] }

/-- 'laws.FnExactAreSteps': WHATEVER THE INPUT: true; the input reads as it did. -/
def fnExactAreStepsSpec : ChangeSpec := { name := "fnExactAreSteps", fn := fun _ => fun
  | [d] => { results := [.lit (.bool true)], args := [d] }
  | _ => none }
def fnExactAreStepsRow : OpenClaim := { program := "ythddighmlijdeaa", sum := "1b61a370d899e069e54c5273d57d540e363cd5651ebb96dba9684f6a5b88341f", func := "loop.example/g01062/laws.FnExactAreSteps", spec := "fnExactAreSteps", apart := false }
def FnExactAreStepsSaid : Prop := fnExactAreStepsRow.holds Try.pinned (OpenSpec.ofChange fnExactAreStepsSpec)

/-- ITS FALSE NEIGHBOUR: 'it returns false'. Refute it at one input. -/
def fnExactAreStepsWrong : ChangeSpec := { name := "fnExactAreSteps", fn := fun _ => fun
  | [d] => { results := [.lit (.bool false)], args := [d] }
  | _ => none }
def FnExactAreStepsWrongFalsely : Prop := fnExactAreStepsRow.holds Try.pinned (OpenSpec.ofChange fnExactAreStepsWrong)

/-- 'laws.FnExactAreAbsentees': WHATEVER THE INPUT: true; the input reads as it did. -/
def fnExactAreAbsenteesSpec : ChangeSpec := { name := "fnExactAreAbsentees", fn := fun _ => fun
  | [d] => { results := [.lit (.bool true)], args := [d] }
  | _ => none }
def fnExactAreAbsenteesRow : OpenClaim := { program := "ythddighmlijdeaa", sum := "1b61a370d899e069e54c5273d57d540e363cd5651ebb96dba9684f6a5b88341f", func := "loop.example/g01062/laws.FnExactAreAbsentees", spec := "fnExactAreAbsentees", unfollowed := true, recurses := true, apart := false }
def FnExactAreAbsenteesSaid : Prop := fnExactAreAbsenteesRow.holds Try.pinned (OpenSpec.ofChange fnExactAreAbsenteesSpec)

/-- ITS FALSE NEIGHBOUR: 'it returns false'. Refute it at one input. -/
def fnExactAreAbsenteesWrong : ChangeSpec := { name := "fnExactAreAbsentees", fn := fun _ => fun
  | [d] => { results := [.lit (.bool false)], args := [d] }
  | _ => none }
def FnExactAreAbsenteesWrongFalsely : Prop := fnExactAreAbsenteesRow.holds Try.pinned (OpenSpec.ofChange fnExactAreAbsenteesWrong)

/-- 'laws.FnExactNextBid': WHATEVER THE INPUT: true; the input reads as it did. -/
def fnExactNextBidSpec : ChangeSpec := { name := "fnExactNextBid", fn := fun _ => fun
  | [d1, d2] => { results := [.lit (.bool true)], args := [d1, d2] }
  | _ => none }
def fnExactNextBidRow : OpenClaim := { program := "ythddighmlijdeaa", sum := "1b61a370d899e069e54c5273d57d540e363cd5651ebb96dba9684f6a5b88341f", func := "loop.example/g01062/laws.FnExactNextBid", spec := "fnExactNextBid", apart := false }
def FnExactNextBidSaid : Prop := fnExactNextBidRow.holds Try.pinned (OpenSpec.ofChange fnExactNextBidSpec)

/-- ITS FALSE NEIGHBOUR: 'it returns false'. Refute it at one input. -/
def fnExactNextBidWrong : ChangeSpec := { name := "fnExactNextBid", fn := fun _ => fun
  | [d1, d2] => { results := [.lit (.bool false)], args := [d1, d2] }
  | _ => none }
def FnExactNextBidWrongFalsely : Prop := fnExactNextBidRow.holds Try.pinned (OpenSpec.ofChange fnExactNextBidWrong)

/-- 'laws.FnExactCountBids': WHATEVER THE INPUT: true; the input reads as it did. -/
def fnExactCountBidsSpec : ChangeSpec := { name := "fnExactCountBids", fn := fun _ => fun
  | [d1, d2, d3] => { results := [.lit (.bool true)], args := [d1, d2, d3] }
  | _ => none }
def fnExactCountBidsRow : OpenClaim := { program := "ythddighmlijdeaa", sum := "1b61a370d899e069e54c5273d57d540e363cd5651ebb96dba9684f6a5b88341f", func := "loop.example/g01062/laws.FnExactCountBids", spec := "fnExactCountBids", apart := false }
def FnExactCountBidsSaid : Prop := fnExactCountBidsRow.holds Try.pinned (OpenSpec.ofChange fnExactCountBidsSpec)

/-- ITS FALSE NEIGHBOUR: 'it returns false'. Refute it at one input. -/
def fnExactCountBidsWrong : ChangeSpec := { name := "fnExactCountBids", fn := fun _ => fun
  | [d1, d2, d3] => { results := [.lit (.bool false)], args := [d1, d2, d3] }
  | _ => none }
def FnExactCountBidsWrongFalsely : Prop := fnExactCountBidsRow.holds Try.pinned (OpenSpec.ofChange fnExactCountBidsWrong)

/-- 'laws.FnExactIsABid': WHATEVER THE INPUT: true; the input reads as it did. -/
def fnExactIsABidSpec : ChangeSpec := { name := "fnExactIsABid", fn := fun _ => fun
  | [d1, d2, d3] => { results := [.lit (.bool true)], args := [d1, d2, d3] }
  | _ => none }
def fnExactIsABidRow : OpenClaim := { program := "ythddighmlijdeaa", sum := "1b61a370d899e069e54c5273d57d540e363cd5651ebb96dba9684f6a5b88341f", func := "loop.example/g01062/laws.FnExactIsABid", spec := "fnExactIsABid", apart := false }
def FnExactIsABidSaid : Prop := fnExactIsABidRow.holds Try.pinned (OpenSpec.ofChange fnExactIsABidSpec)

/-- ITS FALSE NEIGHBOUR: 'it returns false'. Refute it at one input. -/
def fnExactIsABidWrong : ChangeSpec := { name := "fnExactIsABid", fn := fun _ => fun
  | [d1, d2, d3] => { results := [.lit (.bool false)], args := [d1, d2, d3] }
  | _ => none }
def FnExactIsABidWrongFalsely : Prop := fnExactIsABidRow.holds Try.pinned (OpenSpec.ofChange fnExactIsABidWrong)

/-- 'laws.FnExactLastBid': WHATEVER THE INPUT: true; the input reads as it did. -/
def fnExactLastBidSpec : ChangeSpec := { name := "fnExactLastBid", fn := fun _ => fun
  | [d1, d2, d3] => { results := [.lit (.bool true)], args := [d1, d2, d3] }
  | _ => none }
def fnExactLastBidRow : OpenClaim := { program := "ythddighmlijdeaa", sum := "1b61a370d899e069e54c5273d57d540e363cd5651ebb96dba9684f6a5b88341f", func := "loop.example/g01062/laws.FnExactLastBid", spec := "fnExactLastBid", apart := false }
def FnExactLastBidSaid : Prop := fnExactLastBidRow.holds Try.pinned (OpenSpec.ofChange fnExactLastBidSpec)

/-- ITS FALSE NEIGHBOUR: 'it returns false'. Refute it at one input. -/
def fnExactLastBidWrong : ChangeSpec := { name := "fnExactLastBid", fn := fun _ => fun
  | [d1, d2, d3] => { results := [.lit (.bool false)], args := [d1, d2, d3] }
  | _ => none }
def FnExactLastBidWrongFalsely : Prop := fnExactLastBidRow.holds Try.pinned (OpenSpec.ofChange fnExactLastBidWrong)

/-- 'laws.FnExactMergeSteps': WHATEVER THE INPUT: true; the input reads as it did. -/
def fnExactMergeStepsSpec : ChangeSpec := { name := "fnExactMergeSteps", fn := fun _ => fun
  | [d] => { results := [.lit (.bool true)], args := [d] }
  | _ => none }
def fnExactMergeStepsRow : OpenClaim := { program := "ythddighmlijdeaa", sum := "1b61a370d899e069e54c5273d57d540e363cd5651ebb96dba9684f6a5b88341f", func := "loop.example/g01062/laws.FnExactMergeSteps", spec := "fnExactMergeSteps", apart := false }
def FnExactMergeStepsSaid : Prop := fnExactMergeStepsRow.holds Try.pinned (OpenSpec.ofChange fnExactMergeStepsSpec)

/-- ITS FALSE NEIGHBOUR: 'it returns false'. Refute it at one input. -/
def fnExactMergeStepsWrong : ChangeSpec := { name := "fnExactMergeSteps", fn := fun _ => fun
  | [d] => { results := [.lit (.bool false)], args := [d] }
  | _ => none }
def FnExactMergeStepsWrongFalsely : Prop := fnExactMergeStepsRow.holds Try.pinned (OpenSpec.ofChange fnExactMergeStepsWrong)

/-- 'laws.FnBids': WHATEVER THE INPUT: true; the input reads as it did. -/
def fnBidsSpec : ChangeSpec := { name := "fnBids", fn := fun _ => fun
  | [d] => { results := [.lit (.bool true)], args := [d] }
  | _ => none }
def fnBidsRow : OpenClaim := { program := "ythddighmlijdeaa", sum := "1b61a370d899e069e54c5273d57d540e363cd5651ebb96dba9684f6a5b88341f", func := "loop.example/g01062/laws.FnBids", spec := "fnBids", apart := false }
def FnBidsSaid : Prop := fnBidsRow.holds Try.pinned (OpenSpec.ofChange fnBidsSpec)

/-- ITS FALSE NEIGHBOUR: 'it returns false'. Refute it at one input. -/
def fnBidsWrong : ChangeSpec := { name := "fnBids", fn := fun _ => fun
  | [d] => { results := [.lit (.bool false)], args := [d] }
  | _ => none }
def FnBidsWrongFalsely : Prop := fnBidsRow.holds Try.pinned (OpenSpec.ofChange fnBidsWrong)

/-- 'laws.FnExactRoomWinner': WHATEVER THE INPUT: true; the input reads as it did. -/
def fnExactRoomWinnerSpec : ChangeSpec := { name := "fnExactRoomWinner", fn := fun _ => fun
  | [d1, d2, d3] => { results := [.lit (.bool true)], args := [d1, d2, d3] }
  | _ => none }
def fnExactRoomWinnerRow : OpenClaim := { program := "ythddighmlijdeaa", sum := "1b61a370d899e069e54c5273d57d540e363cd5651ebb96dba9684f6a5b88341f", func := "loop.example/g01062/laws.FnExactRoomWinner", spec := "fnExactRoomWinner", unfollowed := true, recurses := true, apart := false }
def FnExactRoomWinnerSaid : Prop := fnExactRoomWinnerRow.holds Try.pinned (OpenSpec.ofChange fnExactRoomWinnerSpec)

/-- ITS FALSE NEIGHBOUR: 'it returns false'. Refute it at one input. -/
def fnExactRoomWinnerWrong : ChangeSpec := { name := "fnExactRoomWinner", fn := fun _ => fun
  | [d1, d2, d3] => { results := [.lit (.bool false)], args := [d1, d2, d3] }
  | _ => none }
def FnExactRoomWinnerWrongFalsely : Prop := fnExactRoomWinnerRow.holds Try.pinned (OpenSpec.ofChange fnExactRoomWinnerWrong)

/-- 'laws.FnExactCouldWin': WHATEVER THE INPUT: true; the input reads as it did. -/
def fnExactCouldWinSpec : ChangeSpec := { name := "fnExactCouldWin", fn := fun _ => fun
  | [d1, d2, d3, d4] => { results := [.lit (.bool true)], args := [d1, d2, d3, d4] }
  | _ => none }
def fnExactCouldWinRow : OpenClaim := { program := "ythddighmlijdeaa", sum := "1b61a370d899e069e54c5273d57d540e363cd5651ebb96dba9684f6a5b88341f", func := "loop.example/g01062/laws.FnExactCouldWin", spec := "fnExactCouldWin", unfollowed := true, recurses := true, apart := false }
def FnExactCouldWinSaid : Prop := fnExactCouldWinRow.holds Try.pinned (OpenSpec.ofChange fnExactCouldWinSpec)

/-- ITS FALSE NEIGHBOUR: 'it returns false'. Refute it at one input. -/
def fnExactCouldWinWrong : ChangeSpec := { name := "fnExactCouldWin", fn := fun _ => fun
  | [d1, d2, d3, d4] => { results := [.lit (.bool false)], args := [d1, d2, d3, d4] }
  | _ => none }
def FnExactCouldWinWrongFalsely : Prop := fnExactCouldWinRow.holds Try.pinned (OpenSpec.ofChange fnExactCouldWinWrong)

/-- 'laws.FnExactRoomBids': WHATEVER THE INPUT: true; the input reads as it did. -/
def fnExactRoomBidsSpec : ChangeSpec := { name := "fnExactRoomBids", fn := fun _ => fun
  | [d1, d2, d3] => { results := [.lit (.bool true)], args := [d1, d2, d3] }
  | _ => none }
def fnExactRoomBidsRow : OpenClaim := { program := "ythddighmlijdeaa", sum := "1b61a370d899e069e54c5273d57d540e363cd5651ebb96dba9684f6a5b88341f", func := "loop.example/g01062/laws.FnExactRoomBids", spec := "fnExactRoomBids", unfollowed := true, recurses := true, apart := false }
def FnExactRoomBidsSaid : Prop := fnExactRoomBidsRow.holds Try.pinned (OpenSpec.ofChange fnExactRoomBidsSpec)

/-- ITS FALSE NEIGHBOUR: 'it returns false'. Refute it at one input. -/
def fnExactRoomBidsWrong : ChangeSpec := { name := "fnExactRoomBids", fn := fun _ => fun
  | [d1, d2, d3] => { results := [.lit (.bool false)], args := [d1, d2, d3] }
  | _ => none }
def FnExactRoomBidsWrongFalsely : Prop := fnExactRoomBidsRow.holds Try.pinned (OpenSpec.ofChange fnExactRoomBidsWrong)

/- THE SECOND FORM. 'bulk': how many values and letters a reading holds, each counted each time it is reached (what is shared counts as often as it is met; a slice's spare places count too). A statement '..UptoSaid' is the law's where the arguments, and the package variables that the reading takes, are together of bulk at most 1048576: NARROWER than '..Said'. Prove '..Said' where nothing that the law and all that it calls make is longer than what came in: it says more and counts as full. Else prove '..UptoSaid'. A law counts once. -/
mutual
def uptoBulk {H : Type} : DataW H → Nat
  | .lit (.string bytes) => bytes.length + 1
  | .lit _ => 1
  | .nil => 1
  | .ptr d => uptoBulk d + 1
  | .slice elems spare => uptoBulkAll elems + uptoBulkAll spare + 1
  | .agg parts => uptoBulkAll parts + 1
  | .iface _ d => uptoBulk d + 1
  | .map entries => uptoBulkEntries entries + 1
  | .held _ => 1
def uptoBulkAll {H : Type} : List (DataW H) → Nat
  | [] => 0
  | d :: r => uptoBulk d + uptoBulkAll r
def uptoBulkEntries {H : Type} : List (Lit × DataW H) → Nat
  | [] => 0
  | x :: r => uptoBulkEntry x + uptoBulkEntries r
def uptoBulkEntry {H : Type} : Lit × DataW H → Nat
  | (.string bytes, d) => bytes.length + uptoBulk d + 1
  | (_, d) => uptoBulk d + 1
 end
def uptoSmall : (H : Type) → List (DataW H) → Bool := fun _ ds => decide (uptoBulkAll ds ≤ 1048576)
def OpenSpec.upto (s : _root_.Go.ChangeSpec) : _root_.Go.OpenSpec := { _root_.Go.OpenSpec.ofChange s with cond := some uptoSmall }

/-- 'laws.FnExactAreSteps', WHERE WHAT IT READS IS OF BULK AT MOST 1048576: true; the input reads as it did. -/
def fnExactAreStepsUptoRow : OpenClaim := { program := "ythddighmlijdeaa", sum := "1b61a370d899e069e54c5273d57d540e363cd5651ebb96dba9684f6a5b88341f", func := "loop.example/g01062/laws.FnExactAreSteps", spec := "fnExactAreSteps", apart := false, narrowed := true }
def FnExactAreStepsUptoSaid : Prop := fnExactAreStepsUptoRow.holds Try.pinned (OpenSpec.upto fnExactAreStepsSpec)

/-- 'laws.FnExactAreAbsentees', WHERE WHAT IT READS IS OF BULK AT MOST 1048576: true; the input reads as it did. -/
def fnExactAreAbsenteesUptoRow : OpenClaim := { program := "ythddighmlijdeaa", sum := "1b61a370d899e069e54c5273d57d540e363cd5651ebb96dba9684f6a5b88341f", func := "loop.example/g01062/laws.FnExactAreAbsentees", spec := "fnExactAreAbsentees", unfollowed := true, recurses := true, apart := false, narrowed := true }
def FnExactAreAbsenteesUptoSaid : Prop := fnExactAreAbsenteesUptoRow.holds Try.pinned (OpenSpec.upto fnExactAreAbsenteesSpec)

/-- 'laws.FnExactNextBid', WHERE WHAT IT READS IS OF BULK AT MOST 1048576: true; the input reads as it did. -/
def fnExactNextBidUptoRow : OpenClaim := { program := "ythddighmlijdeaa", sum := "1b61a370d899e069e54c5273d57d540e363cd5651ebb96dba9684f6a5b88341f", func := "loop.example/g01062/laws.FnExactNextBid", spec := "fnExactNextBid", apart := false, narrowed := true }
def FnExactNextBidUptoSaid : Prop := fnExactNextBidUptoRow.holds Try.pinned (OpenSpec.upto fnExactNextBidSpec)

/-- 'laws.FnExactCountBids', WHERE WHAT IT READS IS OF BULK AT MOST 1048576: true; the input reads as it did. -/
def fnExactCountBidsUptoRow : OpenClaim := { program := "ythddighmlijdeaa", sum := "1b61a370d899e069e54c5273d57d540e363cd5651ebb96dba9684f6a5b88341f", func := "loop.example/g01062/laws.FnExactCountBids", spec := "fnExactCountBids", apart := false, narrowed := true }
def FnExactCountBidsUptoSaid : Prop := fnExactCountBidsUptoRow.holds Try.pinned (OpenSpec.upto fnExactCountBidsSpec)

/-- 'laws.FnExactIsABid', WHERE WHAT IT READS IS OF BULK AT MOST 1048576: true; the input reads as it did. -/
def fnExactIsABidUptoRow : OpenClaim := { program := "ythddighmlijdeaa", sum := "1b61a370d899e069e54c5273d57d540e363cd5651ebb96dba9684f6a5b88341f", func := "loop.example/g01062/laws.FnExactIsABid", spec := "fnExactIsABid", apart := false, narrowed := true }
def FnExactIsABidUptoSaid : Prop := fnExactIsABidUptoRow.holds Try.pinned (OpenSpec.upto fnExactIsABidSpec)

/-- 'laws.FnExactLastBid', WHERE WHAT IT READS IS OF BULK AT MOST 1048576: true; the input reads as it did. -/
def fnExactLastBidUptoRow : OpenClaim := { program := "ythddighmlijdeaa", sum := "1b61a370d899e069e54c5273d57d540e363cd5651ebb96dba9684f6a5b88341f", func := "loop.example/g01062/laws.FnExactLastBid", spec := "fnExactLastBid", apart := false, narrowed := true }
def FnExactLastBidUptoSaid : Prop := fnExactLastBidUptoRow.holds Try.pinned (OpenSpec.upto fnExactLastBidSpec)

/-- 'laws.FnExactMergeSteps', WHERE WHAT IT READS IS OF BULK AT MOST 1048576: true; the input reads as it did. -/
def fnExactMergeStepsUptoRow : OpenClaim := { program := "ythddighmlijdeaa", sum := "1b61a370d899e069e54c5273d57d540e363cd5651ebb96dba9684f6a5b88341f", func := "loop.example/g01062/laws.FnExactMergeSteps", spec := "fnExactMergeSteps", apart := false, narrowed := true }
def FnExactMergeStepsUptoSaid : Prop := fnExactMergeStepsUptoRow.holds Try.pinned (OpenSpec.upto fnExactMergeStepsSpec)

/-- 'laws.FnBids', WHERE WHAT IT READS IS OF BULK AT MOST 1048576: true; the input reads as it did. -/
def fnBidsUptoRow : OpenClaim := { program := "ythddighmlijdeaa", sum := "1b61a370d899e069e54c5273d57d540e363cd5651ebb96dba9684f6a5b88341f", func := "loop.example/g01062/laws.FnBids", spec := "fnBids", apart := false, narrowed := true }
def FnBidsUptoSaid : Prop := fnBidsUptoRow.holds Try.pinned (OpenSpec.upto fnBidsSpec)

/-- 'laws.FnExactRoomWinner', WHERE WHAT IT READS IS OF BULK AT MOST 1048576: true; the input reads as it did. -/
def fnExactRoomWinnerUptoRow : OpenClaim := { program := "ythddighmlijdeaa", sum := "1b61a370d899e069e54c5273d57d540e363cd5651ebb96dba9684f6a5b88341f", func := "loop.example/g01062/laws.FnExactRoomWinner", spec := "fnExactRoomWinner", unfollowed := true, recurses := true, apart := false, narrowed := true }
def FnExactRoomWinnerUptoSaid : Prop := fnExactRoomWinnerUptoRow.holds Try.pinned (OpenSpec.upto fnExactRoomWinnerSpec)

/-- 'laws.FnExactCouldWin', WHERE WHAT IT READS IS OF BULK AT MOST 1048576: true; the input reads as it did. -/
def fnExactCouldWinUptoRow : OpenClaim := { program := "ythddighmlijdeaa", sum := "1b61a370d899e069e54c5273d57d540e363cd5651ebb96dba9684f6a5b88341f", func := "loop.example/g01062/laws.FnExactCouldWin", spec := "fnExactCouldWin", unfollowed := true, recurses := true, apart := false, narrowed := true }
def FnExactCouldWinUptoSaid : Prop := fnExactCouldWinUptoRow.holds Try.pinned (OpenSpec.upto fnExactCouldWinSpec)

/-- 'laws.FnExactRoomBids', WHERE WHAT IT READS IS OF BULK AT MOST 1048576: true; the input reads as it did. -/
def fnExactRoomBidsUptoRow : OpenClaim := { program := "ythddighmlijdeaa", sum := "1b61a370d899e069e54c5273d57d540e363cd5651ebb96dba9684f6a5b88341f", func := "loop.example/g01062/laws.FnExactRoomBids", spec := "fnExactRoomBids", unfollowed := true, recurses := true, apart := false, narrowed := true }
def FnExactRoomBidsUptoSaid : Prop := fnExactRoomBidsUptoRow.holds Try.pinned (OpenSpec.upto fnExactRoomBidsSpec)

end Rows
end Go.Proofs.Ythddighmlijdeaa
