/-
  No cell of these rows narrows 'for every input' (looked for: loops, veiled, ifaces, maps, wideKeys, modest, calm, conditions, laid).
  DERIVED. THE GIVEN ROWS OF THIS SEAT. 8 by the template 'for every input the law returns true; each argument reads behind the call as it read before'; 0 by the template 'total and deterministic' (their statements: YtbhabpenlaklcaaTotals.lean).
  GIVEN WITH THE SEED: the statements are not yours to turn. If you find one false, say at which input.
  Laid BY PROGRAM, IN A SANDBOX (cutbox-rows.mjs): the forced cells as the released guide's own fill.sh prints them over the translation 0fd04ec45200ba7e… (all of the seat's roots in one cut). By AI agents, Wed Nov 11 2026. No macro, syntax, notation, axiom, sorry.
-/
import Derived.Test.YtbhabpenlaklcaaChecked
import GoSem.Claim
import GoSem.ClaimJoined
import GoSem.ClaimMapViews
import Derived.JoinedTies
import Derived.KernelRfl
namespace Go.Proofs.Ytbhabpenlaklcaa
/- THE CELL 'sum', in the pinned program and in every row, IS THE sha256 OF THE DUMP (.gsa) THAT YtbhabpenlaklcaaProg.lean LOADS. Nothing in Lean hashes anything: it is a label: what it is worth is what the hold of that sum in a sandbox is worth. -/
noncomputable def Try.pinned : Pinned := { name := "ytbhabpenlaklcaa", sum := "0fd04ec45200ba7ec4ee9ebea2bfde2b51b624c19b11c9e95b15456bd6eb1776", checked := Try.checked }
namespace Rows
def none {H : Type} : Left H := { results := [], args := [] }

/-- 'laws.FnExactNewPuzzle': WHATEVER THE INPUT: true; the input reads as it did. -/
def fnExactNewPuzzleSpec : ChangeSpec := { name := "fnExactNewPuzzle", fn := fun _ => fun
  | [d] => { results := [.lit (.bool true)], args := [d] }
  | _ => none }
def fnExactNewPuzzleRow : OpenClaim := { program := "ytbhabpenlaklcaa", sum := "0fd04ec45200ba7ec4ee9ebea2bfde2b51b624c19b11c9e95b15456bd6eb1776", func := "loop.example/g01062/laws.FnExactNewPuzzle", spec := "fnExactNewPuzzle", apart := false }
def FnExactNewPuzzleSaid : Prop := fnExactNewPuzzleRow.holds Try.pinned (OpenSpec.ofChange fnExactNewPuzzleSpec)

/-- ITS FALSE NEIGHBOUR: 'it returns false'. Refute it at one input. -/
def fnExactNewPuzzleWrong : ChangeSpec := { name := "fnExactNewPuzzle", fn := fun _ => fun
  | [d] => { results := [.lit (.bool false)], args := [d] }
  | _ => none }
def FnExactNewPuzzleWrongFalsely : Prop := fnExactNewPuzzleRow.holds Try.pinned (OpenSpec.ofChange fnExactNewPuzzleWrong)

/-- 'laws.FnExactIsPuzzle': WHATEVER THE INPUT: true; the input reads as it did. -/
def fnExactIsPuzzleSpec : ChangeSpec := { name := "fnExactIsPuzzle", fn := fun _ => fun
  | [d] => { results := [.lit (.bool true)], args := [d] }
  | _ => none }
def fnExactIsPuzzleRow : OpenClaim := { program := "ytbhabpenlaklcaa", sum := "0fd04ec45200ba7ec4ee9ebea2bfde2b51b624c19b11c9e95b15456bd6eb1776", func := "loop.example/g01062/laws.FnExactIsPuzzle", spec := "fnExactIsPuzzle", apart := false }
def FnExactIsPuzzleSaid : Prop := fnExactIsPuzzleRow.holds Try.pinned (OpenSpec.ofChange fnExactIsPuzzleSpec)

/-- ITS FALSE NEIGHBOUR: 'it returns false'. Refute it at one input. -/
def fnExactIsPuzzleWrong : ChangeSpec := { name := "fnExactIsPuzzle", fn := fun _ => fun
  | [d] => { results := [.lit (.bool false)], args := [d] }
  | _ => none }
def FnExactIsPuzzleWrongFalsely : Prop := fnExactIsPuzzleRow.holds Try.pinned (OpenSpec.ofChange fnExactIsPuzzleWrong)

/-- 'laws.FnExactUndoSteps': WHATEVER THE INPUT: true; the input reads as it did. -/
def fnExactUndoStepsSpec : ChangeSpec := { name := "fnExactUndoSteps", fn := fun _ => fun
  | [d1, d2] => { results := [.lit (.bool true)], args := [d1, d2] }
  | _ => none }
def fnExactUndoStepsRow : OpenClaim := { program := "ytbhabpenlaklcaa", sum := "0fd04ec45200ba7ec4ee9ebea2bfde2b51b624c19b11c9e95b15456bd6eb1776", func := "loop.example/g01062/laws.FnExactUndoSteps", spec := "fnExactUndoSteps", apart := false }
def FnExactUndoStepsSaid : Prop := fnExactUndoStepsRow.holds Try.pinned (OpenSpec.ofChange fnExactUndoStepsSpec)

/-- ITS FALSE NEIGHBOUR: 'it returns false'. Refute it at one input. -/
def fnExactUndoStepsWrong : ChangeSpec := { name := "fnExactUndoSteps", fn := fun _ => fun
  | [d1, d2] => { results := [.lit (.bool false)], args := [d1, d2] }
  | _ => none }
def FnExactUndoStepsWrongFalsely : Prop := fnExactUndoStepsRow.holds Try.pinned (OpenSpec.ofChange fnExactUndoStepsWrong)

/-- 'laws.FnExactStepsToSeal': WHATEVER THE INPUT: true; the input reads as it did. -/
def fnExactStepsToSealSpec : ChangeSpec := { name := "fnExactStepsToSeal", fn := fun _ => fun
  | [d] => { results := [.lit (.bool true)], args := [d] }
  | _ => none }
def fnExactStepsToSealRow : OpenClaim := { program := "ytbhabpenlaklcaa", sum := "0fd04ec45200ba7ec4ee9ebea2bfde2b51b624c19b11c9e95b15456bd6eb1776", func := "loop.example/g01062/laws.FnExactStepsToSeal", spec := "fnExactStepsToSeal", apart := false }
def FnExactStepsToSealSaid : Prop := fnExactStepsToSealRow.holds Try.pinned (OpenSpec.ofChange fnExactStepsToSealSpec)

/-- ITS FALSE NEIGHBOUR: 'it returns false'. Refute it at one input. -/
def fnExactStepsToSealWrong : ChangeSpec := { name := "fnExactStepsToSeal", fn := fun _ => fun
  | [d] => { results := [.lit (.bool false)], args := [d] }
  | _ => none }
def FnExactStepsToSealWrongFalsely : Prop := fnExactStepsToSealRow.holds Try.pinned (OpenSpec.ofChange fnExactStepsToSealWrong)

/-- 'laws.FnExactPiecesWaiting': WHATEVER THE INPUT: true; the input reads as it did. -/
def fnExactPiecesWaitingSpec : ChangeSpec := { name := "fnExactPiecesWaiting", fn := fun _ => fun
  | [d] => { results := [.lit (.bool true)], args := [d] }
  | _ => none }
def fnExactPiecesWaitingRow : OpenClaim := { program := "ytbhabpenlaklcaa", sum := "0fd04ec45200ba7ec4ee9ebea2bfde2b51b624c19b11c9e95b15456bd6eb1776", func := "loop.example/g01062/laws.FnExactPiecesWaiting", spec := "fnExactPiecesWaiting", apart := false }
def FnExactPiecesWaitingSaid : Prop := fnExactPiecesWaitingRow.holds Try.pinned (OpenSpec.ofChange fnExactPiecesWaitingSpec)

/-- ITS FALSE NEIGHBOUR: 'it returns false'. Refute it at one input. -/
def fnExactPiecesWaitingWrong : ChangeSpec := { name := "fnExactPiecesWaiting", fn := fun _ => fun
  | [d] => { results := [.lit (.bool false)], args := [d] }
  | _ => none }
def FnExactPiecesWaitingWrongFalsely : Prop := fnExactPiecesWaitingRow.holds Try.pinned (OpenSpec.ofChange fnExactPiecesWaitingWrong)

/-- 'laws.FnExactStepPuzzle': WHATEVER THE INPUT: true; the input reads as it did. -/
def fnExactStepPuzzleSpec : ChangeSpec := { name := "fnExactStepPuzzle", fn := fun _ => fun
  | [d1, d2] => { results := [.lit (.bool true)], args := [d1, d2] }
  | _ => none }
def fnExactStepPuzzleRow : OpenClaim := { program := "ytbhabpenlaklcaa", sum := "0fd04ec45200ba7ec4ee9ebea2bfde2b51b624c19b11c9e95b15456bd6eb1776", func := "loop.example/g01062/laws.FnExactStepPuzzle", spec := "fnExactStepPuzzle", inPlace := ["slices.overlaps[int]"], apart := false }
def FnExactStepPuzzleSaid : Prop := fnExactStepPuzzleRow.holds Try.pinned (OpenSpec.ofChange fnExactStepPuzzleSpec)

/-- ITS FALSE NEIGHBOUR: 'it returns false'. Refute it at one input. -/
def fnExactStepPuzzleWrong : ChangeSpec := { name := "fnExactStepPuzzle", fn := fun _ => fun
  | [d1, d2] => { results := [.lit (.bool false)], args := [d1, d2] }
  | _ => none }
def FnExactStepPuzzleWrongFalsely : Prop := fnExactStepPuzzleRow.holds Try.pinned (OpenSpec.ofChange fnExactStepPuzzleWrong)

/-- 'laws.FnExactRunPuzzle': WHATEVER THE INPUT: true; the input reads as it did. -/
def fnExactRunPuzzleSpec : ChangeSpec := { name := "fnExactRunPuzzle", fn := fun _ => fun
  | [d1, d2] => { results := [.lit (.bool true)], args := [d1, d2] }
  | _ => none }
def fnExactRunPuzzleRow : OpenClaim := { program := "ytbhabpenlaklcaa", sum := "0fd04ec45200ba7ec4ee9ebea2bfde2b51b624c19b11c9e95b15456bd6eb1776", func := "loop.example/g01062/laws.FnExactRunPuzzle", spec := "fnExactRunPuzzle", inPlace := ["slices.overlaps[int]"], apart := false }
def FnExactRunPuzzleSaid : Prop := fnExactRunPuzzleRow.holds Try.pinned (OpenSpec.ofChange fnExactRunPuzzleSpec)

/-- ITS FALSE NEIGHBOUR: 'it returns false'. Refute it at one input. -/
def fnExactRunPuzzleWrong : ChangeSpec := { name := "fnExactRunPuzzle", fn := fun _ => fun
  | [d1, d2] => { results := [.lit (.bool false)], args := [d1, d2] }
  | _ => none }
def FnExactRunPuzzleWrongFalsely : Prop := fnExactRunPuzzleRow.holds Try.pinned (OpenSpec.ofChange fnExactRunPuzzleWrong)

/-- 'laws.FnPuzzles': WHATEVER THE INPUT: true; the input reads as it did. -/
def fnPuzzlesSpec : ChangeSpec := { name := "fnPuzzles", fn := fun _ => fun
  | [d] => { results := [.lit (.bool true)], args := [d] }
  | _ => none }
def fnPuzzlesRow : OpenClaim := { program := "ytbhabpenlaklcaa", sum := "0fd04ec45200ba7ec4ee9ebea2bfde2b51b624c19b11c9e95b15456bd6eb1776", func := "loop.example/g01062/laws.FnPuzzles", spec := "fnPuzzles", inPlace := ["slices.overlaps[int]"], apart := false }
def FnPuzzlesSaid : Prop := fnPuzzlesRow.holds Try.pinned (OpenSpec.ofChange fnPuzzlesSpec)

/-- ITS FALSE NEIGHBOUR: 'it returns false'. Refute it at one input. -/
def fnPuzzlesWrong : ChangeSpec := { name := "fnPuzzles", fn := fun _ => fun
  | [d] => { results := [.lit (.bool false)], args := [d] }
  | _ => none }
def FnPuzzlesWrongFalsely : Prop := fnPuzzlesRow.holds Try.pinned (OpenSpec.ofChange fnPuzzlesWrong)

/- THE SECOND FORM. 'bulk': how many values and letters a reading holds, each counted each time it is reached (what is shared counts as often as it is met; a slice's spare places count too). A statement '..UptoSaid' is the law's where the arguments, and the package variables that the reading takes, are together of bulk at most 1048576: NARROWER than '..Said'. Prove '..Said' where nothing that the law and all that it calls make is longer than what came in: it says more and counts as full. Else prove '..UptoSaid'. A law counts once. -/
mutual
def uptoBulk {H : Type} : DataW H → Nat
  | .lit (.string bytes) => bytes.length + 1
  | .lit _ => 1
  | .nil => 1
  | .ptr d => uptoBulk d + 1
  | .slice elems spare => uptoBulkAll elems + uptoBulkAll spare + 1
  | .agg parts => uptoBulkAll parts + 1
  | .iface _ d => uptoBulk d + 1
  | .map entries => uptoBulkEntries entries + 1
  | .held _ => 1
def uptoBulkAll {H : Type} : List (DataW H) → Nat
  | [] => 0
  | d :: r => uptoBulk d + uptoBulkAll r
def uptoBulkEntries {H : Type} : List (Lit × DataW H) → Nat
  | [] => 0
  | x :: r => uptoBulkEntry x + uptoBulkEntries r
def uptoBulkEntry {H : Type} : Lit × DataW H → Nat
  | (.string bytes, d) => bytes.length + uptoBulk d + 1
  | (_, d) => uptoBulk d + 1
 end
def uptoSmall : (H : Type) → List (DataW H) → Bool := fun _ ds => decide (uptoBulkAll ds ≤ 1048576)
def OpenSpec.upto (s : _root_.Go.ChangeSpec) : _root_.Go.OpenSpec := { _root_.Go.OpenSpec.ofChange s with cond := some uptoSmall }

/-- 'laws.FnExactNewPuzzle', WHERE WHAT IT READS IS OF BULK AT MOST 1048576: true; the input reads as it did. -/
def fnExactNewPuzzleUptoRow : OpenClaim := { program := "ytbhabpenlaklcaa", sum := "0fd04ec45200ba7ec4ee9ebea2bfde2b51b624c19b11c9e95b15456bd6eb1776", func := "loop.example/g01062/laws.FnExactNewPuzzle", spec := "fnExactNewPuzzle", apart := false, narrowed := true }
def FnExactNewPuzzleUptoSaid : Prop := fnExactNewPuzzleUptoRow.holds Try.pinned (OpenSpec.upto fnExactNewPuzzleSpec)

/-- 'laws.FnExactIsPuzzle', WHERE WHAT IT READS IS OF BULK AT MOST 1048576: true; the input reads as it did. -/
def fnExactIsPuzzleUptoRow : OpenClaim := { program := "ytbhabpenlaklcaa", sum := "0fd04ec45200ba7ec4ee9ebea2bfde2b51b624c19b11c9e95b15456bd6eb1776", func := "loop.example/g01062/laws.FnExactIsPuzzle", spec := "fnExactIsPuzzle", apart := false, narrowed := true }
def FnExactIsPuzzleUptoSaid : Prop := fnExactIsPuzzleUptoRow.holds Try.pinned (OpenSpec.upto fnExactIsPuzzleSpec)

/-- 'laws.FnExactUndoSteps', WHERE WHAT IT READS IS OF BULK AT MOST 1048576: true; the input reads as it did. -/
def fnExactUndoStepsUptoRow : OpenClaim := { program := "ytbhabpenlaklcaa", sum := "0fd04ec45200ba7ec4ee9ebea2bfde2b51b624c19b11c9e95b15456bd6eb1776", func := "loop.example/g01062/laws.FnExactUndoSteps", spec := "fnExactUndoSteps", apart := false, narrowed := true }
def FnExactUndoStepsUptoSaid : Prop := fnExactUndoStepsUptoRow.holds Try.pinned (OpenSpec.upto fnExactUndoStepsSpec)

/-- 'laws.FnExactStepsToSeal', WHERE WHAT IT READS IS OF BULK AT MOST 1048576: true; the input reads as it did. -/
def fnExactStepsToSealUptoRow : OpenClaim := { program := "ytbhabpenlaklcaa", sum := "0fd04ec45200ba7ec4ee9ebea2bfde2b51b624c19b11c9e95b15456bd6eb1776", func := "loop.example/g01062/laws.FnExactStepsToSeal", spec := "fnExactStepsToSeal", apart := false, narrowed := true }
def FnExactStepsToSealUptoSaid : Prop := fnExactStepsToSealUptoRow.holds Try.pinned (OpenSpec.upto fnExactStepsToSealSpec)

/-- 'laws.FnExactPiecesWaiting', WHERE WHAT IT READS IS OF BULK AT MOST 1048576: true; the input reads as it did. -/
def fnExactPiecesWaitingUptoRow : OpenClaim := { program := "ytbhabpenlaklcaa", sum := "0fd04ec45200ba7ec4ee9ebea2bfde2b51b624c19b11c9e95b15456bd6eb1776", func := "loop.example/g01062/laws.FnExactPiecesWaiting", spec := "fnExactPiecesWaiting", apart := false, narrowed := true }
def FnExactPiecesWaitingUptoSaid : Prop := fnExactPiecesWaitingUptoRow.holds Try.pinned (OpenSpec.upto fnExactPiecesWaitingSpec)

/-- 'laws.FnExactStepPuzzle', WHERE WHAT IT READS IS OF BULK AT MOST 1048576: true; the input reads as it did. -/
def fnExactStepPuzzleUptoRow : OpenClaim := { program := "ytbhabpenlaklcaa", sum := "0fd04ec45200ba7ec4ee9ebea2bfde2b51b624c19b11c9e95b15456bd6eb1776", func := "loop.example/g01062/laws.FnExactStepPuzzle", spec := "fnExactStepPuzzle", inPlace := ["slices.overlaps[int]"], apart := false, narrowed := true }
def FnExactStepPuzzleUptoSaid : Prop := fnExactStepPuzzleUptoRow.holds Try.pinned (OpenSpec.upto fnExactStepPuzzleSpec)

/-- 'laws.FnExactRunPuzzle', WHERE WHAT IT READS IS OF BULK AT MOST 1048576: true; the input reads as it did. -/
def fnExactRunPuzzleUptoRow : OpenClaim := { program := "ytbhabpenlaklcaa", sum := "0fd04ec45200ba7ec4ee9ebea2bfde2b51b624c19b11c9e95b15456bd6eb1776", func := "loop.example/g01062/laws.FnExactRunPuzzle", spec := "fnExactRunPuzzle", inPlace := ["slices.overlaps[int]"], apart := false, narrowed := true }
def FnExactRunPuzzleUptoSaid : Prop := fnExactRunPuzzleUptoRow.holds Try.pinned (OpenSpec.upto fnExactRunPuzzleSpec)

/-- 'laws.FnPuzzles', WHERE WHAT IT READS IS OF BULK AT MOST 1048576: true; the input reads as it did. -/
def fnPuzzlesUptoRow : OpenClaim := { program := "ytbhabpenlaklcaa", sum := "0fd04ec45200ba7ec4ee9ebea2bfde2b51b624c19b11c9e95b15456bd6eb1776", func := "loop.example/g01062/laws.FnPuzzles", spec := "fnPuzzles", inPlace := ["slices.overlaps[int]"], apart := false, narrowed := true }
def FnPuzzlesUptoSaid : Prop := fnPuzzlesUptoRow.holds Try.pinned (OpenSpec.upto fnPuzzlesSpec)

end Rows
end Go.Proofs.Ytbhabpenlaklcaa
