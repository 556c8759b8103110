/-
  No cell of these rows narrows 'for every input' (looked for: loops, veiled, ifaces, maps, wideKeys, modest, calm, conditions, laid).
  DERIVED. THE GIVEN ROWS OF THIS SEAT. 11 by the template 'for every input the law returns true; each argument reads behind the call as it read before'; 0 by the template 'total and deterministic' (their statements: YtmmbolempcpcjaaTotals.lean).
  GIVEN WITH THE SEED: the statements are not yours to turn. If you find one false, say at which input.
  Laid BY PROGRAM, IN A SANDBOX (cutbox-rows.mjs): the forced cells as the released guide's own fill.sh prints them over the translation 474dadd8f3c7a7d2… (all of the seat's roots in one cut). By AI agents, Wed Nov 11 2026. No macro, syntax, notation, axiom, sorry.
-/
import Derived.Test.YtmmbolempcpcjaaChecked
import GoSem.Claim
import GoSem.ClaimJoined
import GoSem.ClaimMapViews
import Derived.JoinedTies
import Derived.KernelRfl
namespace Go.Proofs.Ytmmbolempcpcjaa
/- THE CELL 'sum', in the pinned program and in every row, IS THE sha256 OF THE DUMP (.gsa) THAT YtmmbolempcpcjaaProg.lean LOADS. Nothing in Lean hashes anything: it is a label: what it is worth is what the hold of that sum in a sandbox is worth. -/
noncomputable def Try.pinned : Pinned := { name := "ytmmbolempcpcjaa", sum := "474dadd8f3c7a7d25e040e6bb9e27fa3b6d0d79aedef9bdbaa5390914a69b5ae", checked := Try.checked }
namespace Rows
def none {H : Type} : Left H := { results := [], args := [] }

/-- 'laws.FnExactAreExhibits': WHATEVER THE INPUT: true; the input reads as it did. -/
def fnExactAreExhibitsSpec : ChangeSpec := { name := "fnExactAreExhibits", fn := fun _ => fun
  | [d] => { results := [.lit (.bool true)], args := [d] }
  | _ => none }
def fnExactAreExhibitsRow : OpenClaim := { program := "ytmmbolempcpcjaa", sum := "474dadd8f3c7a7d25e040e6bb9e27fa3b6d0d79aedef9bdbaa5390914a69b5ae", func := "loop.example/g01062/laws.FnExactAreExhibits", spec := "fnExactAreExhibits", unfollowed := true, recurses := true, apart := false }
def FnExactAreExhibitsSaid : Prop := fnExactAreExhibitsRow.holds Try.pinned (OpenSpec.ofChange fnExactAreExhibitsSpec)

/-- ITS FALSE NEIGHBOUR: 'it returns false'. Refute it at one input. -/
def fnExactAreExhibitsWrong : ChangeSpec := { name := "fnExactAreExhibits", fn := fun _ => fun
  | [d] => { results := [.lit (.bool false)], args := [d] }
  | _ => none }
def FnExactAreExhibitsWrongFalsely : Prop := fnExactAreExhibitsRow.holds Try.pinned (OpenSpec.ofChange fnExactAreExhibitsWrong)

/-- 'laws.FnExactScoreOf': WHATEVER THE INPUT: true; the input reads as it did. -/
def fnExactScoreOfSpec : ChangeSpec := { name := "fnExactScoreOf", fn := fun _ => fun
  | [d] => { results := [.lit (.bool true)], args := [d] }
  | _ => none }
def fnExactScoreOfRow : OpenClaim := { program := "ytmmbolempcpcjaa", sum := "474dadd8f3c7a7d25e040e6bb9e27fa3b6d0d79aedef9bdbaa5390914a69b5ae", func := "loop.example/g01062/laws.FnExactScoreOf", spec := "fnExactScoreOf", unfollowed := true, recurses := true, apart := false }
def FnExactScoreOfSaid : Prop := fnExactScoreOfRow.holds Try.pinned (OpenSpec.ofChange fnExactScoreOfSpec)

/-- ITS FALSE NEIGHBOUR: 'it returns false'. Refute it at one input. -/
def fnExactScoreOfWrong : ChangeSpec := { name := "fnExactScoreOf", fn := fun _ => fun
  | [d] => { results := [.lit (.bool false)], args := [d] }
  | _ => none }
def FnExactScoreOfWrongFalsely : Prop := fnExactScoreOfRow.holds Try.pinned (OpenSpec.ofChange fnExactScoreOfWrong)

/-- 'laws.FnExactMedalOf': WHATEVER THE INPUT: true; the input reads as it did. -/
def fnExactMedalOfSpec : ChangeSpec := { name := "fnExactMedalOf", fn := fun _ => fun
  | [d] => { results := [.lit (.bool true)], args := [d] }
  | _ => none }
def fnExactMedalOfRow : OpenClaim := { program := "ytmmbolempcpcjaa", sum := "474dadd8f3c7a7d25e040e6bb9e27fa3b6d0d79aedef9bdbaa5390914a69b5ae", func := "loop.example/g01062/laws.FnExactMedalOf", spec := "fnExactMedalOf", unfollowed := true, recurses := true, apart := false }
def FnExactMedalOfSaid : Prop := fnExactMedalOfRow.holds Try.pinned (OpenSpec.ofChange fnExactMedalOfSpec)

/-- ITS FALSE NEIGHBOUR: 'it returns false'. Refute it at one input. -/
def fnExactMedalOfWrong : ChangeSpec := { name := "fnExactMedalOf", fn := fun _ => fun
  | [d] => { results := [.lit (.bool false)], args := [d] }
  | _ => none }
def FnExactMedalOfWrongFalsely : Prop := fnExactMedalOfRow.holds Try.pinned (OpenSpec.ofChange fnExactMedalOfWrong)

/-- 'laws.FnExactStrictJudge': WHATEVER THE INPUT: true; the input reads as it did. -/
def fnExactStrictJudgeSpec : ChangeSpec := { name := "fnExactStrictJudge", fn := fun _ => fun
  | [d] => { results := [.lit (.bool true)], args := [d] }
  | _ => none }
def fnExactStrictJudgeRow : OpenClaim := { program := "ytmmbolempcpcjaa", sum := "474dadd8f3c7a7d25e040e6bb9e27fa3b6d0d79aedef9bdbaa5390914a69b5ae", func := "loop.example/g01062/laws.FnExactStrictJudge", spec := "fnExactStrictJudge", unfollowed := true, recurses := true, apart := false }
def FnExactStrictJudgeSaid : Prop := fnExactStrictJudgeRow.holds Try.pinned (OpenSpec.ofChange fnExactStrictJudgeSpec)

/-- ITS FALSE NEIGHBOUR: 'it returns false'. Refute it at one input. -/
def fnExactStrictJudgeWrong : ChangeSpec := { name := "fnExactStrictJudge", fn := fun _ => fun
  | [d] => { results := [.lit (.bool false)], args := [d] }
  | _ => none }
def FnExactStrictJudgeWrongFalsely : Prop := fnExactStrictJudgeRow.holds Try.pinned (OpenSpec.ofChange fnExactStrictJudgeWrong)

/-- 'laws.FnExactSpreadOf': WHATEVER THE INPUT: true; the input reads as it did. -/
def fnExactSpreadOfSpec : ChangeSpec := { name := "fnExactSpreadOf", fn := fun _ => fun
  | [d1, d2] => { results := [.lit (.bool true)], args := [d1, d2] }
  | _ => none }
def fnExactSpreadOfRow : OpenClaim := { program := "ytmmbolempcpcjaa", sum := "474dadd8f3c7a7d25e040e6bb9e27fa3b6d0d79aedef9bdbaa5390914a69b5ae", func := "loop.example/g01062/laws.FnExactSpreadOf", spec := "fnExactSpreadOf", unfollowed := true, recurses := true, apart := false }
def FnExactSpreadOfSaid : Prop := fnExactSpreadOfRow.holds Try.pinned (OpenSpec.ofChange fnExactSpreadOfSpec)

/-- ITS FALSE NEIGHBOUR: 'it returns false'. Refute it at one input. -/
def fnExactSpreadOfWrong : ChangeSpec := { name := "fnExactSpreadOf", fn := fun _ => fun
  | [d1, d2] => { results := [.lit (.bool false)], args := [d1, d2] }
  | _ => none }
def FnExactSpreadOfWrongFalsely : Prop := fnExactSpreadOfRow.holds Try.pinned (OpenSpec.ofChange fnExactSpreadOfWrong)

/-- 'laws.FnExactFramesWith': WHATEVER THE INPUT: true; the input reads as it did. -/
def fnExactFramesWithSpec : ChangeSpec := { name := "fnExactFramesWith", fn := fun _ => fun
  | [d1, d2] => { results := [.lit (.bool true)], args := [d1, d2] }
  | _ => none }
def fnExactFramesWithRow : OpenClaim := { program := "ytmmbolempcpcjaa", sum := "474dadd8f3c7a7d25e040e6bb9e27fa3b6d0d79aedef9bdbaa5390914a69b5ae", func := "loop.example/g01062/laws.FnExactFramesWith", spec := "fnExactFramesWith", unfollowed := true, recurses := true, apart := false }
def FnExactFramesWithSaid : Prop := fnExactFramesWithRow.holds Try.pinned (OpenSpec.ofChange fnExactFramesWithSpec)

/-- ITS FALSE NEIGHBOUR: 'it returns false'. Refute it at one input. -/
def fnExactFramesWithWrong : ChangeSpec := { name := "fnExactFramesWith", fn := fun _ => fun
  | [d1, d2] => { results := [.lit (.bool false)], args := [d1, d2] }
  | _ => none }
def FnExactFramesWithWrongFalsely : Prop := fnExactFramesWithRow.holds Try.pinned (OpenSpec.ofChange fnExactFramesWithWrong)

/-- 'laws.FnExactWithoutJudge': WHATEVER THE INPUT: true; the input reads as it did. -/
def fnExactWithoutJudgeSpec : ChangeSpec := { name := "fnExactWithoutJudge", fn := fun _ => fun
  | [d1, d2] => { results := [.lit (.bool true)], args := [d1, d2] }
  | _ => none }
def fnExactWithoutJudgeRow : OpenClaim := { program := "ytmmbolempcpcjaa", sum := "474dadd8f3c7a7d25e040e6bb9e27fa3b6d0d79aedef9bdbaa5390914a69b5ae", func := "loop.example/g01062/laws.FnExactWithoutJudge", spec := "fnExactWithoutJudge", unfollowed := true, recurses := true, apart := false }
def FnExactWithoutJudgeSaid : Prop := fnExactWithoutJudgeRow.holds Try.pinned (OpenSpec.ofChange fnExactWithoutJudgeSpec)

/-- ITS FALSE NEIGHBOUR: 'it returns false'. Refute it at one input. -/
def fnExactWithoutJudgeWrong : ChangeSpec := { name := "fnExactWithoutJudge", fn := fun _ => fun
  | [d1, d2] => { results := [.lit (.bool false)], args := [d1, d2] }
  | _ => none }
def FnExactWithoutJudgeWrongFalsely : Prop := fnExactWithoutJudgeRow.holds Try.pinned (OpenSpec.ofChange fnExactWithoutJudgeWrong)

/-- 'laws.FnExactLeastMark': WHATEVER THE INPUT: true; the input reads as it did. -/
def fnExactLeastMarkSpec : ChangeSpec := { name := "fnExactLeastMark", fn := fun _ => fun
  | [d1, d2, d3, d4] => { results := [.lit (.bool true)], args := [d1, d2, d3, d4] }
  | _ => none }
def fnExactLeastMarkRow : OpenClaim := { program := "ytmmbolempcpcjaa", sum := "474dadd8f3c7a7d25e040e6bb9e27fa3b6d0d79aedef9bdbaa5390914a69b5ae", func := "loop.example/g01062/laws.FnExactLeastMark", spec := "fnExactLeastMark", unfollowed := true, recurses := true, apart := false }
def FnExactLeastMarkSaid : Prop := fnExactLeastMarkRow.holds Try.pinned (OpenSpec.ofChange fnExactLeastMarkSpec)

/-- ITS FALSE NEIGHBOUR: 'it returns false'. Refute it at one input. -/
def fnExactLeastMarkWrong : ChangeSpec := { name := "fnExactLeastMark", fn := fun _ => fun
  | [d1, d2, d3, d4] => { results := [.lit (.bool false)], args := [d1, d2, d3, d4] }
  | _ => none }
def FnExactLeastMarkWrongFalsely : Prop := fnExactLeastMarkRow.holds Try.pinned (OpenSpec.ofChange fnExactLeastMarkWrong)

/-- 'laws.FnExactPlaceOf': WHATEVER THE INPUT: true; the input reads as it did. -/
def fnExactPlaceOfSpec : ChangeSpec := { name := "fnExactPlaceOf", fn := fun _ => fun
  | [d1, d2] => { results := [.lit (.bool true)], args := [d1, d2] }
  | _ => none }
def fnExactPlaceOfRow : OpenClaim := { program := "ytmmbolempcpcjaa", sum := "474dadd8f3c7a7d25e040e6bb9e27fa3b6d0d79aedef9bdbaa5390914a69b5ae", func := "loop.example/g01062/laws.FnExactPlaceOf", spec := "fnExactPlaceOf", unfollowed := true, recurses := true, apart := false }
def FnExactPlaceOfSaid : Prop := fnExactPlaceOfRow.holds Try.pinned (OpenSpec.ofChange fnExactPlaceOfSpec)

/-- ITS FALSE NEIGHBOUR: 'it returns false'. Refute it at one input. -/
def fnExactPlaceOfWrong : ChangeSpec := { name := "fnExactPlaceOf", fn := fun _ => fun
  | [d1, d2] => { results := [.lit (.bool false)], args := [d1, d2] }
  | _ => none }
def FnExactPlaceOfWrongFalsely : Prop := fnExactPlaceOfRow.holds Try.pinned (OpenSpec.ofChange fnExactPlaceOfWrong)

/-- 'laws.FnExactMedalCounts': WHATEVER THE INPUT: true; the input reads as it did. -/
def fnExactMedalCountsSpec : ChangeSpec := { name := "fnExactMedalCounts", fn := fun _ => fun
  | [d] => { results := [.lit (.bool true)], args := [d] }
  | _ => none }
def fnExactMedalCountsRow : OpenClaim := { program := "ytmmbolempcpcjaa", sum := "474dadd8f3c7a7d25e040e6bb9e27fa3b6d0d79aedef9bdbaa5390914a69b5ae", func := "loop.example/g01062/laws.FnExactMedalCounts", spec := "fnExactMedalCounts", unfollowed := true, recurses := true, apart := false }
def FnExactMedalCountsSaid : Prop := fnExactMedalCountsRow.holds Try.pinned (OpenSpec.ofChange fnExactMedalCountsSpec)

/-- ITS FALSE NEIGHBOUR: 'it returns false'. Refute it at one input. -/
def fnExactMedalCountsWrong : ChangeSpec := { name := "fnExactMedalCounts", fn := fun _ => fun
  | [d] => { results := [.lit (.bool false)], args := [d] }
  | _ => none }
def FnExactMedalCountsWrongFalsely : Prop := fnExactMedalCountsRow.holds Try.pinned (OpenSpec.ofChange fnExactMedalCountsWrong)

/-- 'laws.FnExactRankShow': WHATEVER THE INPUT: true; the input reads as it did. -/
def fnExactRankShowSpec : ChangeSpec := { name := "fnExactRankShow", fn := fun _ => fun
  | [d] => { results := [.lit (.bool true)], args := [d] }
  | _ => none }
def fnExactRankShowRow : OpenClaim := { program := "ytmmbolempcpcjaa", sum := "474dadd8f3c7a7d25e040e6bb9e27fa3b6d0d79aedef9bdbaa5390914a69b5ae", func := "loop.example/g01062/laws.FnExactRankShow", spec := "fnExactRankShow", unfollowed := true, recurses := true, apart := false }
def FnExactRankShowSaid : Prop := fnExactRankShowRow.holds Try.pinned (OpenSpec.ofChange fnExactRankShowSpec)

/-- ITS FALSE NEIGHBOUR: 'it returns false'. Refute it at one input. -/
def fnExactRankShowWrong : ChangeSpec := { name := "fnExactRankShow", fn := fun _ => fun
  | [d] => { results := [.lit (.bool false)], args := [d] }
  | _ => none }
def FnExactRankShowWrongFalsely : Prop := fnExactRankShowRow.holds Try.pinned (OpenSpec.ofChange fnExactRankShowWrong)

/- THE SECOND FORM. 'bulk': how many values and letters a reading holds, each counted each time it is reached (what is shared counts as often as it is met; a slice's spare places count too). A statement '..UptoSaid' is the law's where the arguments, and the package variables that the reading takes, are together of bulk at most 1048576: NARROWER than '..Said'. Prove '..Said' where nothing that the law and all that it calls make is longer than what came in: it says more and counts as full. Else prove '..UptoSaid'. A law counts once. -/
mutual
def uptoBulk {H : Type} : DataW H → Nat
  | .lit (.string bytes) => bytes.length + 1
  | .lit _ => 1
  | .nil => 1
  | .ptr d => uptoBulk d + 1
  | .slice elems spare => uptoBulkAll elems + uptoBulkAll spare + 1
  | .agg parts => uptoBulkAll parts + 1
  | .iface _ d => uptoBulk d + 1
  | .map entries => uptoBulkEntries entries + 1
  | .held _ => 1
def uptoBulkAll {H : Type} : List (DataW H) → Nat
  | [] => 0
  | d :: r => uptoBulk d + uptoBulkAll r
def uptoBulkEntries {H : Type} : List (Lit × DataW H) → Nat
  | [] => 0
  | x :: r => uptoBulkEntry x + uptoBulkEntries r
def uptoBulkEntry {H : Type} : Lit × DataW H → Nat
  | (.string bytes, d) => bytes.length + uptoBulk d + 1
  | (_, d) => uptoBulk d + 1
 end
def uptoSmall : (H : Type) → List (DataW H) → Bool := fun _ ds => decide (uptoBulkAll ds ≤ 1048576)
def OpenSpec.upto (s : _root_.Go.ChangeSpec) : _root_.Go.OpenSpec := { _root_.Go.OpenSpec.ofChange s with cond := some uptoSmall }

/-- 'laws.FnExactAreExhibits', WHERE WHAT IT READS IS OF BULK AT MOST 1048576: true; the input reads as it did. -/
def fnExactAreExhibitsUptoRow : OpenClaim := { program := "ytmmbolempcpcjaa", sum := "474dadd8f3c7a7d25e040e6bb9e27fa3b6d0d79aedef9bdbaa5390914a69b5ae", func := "loop.example/g01062/laws.FnExactAreExhibits", spec := "fnExactAreExhibits", unfollowed := true, recurses := true, apart := false, narrowed := true }
def FnExactAreExhibitsUptoSaid : Prop := fnExactAreExhibitsUptoRow.holds Try.pinned (OpenSpec.upto fnExactAreExhibitsSpec)

/-- 'laws.FnExactScoreOf', WHERE WHAT IT READS IS OF BULK AT MOST 1048576: true; the input reads as it did. -/
def fnExactScoreOfUptoRow : OpenClaim := { program := "ytmmbolempcpcjaa", sum := "474dadd8f3c7a7d25e040e6bb9e27fa3b6d0d79aedef9bdbaa5390914a69b5ae", func := "loop.example/g01062/laws.FnExactScoreOf", spec := "fnExactScoreOf", unfollowed := true, recurses := true, apart := false, narrowed := true }
def FnExactScoreOfUptoSaid : Prop := fnExactScoreOfUptoRow.holds Try.pinned (OpenSpec.upto fnExactScoreOfSpec)

/-- 'laws.FnExactMedalOf', WHERE WHAT IT READS IS OF BULK AT MOST 1048576: true; the input reads as it did. -/
def fnExactMedalOfUptoRow : OpenClaim := { program := "ytmmbolempcpcjaa", sum := "474dadd8f3c7a7d25e040e6bb9e27fa3b6d0d79aedef9bdbaa5390914a69b5ae", func := "loop.example/g01062/laws.FnExactMedalOf", spec := "fnExactMedalOf", unfollowed := true, recurses := true, apart := false, narrowed := true }
def FnExactMedalOfUptoSaid : Prop := fnExactMedalOfUptoRow.holds Try.pinned (OpenSpec.upto fnExactMedalOfSpec)

/-- 'laws.FnExactStrictJudge', WHERE WHAT IT READS IS OF BULK AT MOST 1048576: true; the input reads as it did. -/
def fnExactStrictJudgeUptoRow : OpenClaim := { program := "ytmmbolempcpcjaa", sum := "474dadd8f3c7a7d25e040e6bb9e27fa3b6d0d79aedef9bdbaa5390914a69b5ae", func := "loop.example/g01062/laws.FnExactStrictJudge", spec := "fnExactStrictJudge", unfollowed := true, recurses := true, apart := false, narrowed := true }
def FnExactStrictJudgeUptoSaid : Prop := fnExactStrictJudgeUptoRow.holds Try.pinned (OpenSpec.upto fnExactStrictJudgeSpec)

/-- 'laws.FnExactSpreadOf', WHERE WHAT IT READS IS OF BULK AT MOST 1048576: true; the input reads as it did. -/
def fnExactSpreadOfUptoRow : OpenClaim := { program := "ytmmbolempcpcjaa", sum := "474dadd8f3c7a7d25e040e6bb9e27fa3b6d0d79aedef9bdbaa5390914a69b5ae", func := "loop.example/g01062/laws.FnExactSpreadOf", spec := "fnExactSpreadOf", unfollowed := true, recurses := true, apart := false, narrowed := true }
def FnExactSpreadOfUptoSaid : Prop := fnExactSpreadOfUptoRow.holds Try.pinned (OpenSpec.upto fnExactSpreadOfSpec)

/-- 'laws.FnExactFramesWith', WHERE WHAT IT READS IS OF BULK AT MOST 1048576: true; the input reads as it did. -/
def fnExactFramesWithUptoRow : OpenClaim := { program := "ytmmbolempcpcjaa", sum := "474dadd8f3c7a7d25e040e6bb9e27fa3b6d0d79aedef9bdbaa5390914a69b5ae", func := "loop.example/g01062/laws.FnExactFramesWith", spec := "fnExactFramesWith", unfollowed := true, recurses := true, apart := false, narrowed := true }
def FnExactFramesWithUptoSaid : Prop := fnExactFramesWithUptoRow.holds Try.pinned (OpenSpec.upto fnExactFramesWithSpec)

/-- 'laws.FnExactWithoutJudge', WHERE WHAT IT READS IS OF BULK AT MOST 1048576: true; the input reads as it did. -/
def fnExactWithoutJudgeUptoRow : OpenClaim := { program := "ytmmbolempcpcjaa", sum := "474dadd8f3c7a7d25e040e6bb9e27fa3b6d0d79aedef9bdbaa5390914a69b5ae", func := "loop.example/g01062/laws.FnExactWithoutJudge", spec := "fnExactWithoutJudge", unfollowed := true, recurses := true, apart := false, narrowed := true }
def FnExactWithoutJudgeUptoSaid : Prop := fnExactWithoutJudgeUptoRow.holds Try.pinned (OpenSpec.upto fnExactWithoutJudgeSpec)

/-- 'laws.FnExactLeastMark', WHERE WHAT IT READS IS OF BULK AT MOST 1048576: true; the input reads as it did. -/
def fnExactLeastMarkUptoRow : OpenClaim := { program := "ytmmbolempcpcjaa", sum := "474dadd8f3c7a7d25e040e6bb9e27fa3b6d0d79aedef9bdbaa5390914a69b5ae", func := "loop.example/g01062/laws.FnExactLeastMark", spec := "fnExactLeastMark", unfollowed := true, recurses := true, apart := false, narrowed := true }
def FnExactLeastMarkUptoSaid : Prop := fnExactLeastMarkUptoRow.holds Try.pinned (OpenSpec.upto fnExactLeastMarkSpec)

/-- 'laws.FnExactPlaceOf', WHERE WHAT IT READS IS OF BULK AT MOST 1048576: true; the input reads as it did. -/
def fnExactPlaceOfUptoRow : OpenClaim := { program := "ytmmbolempcpcjaa", sum := "474dadd8f3c7a7d25e040e6bb9e27fa3b6d0d79aedef9bdbaa5390914a69b5ae", func := "loop.example/g01062/laws.FnExactPlaceOf", spec := "fnExactPlaceOf", unfollowed := true, recurses := true, apart := false, narrowed := true }
def FnExactPlaceOfUptoSaid : Prop := fnExactPlaceOfUptoRow.holds Try.pinned (OpenSpec.upto fnExactPlaceOfSpec)

/-- 'laws.FnExactMedalCounts', WHERE WHAT IT READS IS OF BULK AT MOST 1048576: true; the input reads as it did. -/
def fnExactMedalCountsUptoRow : OpenClaim := { program := "ytmmbolempcpcjaa", sum := "474dadd8f3c7a7d25e040e6bb9e27fa3b6d0d79aedef9bdbaa5390914a69b5ae", func := "loop.example/g01062/laws.FnExactMedalCounts", spec := "fnExactMedalCounts", unfollowed := true, recurses := true, apart := false, narrowed := true }
def FnExactMedalCountsUptoSaid : Prop := fnExactMedalCountsUptoRow.holds Try.pinned (OpenSpec.upto fnExactMedalCountsSpec)

/-- 'laws.FnExactRankShow', WHERE WHAT IT READS IS OF BULK AT MOST 1048576: true; the input reads as it did. -/
def fnExactRankShowUptoRow : OpenClaim := { program := "ytmmbolempcpcjaa", sum := "474dadd8f3c7a7d25e040e6bb9e27fa3b6d0d79aedef9bdbaa5390914a69b5ae", func := "loop.example/g01062/laws.FnExactRankShow", spec := "fnExactRankShow", unfollowed := true, recurses := true, apart := false, narrowed := true }
def FnExactRankShowUptoSaid : Prop := fnExactRankShowUptoRow.holds Try.pinned (OpenSpec.upto fnExactRankShowSpec)

end Rows
end Go.Proofs.Ytmmbolempcpcjaa
