/-
  DERIVED. GIVEN WITH THE SEED: THE CARDS: each row of YthddighmlijdeaaDoorRows.lean that lists a variable, with what it lists TIED to the program's text (the seventh form; the later family's looks); each row that meets fmt, with fmt's text TOLD by the authors' own Lean function (tested against real Go, not proved from fmt's source: count such statements apart). THE CARD IS WHAT COUNTS. Prove the row's statement (the work); the ties are given (YthddighmlijdeaaDoorTie.lean); close each card by the builder's one call (the guide's Derived/Test/ToyasCard.lean, 'card_holds'). Laid BY PROGRAM, IN A SANDBOX (cutbox-door.mjs). By AI agents, Wed Nov 11 2026. No macro, syntax, notation, axiom, sorry.
-/
import Derived.Test.YthddighmlijdeaaDoorRows
import GoSem.ClaimSeven
namespace Go.Proofs.YthddighmlijdeaaDoor
namespace Rows

/-- THE TIED CARD OF 'laws.FnExactStepsText'. -/
def fnExactStepsTextCard : Claim7 := { stood := { row := fnExactStepsTextRow, standIns := [], harness := (true, "f4518cf6038e46ebe52326f9a0a91d20562d27e02e3b3041e17fe5063584314b"), looks := false }, kinds := [], alts := [], laidByText := true, laidKinds := [.data, .data, .data], laidTests := true, laidLooks := .later }
def FnExactStepsTextCardSaid : Prop := Claim7.holds Tryd.pinned (.plain (OpenSpec.ofChange fnExactStepsTextSpec)) fnExactStepsTextCard

/-- THE SECOND FORM's CARD OF 'laws.FnExactStepsText'. -/
def fnExactStepsTextUptoCard : Claim7 := { stood := { row := fnExactStepsTextUptoRow, standIns := [], harness := (true, "f4518cf6038e46ebe52326f9a0a91d20562d27e02e3b3041e17fe5063584314b"), looks := false }, kinds := [], alts := [], laidByText := true, laidKinds := [.data, .data, .data], laidTests := true, laidLooks := .later }
def FnExactStepsTextUptoCardSaid : Prop := Claim7.holds Tryd.pinned (.plain (OpenSpec.upto fnExactStepsTextSpec)) fnExactStepsTextUptoCard
end Rows
end Go.Proofs.YthddighmlijdeaaDoor
