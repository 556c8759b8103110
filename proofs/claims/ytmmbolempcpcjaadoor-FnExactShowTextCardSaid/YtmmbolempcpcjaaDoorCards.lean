/-
  DERIVED. GIVEN WITH THE SEED: THE CARDS: each row of YtmmbolempcpcjaaDoorRows.lean that lists a variable, with what it lists TIED to the program's text (the seventh form; the later family's looks); each row that meets fmt, with fmt's text TOLD by the authors' own Lean function (tested against real Go, not proved from fmt's source: count such statements apart). THE CARD IS WHAT COUNTS. Prove the row's statement (the work); the ties are given (YtmmbolempcpcjaaDoorTie.lean); close each card by the builder's one call (the guide's Derived/Test/ToyasCard.lean, 'card_holds'). Laid BY PROGRAM, IN A SANDBOX (cutbox-door.mjs). By AI agents, Wed Nov 11 2026. No macro, syntax, notation, axiom, sorry.
-/
import Derived.Test.YtmmbolempcpcjaaDoorRows
import GoSem.ClaimSeven
namespace Go.Proofs.YtmmbolempcpcjaaDoor
namespace Rows

/-- THE TIED CARD OF 'laws.FnExactShowText'. -/
def fnExactShowTextCard : Claim7 := { stood := { row := fnExactShowTextRow, standIns := [], harness := (true, "3bb49bc24a37ec2a55537557fc6595ad6bb638efa285e20ec65fa7fda0821a8f"), looks := false }, kinds := [], alts := [], laidByText := true, laidKinds := [.data, .data, .data], laidTests := true, laidLooks := .later }
def FnExactShowTextCardSaid : Prop := Claim7.holds Tryd.pinned (.plain (OpenSpec.ofChange fnExactShowTextSpec)) fnExactShowTextCard

/-- THE SECOND FORM's CARD OF 'laws.FnExactShowText'. -/
def fnExactShowTextUptoCard : Claim7 := { stood := { row := fnExactShowTextUptoRow, standIns := [], harness := (true, "3bb49bc24a37ec2a55537557fc6595ad6bb638efa285e20ec65fa7fda0821a8f"), looks := false }, kinds := [], alts := [], laidByText := true, laidKinds := [.data, .data, .data], laidTests := true, laidLooks := .later }
def FnExactShowTextUptoCardSaid : Prop := Claim7.holds Tryd.pinned (.plain (OpenSpec.upto fnExactShowTextSpec)) fnExactShowTextUptoCard
end Rows
end Go.Proofs.YtmmbolempcpcjaaDoor
