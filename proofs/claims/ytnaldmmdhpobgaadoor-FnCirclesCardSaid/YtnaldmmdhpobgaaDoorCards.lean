/-
  DERIVED. GIVEN WITH THE SEED: THE CARDS: each row of YtnaldmmdhpobgaaDoorRows.lean that lists a variable, with what it lists TIED to the program's text (the seventh form; the later family's looks); each row that meets fmt, with fmt's text TOLD by the authors' own Lean function (tested against real Go, not proved from fmt's source: count such statements apart). THE CARD IS WHAT COUNTS. Prove the row's statement (the work); the ties are given (YtnaldmmdhpobgaaDoorTie.lean); close each card by the builder's one call (the guide's Derived/Test/ToyasCard.lean, 'card_holds'). Laid BY PROGRAM, IN A SANDBOX (cutbox-door.mjs). By AI agents, Wed Nov 11 2026. No macro, syntax, notation, axiom, sorry.
-/
import Derived.Test.YtnaldmmdhpobgaaDoorRows
import GoSem.ClaimSeven
namespace Go.Proofs.YtnaldmmdhpobgaaDoor
namespace Rows

/-- THE TIED CARD OF 'laws.FnExactCircleText'. -/
def fnExactCircleTextCard : Claim7 := { stood := { row := fnExactCircleTextRow, standIns := [], harness := (true, "4689b70bd4136b23b114abaac7a61f819bf1caa0c84fcb9081cdaf4ba4fd517f"), looks := false }, kinds := [], alts := [], laidByText := true, laidKinds := [.data, .data, .data], laidTests := true, laidLooks := .later }
def FnExactCircleTextCardSaid : Prop := Claim7.holds Tryd.pinned (.plain (OpenSpec.ofChange fnExactCircleTextSpec)) fnExactCircleTextCard

/-- THE TIED CARD OF 'laws.FnCircles'. -/
def fnCirclesCard : Claim7 := { stood := { row := fnCirclesRow, standIns := [], harness := (true, "4689b70bd4136b23b114abaac7a61f819bf1caa0c84fcb9081cdaf4ba4fd517f"), looks := false }, kinds := [], alts := [], laidByText := true, laidKinds := [.data, .data, .data], laidTests := true, laidLooks := .later }
def FnCirclesCardSaid : Prop := Claim7.holds Tryd.pinned (.plain (OpenSpec.ofChange fnCirclesSpec)) fnCirclesCard

/-- THE SECOND FORM's CARD OF 'laws.FnExactCircleText'. -/
def fnExactCircleTextUptoCard : Claim7 := { stood := { row := fnExactCircleTextUptoRow, standIns := [], harness := (true, "4689b70bd4136b23b114abaac7a61f819bf1caa0c84fcb9081cdaf4ba4fd517f"), looks := false }, kinds := [], alts := [], laidByText := true, laidKinds := [.data, .data, .data], laidTests := true, laidLooks := .later }
def FnExactCircleTextUptoCardSaid : Prop := Claim7.holds Tryd.pinned (.plain (OpenSpec.upto fnExactCircleTextSpec)) fnExactCircleTextUptoCard

/-- THE SECOND FORM's CARD OF 'laws.FnCircles'. -/
def fnCirclesUptoCard : Claim7 := { stood := { row := fnCirclesUptoRow, standIns := [], harness := (true, "4689b70bd4136b23b114abaac7a61f819bf1caa0c84fcb9081cdaf4ba4fd517f"), looks := false }, kinds := [], alts := [], laidByText := true, laidKinds := [.data, .data, .data], laidTests := true, laidLooks := .later }
def FnCirclesUptoCardSaid : Prop := Claim7.holds Tryd.pinned (.plain (OpenSpec.upto fnCirclesSpec)) fnCirclesUptoCard
end Rows
end Go.Proofs.YtnaldmmdhpobgaaDoor
