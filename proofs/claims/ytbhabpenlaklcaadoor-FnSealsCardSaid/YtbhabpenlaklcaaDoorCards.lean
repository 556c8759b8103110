/-
  DERIVED. GIVEN WITH THE SEED: THE CARDS: each row of YtbhabpenlaklcaaDoorRows.lean that lists a variable, with what it lists TIED to the program's text (the seventh form; the later family's looks); each row that meets fmt, with fmt's text TOLD by the authors' own Lean function (tested against real Go, not proved from fmt's source: count such statements apart). THE CARD IS WHAT COUNTS. Prove the row's statement (the work); the ties are given (YtbhabpenlaklcaaDoorTie.lean); close each card by the builder's one call (the guide's Derived/Test/ToyasCard.lean, 'card_holds'). Laid BY PROGRAM, IN A SANDBOX (cutbox-door.mjs). By AI agents, Wed Nov 11 2026. No macro, syntax, notation, axiom, sorry.
-/
import Derived.Test.YtbhabpenlaklcaaDoorRows
import GoSem.ClaimSeven
namespace Go.Proofs.YtbhabpenlaklcaaDoor
namespace Rows

/-- THE TIED CARD OF 'laws.FnExactPuzzleText'. -/
def fnExactPuzzleTextCard : Claim7 := { stood := { row := fnExactPuzzleTextRow, standIns := [], harness := (true, "e6593ed6546a9d3ca94885329c6a64cb9782461c5adc177f3db8a2b782e02b29"), looks := false }, kinds := [], alts := [], laidByText := true, laidKinds := [.data, .data, .data], laidTests := true, laidLooks := .later }
def FnExactPuzzleTextCardSaid : Prop := Claim7.holds Tryd.pinned (.plain (OpenSpec.ofChange fnExactPuzzleTextSpec)) fnExactPuzzleTextCard

/-- THE TIED CARD OF 'laws.FnSeals'. -/
def fnSealsCard : Claim7 := { stood := { row := fnSealsRow, standIns := [], harness := (true, "e6593ed6546a9d3ca94885329c6a64cb9782461c5adc177f3db8a2b782e02b29"), looks := false }, kinds := [], alts := [], laidByText := true, laidKinds := [.data, .data, .data], laidTests := true, laidLooks := .later }
def FnSealsCardSaid : Prop := Claim7.holds Tryd.pinned (.plain (OpenSpec.ofChange fnSealsSpec)) fnSealsCard

/-- THE SECOND FORM's CARD OF 'laws.FnExactPuzzleText'. -/
def fnExactPuzzleTextUptoCard : Claim7 := { stood := { row := fnExactPuzzleTextUptoRow, standIns := [], harness := (true, "e6593ed6546a9d3ca94885329c6a64cb9782461c5adc177f3db8a2b782e02b29"), looks := false }, kinds := [], alts := [], laidByText := true, laidKinds := [.data, .data, .data], laidTests := true, laidLooks := .later }
def FnExactPuzzleTextUptoCardSaid : Prop := Claim7.holds Tryd.pinned (.plain (OpenSpec.upto fnExactPuzzleTextSpec)) fnExactPuzzleTextUptoCard

/-- THE SECOND FORM's CARD OF 'laws.FnSeals'. -/
def fnSealsUptoCard : Claim7 := { stood := { row := fnSealsUptoRow, standIns := [], harness := (true, "e6593ed6546a9d3ca94885329c6a64cb9782461c5adc177f3db8a2b782e02b29"), looks := false }, kinds := [], alts := [], laidByText := true, laidKinds := [.data, .data, .data], laidTests := true, laidLooks := .later }
def FnSealsUptoCardSaid : Prop := Claim7.holds Tryd.pinned (.plain (OpenSpec.upto fnSealsSpec)) fnSealsUptoCard
end Rows
end Go.Proofs.YtbhabpenlaklcaaDoor
