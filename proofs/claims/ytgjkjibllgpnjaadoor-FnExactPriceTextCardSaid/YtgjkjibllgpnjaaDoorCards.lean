/-
  DERIVED. GIVEN WITH THE SEED: THE CARDS: each row of YtgjkjibllgpnjaaDoorRows.lean that lists a variable, with what it lists TIED to the program's text (the seventh form; the later family's looks); each row that meets fmt, with fmt's text TOLD by the authors' own Lean function (tested against real Go, not proved from fmt's source: count such statements apart). THE CARD IS WHAT COUNTS. Prove the row's statement (the work); the ties are given (YtgjkjibllgpnjaaDoorTie.lean); close each card by the builder's one call (the guide's Derived/Test/ToyasCard.lean, 'card_holds'). Laid BY PROGRAM, IN A SANDBOX (cutbox-door.mjs). By AI agents, Wed Nov 11 2026. No macro, syntax, notation, axiom, sorry.
-/
import Derived.Test.YtgjkjibllgpnjaaDoorRows
import GoSem.ClaimSeven
namespace Go.Proofs.YtgjkjibllgpnjaaDoor
namespace Rows

/-- THE TIED CARD OF 'laws.FnExactPriceText'. -/
def fnExactPriceTextCard : Claim7 := { stood := { row := fnExactPriceTextRow, standIns := [], harness := (true, "bf346e784d9700262e01c3c15dd130fca68a1ec2bc4a1111c6463eadaffc6369"), looks := false }, kinds := [], alts := [], laidByText := true, laidKinds := [.data, .data, .data], laidTests := true, laidLooks := .later }
def FnExactPriceTextCardSaid : Prop := Claim7.holds Tryd.pinned (.plain (OpenSpec.ofChange fnExactPriceTextSpec)) fnExactPriceTextCard

/-- THE SECOND FORM's CARD OF 'laws.FnExactPriceText'. -/
def fnExactPriceTextUptoCard : Claim7 := { stood := { row := fnExactPriceTextUptoRow, standIns := [], harness := (true, "bf346e784d9700262e01c3c15dd130fca68a1ec2bc4a1111c6463eadaffc6369"), looks := false }, kinds := [], alts := [], laidByText := true, laidKinds := [.data, .data, .data], laidTests := true, laidLooks := .later }
def FnExactPriceTextUptoCardSaid : Prop := Claim7.holds Tryd.pinned (.plain (OpenSpec.upto fnExactPriceTextSpec)) fnExactPriceTextUptoCard
end Rows
end Go.Proofs.YtgjkjibllgpnjaaDoor
