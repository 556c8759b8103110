/-
  DERIVED. GIVEN WITH THE SEED: THE CARDS: each row of YtnjlleopgjggpaaDoorRows.lean that lists a variable, with what it lists TIED to the program's text (the seventh form; the later family's looks); each row that meets fmt, with fmt's text TOLD by the authors' own Lean function (tested against real Go, not proved from fmt's source: count such statements apart). THE CARD IS WHAT COUNTS. Prove the row's statement (the work); the ties are given (YtnjlleopgjggpaaDoorTie.lean); close each card by the builder's one call (the guide's Derived/Test/ToyasCard.lean, 'card_holds'). Laid BY PROGRAM, IN A SANDBOX (cutbox-door.mjs). By AI agents, Wed Nov 11 2026. No macro, syntax, notation, axiom, sorry.
-/
import Derived.Test.YtnjlleopgjggpaaDoorRows
import GoSem.ClaimSeven
namespace Go.Proofs.YtnjlleopgjggpaaDoor
namespace Rows

/-- THE TIED CARD OF 'laws.FnRoom'. -/
def fnRoomCard : Claim7 := { stood := { row := fnRoomRow, standIns := [], harness := (true, "89ca4e96d7ad3798ef225a974312c52e82142c0932466d444e9ad185470b833e"), looks := false }, kinds := [], alts := [], laidByText := true, laidKinds := [.data, .data, .data], laidTests := true, laidLooks := .later }
def FnRoomCardSaid : Prop := Claim7.holds Tryd.pinned (.plain (OpenSpec.ofChange fnRoomSpec)) fnRoomCard

/-- THE TIED CARD OF 'laws.FnBaskets'. -/
def fnBasketsCard : Claim7 := { stood := { row := fnBasketsRow, standIns := [], harness := (true, "89ca4e96d7ad3798ef225a974312c52e82142c0932466d444e9ad185470b833e"), looks := false }, kinds := [], alts := [], laidByText := true, laidKinds := [.data, .data, .data], laidTests := true, laidLooks := .later }
def FnBasketsCardSaid : Prop := Claim7.holds Tryd.pinned (.plain (OpenSpec.ofChange fnBasketsSpec)) fnBasketsCard

/-- THE TIED CARD OF 'laws.FnShows'. -/
def fnShowsCard : Claim7 := { stood := { row := fnShowsRow, standIns := [], harness := (true, "89ca4e96d7ad3798ef225a974312c52e82142c0932466d444e9ad185470b833e"), looks := false }, kinds := [], alts := [], laidByText := true, laidKinds := [.data, .data, .data], laidTests := true, laidLooks := .later }
def FnShowsCardSaid : Prop := Claim7.holds Tryd.pinned (.plain (OpenSpec.ofChange fnShowsSpec)) fnShowsCard

/-- THE SECOND FORM's CARD OF 'laws.FnRoom'. -/
def fnRoomUptoCard : Claim7 := { stood := { row := fnRoomUptoRow, standIns := [], harness := (true, "89ca4e96d7ad3798ef225a974312c52e82142c0932466d444e9ad185470b833e"), looks := false }, kinds := [], alts := [], laidByText := true, laidKinds := [.data, .data, .data], laidTests := true, laidLooks := .later }
def FnRoomUptoCardSaid : Prop := Claim7.holds Tryd.pinned (.plain (OpenSpec.upto fnRoomSpec)) fnRoomUptoCard

/-- THE SECOND FORM's CARD OF 'laws.FnBaskets'. -/
def fnBasketsUptoCard : Claim7 := { stood := { row := fnBasketsUptoRow, standIns := [], harness := (true, "89ca4e96d7ad3798ef225a974312c52e82142c0932466d444e9ad185470b833e"), looks := false }, kinds := [], alts := [], laidByText := true, laidKinds := [.data, .data, .data], laidTests := true, laidLooks := .later }
def FnBasketsUptoCardSaid : Prop := Claim7.holds Tryd.pinned (.plain (OpenSpec.upto fnBasketsSpec)) fnBasketsUptoCard

/-- THE SECOND FORM's CARD OF 'laws.FnShows'. -/
def fnShowsUptoCard : Claim7 := { stood := { row := fnShowsUptoRow, standIns := [], harness := (true, "89ca4e96d7ad3798ef225a974312c52e82142c0932466d444e9ad185470b833e"), looks := false }, kinds := [], alts := [], laidByText := true, laidKinds := [.data, .data, .data], laidTests := true, laidLooks := .later }
def FnShowsUptoCardSaid : Prop := Claim7.holds Tryd.pinned (.plain (OpenSpec.upto fnShowsSpec)) fnShowsUptoCard
end Rows
end Go.Proofs.YtnjlleopgjggpaaDoor
