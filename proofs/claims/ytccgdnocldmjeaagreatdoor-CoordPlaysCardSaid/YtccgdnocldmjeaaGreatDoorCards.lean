/-
  DERIVED. GIVEN WITH THE SEED: THE CARDS: each row of YtccgdnocldmjeaaGreatDoorRows.lean that lists a variable, with what it lists TIED to the program's text (the seventh form; the later family's looks); each row that meets fmt, with fmt's text TOLD by the authors' own Lean function (tested against real Go, not proved from fmt's source: count such statements apart). THE CARD IS WHAT COUNTS. Prove the row's statement (the work); the ties are given (YtccgdnocldmjeaaGreatDoorTie.lean); close each card by the builder's one call (the guide's Derived/Test/ToyasCard.lean, 'card_holds'). Laid BY PROGRAM, IN A SANDBOX (cutbox-door.mjs). By AI agents, Wed Nov 11 2026. No macro, syntax, notation, axiom, sorry.
-/
import Derived.Test.YtccgdnocldmjeaaGreatDoorRows
import GoSem.ClaimSeven
namespace Go.Proofs.YtccgdnocldmjeaaGreatDoor
namespace Rows

/-- THE TIED CARD OF 'seneschallaw10.CoordPlays'. -/
def coordPlaysCard : Claim7 := { stood := { row := coordPlaysRow, standIns := [], harness := (true, "0dff9205a221494da0392a4bf4b13305ba78d226d538752b1e5ac6b53a190ef4"), looks := true }, kinds := [], alts := [], laidByText := true, laidKinds := [.data, .pinned], laidTests := true, laidLooks := .later }
def CoordPlaysCardSaid : Prop := Claim7.holds Tryz.pinned (.plain (OpenSpec.ofChange coordPlaysSpec)) coordPlaysCard

/-- THE SECOND FORM's CARD OF 'seneschallaw10.CoordPlays'. -/
def coordPlaysUptoCard : Claim7 := { stood := { row := coordPlaysUptoRow, standIns := [], harness := (true, "0dff9205a221494da0392a4bf4b13305ba78d226d538752b1e5ac6b53a190ef4"), looks := true }, kinds := [], alts := [], laidByText := true, laidKinds := [.data, .pinned], laidTests := true, laidLooks := .later }
def CoordPlaysUptoCardSaid : Prop := Claim7.holds Tryz.pinned (.plain (OpenSpec.upto coordPlaysSpec)) coordPlaysUptoCard
end Rows
end Go.Proofs.YtccgdnocldmjeaaGreatDoor
