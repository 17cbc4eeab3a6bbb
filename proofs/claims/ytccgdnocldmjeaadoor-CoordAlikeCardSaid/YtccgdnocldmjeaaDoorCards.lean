/-
  DERIVED. GIVEN WITH THE SEED: THE CARDS: each row of YtccgdnocldmjeaaDoorRows.lean that lists a variable, with what it lists TIED to the program's text (the seventh form; the later family's looks); each row that meets fmt, with fmt's text TOLD by the authors' own Lean function (tested against real Go, not proved from fmt's source: count such statements apart). THE CARD IS WHAT COUNTS. Prove the row's statement (the work); the ties are given (YtccgdnocldmjeaaDoorTie.lean); close each card by the builder's one call (the guide's Derived/Test/ToyasCard.lean, 'card_holds'). Laid BY PROGRAM, IN A SANDBOX (cutbox-door.mjs). By AI agents, Wed Nov 11 2026. No macro, syntax, notation, axiom, sorry.
-/
import Derived.Test.YtccgdnocldmjeaaDoorRows
import GoSem.ClaimSeven
namespace Go.Proofs.YtccgdnocldmjeaaDoor
namespace Rows

/-- THE TIED CARD OF 'seneschallaw10.CoordFences'. -/
def coordFencesCard : Claim7 := { stood := { row := coordFencesRow, standIns := [], harness := (true, "ccf360fc8320abbeab40ad1cf6f49805fb09a1ceea5366265d53184fbdad9aa7"), looks := true }, kinds := [], alts := [], laidByText := true, laidKinds := [.data, .pinned], laidTests := true, laidLooks := .later }
def CoordFencesCardSaid : Prop := Claim7.holds Tryd.pinned (.plain (OpenSpec.ofChange coordFencesSpec)) coordFencesCard

/-- THE TIED CARD OF 'seneschallaw10.CoordNumbers'. -/
def coordNumbersCard : Claim7 := { stood := { row := coordNumbersRow, standIns := [], harness := (true, "ccf360fc8320abbeab40ad1cf6f49805fb09a1ceea5366265d53184fbdad9aa7"), looks := true }, kinds := [], alts := [], laidByText := true, laidKinds := [.data, .pinned], laidTests := true, laidLooks := .later }
def CoordNumbersCardSaid : Prop := Claim7.holds Tryd.pinned (.plain (OpenSpec.ofChange coordNumbersSpec)) coordNumbersCard

/-- THE TIED CARD OF 'seneschallaw10.CoordAges'. -/
def coordAgesCard : Claim7 := { stood := { row := coordAgesRow, standIns := [], harness := (true, "ccf360fc8320abbeab40ad1cf6f49805fb09a1ceea5366265d53184fbdad9aa7"), looks := true }, kinds := [], alts := [], laidByText := true, laidKinds := [.data, .pinned], laidTests := true, laidLooks := .later }
def CoordAgesCardSaid : Prop := Claim7.holds Tryd.pinned (.plain (OpenSpec.ofChange coordAgesSpec)) coordAgesCard

/-- THE TIED CARD OF 'seneschallaw10.CoordEnds'. -/
def coordEndsCard : Claim7 := { stood := { row := coordEndsRow, standIns := [], harness := (true, "ccf360fc8320abbeab40ad1cf6f49805fb09a1ceea5366265d53184fbdad9aa7"), looks := true }, kinds := [], alts := [], laidByText := true, laidKinds := [.data, .pinned], laidTests := true, laidLooks := .later }
def CoordEndsCardSaid : Prop := Claim7.holds Tryd.pinned (.plain (OpenSpec.ofChange coordEndsSpec)) coordEndsCard

/-- THE TIED CARD OF 'seneschallaw10.CoordOnce'. -/
def coordOnceCard : Claim7 := { stood := { row := coordOnceRow, standIns := [], harness := (true, "ccf360fc8320abbeab40ad1cf6f49805fb09a1ceea5366265d53184fbdad9aa7"), looks := true }, kinds := [], alts := [], laidByText := true, laidKinds := [.data, .pinned], laidTests := true, laidLooks := .later }
def CoordOnceCardSaid : Prop := Claim7.holds Tryd.pinned (.plain (OpenSpec.ofChange coordOnceSpec)) coordOnceCard

/-- THE TIED CARD OF 'seneschallaw10.CoordOfNothing'. -/
def coordOfNothingCard : Claim7 := { stood := { row := coordOfNothingRow, standIns := [], harness := (true, "ccf360fc8320abbeab40ad1cf6f49805fb09a1ceea5366265d53184fbdad9aa7"), looks := true }, kinds := [], alts := [], laidByText := true, laidKinds := [.data, .pinned], laidTests := true, laidLooks := .later }
def CoordOfNothingCardSaid : Prop := Claim7.holds Tryd.pinned (.plain (OpenSpec.ofChange coordOfNothingSpec)) coordOfNothingCard

/-- THE TIED CARD OF 'seneschallaw10.CoordAgain'. -/
def coordAgainCard : Claim7 := { stood := { row := coordAgainRow, standIns := [], harness := (true, "ccf360fc8320abbeab40ad1cf6f49805fb09a1ceea5366265d53184fbdad9aa7"), looks := true }, kinds := [], alts := [], laidByText := true, laidKinds := [.data, .pinned], laidTests := true, laidLooks := .later }
def CoordAgainCardSaid : Prop := Claim7.holds Tryd.pinned (.plain (OpenSpec.ofChange coordAgainSpec)) coordAgainCard

/-- THE TIED CARD OF 'seneschallaw10.CoordBad'. -/
def coordBadCard : Claim7 := { stood := { row := coordBadRow, standIns := [], harness := (true, "ccf360fc8320abbeab40ad1cf6f49805fb09a1ceea5366265d53184fbdad9aa7"), looks := true }, kinds := [], alts := [], laidByText := true, laidKinds := [.data, .pinned], laidTests := true, laidLooks := .later }
def CoordBadCardSaid : Prop := Claim7.holds Tryd.pinned (.plain (OpenSpec.ofChange coordBadSpec)) coordBadCard

/-- THE TIED CARD OF 'seneschallaw10.CoordAlike'. -/
def coordAlikeCard : Claim7 := { stood := { row := coordAlikeRow, standIns := [], harness := (true, "ccf360fc8320abbeab40ad1cf6f49805fb09a1ceea5366265d53184fbdad9aa7"), looks := true }, kinds := [], alts := [], laidByText := true, laidKinds := [.data, .pinned], laidTests := true, laidLooks := .later }
def CoordAlikeCardSaid : Prop := Claim7.holds Tryd.pinned (.plain (OpenSpec.ofChange coordAlikeSpec)) coordAlikeCard

/-- THE SECOND FORM's CARD OF 'seneschallaw10.CoordFences'. -/
def coordFencesUptoCard : Claim7 := { stood := { row := coordFencesUptoRow, standIns := [], harness := (true, "ccf360fc8320abbeab40ad1cf6f49805fb09a1ceea5366265d53184fbdad9aa7"), looks := true }, kinds := [], alts := [], laidByText := true, laidKinds := [.data, .pinned], laidTests := true, laidLooks := .later }
def CoordFencesUptoCardSaid : Prop := Claim7.holds Tryd.pinned (.plain (OpenSpec.upto coordFencesSpec)) coordFencesUptoCard

/-- THE SECOND FORM's CARD OF 'seneschallaw10.CoordNumbers'. -/
def coordNumbersUptoCard : Claim7 := { stood := { row := coordNumbersUptoRow, standIns := [], harness := (true, "ccf360fc8320abbeab40ad1cf6f49805fb09a1ceea5366265d53184fbdad9aa7"), looks := true }, kinds := [], alts := [], laidByText := true, laidKinds := [.data, .pinned], laidTests := true, laidLooks := .later }
def CoordNumbersUptoCardSaid : Prop := Claim7.holds Tryd.pinned (.plain (OpenSpec.upto coordNumbersSpec)) coordNumbersUptoCard

/-- THE SECOND FORM's CARD OF 'seneschallaw10.CoordAges'. -/
def coordAgesUptoCard : Claim7 := { stood := { row := coordAgesUptoRow, standIns := [], harness := (true, "ccf360fc8320abbeab40ad1cf6f49805fb09a1ceea5366265d53184fbdad9aa7"), looks := true }, kinds := [], alts := [], laidByText := true, laidKinds := [.data, .pinned], laidTests := true, laidLooks := .later }
def CoordAgesUptoCardSaid : Prop := Claim7.holds Tryd.pinned (.plain (OpenSpec.upto coordAgesSpec)) coordAgesUptoCard

/-- THE SECOND FORM's CARD OF 'seneschallaw10.CoordEnds'. -/
def coordEndsUptoCard : Claim7 := { stood := { row := coordEndsUptoRow, standIns := [], harness := (true, "ccf360fc8320abbeab40ad1cf6f49805fb09a1ceea5366265d53184fbdad9aa7"), looks := true }, kinds := [], alts := [], laidByText := true, laidKinds := [.data, .pinned], laidTests := true, laidLooks := .later }
def CoordEndsUptoCardSaid : Prop := Claim7.holds Tryd.pinned (.plain (OpenSpec.upto coordEndsSpec)) coordEndsUptoCard

/-- THE SECOND FORM's CARD OF 'seneschallaw10.CoordOnce'. -/
def coordOnceUptoCard : Claim7 := { stood := { row := coordOnceUptoRow, standIns := [], harness := (true, "ccf360fc8320abbeab40ad1cf6f49805fb09a1ceea5366265d53184fbdad9aa7"), looks := true }, kinds := [], alts := [], laidByText := true, laidKinds := [.data, .pinned], laidTests := true, laidLooks := .later }
def CoordOnceUptoCardSaid : Prop := Claim7.holds Tryd.pinned (.plain (OpenSpec.upto coordOnceSpec)) coordOnceUptoCard

/-- THE SECOND FORM's CARD OF 'seneschallaw10.CoordOfNothing'. -/
def coordOfNothingUptoCard : Claim7 := { stood := { row := coordOfNothingUptoRow, standIns := [], harness := (true, "ccf360fc8320abbeab40ad1cf6f49805fb09a1ceea5366265d53184fbdad9aa7"), looks := true }, kinds := [], alts := [], laidByText := true, laidKinds := [.data, .pinned], laidTests := true, laidLooks := .later }
def CoordOfNothingUptoCardSaid : Prop := Claim7.holds Tryd.pinned (.plain (OpenSpec.upto coordOfNothingSpec)) coordOfNothingUptoCard

/-- THE SECOND FORM's CARD OF 'seneschallaw10.CoordAgain'. -/
def coordAgainUptoCard : Claim7 := { stood := { row := coordAgainUptoRow, standIns := [], harness := (true, "ccf360fc8320abbeab40ad1cf6f49805fb09a1ceea5366265d53184fbdad9aa7"), looks := true }, kinds := [], alts := [], laidByText := true, laidKinds := [.data, .pinned], laidTests := true, laidLooks := .later }
def CoordAgainUptoCardSaid : Prop := Claim7.holds Tryd.pinned (.plain (OpenSpec.upto coordAgainSpec)) coordAgainUptoCard

/-- THE SECOND FORM's CARD OF 'seneschallaw10.CoordBad'. -/
def coordBadUptoCard : Claim7 := { stood := { row := coordBadUptoRow, standIns := [], harness := (true, "ccf360fc8320abbeab40ad1cf6f49805fb09a1ceea5366265d53184fbdad9aa7"), looks := true }, kinds := [], alts := [], laidByText := true, laidKinds := [.data, .pinned], laidTests := true, laidLooks := .later }
def CoordBadUptoCardSaid : Prop := Claim7.holds Tryd.pinned (.plain (OpenSpec.upto coordBadSpec)) coordBadUptoCard

/-- THE SECOND FORM's CARD OF 'seneschallaw10.CoordAlike'. -/
def coordAlikeUptoCard : Claim7 := { stood := { row := coordAlikeUptoRow, standIns := [], harness := (true, "ccf360fc8320abbeab40ad1cf6f49805fb09a1ceea5366265d53184fbdad9aa7"), looks := true }, kinds := [], alts := [], laidByText := true, laidKinds := [.data, .pinned], laidTests := true, laidLooks := .later }
def CoordAlikeUptoCardSaid : Prop := Claim7.holds Tryd.pinned (.plain (OpenSpec.upto coordAlikeSpec)) coordAlikeUptoCard
end Rows
end Go.Proofs.YtccgdnocldmjeaaDoor
