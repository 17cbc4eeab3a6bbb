/-
  DERIVED. GIVEN WITH THE SEED: THE CARDS: each row of YtaacdekfeljpeaaDoorRows.lean that lists a variable, with what it lists TIED to the program's text (the seventh form; the later family's looks); each row that meets fmt, with fmt's text TOLD by the authors' own Lean function (tested against real Go, not proved from fmt's source: count such statements apart). THE CARD IS WHAT COUNTS. Prove the row's statement (the work); the ties are given (YtaacdekfeljpeaaDoorTie.lean); close each card by the builder's one call (the guide's Derived/Test/ToyasCard.lean, 'card_holds'). Laid BY PROGRAM, IN A SANDBOX (cutbox-door.mjs). By AI agents, Wed Nov 11 2026. No macro, syntax, notation, axiom, sorry.
-/
import Derived.Test.YtaacdekfeljpeaaDoorRows
import GoSem.ClaimSeven
namespace Go.Proofs.YtaacdekfeljpeaaDoor
namespace Rows

/-- THE TIED CARD OF 'seneschallaw16.ClientTold'. -/
def clientToldCard : Claim7 := { stood := { row := clientToldRow, standIns := [], harness := (true, "490a2237bff7f651db5525014729377ddb03482ae77c21a4a7833af24e54ad14"), looks := true }, kinds := [], alts := [], laidByText := true, laidKinds := [.data, .pinned], laidTests := true, laidLooks := .later }
def ClientToldCardSaid : Prop := Claim7.holds Tryd.pinned (.plain (OpenSpec.ofChange clientToldSpec)) clientToldCard

/-- THE TIED CARD OF 'seneschallaw16.ClientBounds'. -/
def clientBoundsCard : Claim7 := { stood := { row := clientBoundsRow, standIns := [], harness := (true, "490a2237bff7f651db5525014729377ddb03482ae77c21a4a7833af24e54ad14"), looks := true }, kinds := [], alts := [], laidByText := true, laidKinds := [.data, .pinned], laidTests := true, laidLooks := .later }
def ClientBoundsCardSaid : Prop := Claim7.holds Tryd.pinned (.plain (OpenSpec.ofChange clientBoundsSpec)) clientBoundsCard

/-- THE TIED CARD OF 'seneschallaw16.ClientTxns'. -/
def clientTxnsCard : Claim7 := { stood := { row := clientTxnsRow, standIns := [], harness := (true, "490a2237bff7f651db5525014729377ddb03482ae77c21a4a7833af24e54ad14"), looks := true }, kinds := [], alts := [], laidByText := true, laidKinds := [.data, .pinned], laidTests := true, laidLooks := .later }
def ClientTxnsCardSaid : Prop := Claim7.holds Tryd.pinned (.plain (OpenSpec.ofChange clientTxnsSpec)) clientTxnsCard

/-- THE TIED CARD OF 'seneschallaw16.ClientSeqs'. -/
def clientSeqsCard : Claim7 := { stood := { row := clientSeqsRow, standIns := [], harness := (true, "490a2237bff7f651db5525014729377ddb03482ae77c21a4a7833af24e54ad14"), looks := true }, kinds := [], alts := [], laidByText := true, laidKinds := [.data, .pinned], laidTests := true, laidLooks := .later }
def ClientSeqsCardSaid : Prop := Claim7.holds Tryd.pinned (.plain (OpenSpec.ofChange clientSeqsSpec)) clientSeqsCard

/-- THE TIED CARD OF 'seneschallaw16.ClientRecords'. -/
def clientRecordsCard : Claim7 := { stood := { row := clientRecordsRow, standIns := [], harness := (true, "490a2237bff7f651db5525014729377ddb03482ae77c21a4a7833af24e54ad14"), looks := true }, kinds := [], alts := [], laidByText := true, laidKinds := [.data, .pinned], laidTests := true, laidLooks := .later }
def ClientRecordsCardSaid : Prop := Claim7.holds Tryd.pinned (.plain (OpenSpec.ofChange clientRecordsSpec)) clientRecordsCard

/-- THE TIED CARD OF 'seneschallaw16.ClientPlays'. -/
def clientPlaysCard : Claim7 := { stood := { row := clientPlaysRow, standIns := [], harness := (true, "490a2237bff7f651db5525014729377ddb03482ae77c21a4a7833af24e54ad14"), looks := true }, kinds := [], alts := [], laidByText := true, laidKinds := [.data, .pinned], laidTests := true, laidLooks := .later }
def ClientPlaysCardSaid : Prop := Claim7.holds Tryd.pinned (.plain (OpenSpec.ofChange clientPlaysSpec)) clientPlaysCard

/-- THE TIED CARD OF 'seneschallaw16.ClientOfNothing'. -/
def clientOfNothingCard : Claim7 := { stood := { row := clientOfNothingRow, standIns := [], harness := (true, "490a2237bff7f651db5525014729377ddb03482ae77c21a4a7833af24e54ad14"), looks := true }, kinds := [], alts := [], laidByText := true, laidKinds := [.data, .pinned], laidTests := true, laidLooks := .later }
def ClientOfNothingCardSaid : Prop := Claim7.holds Tryd.pinned (.plain (OpenSpec.ofChange clientOfNothingSpec)) clientOfNothingCard

/-- THE SECOND FORM's CARD OF 'seneschallaw16.ClientTold'. -/
def clientToldUptoCard : Claim7 := { stood := { row := clientToldUptoRow, standIns := [], harness := (true, "490a2237bff7f651db5525014729377ddb03482ae77c21a4a7833af24e54ad14"), looks := true }, kinds := [], alts := [], laidByText := true, laidKinds := [.data, .pinned], laidTests := true, laidLooks := .later }
def ClientToldUptoCardSaid : Prop := Claim7.holds Tryd.pinned (.plain (OpenSpec.upto clientToldSpec)) clientToldUptoCard

/-- THE SECOND FORM's CARD OF 'seneschallaw16.ClientBounds'. -/
def clientBoundsUptoCard : Claim7 := { stood := { row := clientBoundsUptoRow, standIns := [], harness := (true, "490a2237bff7f651db5525014729377ddb03482ae77c21a4a7833af24e54ad14"), looks := true }, kinds := [], alts := [], laidByText := true, laidKinds := [.data, .pinned], laidTests := true, laidLooks := .later }
def ClientBoundsUptoCardSaid : Prop := Claim7.holds Tryd.pinned (.plain (OpenSpec.upto clientBoundsSpec)) clientBoundsUptoCard

/-- THE SECOND FORM's CARD OF 'seneschallaw16.ClientTxns'. -/
def clientTxnsUptoCard : Claim7 := { stood := { row := clientTxnsUptoRow, standIns := [], harness := (true, "490a2237bff7f651db5525014729377ddb03482ae77c21a4a7833af24e54ad14"), looks := true }, kinds := [], alts := [], laidByText := true, laidKinds := [.data, .pinned], laidTests := true, laidLooks := .later }
def ClientTxnsUptoCardSaid : Prop := Claim7.holds Tryd.pinned (.plain (OpenSpec.upto clientTxnsSpec)) clientTxnsUptoCard

/-- THE SECOND FORM's CARD OF 'seneschallaw16.ClientSeqs'. -/
def clientSeqsUptoCard : Claim7 := { stood := { row := clientSeqsUptoRow, standIns := [], harness := (true, "490a2237bff7f651db5525014729377ddb03482ae77c21a4a7833af24e54ad14"), looks := true }, kinds := [], alts := [], laidByText := true, laidKinds := [.data, .pinned], laidTests := true, laidLooks := .later }
def ClientSeqsUptoCardSaid : Prop := Claim7.holds Tryd.pinned (.plain (OpenSpec.upto clientSeqsSpec)) clientSeqsUptoCard

/-- THE SECOND FORM's CARD OF 'seneschallaw16.ClientRecords'. -/
def clientRecordsUptoCard : Claim7 := { stood := { row := clientRecordsUptoRow, standIns := [], harness := (true, "490a2237bff7f651db5525014729377ddb03482ae77c21a4a7833af24e54ad14"), looks := true }, kinds := [], alts := [], laidByText := true, laidKinds := [.data, .pinned], laidTests := true, laidLooks := .later }
def ClientRecordsUptoCardSaid : Prop := Claim7.holds Tryd.pinned (.plain (OpenSpec.upto clientRecordsSpec)) clientRecordsUptoCard

/-- THE SECOND FORM's CARD OF 'seneschallaw16.ClientPlays'. -/
def clientPlaysUptoCard : Claim7 := { stood := { row := clientPlaysUptoRow, standIns := [], harness := (true, "490a2237bff7f651db5525014729377ddb03482ae77c21a4a7833af24e54ad14"), looks := true }, kinds := [], alts := [], laidByText := true, laidKinds := [.data, .pinned], laidTests := true, laidLooks := .later }
def ClientPlaysUptoCardSaid : Prop := Claim7.holds Tryd.pinned (.plain (OpenSpec.upto clientPlaysSpec)) clientPlaysUptoCard

/-- THE SECOND FORM's CARD OF 'seneschallaw16.ClientOfNothing'. -/
def clientOfNothingUptoCard : Claim7 := { stood := { row := clientOfNothingUptoRow, standIns := [], harness := (true, "490a2237bff7f651db5525014729377ddb03482ae77c21a4a7833af24e54ad14"), looks := true }, kinds := [], alts := [], laidByText := true, laidKinds := [.data, .pinned], laidTests := true, laidLooks := .later }
def ClientOfNothingUptoCardSaid : Prop := Claim7.holds Tryd.pinned (.plain (OpenSpec.upto clientOfNothingSpec)) clientOfNothingUptoCard
end Rows
end Go.Proofs.YtaacdekfeljpeaaDoor
