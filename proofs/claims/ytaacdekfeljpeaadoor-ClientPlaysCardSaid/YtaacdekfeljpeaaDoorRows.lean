/-
  NARROWER THAN 'FOR EVERY INPUT', by the rows' own cells (each row's printed sentence says how): ClientTold: laid · ClientBounds: laid · ClientTxns: laid · ClientSeqs: laid · ClientRecords: laid · ClientPlays: laid · ClientOfNothing: laid.
  DERIVED. THE GIVEN ROWS OF THIS SEAT. 7 by the template 'for every input the law returns true; each argument reads behind the call as it read before'; 0 by the template 'total and deterministic' (their statements: YtaacdekfeljpeaaDoorTotals.lean).
  GIVEN WITH THE SEED: the statements are not yours to turn. If you find one false, say at which input.
  Laid BY PROGRAM, IN A SANDBOX (cutbox-rows.mjs): the forced cells as the released guide's own fill.sh prints them over the translation 2ba84f1510d69d5f… (all of the seat's roots in one cut). By AI agents, Wed Nov 11 2026. No macro, syntax, notation, axiom, sorry.
-/
import Derived.Test.YtaacdekfeljpeaaDoorChecked
import GoSem.PinnedTables
import GoSem.Claim
import GoSem.ClaimJoined
import GoSem.ClaimMapViews
import Derived.JoinedTies
import Derived.KernelRfl
namespace Go.Proofs.YtaacdekfeljpeaaDoor
/- THE CELL 'sum', in the pinned program and in every row, IS THE sha256 OF THE DUMP (.gsa) THAT YtaacdekfeljpeaaDoorProg.lean LOADS. Nothing in Lean hashes anything: it is a label: what it is worth is what the hold of that sum in a sandbox is worth. -/
noncomputable def Tryd.pinned : Pinned := { name := "ytaacdekfeljpeaadoor", sum := "2ba84f1510d69d5f1e243eb1e4d9af97293821d3a646f47ecf1664195b157c3b", checked := Tryd.checked }
namespace Rows
def none {H : Type} : Left H := { results := [], args := [] }

/- WHAT THE LISTED PACKAGE-LEVEL VARIABLES READ AS WHEN THE CALL BEGINS. Each datum BY PROGRAM (the guide's laid-datum.mjs) off the statement by which the dump's own 'gosem.cut.vars' lays the variable. In a bare row this is a premise. The card (YtaacdekfeljpeaaDoorCards.lean) ties it to the program's text. -/
def laid_unicode_utf8_acceptRanges {H : Type} : DataW H := .agg [.agg [.lit (.int .u8 128), .lit (.int .u8 191)], .agg [.lit (.int .u8 160), .lit (.int .u8 191)], .agg [.lit (.int .u8 128), .lit (.int .u8 159)], .agg [.lit (.int .u8 144), .lit (.int .u8 191)], .agg [.lit (.int .u8 128), .lit (.int .u8 143)], .agg [.lit (.int .u8 0), .lit (.int .u8 0)], .agg [.lit (.int .u8 0), .lit (.int .u8 0)], .agg [.lit (.int .u8 0), .lit (.int .u8 0)], .agg [.lit (.int .u8 0), .lit (.int .u8 0)], .agg [.lit (.int .u8 0), .lit (.int .u8 0)], .agg [.lit (.int .u8 0), .lit (.int .u8 0)], .agg [.lit (.int .u8 0), .lit (.int .u8 0)], .agg [.lit (.int .u8 0), .lit (.int .u8 0)], .agg [.lit (.int .u8 0), .lit (.int .u8 0)], .agg [.lit (.int .u8 0), .lit (.int .u8 0)], .agg [.lit (.int .u8 0), .lit (.int .u8 0)]]
/-- One of Go's own tables, pinned by name: the form's constant. -/
def laid_unicode_utf8_first : DataW Unit := Go.Pinned.utf8First

/-- 'seneschallaw16.ClientTold': WHATEVER THE INPUT: true; the input reads as it did. -/
def clientToldSpec : ChangeSpec := { name := "clientTold", fn := fun _ => fun
  | [d1, d2, d3] => { results := [.lit (.bool true)], args := [d1, d2, d3] }
  | _ => none }
def clientToldRow : OpenClaim := { program := "ytaacdekfeljpeaadoor", sum := "2ba84f1510d69d5f1e243eb1e4d9af97293821d3a646f47ecf1664195b157c3b", func := "seneschal/seneschallaw16.ClientTold", spec := "clientTold", inPlace := ["internal/bytealg.IndexByteString", "internal/bytealg.IndexString"], named := ["unicode/utf8.first", "unicode/utf8.acceptRanges", "internal/bytealg.MaxLen"], apart := false, laid := [("unicode/utf8.acceptRanges", laid_unicode_utf8_acceptRanges), ("unicode/utf8.first", laid_unicode_utf8_first)] }
def ClientToldSaid : Prop := clientToldRow.holds Tryd.pinned (OpenSpec.ofChange clientToldSpec)

/-- ITS FALSE NEIGHBOUR: 'it returns false'. Refute it at one input. -/
def clientToldWrong : ChangeSpec := { name := "clientTold", fn := fun _ => fun
  | [d1, d2, d3] => { results := [.lit (.bool false)], args := [d1, d2, d3] }
  | _ => none }
def ClientToldWrongFalsely : Prop := clientToldRow.holds Tryd.pinned (OpenSpec.ofChange clientToldWrong)

/-- 'seneschallaw16.ClientBounds': WHATEVER THE INPUT: true; the input reads as it did. -/
def clientBoundsSpec : ChangeSpec := { name := "clientBounds", fn := fun _ => fun
  | [d1, d2, d3] => { results := [.lit (.bool true)], args := [d1, d2, d3] }
  | _ => none }
def clientBoundsRow : OpenClaim := { program := "ytaacdekfeljpeaadoor", sum := "2ba84f1510d69d5f1e243eb1e4d9af97293821d3a646f47ecf1664195b157c3b", func := "seneschal/seneschallaw16.ClientBounds", spec := "clientBounds", inPlace := ["internal/bytealg.IndexByteString", "internal/bytealg.IndexString"], named := ["unicode/utf8.first", "unicode/utf8.acceptRanges", "internal/bytealg.MaxLen"], apart := false, laid := [("unicode/utf8.acceptRanges", laid_unicode_utf8_acceptRanges), ("unicode/utf8.first", laid_unicode_utf8_first)] }
def ClientBoundsSaid : Prop := clientBoundsRow.holds Tryd.pinned (OpenSpec.ofChange clientBoundsSpec)

/-- ITS FALSE NEIGHBOUR: 'it returns false'. Refute it at one input. -/
def clientBoundsWrong : ChangeSpec := { name := "clientBounds", fn := fun _ => fun
  | [d1, d2, d3] => { results := [.lit (.bool false)], args := [d1, d2, d3] }
  | _ => none }
def ClientBoundsWrongFalsely : Prop := clientBoundsRow.holds Tryd.pinned (OpenSpec.ofChange clientBoundsWrong)

/-- 'seneschallaw16.ClientTxns': WHATEVER THE INPUT: true; the input reads as it did. -/
def clientTxnsSpec : ChangeSpec := { name := "clientTxns", fn := fun _ => fun
  | [d1, d2] => { results := [.lit (.bool true)], args := [d1, d2] }
  | _ => none }
def clientTxnsRow : OpenClaim := { program := "ytaacdekfeljpeaadoor", sum := "2ba84f1510d69d5f1e243eb1e4d9af97293821d3a646f47ecf1664195b157c3b", func := "seneschal/seneschallaw16.ClientTxns", spec := "clientTxns", inPlace := ["internal/bytealg.IndexByteString", "internal/bytealg.IndexString", "maps.clone"], unfollowed := true, recurses := true, named := ["unicode/utf8.first", "unicode/utf8.acceptRanges", "internal/bytealg.MaxLen"], apart := false, laid := [("unicode/utf8.acceptRanges", laid_unicode_utf8_acceptRanges), ("unicode/utf8.first", laid_unicode_utf8_first)] }
def ClientTxnsSaid : Prop := clientTxnsRow.holds Tryd.pinned (OpenSpec.ofChange clientTxnsSpec)

/-- ITS FALSE NEIGHBOUR: 'it returns false'. Refute it at one input. -/
def clientTxnsWrong : ChangeSpec := { name := "clientTxns", fn := fun _ => fun
  | [d1, d2] => { results := [.lit (.bool false)], args := [d1, d2] }
  | _ => none }
def ClientTxnsWrongFalsely : Prop := clientTxnsRow.holds Tryd.pinned (OpenSpec.ofChange clientTxnsWrong)

/-- 'seneschallaw16.ClientSeqs': WHATEVER THE INPUT: true; the input reads as it did. -/
def clientSeqsSpec : ChangeSpec := { name := "clientSeqs", fn := fun _ => fun
  | [d] => { results := [.lit (.bool true)], args := [d] }
  | _ => none }
def clientSeqsRow : OpenClaim := { program := "ytaacdekfeljpeaadoor", sum := "2ba84f1510d69d5f1e243eb1e4d9af97293821d3a646f47ecf1664195b157c3b", func := "seneschal/seneschallaw16.ClientSeqs", spec := "clientSeqs", inPlace := ["internal/bytealg.IndexByteString", "internal/bytealg.IndexString", "maps.clone"], unfollowed := true, recurses := true, named := ["unicode/utf8.first", "unicode/utf8.acceptRanges", "internal/bytealg.MaxLen"], apart := false, laid := [("unicode/utf8.acceptRanges", laid_unicode_utf8_acceptRanges), ("unicode/utf8.first", laid_unicode_utf8_first)] }
def ClientSeqsSaid : Prop := clientSeqsRow.holds Tryd.pinned (OpenSpec.ofChange clientSeqsSpec)

/-- ITS FALSE NEIGHBOUR: 'it returns false'. Refute it at one input. -/
def clientSeqsWrong : ChangeSpec := { name := "clientSeqs", fn := fun _ => fun
  | [d] => { results := [.lit (.bool false)], args := [d] }
  | _ => none }
def ClientSeqsWrongFalsely : Prop := clientSeqsRow.holds Tryd.pinned (OpenSpec.ofChange clientSeqsWrong)

/-- 'seneschallaw16.ClientRecords': WHATEVER THE INPUT: true; the input reads as it did. -/
def clientRecordsSpec : ChangeSpec := { name := "clientRecords", fn := fun _ => fun
  | [d1, d2] => { results := [.lit (.bool true)], args := [d1, d2] }
  | _ => none }
def clientRecordsRow : OpenClaim := { program := "ytaacdekfeljpeaadoor", sum := "2ba84f1510d69d5f1e243eb1e4d9af97293821d3a646f47ecf1664195b157c3b", func := "seneschal/seneschallaw16.ClientRecords", spec := "clientRecords", inPlace := ["internal/bytealg.IndexByteString", "internal/bytealg.IndexString", "maps.clone"], unfollowed := true, recurses := true, named := ["unicode/utf8.first", "unicode/utf8.acceptRanges", "internal/bytealg.MaxLen"], apart := false, laid := [("unicode/utf8.acceptRanges", laid_unicode_utf8_acceptRanges), ("unicode/utf8.first", laid_unicode_utf8_first)] }
def ClientRecordsSaid : Prop := clientRecordsRow.holds Tryd.pinned (OpenSpec.ofChange clientRecordsSpec)

/-- ITS FALSE NEIGHBOUR: 'it returns false'. Refute it at one input. -/
def clientRecordsWrong : ChangeSpec := { name := "clientRecords", fn := fun _ => fun
  | [d1, d2] => { results := [.lit (.bool false)], args := [d1, d2] }
  | _ => none }
def ClientRecordsWrongFalsely : Prop := clientRecordsRow.holds Tryd.pinned (OpenSpec.ofChange clientRecordsWrong)

/-- 'seneschallaw16.ClientPlays': WHATEVER THE INPUT: true; the input reads as it did. -/
def clientPlaysSpec : ChangeSpec := { name := "clientPlays", fn := fun _ => fun
  | [d1, d2, d3] => { results := [.lit (.bool true)], args := [d1, d2, d3] }
  | _ => none }
def clientPlaysRow : OpenClaim := { program := "ytaacdekfeljpeaadoor", sum := "2ba84f1510d69d5f1e243eb1e4d9af97293821d3a646f47ecf1664195b157c3b", func := "seneschal/seneschallaw16.ClientPlays", spec := "clientPlays", inPlace := ["internal/bytealg.IndexByteString", "internal/bytealg.IndexString", "maps.clone"], unfollowed := true, recurses := true, named := ["unicode/utf8.first", "unicode/utf8.acceptRanges", "internal/bytealg.MaxLen"], apart := false, laid := [("unicode/utf8.acceptRanges", laid_unicode_utf8_acceptRanges), ("unicode/utf8.first", laid_unicode_utf8_first)] }
def ClientPlaysSaid : Prop := clientPlaysRow.holds Tryd.pinned (OpenSpec.ofChange clientPlaysSpec)

/-- ITS FALSE NEIGHBOUR: 'it returns false'. Refute it at one input. -/
def clientPlaysWrong : ChangeSpec := { name := "clientPlays", fn := fun _ => fun
  | [d1, d2, d3] => { results := [.lit (.bool false)], args := [d1, d2, d3] }
  | _ => none }
def ClientPlaysWrongFalsely : Prop := clientPlaysRow.holds Tryd.pinned (OpenSpec.ofChange clientPlaysWrong)

/-- 'seneschallaw16.ClientOfNothing': WHATEVER THE INPUT: true; the input reads as it did. -/
def clientOfNothingSpec : ChangeSpec := { name := "clientOfNothing", fn := fun _ => fun
  | [d1, d2] => { results := [.lit (.bool true)], args := [d1, d2] }
  | _ => none }
def clientOfNothingRow : OpenClaim := { program := "ytaacdekfeljpeaadoor", sum := "2ba84f1510d69d5f1e243eb1e4d9af97293821d3a646f47ecf1664195b157c3b", func := "seneschal/seneschallaw16.ClientOfNothing", spec := "clientOfNothing", inPlace := ["internal/bytealg.IndexByteString", "internal/bytealg.IndexString", "maps.clone"], unfollowed := true, recurses := true, named := ["unicode/utf8.first", "unicode/utf8.acceptRanges", "internal/bytealg.MaxLen"], apart := false, laid := [("unicode/utf8.acceptRanges", laid_unicode_utf8_acceptRanges), ("unicode/utf8.first", laid_unicode_utf8_first)] }
def ClientOfNothingSaid : Prop := clientOfNothingRow.holds Tryd.pinned (OpenSpec.ofChange clientOfNothingSpec)

/-- ITS FALSE NEIGHBOUR: 'it returns false'. Refute it at one input. -/
def clientOfNothingWrong : ChangeSpec := { name := "clientOfNothing", fn := fun _ => fun
  | [d1, d2] => { results := [.lit (.bool false)], args := [d1, d2] }
  | _ => none }
def ClientOfNothingWrongFalsely : Prop := clientOfNothingRow.holds Tryd.pinned (OpenSpec.ofChange clientOfNothingWrong)

/- THE SECOND FORM. 'bulk': how many values and letters a reading holds, each counted each time it is reached (what is shared counts as often as it is met; a slice's spare places count too). A statement '..UptoSaid' is the law's where the arguments, and the package variables that the reading takes, are together of bulk at most 1048576: NARROWER than '..Said'. Prove '..Said' where nothing that the law and all that it calls make is longer than what came in: it says more and counts as full. Else prove '..UptoSaid'. A law counts once. -/
mutual
def uptoBulk {H : Type} : DataW H → Nat
  | .lit (.string bytes) => bytes.length + 1
  | .lit _ => 1
  | .nil => 1
  | .ptr d => uptoBulk d + 1
  | .slice elems spare => uptoBulkAll elems + uptoBulkAll spare + 1
  | .agg parts => uptoBulkAll parts + 1
  | .iface _ d => uptoBulk d + 1
  | .map entries => uptoBulkEntries entries + 1
  | .held _ => 1
def uptoBulkAll {H : Type} : List (DataW H) → Nat
  | [] => 0
  | d :: r => uptoBulk d + uptoBulkAll r
def uptoBulkEntries {H : Type} : List (Lit × DataW H) → Nat
  | [] => 0
  | x :: r => uptoBulkEntry x + uptoBulkEntries r
def uptoBulkEntry {H : Type} : Lit × DataW H → Nat
  | (.string bytes, d) => bytes.length + uptoBulk d + 1
  | (_, d) => uptoBulk d + 1
 end
def uptoSmall : (H : Type) → List (DataW H) → Bool := fun _ ds => decide (uptoBulkAll ds ≤ 1048576)
def OpenSpec.upto (s : _root_.Go.ChangeSpec) : _root_.Go.OpenSpec := { _root_.Go.OpenSpec.ofChange s with cond := some uptoSmall }

/-- 'seneschallaw16.ClientTold', WHERE WHAT IT READS IS OF BULK AT MOST 1048576: true; the input reads as it did. -/
def clientToldUptoRow : OpenClaim := { program := "ytaacdekfeljpeaadoor", sum := "2ba84f1510d69d5f1e243eb1e4d9af97293821d3a646f47ecf1664195b157c3b", func := "seneschal/seneschallaw16.ClientTold", spec := "clientTold", inPlace := ["internal/bytealg.IndexByteString", "internal/bytealg.IndexString"], named := ["unicode/utf8.first", "unicode/utf8.acceptRanges", "internal/bytealg.MaxLen"], apart := false, laid := [("unicode/utf8.acceptRanges", laid_unicode_utf8_acceptRanges), ("unicode/utf8.first", laid_unicode_utf8_first)], narrowed := true }
def ClientToldUptoSaid : Prop := clientToldUptoRow.holds Tryd.pinned (OpenSpec.upto clientToldSpec)

/-- 'seneschallaw16.ClientBounds', WHERE WHAT IT READS IS OF BULK AT MOST 1048576: true; the input reads as it did. -/
def clientBoundsUptoRow : OpenClaim := { program := "ytaacdekfeljpeaadoor", sum := "2ba84f1510d69d5f1e243eb1e4d9af97293821d3a646f47ecf1664195b157c3b", func := "seneschal/seneschallaw16.ClientBounds", spec := "clientBounds", inPlace := ["internal/bytealg.IndexByteString", "internal/bytealg.IndexString"], named := ["unicode/utf8.first", "unicode/utf8.acceptRanges", "internal/bytealg.MaxLen"], apart := false, laid := [("unicode/utf8.acceptRanges", laid_unicode_utf8_acceptRanges), ("unicode/utf8.first", laid_unicode_utf8_first)], narrowed := true }
def ClientBoundsUptoSaid : Prop := clientBoundsUptoRow.holds Tryd.pinned (OpenSpec.upto clientBoundsSpec)

/-- 'seneschallaw16.ClientTxns', WHERE WHAT IT READS IS OF BULK AT MOST 1048576: true; the input reads as it did. -/
def clientTxnsUptoRow : OpenClaim := { program := "ytaacdekfeljpeaadoor", sum := "2ba84f1510d69d5f1e243eb1e4d9af97293821d3a646f47ecf1664195b157c3b", func := "seneschal/seneschallaw16.ClientTxns", spec := "clientTxns", inPlace := ["internal/bytealg.IndexByteString", "internal/bytealg.IndexString", "maps.clone"], unfollowed := true, recurses := true, named := ["unicode/utf8.first", "unicode/utf8.acceptRanges", "internal/bytealg.MaxLen"], apart := false, laid := [("unicode/utf8.acceptRanges", laid_unicode_utf8_acceptRanges), ("unicode/utf8.first", laid_unicode_utf8_first)], narrowed := true }
def ClientTxnsUptoSaid : Prop := clientTxnsUptoRow.holds Tryd.pinned (OpenSpec.upto clientTxnsSpec)

/-- 'seneschallaw16.ClientSeqs', WHERE WHAT IT READS IS OF BULK AT MOST 1048576: true; the input reads as it did. -/
def clientSeqsUptoRow : OpenClaim := { program := "ytaacdekfeljpeaadoor", sum := "2ba84f1510d69d5f1e243eb1e4d9af97293821d3a646f47ecf1664195b157c3b", func := "seneschal/seneschallaw16.ClientSeqs", spec := "clientSeqs", inPlace := ["internal/bytealg.IndexByteString", "internal/bytealg.IndexString", "maps.clone"], unfollowed := true, recurses := true, named := ["unicode/utf8.first", "unicode/utf8.acceptRanges", "internal/bytealg.MaxLen"], apart := false, laid := [("unicode/utf8.acceptRanges", laid_unicode_utf8_acceptRanges), ("unicode/utf8.first", laid_unicode_utf8_first)], narrowed := true }
def ClientSeqsUptoSaid : Prop := clientSeqsUptoRow.holds Tryd.pinned (OpenSpec.upto clientSeqsSpec)

/-- 'seneschallaw16.ClientRecords', WHERE WHAT IT READS IS OF BULK AT MOST 1048576: true; the input reads as it did. -/
def clientRecordsUptoRow : OpenClaim := { program := "ytaacdekfeljpeaadoor", sum := "2ba84f1510d69d5f1e243eb1e4d9af97293821d3a646f47ecf1664195b157c3b", func := "seneschal/seneschallaw16.ClientRecords", spec := "clientRecords", inPlace := ["internal/bytealg.IndexByteString", "internal/bytealg.IndexString", "maps.clone"], unfollowed := true, recurses := true, named := ["unicode/utf8.first", "unicode/utf8.acceptRanges", "internal/bytealg.MaxLen"], apart := false, laid := [("unicode/utf8.acceptRanges", laid_unicode_utf8_acceptRanges), ("unicode/utf8.first", laid_unicode_utf8_first)], narrowed := true }
def ClientRecordsUptoSaid : Prop := clientRecordsUptoRow.holds Tryd.pinned (OpenSpec.upto clientRecordsSpec)

/-- 'seneschallaw16.ClientPlays', WHERE WHAT IT READS IS OF BULK AT MOST 1048576: true; the input reads as it did. -/
def clientPlaysUptoRow : OpenClaim := { program := "ytaacdekfeljpeaadoor", sum := "2ba84f1510d69d5f1e243eb1e4d9af97293821d3a646f47ecf1664195b157c3b", func := "seneschal/seneschallaw16.ClientPlays", spec := "clientPlays", inPlace := ["internal/bytealg.IndexByteString", "internal/bytealg.IndexString", "maps.clone"], unfollowed := true, recurses := true, named := ["unicode/utf8.first", "unicode/utf8.acceptRanges", "internal/bytealg.MaxLen"], apart := false, laid := [("unicode/utf8.acceptRanges", laid_unicode_utf8_acceptRanges), ("unicode/utf8.first", laid_unicode_utf8_first)], narrowed := true }
def ClientPlaysUptoSaid : Prop := clientPlaysUptoRow.holds Tryd.pinned (OpenSpec.upto clientPlaysSpec)

/-- 'seneschallaw16.ClientOfNothing', WHERE WHAT IT READS IS OF BULK AT MOST 1048576: true; the input reads as it did. -/
def clientOfNothingUptoRow : OpenClaim := { program := "ytaacdekfeljpeaadoor", sum := "2ba84f1510d69d5f1e243eb1e4d9af97293821d3a646f47ecf1664195b157c3b", func := "seneschal/seneschallaw16.ClientOfNothing", spec := "clientOfNothing", inPlace := ["internal/bytealg.IndexByteString", "internal/bytealg.IndexString", "maps.clone"], unfollowed := true, recurses := true, named := ["unicode/utf8.first", "unicode/utf8.acceptRanges", "internal/bytealg.MaxLen"], apart := false, laid := [("unicode/utf8.acceptRanges", laid_unicode_utf8_acceptRanges), ("unicode/utf8.first", laid_unicode_utf8_first)], narrowed := true }
def ClientOfNothingUptoSaid : Prop := clientOfNothingUptoRow.holds Tryd.pinned (OpenSpec.upto clientOfNothingSpec)

end Rows
end Go.Proofs.YtaacdekfeljpeaaDoor
