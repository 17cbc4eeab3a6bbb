/-
  NARROWER THAN 'FOR EVERY INPUT', by the rows' own cells (each row's printed sentence says how): CoordFences: laid · CoordNumbers: laid · CoordAges: laid · CoordEnds: laid · CoordOnce: laid · CoordOfNothing: laid · CoordAgain: laid · CoordBad: laid · CoordAlike: laid.
  DERIVED. THE GIVEN ROWS OF THIS SEAT. 9 by the template 'for every input the law returns true; each argument reads behind the call as it read before'; 0 by the template 'total and deterministic' (their statements: YtccgdnocldmjeaaDoorTotals.lean).
  GIVEN WITH THE SEED: the statements are not yours to turn. If you find one false, say at which input.
  Laid BY PROGRAM, IN A SANDBOX (cutbox-rows.mjs): the forced cells as the released guide's own fill.sh prints them over the translation 13338c66c155049e… (all of the seat's roots in one cut). By AI agents, Wed Nov 11 2026. No macro, syntax, notation, axiom, sorry.
-/
import Derived.Test.YtccgdnocldmjeaaDoorChecked
import GoSem.PinnedTables
import GoSem.Claim
import GoSem.ClaimJoined
import GoSem.ClaimMapViews
import Derived.JoinedTies
import Derived.KernelRfl
namespace Go.Proofs.YtccgdnocldmjeaaDoor
/- THE CELL 'sum', in the pinned program and in every row, IS THE sha256 OF THE DUMP (.gsa) THAT YtccgdnocldmjeaaDoorProg.lean LOADS. Nothing in Lean hashes anything: it is a label: what it is worth is what the hold of that sum in a sandbox is worth. -/
noncomputable def Tryd.pinned : Pinned := { name := "ytccgdnocldmjeaadoor", sum := "13338c66c155049ed23a055f24486464ce649749892cbba8441e9357f56c480f", checked := Tryd.checked }
namespace Rows
def none {H : Type} : Left H := { results := [], args := [] }

/- WHAT THE LISTED PACKAGE-LEVEL VARIABLES READ AS WHEN THE CALL BEGINS. Each datum BY PROGRAM (the guide's laid-datum.mjs) off the statement by which the dump's own 'gosem.cut.vars' lays the variable. In a bare row this is a premise. The card (YtccgdnocldmjeaaDoorCards.lean) ties it to the program's text. -/
def laid_unicode_utf8_acceptRanges {H : Type} : DataW H := .agg [.agg [.lit (.int .u8 128), .lit (.int .u8 191)], .agg [.lit (.int .u8 160), .lit (.int .u8 191)], .agg [.lit (.int .u8 128), .lit (.int .u8 159)], .agg [.lit (.int .u8 144), .lit (.int .u8 191)], .agg [.lit (.int .u8 128), .lit (.int .u8 143)], .agg [.lit (.int .u8 0), .lit (.int .u8 0)], .agg [.lit (.int .u8 0), .lit (.int .u8 0)], .agg [.lit (.int .u8 0), .lit (.int .u8 0)], .agg [.lit (.int .u8 0), .lit (.int .u8 0)], .agg [.lit (.int .u8 0), .lit (.int .u8 0)], .agg [.lit (.int .u8 0), .lit (.int .u8 0)], .agg [.lit (.int .u8 0), .lit (.int .u8 0)], .agg [.lit (.int .u8 0), .lit (.int .u8 0)], .agg [.lit (.int .u8 0), .lit (.int .u8 0)], .agg [.lit (.int .u8 0), .lit (.int .u8 0)], .agg [.lit (.int .u8 0), .lit (.int .u8 0)]]
/-- One of Go's own tables, pinned by name: the form's constant. -/
def laid_unicode_utf8_first : DataW Unit := Go.Pinned.utf8First

/-- 'seneschallaw10.CoordFences': WHATEVER THE INPUT: true; the input reads as it did. -/
def coordFencesSpec : ChangeSpec := { name := "coordFences", fn := fun _ => fun
  | [d1, d2, d3] => { results := [.lit (.bool true)], args := [d1, d2, d3] }
  | _ => none }
def coordFencesRow : OpenClaim := { program := "ytccgdnocldmjeaadoor", sum := "13338c66c155049ed23a055f24486464ce649749892cbba8441e9357f56c480f", func := "seneschal/seneschallaw10.CoordFences", spec := "coordFences", inPlace := ["internal/bytealg.IndexByteString", "internal/bytealg.IndexString", "maps.clone"], unfollowed := true, recurses := true, named := ["unicode/utf8.first", "unicode/utf8.acceptRanges", "internal/bytealg.MaxLen"], plainKeys := false, apart := false, laid := [("unicode/utf8.acceptRanges", laid_unicode_utf8_acceptRanges), ("unicode/utf8.first", laid_unicode_utf8_first)] }
def CoordFencesSaid : Prop := coordFencesRow.holds Tryd.pinned (OpenSpec.ofChange coordFencesSpec)

/-- ITS FALSE NEIGHBOUR: 'it returns false'. Refute it at one input. -/
def coordFencesWrong : ChangeSpec := { name := "coordFences", fn := fun _ => fun
  | [d1, d2, d3] => { results := [.lit (.bool false)], args := [d1, d2, d3] }
  | _ => none }
def CoordFencesWrongFalsely : Prop := coordFencesRow.holds Tryd.pinned (OpenSpec.ofChange coordFencesWrong)

/-- 'seneschallaw10.CoordNumbers': WHATEVER THE INPUT: true; the input reads as it did. -/
def coordNumbersSpec : ChangeSpec := { name := "coordNumbers", fn := fun _ => fun
  | [d1, d2] => { results := [.lit (.bool true)], args := [d1, d2] }
  | _ => none }
def coordNumbersRow : OpenClaim := { program := "ytccgdnocldmjeaadoor", sum := "13338c66c155049ed23a055f24486464ce649749892cbba8441e9357f56c480f", func := "seneschal/seneschallaw10.CoordNumbers", spec := "coordNumbers", inPlace := ["internal/bytealg.IndexByteString", "internal/bytealg.IndexString", "maps.clone"], unfollowed := true, recurses := true, named := ["unicode/utf8.first", "unicode/utf8.acceptRanges", "internal/bytealg.MaxLen"], plainKeys := false, apart := false, laid := [("unicode/utf8.acceptRanges", laid_unicode_utf8_acceptRanges), ("unicode/utf8.first", laid_unicode_utf8_first)] }
def CoordNumbersSaid : Prop := coordNumbersRow.holds Tryd.pinned (OpenSpec.ofChange coordNumbersSpec)

/-- ITS FALSE NEIGHBOUR: 'it returns false'. Refute it at one input. -/
def coordNumbersWrong : ChangeSpec := { name := "coordNumbers", fn := fun _ => fun
  | [d1, d2] => { results := [.lit (.bool false)], args := [d1, d2] }
  | _ => none }
def CoordNumbersWrongFalsely : Prop := coordNumbersRow.holds Tryd.pinned (OpenSpec.ofChange coordNumbersWrong)

/-- 'seneschallaw10.CoordAges': WHATEVER THE INPUT: true; the input reads as it did. -/
def coordAgesSpec : ChangeSpec := { name := "coordAges", fn := fun _ => fun
  | [d1, d2] => { results := [.lit (.bool true)], args := [d1, d2] }
  | _ => none }
def coordAgesRow : OpenClaim := { program := "ytccgdnocldmjeaadoor", sum := "13338c66c155049ed23a055f24486464ce649749892cbba8441e9357f56c480f", func := "seneschal/seneschallaw10.CoordAges", spec := "coordAges", inPlace := ["internal/bytealg.IndexByteString", "internal/bytealg.IndexString", "maps.clone"], unfollowed := true, recurses := true, named := ["unicode/utf8.first", "unicode/utf8.acceptRanges", "internal/bytealg.MaxLen"], plainKeys := false, apart := false, laid := [("unicode/utf8.acceptRanges", laid_unicode_utf8_acceptRanges), ("unicode/utf8.first", laid_unicode_utf8_first)] }
def CoordAgesSaid : Prop := coordAgesRow.holds Tryd.pinned (OpenSpec.ofChange coordAgesSpec)

/-- ITS FALSE NEIGHBOUR: 'it returns false'. Refute it at one input. -/
def coordAgesWrong : ChangeSpec := { name := "coordAges", fn := fun _ => fun
  | [d1, d2] => { results := [.lit (.bool false)], args := [d1, d2] }
  | _ => none }
def CoordAgesWrongFalsely : Prop := coordAgesRow.holds Tryd.pinned (OpenSpec.ofChange coordAgesWrong)

/-- 'seneschallaw10.CoordEnds': WHATEVER THE INPUT: true; the input reads as it did. -/
def coordEndsSpec : ChangeSpec := { name := "coordEnds", fn := fun _ => fun
  | [d1, d2] => { results := [.lit (.bool true)], args := [d1, d2] }
  | _ => none }
def coordEndsRow : OpenClaim := { program := "ytccgdnocldmjeaadoor", sum := "13338c66c155049ed23a055f24486464ce649749892cbba8441e9357f56c480f", func := "seneschal/seneschallaw10.CoordEnds", spec := "coordEnds", inPlace := ["internal/bytealg.IndexByteString", "internal/bytealg.IndexString", "maps.clone"], unfollowed := true, recurses := true, named := ["unicode/utf8.first", "unicode/utf8.acceptRanges", "internal/bytealg.MaxLen"], plainKeys := false, apart := false, laid := [("unicode/utf8.acceptRanges", laid_unicode_utf8_acceptRanges), ("unicode/utf8.first", laid_unicode_utf8_first)] }
def CoordEndsSaid : Prop := coordEndsRow.holds Tryd.pinned (OpenSpec.ofChange coordEndsSpec)

/-- ITS FALSE NEIGHBOUR: 'it returns false'. Refute it at one input. -/
def coordEndsWrong : ChangeSpec := { name := "coordEnds", fn := fun _ => fun
  | [d1, d2] => { results := [.lit (.bool false)], args := [d1, d2] }
  | _ => none }
def CoordEndsWrongFalsely : Prop := coordEndsRow.holds Tryd.pinned (OpenSpec.ofChange coordEndsWrong)

/-- 'seneschallaw10.CoordOnce': WHATEVER THE INPUT: true; the input reads as it did. -/
def coordOnceSpec : ChangeSpec := { name := "coordOnce", fn := fun _ => fun
  | [d] => { results := [.lit (.bool true)], args := [d] }
  | _ => none }
def coordOnceRow : OpenClaim := { program := "ytccgdnocldmjeaadoor", sum := "13338c66c155049ed23a055f24486464ce649749892cbba8441e9357f56c480f", func := "seneschal/seneschallaw10.CoordOnce", spec := "coordOnce", inPlace := ["internal/bytealg.IndexByteString", "internal/bytealg.IndexString", "maps.clone"], unfollowed := true, recurses := true, named := ["unicode/utf8.first", "unicode/utf8.acceptRanges", "internal/bytealg.MaxLen"], plainKeys := false, apart := false, laid := [("unicode/utf8.acceptRanges", laid_unicode_utf8_acceptRanges), ("unicode/utf8.first", laid_unicode_utf8_first)] }
def CoordOnceSaid : Prop := coordOnceRow.holds Tryd.pinned (OpenSpec.ofChange coordOnceSpec)

/-- ITS FALSE NEIGHBOUR: 'it returns false'. Refute it at one input. -/
def coordOnceWrong : ChangeSpec := { name := "coordOnce", fn := fun _ => fun
  | [d] => { results := [.lit (.bool false)], args := [d] }
  | _ => none }
def CoordOnceWrongFalsely : Prop := coordOnceRow.holds Tryd.pinned (OpenSpec.ofChange coordOnceWrong)

/-- 'seneschallaw10.CoordOfNothing': WHATEVER THE INPUT: true; the input reads as it did. -/
def coordOfNothingSpec : ChangeSpec := { name := "coordOfNothing", fn := fun _ => fun
  | [d] => { results := [.lit (.bool true)], args := [d] }
  | _ => none }
def coordOfNothingRow : OpenClaim := { program := "ytccgdnocldmjeaadoor", sum := "13338c66c155049ed23a055f24486464ce649749892cbba8441e9357f56c480f", func := "seneschal/seneschallaw10.CoordOfNothing", spec := "coordOfNothing", inPlace := ["internal/bytealg.IndexByteString", "internal/bytealg.IndexString", "maps.clone"], unfollowed := true, recurses := true, named := ["unicode/utf8.first", "unicode/utf8.acceptRanges", "internal/bytealg.MaxLen"], plainKeys := false, apart := false, laid := [("unicode/utf8.acceptRanges", laid_unicode_utf8_acceptRanges), ("unicode/utf8.first", laid_unicode_utf8_first)] }
def CoordOfNothingSaid : Prop := coordOfNothingRow.holds Tryd.pinned (OpenSpec.ofChange coordOfNothingSpec)

/-- ITS FALSE NEIGHBOUR: 'it returns false'. Refute it at one input. -/
def coordOfNothingWrong : ChangeSpec := { name := "coordOfNothing", fn := fun _ => fun
  | [d] => { results := [.lit (.bool false)], args := [d] }
  | _ => none }
def CoordOfNothingWrongFalsely : Prop := coordOfNothingRow.holds Tryd.pinned (OpenSpec.ofChange coordOfNothingWrong)

/-- 'seneschallaw10.CoordAgain': WHATEVER THE INPUT: true; the input reads as it did. -/
def coordAgainSpec : ChangeSpec := { name := "coordAgain", fn := fun _ => fun
  | [d] => { results := [.lit (.bool true)], args := [d] }
  | _ => none }
def coordAgainRow : OpenClaim := { program := "ytccgdnocldmjeaadoor", sum := "13338c66c155049ed23a055f24486464ce649749892cbba8441e9357f56c480f", func := "seneschal/seneschallaw10.CoordAgain", spec := "coordAgain", inPlace := ["internal/bytealg.IndexByteString", "internal/bytealg.IndexString", "maps.clone"], unfollowed := true, recurses := true, named := ["unicode/utf8.first", "unicode/utf8.acceptRanges", "internal/bytealg.MaxLen"], plainKeys := false, apart := false, laid := [("unicode/utf8.acceptRanges", laid_unicode_utf8_acceptRanges), ("unicode/utf8.first", laid_unicode_utf8_first)] }
def CoordAgainSaid : Prop := coordAgainRow.holds Tryd.pinned (OpenSpec.ofChange coordAgainSpec)

/-- ITS FALSE NEIGHBOUR: 'it returns false'. Refute it at one input. -/
def coordAgainWrong : ChangeSpec := { name := "coordAgain", fn := fun _ => fun
  | [d] => { results := [.lit (.bool false)], args := [d] }
  | _ => none }
def CoordAgainWrongFalsely : Prop := coordAgainRow.holds Tryd.pinned (OpenSpec.ofChange coordAgainWrong)

/-- 'seneschallaw10.CoordBad': WHATEVER THE INPUT: true; the input reads as it did. -/
def coordBadSpec : ChangeSpec := { name := "coordBad", fn := fun _ => fun
  | [d1, d2] => { results := [.lit (.bool true)], args := [d1, d2] }
  | _ => none }
def coordBadRow : OpenClaim := { program := "ytccgdnocldmjeaadoor", sum := "13338c66c155049ed23a055f24486464ce649749892cbba8441e9357f56c480f", func := "seneschal/seneschallaw10.CoordBad", spec := "coordBad", inPlace := ["internal/bytealg.IndexByteString", "internal/bytealg.IndexString", "maps.clone"], unfollowed := true, recurses := true, named := ["unicode/utf8.first", "unicode/utf8.acceptRanges", "internal/bytealg.MaxLen"], plainKeys := false, apart := false, laid := [("unicode/utf8.acceptRanges", laid_unicode_utf8_acceptRanges), ("unicode/utf8.first", laid_unicode_utf8_first)] }
def CoordBadSaid : Prop := coordBadRow.holds Tryd.pinned (OpenSpec.ofChange coordBadSpec)

/-- ITS FALSE NEIGHBOUR: 'it returns false'. Refute it at one input. -/
def coordBadWrong : ChangeSpec := { name := "coordBad", fn := fun _ => fun
  | [d1, d2] => { results := [.lit (.bool false)], args := [d1, d2] }
  | _ => none }
def CoordBadWrongFalsely : Prop := coordBadRow.holds Tryd.pinned (OpenSpec.ofChange coordBadWrong)

/-- 'seneschallaw10.CoordAlike': WHATEVER THE INPUT: true; the input reads as it did. -/
def coordAlikeSpec : ChangeSpec := { name := "coordAlike", fn := fun _ => fun
  | [d] => { results := [.lit (.bool true)], args := [d] }
  | _ => none }
def coordAlikeRow : OpenClaim := { program := "ytccgdnocldmjeaadoor", sum := "13338c66c155049ed23a055f24486464ce649749892cbba8441e9357f56c480f", func := "seneschal/seneschallaw10.CoordAlike", spec := "coordAlike", inPlace := ["internal/bytealg.IndexByteString", "internal/bytealg.IndexString", "maps.clone"], unfollowed := true, recurses := true, named := ["unicode/utf8.first", "unicode/utf8.acceptRanges", "internal/bytealg.MaxLen"], plainKeys := false, apart := false, laid := [("unicode/utf8.acceptRanges", laid_unicode_utf8_acceptRanges), ("unicode/utf8.first", laid_unicode_utf8_first)] }
def CoordAlikeSaid : Prop := coordAlikeRow.holds Tryd.pinned (OpenSpec.ofChange coordAlikeSpec)

/-- ITS FALSE NEIGHBOUR: 'it returns false'. Refute it at one input. -/
def coordAlikeWrong : ChangeSpec := { name := "coordAlike", fn := fun _ => fun
  | [d] => { results := [.lit (.bool false)], args := [d] }
  | _ => none }
def CoordAlikeWrongFalsely : Prop := coordAlikeRow.holds Tryd.pinned (OpenSpec.ofChange coordAlikeWrong)

/- THE SECOND FORM. 'bulk': how many values and letters a reading holds, each counted each time it is reached (what is shared counts as often as it is met; a slice's spare places count too). A statement '..UptoSaid' is the law's where the arguments, and the package variables that the reading takes, are together of bulk at most 1048576: NARROWER than '..Said'. Prove '..Said' where nothing that the law and all that it calls make is longer than what came in: it says more and counts as full. Else prove '..UptoSaid'. A law counts once. -/
mutual
def uptoBulk {H : Type} : DataW H → Nat
  | .lit (.string bytes) => bytes.length + 1
  | .lit _ => 1
  | .nil => 1
  | .ptr d => uptoBulk d + 1
  | .slice elems spare => uptoBulkAll elems + uptoBulkAll spare + 1
  | .agg parts => uptoBulkAll parts + 1
  | .iface _ d => uptoBulk d + 1
  | .map entries => uptoBulkEntries entries + 1
  | .held _ => 1
def uptoBulkAll {H : Type} : List (DataW H) → Nat
  | [] => 0
  | d :: r => uptoBulk d + uptoBulkAll r
def uptoBulkEntries {H : Type} : List (Lit × DataW H) → Nat
  | [] => 0
  | x :: r => uptoBulkEntry x + uptoBulkEntries r
def uptoBulkEntry {H : Type} : Lit × DataW H → Nat
  | (.string bytes, d) => bytes.length + uptoBulk d + 1
  | (_, d) => uptoBulk d + 1
 end
def uptoSmall : (H : Type) → List (DataW H) → Bool := fun _ ds => decide (uptoBulkAll ds ≤ 1048576)
def OpenSpec.upto (s : _root_.Go.ChangeSpec) : _root_.Go.OpenSpec := { _root_.Go.OpenSpec.ofChange s with cond := some uptoSmall }

/-- 'seneschallaw10.CoordFences', WHERE WHAT IT READS IS OF BULK AT MOST 1048576: true; the input reads as it did. -/
def coordFencesUptoRow : OpenClaim := { program := "ytccgdnocldmjeaadoor", sum := "13338c66c155049ed23a055f24486464ce649749892cbba8441e9357f56c480f", func := "seneschal/seneschallaw10.CoordFences", spec := "coordFences", inPlace := ["internal/bytealg.IndexByteString", "internal/bytealg.IndexString", "maps.clone"], unfollowed := true, recurses := true, named := ["unicode/utf8.first", "unicode/utf8.acceptRanges", "internal/bytealg.MaxLen"], plainKeys := false, apart := false, laid := [("unicode/utf8.acceptRanges", laid_unicode_utf8_acceptRanges), ("unicode/utf8.first", laid_unicode_utf8_first)], narrowed := true }
def CoordFencesUptoSaid : Prop := coordFencesUptoRow.holds Tryd.pinned (OpenSpec.upto coordFencesSpec)

/-- 'seneschallaw10.CoordNumbers', WHERE WHAT IT READS IS OF BULK AT MOST 1048576: true; the input reads as it did. -/
def coordNumbersUptoRow : OpenClaim := { program := "ytccgdnocldmjeaadoor", sum := "13338c66c155049ed23a055f24486464ce649749892cbba8441e9357f56c480f", func := "seneschal/seneschallaw10.CoordNumbers", spec := "coordNumbers", inPlace := ["internal/bytealg.IndexByteString", "internal/bytealg.IndexString", "maps.clone"], unfollowed := true, recurses := true, named := ["unicode/utf8.first", "unicode/utf8.acceptRanges", "internal/bytealg.MaxLen"], plainKeys := false, apart := false, laid := [("unicode/utf8.acceptRanges", laid_unicode_utf8_acceptRanges), ("unicode/utf8.first", laid_unicode_utf8_first)], narrowed := true }
def CoordNumbersUptoSaid : Prop := coordNumbersUptoRow.holds Tryd.pinned (OpenSpec.upto coordNumbersSpec)

/-- 'seneschallaw10.CoordAges', WHERE WHAT IT READS IS OF BULK AT MOST 1048576: true; the input reads as it did. -/
def coordAgesUptoRow : OpenClaim := { program := "ytccgdnocldmjeaadoor", sum := "13338c66c155049ed23a055f24486464ce649749892cbba8441e9357f56c480f", func := "seneschal/seneschallaw10.CoordAges", spec := "coordAges", inPlace := ["internal/bytealg.IndexByteString", "internal/bytealg.IndexString", "maps.clone"], unfollowed := true, recurses := true, named := ["unicode/utf8.first", "unicode/utf8.acceptRanges", "internal/bytealg.MaxLen"], plainKeys := false, apart := false, laid := [("unicode/utf8.acceptRanges", laid_unicode_utf8_acceptRanges), ("unicode/utf8.first", laid_unicode_utf8_first)], narrowed := true }
def CoordAgesUptoSaid : Prop := coordAgesUptoRow.holds Tryd.pinned (OpenSpec.upto coordAgesSpec)

/-- 'seneschallaw10.CoordEnds', WHERE WHAT IT READS IS OF BULK AT MOST 1048576: true; the input reads as it did. -/
def coordEndsUptoRow : OpenClaim := { program := "ytccgdnocldmjeaadoor", sum := "13338c66c155049ed23a055f24486464ce649749892cbba8441e9357f56c480f", func := "seneschal/seneschallaw10.CoordEnds", spec := "coordEnds", inPlace := ["internal/bytealg.IndexByteString", "internal/bytealg.IndexString", "maps.clone"], unfollowed := true, recurses := true, named := ["unicode/utf8.first", "unicode/utf8.acceptRanges", "internal/bytealg.MaxLen"], plainKeys := false, apart := false, laid := [("unicode/utf8.acceptRanges", laid_unicode_utf8_acceptRanges), ("unicode/utf8.first", laid_unicode_utf8_first)], narrowed := true }
def CoordEndsUptoSaid : Prop := coordEndsUptoRow.holds Tryd.pinned (OpenSpec.upto coordEndsSpec)

/-- 'seneschallaw10.CoordOnce', WHERE WHAT IT READS IS OF BULK AT MOST 1048576: true; the input reads as it did. -/
def coordOnceUptoRow : OpenClaim := { program := "ytccgdnocldmjeaadoor", sum := "13338c66c155049ed23a055f24486464ce649749892cbba8441e9357f56c480f", func := "seneschal/seneschallaw10.CoordOnce", spec := "coordOnce", inPlace := ["internal/bytealg.IndexByteString", "internal/bytealg.IndexString", "maps.clone"], unfollowed := true, recurses := true, named := ["unicode/utf8.first", "unicode/utf8.acceptRanges", "internal/bytealg.MaxLen"], plainKeys := false, apart := false, laid := [("unicode/utf8.acceptRanges", laid_unicode_utf8_acceptRanges), ("unicode/utf8.first", laid_unicode_utf8_first)], narrowed := true }
def CoordOnceUptoSaid : Prop := coordOnceUptoRow.holds Tryd.pinned (OpenSpec.upto coordOnceSpec)

/-- 'seneschallaw10.CoordOfNothing', WHERE WHAT IT READS IS OF BULK AT MOST 1048576: true; the input reads as it did. -/
def coordOfNothingUptoRow : OpenClaim := { program := "ytccgdnocldmjeaadoor", sum := "13338c66c155049ed23a055f24486464ce649749892cbba8441e9357f56c480f", func := "seneschal/seneschallaw10.CoordOfNothing", spec := "coordOfNothing", inPlace := ["internal/bytealg.IndexByteString", "internal/bytealg.IndexString", "maps.clone"], unfollowed := true, recurses := true, named := ["unicode/utf8.first", "unicode/utf8.acceptRanges", "internal/bytealg.MaxLen"], plainKeys := false, apart := false, laid := [("unicode/utf8.acceptRanges", laid_unicode_utf8_acceptRanges), ("unicode/utf8.first", laid_unicode_utf8_first)], narrowed := true }
def CoordOfNothingUptoSaid : Prop := coordOfNothingUptoRow.holds Tryd.pinned (OpenSpec.upto coordOfNothingSpec)

/-- 'seneschallaw10.CoordAgain', WHERE WHAT IT READS IS OF BULK AT MOST 1048576: true; the input reads as it did. -/
def coordAgainUptoRow : OpenClaim := { program := "ytccgdnocldmjeaadoor", sum := "13338c66c155049ed23a055f24486464ce649749892cbba8441e9357f56c480f", func := "seneschal/seneschallaw10.CoordAgain", spec := "coordAgain", inPlace := ["internal/bytealg.IndexByteString", "internal/bytealg.IndexString", "maps.clone"], unfollowed := true, recurses := true, named := ["unicode/utf8.first", "unicode/utf8.acceptRanges", "internal/bytealg.MaxLen"], plainKeys := false, apart := false, laid := [("unicode/utf8.acceptRanges", laid_unicode_utf8_acceptRanges), ("unicode/utf8.first", laid_unicode_utf8_first)], narrowed := true }
def CoordAgainUptoSaid : Prop := coordAgainUptoRow.holds Tryd.pinned (OpenSpec.upto coordAgainSpec)

/-- 'seneschallaw10.CoordBad', WHERE WHAT IT READS IS OF BULK AT MOST 1048576: true; the input reads as it did. -/
def coordBadUptoRow : OpenClaim := { program := "ytccgdnocldmjeaadoor", sum := "13338c66c155049ed23a055f24486464ce649749892cbba8441e9357f56c480f", func := "seneschal/seneschallaw10.CoordBad", spec := "coordBad", inPlace := ["internal/bytealg.IndexByteString", "internal/bytealg.IndexString", "maps.clone"], unfollowed := true, recurses := true, named := ["unicode/utf8.first", "unicode/utf8.acceptRanges", "internal/bytealg.MaxLen"], plainKeys := false, apart := false, laid := [("unicode/utf8.acceptRanges", laid_unicode_utf8_acceptRanges), ("unicode/utf8.first", laid_unicode_utf8_first)], narrowed := true }
def CoordBadUptoSaid : Prop := coordBadUptoRow.holds Tryd.pinned (OpenSpec.upto coordBadSpec)

/-- 'seneschallaw10.CoordAlike', WHERE WHAT IT READS IS OF BULK AT MOST 1048576: true; the input reads as it did. -/
def coordAlikeUptoRow : OpenClaim := { program := "ytccgdnocldmjeaadoor", sum := "13338c66c155049ed23a055f24486464ce649749892cbba8441e9357f56c480f", func := "seneschal/seneschallaw10.CoordAlike", spec := "coordAlike", inPlace := ["internal/bytealg.IndexByteString", "internal/bytealg.IndexString", "maps.clone"], unfollowed := true, recurses := true, named := ["unicode/utf8.first", "unicode/utf8.acceptRanges", "internal/bytealg.MaxLen"], plainKeys := false, apart := false, laid := [("unicode/utf8.acceptRanges", laid_unicode_utf8_acceptRanges), ("unicode/utf8.first", laid_unicode_utf8_first)], narrowed := true }
def CoordAlikeUptoSaid : Prop := coordAlikeUptoRow.holds Tryd.pinned (OpenSpec.upto coordAlikeSpec)

end Rows
end Go.Proofs.YtccgdnocldmjeaaDoor
