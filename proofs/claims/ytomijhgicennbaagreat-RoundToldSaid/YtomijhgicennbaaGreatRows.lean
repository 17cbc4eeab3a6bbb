/-
  No cell of these rows narrows 'for every input' (looked for: loops, veiled, ifaces, maps, wideKeys, modest, calm, conditions, laid).
  DERIVED. THE GIVEN ROWS OF THIS SEAT. 12 by the template 'for every input the law returns true; each argument reads behind the call as it read before'; 0 by the template 'total and deterministic' (their statements: YtomijhgicennbaaGreatTotals.lean).
  GIVEN WITH THE SEED: the statements are not yours to turn. If you find one false, say at which input.
  Laid BY PROGRAM, IN A SANDBOX (cutbox-rows.mjs): the forced cells as the released guide's own fill.sh prints them over the translation abda0f8e9479bff5… (all of the seat's roots in one cut). By AI agents, Wed Nov 11 2026. No macro, syntax, notation, axiom, sorry.
-/
import Derived.Test.YtomijhgicennbaaGreatChecked
import GoSem.Claim
import GoSem.ClaimJoined
import GoSem.ClaimMapViews
import Derived.JoinedTies
import Derived.KernelRfl
namespace Go.Proofs.YtomijhgicennbaaGreat
/- THE CELL 'sum', in the pinned program and in every row, IS THE sha256 OF THE DUMP (.gsa) THAT YtomijhgicennbaaGreatProg.lean LOADS. Nothing in Lean hashes anything: it is a label: what it is worth is what the hold of that sum in a sandbox is worth. -/
noncomputable def Tryz.pinned : Pinned := { name := "ytomijhgicennbaagreat", sum := "abda0f8e9479bff5152133c0a5cccf65faff8ca1594924cccca20438b32898be", checked := Tryz.checked }
namespace Rows
def none {H : Type} : Left H := { results := [], args := [] }

/-- 'seneschallaw8.RoundProposes': WHATEVER THE INPUT: true; the input reads as it did. -/
def roundProposesSpec : ChangeSpec := { name := "roundProposes", fn := fun _ => fun
  | [d1, d2, d3] => { results := [.lit (.bool true)], args := [d1, d2, d3] }
  | _ => none }
def roundProposesRow : OpenClaim := { program := "ytomijhgicennbaagreat", sum := "abda0f8e9479bff5152133c0a5cccf65faff8ca1594924cccca20438b32898be", func := "seneschal/seneschallaw8.RoundProposes", spec := "roundProposes", inPlace := ["maps.clone"], unfollowed := true, recurses := true, apart := false }
def RoundProposesSaid : Prop := roundProposesRow.holds Tryz.pinned (OpenSpec.ofChange roundProposesSpec)

/-- ITS FALSE NEIGHBOUR: 'it returns false'. Refute it at one input. -/
def roundProposesWrong : ChangeSpec := { name := "roundProposes", fn := fun _ => fun
  | [d1, d2, d3] => { results := [.lit (.bool false)], args := [d1, d2, d3] }
  | _ => none }
def RoundProposesWrongFalsely : Prop := roundProposesRow.holds Tryz.pinned (OpenSpec.ofChange roundProposesWrong)

/-- 'seneschallaw8.RoundTicks': WHATEVER THE INPUT: true; the input reads as it did. -/
def roundTicksSpec : ChangeSpec := { name := "roundTicks", fn := fun _ => fun
  | [d1, d2, d3] => { results := [.lit (.bool true)], args := [d1, d2, d3] }
  | _ => none }
def roundTicksRow : OpenClaim := { program := "ytomijhgicennbaagreat", sum := "abda0f8e9479bff5152133c0a5cccf65faff8ca1594924cccca20438b32898be", func := "seneschal/seneschallaw8.RoundTicks", spec := "roundTicks", inPlace := ["maps.clone"], unfollowed := true, recurses := true, apart := false }
def RoundTicksSaid : Prop := roundTicksRow.holds Tryz.pinned (OpenSpec.ofChange roundTicksSpec)

/-- ITS FALSE NEIGHBOUR: 'it returns false'. Refute it at one input. -/
def roundTicksWrong : ChangeSpec := { name := "roundTicks", fn := fun _ => fun
  | [d1, d2, d3] => { results := [.lit (.bool false)], args := [d1, d2, d3] }
  | _ => none }
def RoundTicksWrongFalsely : Prop := roundTicksRow.holds Tryz.pinned (OpenSpec.ofChange roundTicksWrong)

/-- 'seneschallaw8.RoundTwo': WHATEVER THE INPUT: true; the input reads as it did. -/
def roundTwoSpec : ChangeSpec := { name := "roundTwo", fn := fun _ => fun
  | [d1, d2, d3] => { results := [.lit (.bool true)], args := [d1, d2, d3] }
  | _ => none }
def roundTwoRow : OpenClaim := { program := "ytomijhgicennbaagreat", sum := "abda0f8e9479bff5152133c0a5cccf65faff8ca1594924cccca20438b32898be", func := "seneschal/seneschallaw8.RoundTwo", spec := "roundTwo", inPlace := ["maps.clone"], unfollowed := true, recurses := true, apart := false }
def RoundTwoSaid : Prop := roundTwoRow.holds Tryz.pinned (OpenSpec.ofChange roundTwoSpec)

/-- ITS FALSE NEIGHBOUR: 'it returns false'. Refute it at one input. -/
def roundTwoWrong : ChangeSpec := { name := "roundTwo", fn := fun _ => fun
  | [d1, d2, d3] => { results := [.lit (.bool false)], args := [d1, d2, d3] }
  | _ => none }
def RoundTwoWrongFalsely : Prop := roundTwoRow.holds Tryz.pinned (OpenSpec.ofChange roundTwoWrong)

/-- 'seneschallaw8.RoundForged': WHATEVER THE INPUT: true; the input reads as it did. -/
def roundForgedSpec : ChangeSpec := { name := "roundForged", fn := fun _ => fun
  | [d1, d2] => { results := [.lit (.bool true)], args := [d1, d2] }
  | _ => none }
def roundForgedRow : OpenClaim := { program := "ytomijhgicennbaagreat", sum := "abda0f8e9479bff5152133c0a5cccf65faff8ca1594924cccca20438b32898be", func := "seneschal/seneschallaw8.RoundForged", spec := "roundForged", inPlace := ["maps.clone"], unfollowed := true, recurses := true, apart := false }
def RoundForgedSaid : Prop := roundForgedRow.holds Tryz.pinned (OpenSpec.ofChange roundForgedSpec)

/-- ITS FALSE NEIGHBOUR: 'it returns false'. Refute it at one input. -/
def roundForgedWrong : ChangeSpec := { name := "roundForged", fn := fun _ => fun
  | [d1, d2] => { results := [.lit (.bool false)], args := [d1, d2] }
  | _ => none }
def RoundForgedWrongFalsely : Prop := roundForgedRow.holds Tryz.pinned (OpenSpec.ofChange roundForgedWrong)

/-- 'seneschallaw8.RoundAgrees': WHATEVER THE INPUT: true; the input reads as it did. -/
def roundAgreesSpec : ChangeSpec := { name := "roundAgrees", fn := fun _ => fun
  | [d1, d2, d3] => { results := [.lit (.bool true)], args := [d1, d2, d3] }
  | _ => none }
def roundAgreesRow : OpenClaim := { program := "ytomijhgicennbaagreat", sum := "abda0f8e9479bff5152133c0a5cccf65faff8ca1594924cccca20438b32898be", func := "seneschal/seneschallaw8.RoundAgrees", spec := "roundAgrees", inPlace := ["maps.clone"], unfollowed := true, recurses := true, apart := false }
def RoundAgreesSaid : Prop := roundAgreesRow.holds Tryz.pinned (OpenSpec.ofChange roundAgreesSpec)

/-- ITS FALSE NEIGHBOUR: 'it returns false'. Refute it at one input. -/
def roundAgreesWrong : ChangeSpec := { name := "roundAgrees", fn := fun _ => fun
  | [d1, d2, d3] => { results := [.lit (.bool false)], args := [d1, d2, d3] }
  | _ => none }
def RoundAgreesWrongFalsely : Prop := roundAgreesRow.holds Tryz.pinned (OpenSpec.ofChange roundAgreesWrong)

/-- 'seneschallaw8.RoundLives': WHATEVER THE INPUT: true; the input reads as it did. -/
def roundLivesSpec : ChangeSpec := { name := "roundLives", fn := fun _ => fun
  | [d1, d2, d3] => { results := [.lit (.bool true)], args := [d1, d2, d3] }
  | _ => none }
def roundLivesRow : OpenClaim := { program := "ytomijhgicennbaagreat", sum := "abda0f8e9479bff5152133c0a5cccf65faff8ca1594924cccca20438b32898be", func := "seneschal/seneschallaw8.RoundLives", spec := "roundLives", inPlace := ["maps.clone"], unfollowed := true, recurses := true, apart := false }
def RoundLivesSaid : Prop := roundLivesRow.holds Tryz.pinned (OpenSpec.ofChange roundLivesSpec)

/-- ITS FALSE NEIGHBOUR: 'it returns false'. Refute it at one input. -/
def roundLivesWrong : ChangeSpec := { name := "roundLives", fn := fun _ => fun
  | [d1, d2, d3] => { results := [.lit (.bool false)], args := [d1, d2, d3] }
  | _ => none }
def RoundLivesWrongFalsely : Prop := roundLivesRow.holds Tryz.pinned (OpenSpec.ofChange roundLivesWrong)

/-- 'seneschallaw8.RoundGoesOn': WHATEVER THE INPUT: true; the input reads as it did. -/
def roundGoesOnSpec : ChangeSpec := { name := "roundGoesOn", fn := fun _ => fun
  | [d1, d2, d3] => { results := [.lit (.bool true)], args := [d1, d2, d3] }
  | _ => none }
def roundGoesOnRow : OpenClaim := { program := "ytomijhgicennbaagreat", sum := "abda0f8e9479bff5152133c0a5cccf65faff8ca1594924cccca20438b32898be", func := "seneschal/seneschallaw8.RoundGoesOn", spec := "roundGoesOn", inPlace := ["maps.clone"], unfollowed := true, recurses := true, apart := false }
def RoundGoesOnSaid : Prop := roundGoesOnRow.holds Tryz.pinned (OpenSpec.ofChange roundGoesOnSpec)

/-- ITS FALSE NEIGHBOUR: 'it returns false'. Refute it at one input. -/
def roundGoesOnWrong : ChangeSpec := { name := "roundGoesOn", fn := fun _ => fun
  | [d1, d2, d3] => { results := [.lit (.bool false)], args := [d1, d2, d3] }
  | _ => none }
def RoundGoesOnWrongFalsely : Prop := roundGoesOnRow.holds Tryz.pinned (OpenSpec.ofChange roundGoesOnWrong)

/-- 'seneschallaw8.RoundTold': WHATEVER THE INPUT: true; the input reads as it did. -/
def roundToldSpec : ChangeSpec := { name := "roundTold", fn := fun _ => fun
  | [d1, d2, d3, d4] => { results := [.lit (.bool true)], args := [d1, d2, d3, d4] }
  | _ => none }
def roundToldRow : OpenClaim := { program := "ytomijhgicennbaagreat", sum := "abda0f8e9479bff5152133c0a5cccf65faff8ca1594924cccca20438b32898be", func := "seneschal/seneschallaw8.RoundTold", spec := "roundTold", inPlace := ["maps.clone"], unfollowed := true, recurses := true, apart := false }
def RoundToldSaid : Prop := roundToldRow.holds Tryz.pinned (OpenSpec.ofChange roundToldSpec)

/-- ITS FALSE NEIGHBOUR: 'it returns false'. Refute it at one input. -/
def roundToldWrong : ChangeSpec := { name := "roundTold", fn := fun _ => fun
  | [d1, d2, d3, d4] => { results := [.lit (.bool false)], args := [d1, d2, d3, d4] }
  | _ => none }
def RoundToldWrongFalsely : Prop := roundToldRow.holds Tryz.pinned (OpenSpec.ofChange roundToldWrong)

/-- 'seneschallaw8.RoundOnce': WHATEVER THE INPUT: true; the input reads as it did. -/
def roundOnceSpec : ChangeSpec := { name := "roundOnce", fn := fun _ => fun
  | [d1, d2, d3] => { results := [.lit (.bool true)], args := [d1, d2, d3] }
  | _ => none }
def roundOnceRow : OpenClaim := { program := "ytomijhgicennbaagreat", sum := "abda0f8e9479bff5152133c0a5cccf65faff8ca1594924cccca20438b32898be", func := "seneschal/seneschallaw8.RoundOnce", spec := "roundOnce", inPlace := ["maps.clone"], unfollowed := true, recurses := true, apart := false }
def RoundOnceSaid : Prop := roundOnceRow.holds Tryz.pinned (OpenSpec.ofChange roundOnceSpec)

/-- ITS FALSE NEIGHBOUR: 'it returns false'. Refute it at one input. -/
def roundOnceWrong : ChangeSpec := { name := "roundOnce", fn := fun _ => fun
  | [d1, d2, d3] => { results := [.lit (.bool false)], args := [d1, d2, d3] }
  | _ => none }
def RoundOnceWrongFalsely : Prop := roundOnceRow.holds Tryz.pinned (OpenSpec.ofChange roundOnceWrong)

/-- 'seneschallaw8.RoundOfNothing': WHATEVER THE INPUT: true; the input reads as it did. -/
def roundOfNothingSpec : ChangeSpec := { name := "roundOfNothing", fn := fun _ => fun
  | [d1, d2] => { results := [.lit (.bool true)], args := [d1, d2] }
  | _ => none }
def roundOfNothingRow : OpenClaim := { program := "ytomijhgicennbaagreat", sum := "abda0f8e9479bff5152133c0a5cccf65faff8ca1594924cccca20438b32898be", func := "seneschal/seneschallaw8.RoundOfNothing", spec := "roundOfNothing", inPlace := ["maps.clone"], unfollowed := true, recurses := true, apart := false }
def RoundOfNothingSaid : Prop := roundOfNothingRow.holds Tryz.pinned (OpenSpec.ofChange roundOfNothingSpec)

/-- ITS FALSE NEIGHBOUR: 'it returns false'. Refute it at one input. -/
def roundOfNothingWrong : ChangeSpec := { name := "roundOfNothing", fn := fun _ => fun
  | [d1, d2] => { results := [.lit (.bool false)], args := [d1, d2] }
  | _ => none }
def RoundOfNothingWrongFalsely : Prop := roundOfNothingRow.holds Tryz.pinned (OpenSpec.ofChange roundOfNothingWrong)

/-- 'seneschallaw8.RoundDone': WHATEVER THE INPUT: true; the input reads as it did. -/
def roundDoneSpec : ChangeSpec := { name := "roundDone", fn := fun _ => fun
  | [d1, d2, d3] => { results := [.lit (.bool true)], args := [d1, d2, d3] }
  | _ => none }
def roundDoneRow : OpenClaim := { program := "ytomijhgicennbaagreat", sum := "abda0f8e9479bff5152133c0a5cccf65faff8ca1594924cccca20438b32898be", func := "seneschal/seneschallaw8.RoundDone", spec := "roundDone", inPlace := ["maps.clone"], unfollowed := true, recurses := true, apart := false }
def RoundDoneSaid : Prop := roundDoneRow.holds Tryz.pinned (OpenSpec.ofChange roundDoneSpec)

/-- ITS FALSE NEIGHBOUR: 'it returns false'. Refute it at one input. -/
def roundDoneWrong : ChangeSpec := { name := "roundDone", fn := fun _ => fun
  | [d1, d2, d3] => { results := [.lit (.bool false)], args := [d1, d2, d3] }
  | _ => none }
def RoundDoneWrongFalsely : Prop := roundDoneRow.holds Tryz.pinned (OpenSpec.ofChange roundDoneWrong)

/-- 'seneschallaw8.RoundPlays': WHATEVER THE INPUT: true; the input reads as it did. -/
def roundPlaysSpec : ChangeSpec := { name := "roundPlays", fn := fun _ => fun
  | [d1, d2, d3] => { results := [.lit (.bool true)], args := [d1, d2, d3] }
  | _ => none }
def roundPlaysRow : OpenClaim := { program := "ytomijhgicennbaagreat", sum := "abda0f8e9479bff5152133c0a5cccf65faff8ca1594924cccca20438b32898be", func := "seneschal/seneschallaw8.RoundPlays", spec := "roundPlays", inPlace := ["maps.clone"], unfollowed := true, recurses := true, apart := false }
def RoundPlaysSaid : Prop := roundPlaysRow.holds Tryz.pinned (OpenSpec.ofChange roundPlaysSpec)

/-- ITS FALSE NEIGHBOUR: 'it returns false'. Refute it at one input. -/
def roundPlaysWrong : ChangeSpec := { name := "roundPlays", fn := fun _ => fun
  | [d1, d2, d3] => { results := [.lit (.bool false)], args := [d1, d2, d3] }
  | _ => none }
def RoundPlaysWrongFalsely : Prop := roundPlaysRow.holds Tryz.pinned (OpenSpec.ofChange roundPlaysWrong)

/- THE SECOND FORM. 'bulk': how many values and letters a reading holds, each counted each time it is reached (what is shared counts as often as it is met; a slice's spare places count too). A statement '..UptoSaid' is the law's where the arguments, and the package variables that the reading takes, are together of bulk at most 1048576: NARROWER than '..Said'. Prove '..Said' where nothing that the law and all that it calls make is longer than what came in: it says more and counts as full. Else prove '..UptoSaid'. A law counts once. -/
mutual
def uptoBulk {H : Type} : DataW H → Nat
  | .lit (.string bytes) => bytes.length + 1
  | .lit _ => 1
  | .nil => 1
  | .ptr d => uptoBulk d + 1
  | .slice elems spare => uptoBulkAll elems + uptoBulkAll spare + 1
  | .agg parts => uptoBulkAll parts + 1
  | .iface _ d => uptoBulk d + 1
  | .map entries => uptoBulkEntries entries + 1
  | .held _ => 1
def uptoBulkAll {H : Type} : List (DataW H) → Nat
  | [] => 0
  | d :: r => uptoBulk d + uptoBulkAll r
def uptoBulkEntries {H : Type} : List (Lit × DataW H) → Nat
  | [] => 0
  | x :: r => uptoBulkEntry x + uptoBulkEntries r
def uptoBulkEntry {H : Type} : Lit × DataW H → Nat
  | (.string bytes, d) => bytes.length + uptoBulk d + 1
  | (_, d) => uptoBulk d + 1
 end
def uptoSmall : (H : Type) → List (DataW H) → Bool := fun _ ds => decide (uptoBulkAll ds ≤ 1048576)
def OpenSpec.upto (s : _root_.Go.ChangeSpec) : _root_.Go.OpenSpec := { _root_.Go.OpenSpec.ofChange s with cond := some uptoSmall }

/-- 'seneschallaw8.RoundProposes', WHERE WHAT IT READS IS OF BULK AT MOST 1048576: true; the input reads as it did. -/
def roundProposesUptoRow : OpenClaim := { program := "ytomijhgicennbaagreat", sum := "abda0f8e9479bff5152133c0a5cccf65faff8ca1594924cccca20438b32898be", func := "seneschal/seneschallaw8.RoundProposes", spec := "roundProposes", inPlace := ["maps.clone"], unfollowed := true, recurses := true, apart := false, narrowed := true }
def RoundProposesUptoSaid : Prop := roundProposesUptoRow.holds Tryz.pinned (OpenSpec.upto roundProposesSpec)

/-- 'seneschallaw8.RoundTicks', WHERE WHAT IT READS IS OF BULK AT MOST 1048576: true; the input reads as it did. -/
def roundTicksUptoRow : OpenClaim := { program := "ytomijhgicennbaagreat", sum := "abda0f8e9479bff5152133c0a5cccf65faff8ca1594924cccca20438b32898be", func := "seneschal/seneschallaw8.RoundTicks", spec := "roundTicks", inPlace := ["maps.clone"], unfollowed := true, recurses := true, apart := false, narrowed := true }
def RoundTicksUptoSaid : Prop := roundTicksUptoRow.holds Tryz.pinned (OpenSpec.upto roundTicksSpec)

/-- 'seneschallaw8.RoundTwo', WHERE WHAT IT READS IS OF BULK AT MOST 1048576: true; the input reads as it did. -/
def roundTwoUptoRow : OpenClaim := { program := "ytomijhgicennbaagreat", sum := "abda0f8e9479bff5152133c0a5cccf65faff8ca1594924cccca20438b32898be", func := "seneschal/seneschallaw8.RoundTwo", spec := "roundTwo", inPlace := ["maps.clone"], unfollowed := true, recurses := true, apart := false, narrowed := true }
def RoundTwoUptoSaid : Prop := roundTwoUptoRow.holds Tryz.pinned (OpenSpec.upto roundTwoSpec)

/-- 'seneschallaw8.RoundForged', WHERE WHAT IT READS IS OF BULK AT MOST 1048576: true; the input reads as it did. -/
def roundForgedUptoRow : OpenClaim := { program := "ytomijhgicennbaagreat", sum := "abda0f8e9479bff5152133c0a5cccf65faff8ca1594924cccca20438b32898be", func := "seneschal/seneschallaw8.RoundForged", spec := "roundForged", inPlace := ["maps.clone"], unfollowed := true, recurses := true, apart := false, narrowed := true }
def RoundForgedUptoSaid : Prop := roundForgedUptoRow.holds Tryz.pinned (OpenSpec.upto roundForgedSpec)

/-- 'seneschallaw8.RoundAgrees', WHERE WHAT IT READS IS OF BULK AT MOST 1048576: true; the input reads as it did. -/
def roundAgreesUptoRow : OpenClaim := { program := "ytomijhgicennbaagreat", sum := "abda0f8e9479bff5152133c0a5cccf65faff8ca1594924cccca20438b32898be", func := "seneschal/seneschallaw8.RoundAgrees", spec := "roundAgrees", inPlace := ["maps.clone"], unfollowed := true, recurses := true, apart := false, narrowed := true }
def RoundAgreesUptoSaid : Prop := roundAgreesUptoRow.holds Tryz.pinned (OpenSpec.upto roundAgreesSpec)

/-- 'seneschallaw8.RoundLives', WHERE WHAT IT READS IS OF BULK AT MOST 1048576: true; the input reads as it did. -/
def roundLivesUptoRow : OpenClaim := { program := "ytomijhgicennbaagreat", sum := "abda0f8e9479bff5152133c0a5cccf65faff8ca1594924cccca20438b32898be", func := "seneschal/seneschallaw8.RoundLives", spec := "roundLives", inPlace := ["maps.clone"], unfollowed := true, recurses := true, apart := false, narrowed := true }
def RoundLivesUptoSaid : Prop := roundLivesUptoRow.holds Tryz.pinned (OpenSpec.upto roundLivesSpec)

/-- 'seneschallaw8.RoundGoesOn', WHERE WHAT IT READS IS OF BULK AT MOST 1048576: true; the input reads as it did. -/
def roundGoesOnUptoRow : OpenClaim := { program := "ytomijhgicennbaagreat", sum := "abda0f8e9479bff5152133c0a5cccf65faff8ca1594924cccca20438b32898be", func := "seneschal/seneschallaw8.RoundGoesOn", spec := "roundGoesOn", inPlace := ["maps.clone"], unfollowed := true, recurses := true, apart := false, narrowed := true }
def RoundGoesOnUptoSaid : Prop := roundGoesOnUptoRow.holds Tryz.pinned (OpenSpec.upto roundGoesOnSpec)

/-- 'seneschallaw8.RoundTold', WHERE WHAT IT READS IS OF BULK AT MOST 1048576: true; the input reads as it did. -/
def roundToldUptoRow : OpenClaim := { program := "ytomijhgicennbaagreat", sum := "abda0f8e9479bff5152133c0a5cccf65faff8ca1594924cccca20438b32898be", func := "seneschal/seneschallaw8.RoundTold", spec := "roundTold", inPlace := ["maps.clone"], unfollowed := true, recurses := true, apart := false, narrowed := true }
def RoundToldUptoSaid : Prop := roundToldUptoRow.holds Tryz.pinned (OpenSpec.upto roundToldSpec)

/-- 'seneschallaw8.RoundOnce', WHERE WHAT IT READS IS OF BULK AT MOST 1048576: true; the input reads as it did. -/
def roundOnceUptoRow : OpenClaim := { program := "ytomijhgicennbaagreat", sum := "abda0f8e9479bff5152133c0a5cccf65faff8ca1594924cccca20438b32898be", func := "seneschal/seneschallaw8.RoundOnce", spec := "roundOnce", inPlace := ["maps.clone"], unfollowed := true, recurses := true, apart := false, narrowed := true }
def RoundOnceUptoSaid : Prop := roundOnceUptoRow.holds Tryz.pinned (OpenSpec.upto roundOnceSpec)

/-- 'seneschallaw8.RoundOfNothing', WHERE WHAT IT READS IS OF BULK AT MOST 1048576: true; the input reads as it did. -/
def roundOfNothingUptoRow : OpenClaim := { program := "ytomijhgicennbaagreat", sum := "abda0f8e9479bff5152133c0a5cccf65faff8ca1594924cccca20438b32898be", func := "seneschal/seneschallaw8.RoundOfNothing", spec := "roundOfNothing", inPlace := ["maps.clone"], unfollowed := true, recurses := true, apart := false, narrowed := true }
def RoundOfNothingUptoSaid : Prop := roundOfNothingUptoRow.holds Tryz.pinned (OpenSpec.upto roundOfNothingSpec)

/-- 'seneschallaw8.RoundDone', WHERE WHAT IT READS IS OF BULK AT MOST 1048576: true; the input reads as it did. -/
def roundDoneUptoRow : OpenClaim := { program := "ytomijhgicennbaagreat", sum := "abda0f8e9479bff5152133c0a5cccf65faff8ca1594924cccca20438b32898be", func := "seneschal/seneschallaw8.RoundDone", spec := "roundDone", inPlace := ["maps.clone"], unfollowed := true, recurses := true, apart := false, narrowed := true }
def RoundDoneUptoSaid : Prop := roundDoneUptoRow.holds Tryz.pinned (OpenSpec.upto roundDoneSpec)

/-- 'seneschallaw8.RoundPlays', WHERE WHAT IT READS IS OF BULK AT MOST 1048576: true; the input reads as it did. -/
def roundPlaysUptoRow : OpenClaim := { program := "ytomijhgicennbaagreat", sum := "abda0f8e9479bff5152133c0a5cccf65faff8ca1594924cccca20438b32898be", func := "seneschal/seneschallaw8.RoundPlays", spec := "roundPlays", inPlace := ["maps.clone"], unfollowed := true, recurses := true, apart := false, narrowed := true }
def RoundPlaysUptoSaid : Prop := roundPlaysUptoRow.holds Tryz.pinned (OpenSpec.upto roundPlaysSpec)

end Rows
end Go.Proofs.YtomijhgicennbaaGreat
