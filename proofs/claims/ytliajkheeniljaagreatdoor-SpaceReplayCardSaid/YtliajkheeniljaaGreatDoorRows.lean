/-
  NARROWER THAN 'FOR EVERY INPUT', by the rows' own cells (each row's printed sentence says how): StepAny: loops, laid · StepWalk: laid · StepSpoilt: laid · StepFits: laid · StepFlushes: laid · SpaceMade: laid · SpaceArg: laid · SpaceReplay: laid · SpaceClosed: laid · SpaceShort: laid · SpaceRoom: laid.
  DERIVED. THE GIVEN ROWS OF THIS SEAT. 11 by the template 'for every input the law returns true; each argument reads behind the call as it read before'; 0 by the template 'total and deterministic' (their statements: YtliajkheeniljaaGreatDoorTotals.lean).
  GIVEN WITH THE SEED: the statements are not yours to turn. If you find one false, say at which input.
  Laid BY PROGRAM, IN A SANDBOX (cutbox-rows.mjs): the forced cells as the released guide's own fill.sh prints them over the translation 5faf2205ba5325b7… (all of the seat's roots in one cut). By AI agents, Wed Nov 11 2026. No macro, syntax, notation, axiom, sorry.
-/
import Derived.Test.YtliajkheeniljaaGreatDoorChecked
import GoSem.Claim
import GoSem.ClaimJoined
import GoSem.ClaimMapViews
import Derived.JoinedTies
import Derived.KernelRfl
namespace Go.Proofs.YtliajkheeniljaaGreatDoor
/- THE CELL 'sum', in the pinned program and in every row, IS THE sha256 OF THE DUMP (.gsa) THAT YtliajkheeniljaaGreatDoorProg.lean LOADS. Nothing in Lean hashes anything: it is a label: what it is worth is what the hold of that sum in a sandbox is worth. -/
noncomputable def Tryz.pinned : Pinned := { name := "ytliajkheeniljaagreatdoor", sum := "5faf2205ba5325b7e6389c0c949aac3f6da144f2caec1d2eb1650071d86c1453", checked := Tryz.checked }
namespace Rows
def none {H : Type} : Left H := { results := [], args := [] }

/- WHAT THE LISTED PACKAGE-LEVEL VARIABLES READ AS WHEN THE CALL BEGINS. Each datum BY PROGRAM (the guide's laid-datum.mjs) off the statement by which the dump's own 'gosem.cut.vars' lays the variable. In a bare row this is a premise. The card (YtliajkheeniljaaGreatDoorCards.lean) ties it to the program's text. -/
def laid_math_bits_deBruijn32tab {H : Type} : DataW H := .agg [.lit (.int .u8 0), .lit (.int .u8 1), .lit (.int .u8 28), .lit (.int .u8 2), .lit (.int .u8 29), .lit (.int .u8 14), .lit (.int .u8 24), .lit (.int .u8 3), .lit (.int .u8 30), .lit (.int .u8 22), .lit (.int .u8 20), .lit (.int .u8 15), .lit (.int .u8 25), .lit (.int .u8 17), .lit (.int .u8 4), .lit (.int .u8 8), .lit (.int .u8 31), .lit (.int .u8 27), .lit (.int .u8 13), .lit (.int .u8 23), .lit (.int .u8 21), .lit (.int .u8 19), .lit (.int .u8 16), .lit (.int .u8 7), .lit (.int .u8 26), .lit (.int .u8 12), .lit (.int .u8 18), .lit (.int .u8 6), .lit (.int .u8 11), .lit (.int .u8 5), .lit (.int .u8 10), .lit (.int .u8 9)]
def laid_math_bits_deBruijn64tab {H : Type} : DataW H := .agg [.lit (.int .u8 0), .lit (.int .u8 1), .lit (.int .u8 56), .lit (.int .u8 2), .lit (.int .u8 57), .lit (.int .u8 49), .lit (.int .u8 28), .lit (.int .u8 3), .lit (.int .u8 61), .lit (.int .u8 58), .lit (.int .u8 42), .lit (.int .u8 50), .lit (.int .u8 38), .lit (.int .u8 29), .lit (.int .u8 17), .lit (.int .u8 4), .lit (.int .u8 62), .lit (.int .u8 47), .lit (.int .u8 59), .lit (.int .u8 36), .lit (.int .u8 45), .lit (.int .u8 43), .lit (.int .u8 51), .lit (.int .u8 22), .lit (.int .u8 53), .lit (.int .u8 39), .lit (.int .u8 33), .lit (.int .u8 30), .lit (.int .u8 24), .lit (.int .u8 18), .lit (.int .u8 12), .lit (.int .u8 5), .lit (.int .u8 63), .lit (.int .u8 55), .lit (.int .u8 48), .lit (.int .u8 27), .lit (.int .u8 60), .lit (.int .u8 41), .lit (.int .u8 37), .lit (.int .u8 16), .lit (.int .u8 46), .lit (.int .u8 35), .lit (.int .u8 44), .lit (.int .u8 21), .lit (.int .u8 52), .lit (.int .u8 32), .lit (.int .u8 23), .lit (.int .u8 11), .lit (.int .u8 54), .lit (.int .u8 26), .lit (.int .u8 40), .lit (.int .u8 15), .lit (.int .u8 34), .lit (.int .u8 20), .lit (.int .u8 31), .lit (.int .u8 10), .lit (.int .u8 25), .lit (.int .u8 14), .lit (.int .u8 19), .lit (.int .u8 9), .lit (.int .u8 13), .lit (.int .u8 8), .lit (.int .u8 7), .lit (.int .u8 6)]
def laid_internal_strconv_uint64pow10 {H : Type} : DataW H := .agg [.lit (.int .u64 1), .lit (.int .u64 10), .lit (.int .u64 100), .lit (.int .u64 1000), .lit (.int .u64 10000), .lit (.int .u64 100000), .lit (.int .u64 1000000), .lit (.int .u64 10000000), .lit (.int .u64 100000000), .lit (.int .u64 1000000000), .lit (.int .u64 10000000000), .lit (.int .u64 100000000000), .lit (.int .u64 1000000000000), .lit (.int .u64 10000000000000), .lit (.int .u64 100000000000000), .lit (.int .u64 1000000000000000), .lit (.int .u64 10000000000000000), .lit (.int .u64 100000000000000000), .lit (.int .u64 1000000000000000000), .lit (.int .u64 10000000000000000000)]

/-- 'gabletlaw07.StepAny': WHATEVER THE INPUT: true; the input reads as it did. -/
def stepAnySpec : ChangeSpec := { name := "stepAny", fn := fun _ => fun
  | [d1, d2, d3, d4] => { results := [.lit (.bool true)], args := [d1, d2, d3, d4] }
  | _ => none }
def stepAnyRow : OpenClaim := { program := "ytliajkheeniljaagreatdoor", sum := "5faf2205ba5325b7e6389c0c949aac3f6da144f2caec1d2eb1650071d86c1453", func := "gablet/gabletlaw07.StepAny", spec := "stepAny", inPlace := ["internal/abi.NoEscape"], unfollowed := true, recurses := true, named := ["internal/strconv.uint64pow10", "math/bits.deBruijn32tab", "math/bits.deBruijn64tab"], loops := true, apart := false, laid := [("math/bits.deBruijn32tab", laid_math_bits_deBruijn32tab), ("math/bits.deBruijn64tab", laid_math_bits_deBruijn64tab), ("internal/strconv.uint64pow10", laid_internal_strconv_uint64pow10)] }
def StepAnySaid : Prop := stepAnyRow.holds Tryz.pinned (OpenSpec.ofChange stepAnySpec)

/-- ITS FALSE NEIGHBOUR: 'it returns false'. Refute it at one input. -/
def stepAnyWrong : ChangeSpec := { name := "stepAny", fn := fun _ => fun
  | [d1, d2, d3, d4] => { results := [.lit (.bool false)], args := [d1, d2, d3, d4] }
  | _ => none }
def StepAnyWrongFalsely : Prop := stepAnyRow.holds Tryz.pinned (OpenSpec.ofChange stepAnyWrong)

/-- 'gabletlaw07.StepWalk': WHATEVER THE INPUT: true; the input reads as it did. -/
def stepWalkSpec : ChangeSpec := { name := "stepWalk", fn := fun _ => fun
  | [d1, d2, d3, d4, d5, d6] => { results := [.lit (.bool true)], args := [d1, d2, d3, d4, d5, d6] }
  | _ => none }
def stepWalkRow : OpenClaim := { program := "ytliajkheeniljaagreatdoor", sum := "5faf2205ba5325b7e6389c0c949aac3f6da144f2caec1d2eb1650071d86c1453", func := "gablet/gabletlaw07.StepWalk", spec := "stepWalk", inPlace := ["internal/abi.NoEscape"], unfollowed := true, recurses := true, named := ["internal/strconv.uint64pow10", "math/bits.deBruijn32tab", "math/bits.deBruijn64tab"], apart := false, laid := [("math/bits.deBruijn32tab", laid_math_bits_deBruijn32tab), ("math/bits.deBruijn64tab", laid_math_bits_deBruijn64tab), ("internal/strconv.uint64pow10", laid_internal_strconv_uint64pow10)] }
def StepWalkSaid : Prop := stepWalkRow.holds Tryz.pinned (OpenSpec.ofChange stepWalkSpec)

/-- ITS FALSE NEIGHBOUR: 'it returns false'. Refute it at one input. -/
def stepWalkWrong : ChangeSpec := { name := "stepWalk", fn := fun _ => fun
  | [d1, d2, d3, d4, d5, d6] => { results := [.lit (.bool false)], args := [d1, d2, d3, d4, d5, d6] }
  | _ => none }
def StepWalkWrongFalsely : Prop := stepWalkRow.holds Tryz.pinned (OpenSpec.ofChange stepWalkWrong)

/-- 'gabletlaw07.StepSpoilt': WHATEVER THE INPUT: true; the input reads as it did. -/
def stepSpoiltSpec : ChangeSpec := { name := "stepSpoilt", fn := fun _ => fun
  | [d1, d2, d3, d4, d5] => { results := [.lit (.bool true)], args := [d1, d2, d3, d4, d5] }
  | _ => none }
def stepSpoiltRow : OpenClaim := { program := "ytliajkheeniljaagreatdoor", sum := "5faf2205ba5325b7e6389c0c949aac3f6da144f2caec1d2eb1650071d86c1453", func := "gablet/gabletlaw07.StepSpoilt", spec := "stepSpoilt", inPlace := ["internal/abi.NoEscape"], unfollowed := true, recurses := true, named := ["internal/strconv.uint64pow10", "math/bits.deBruijn32tab", "math/bits.deBruijn64tab"], apart := false, laid := [("math/bits.deBruijn32tab", laid_math_bits_deBruijn32tab), ("math/bits.deBruijn64tab", laid_math_bits_deBruijn64tab), ("internal/strconv.uint64pow10", laid_internal_strconv_uint64pow10)] }
def StepSpoiltSaid : Prop := stepSpoiltRow.holds Tryz.pinned (OpenSpec.ofChange stepSpoiltSpec)

/-- ITS FALSE NEIGHBOUR: 'it returns false'. Refute it at one input. -/
def stepSpoiltWrong : ChangeSpec := { name := "stepSpoilt", fn := fun _ => fun
  | [d1, d2, d3, d4, d5] => { results := [.lit (.bool false)], args := [d1, d2, d3, d4, d5] }
  | _ => none }
def StepSpoiltWrongFalsely : Prop := stepSpoiltRow.holds Tryz.pinned (OpenSpec.ofChange stepSpoiltWrong)

/-- 'gabletlaw07.StepFits': WHATEVER THE INPUT: true; the input reads as it did. -/
def stepFitsSpec : ChangeSpec := { name := "stepFits", fn := fun _ => fun
  | [d1, d2, d3] => { results := [.lit (.bool true)], args := [d1, d2, d3] }
  | _ => none }
def stepFitsRow : OpenClaim := { program := "ytliajkheeniljaagreatdoor", sum := "5faf2205ba5325b7e6389c0c949aac3f6da144f2caec1d2eb1650071d86c1453", func := "gablet/gabletlaw07.StepFits", spec := "stepFits", inPlace := ["internal/abi.NoEscape"], unfollowed := true, recurses := true, named := ["internal/strconv.uint64pow10", "math/bits.deBruijn32tab", "math/bits.deBruijn64tab"], apart := false, laid := [("math/bits.deBruijn32tab", laid_math_bits_deBruijn32tab), ("math/bits.deBruijn64tab", laid_math_bits_deBruijn64tab), ("internal/strconv.uint64pow10", laid_internal_strconv_uint64pow10)] }
def StepFitsSaid : Prop := stepFitsRow.holds Tryz.pinned (OpenSpec.ofChange stepFitsSpec)

/-- ITS FALSE NEIGHBOUR: 'it returns false'. Refute it at one input. -/
def stepFitsWrong : ChangeSpec := { name := "stepFits", fn := fun _ => fun
  | [d1, d2, d3] => { results := [.lit (.bool false)], args := [d1, d2, d3] }
  | _ => none }
def StepFitsWrongFalsely : Prop := stepFitsRow.holds Tryz.pinned (OpenSpec.ofChange stepFitsWrong)

/-- 'gabletlaw07.StepFlushes': WHATEVER THE INPUT: true; the input reads as it did. -/
def stepFlushesSpec : ChangeSpec := { name := "stepFlushes", fn := fun _ => fun
  | [d1, d2, d3] => { results := [.lit (.bool true)], args := [d1, d2, d3] }
  | _ => none }
def stepFlushesRow : OpenClaim := { program := "ytliajkheeniljaagreatdoor", sum := "5faf2205ba5325b7e6389c0c949aac3f6da144f2caec1d2eb1650071d86c1453", func := "gablet/gabletlaw07.StepFlushes", spec := "stepFlushes", inPlace := ["internal/abi.NoEscape"], unfollowed := true, recurses := true, named := ["internal/strconv.uint64pow10", "math/bits.deBruijn32tab", "math/bits.deBruijn64tab"], apart := false, laid := [("math/bits.deBruijn32tab", laid_math_bits_deBruijn32tab), ("math/bits.deBruijn64tab", laid_math_bits_deBruijn64tab), ("internal/strconv.uint64pow10", laid_internal_strconv_uint64pow10)] }
def StepFlushesSaid : Prop := stepFlushesRow.holds Tryz.pinned (OpenSpec.ofChange stepFlushesSpec)

/-- ITS FALSE NEIGHBOUR: 'it returns false'. Refute it at one input. -/
def stepFlushesWrong : ChangeSpec := { name := "stepFlushes", fn := fun _ => fun
  | [d1, d2, d3] => { results := [.lit (.bool false)], args := [d1, d2, d3] }
  | _ => none }
def StepFlushesWrongFalsely : Prop := stepFlushesRow.holds Tryz.pinned (OpenSpec.ofChange stepFlushesWrong)

/-- 'gabletlaw10.SpaceMade': WHATEVER THE INPUT: true; the input reads as it did. -/
def spaceMadeSpec : ChangeSpec := { name := "spaceMade", fn := fun _ => fun
  | [d1, d2, d3] => { results := [.lit (.bool true)], args := [d1, d2, d3] }
  | _ => none }
def spaceMadeRow : OpenClaim := { program := "ytliajkheeniljaagreatdoor", sum := "5faf2205ba5325b7e6389c0c949aac3f6da144f2caec1d2eb1650071d86c1453", func := "gablet/gabletlaw10.SpaceMade", spec := "spaceMade", inPlace := ["internal/abi.NoEscape"], unfollowed := true, recurses := true, named := ["internal/strconv.uint64pow10", "math/bits.deBruijn32tab", "math/bits.deBruijn64tab"], apart := false, laid := [("math/bits.deBruijn32tab", laid_math_bits_deBruijn32tab), ("math/bits.deBruijn64tab", laid_math_bits_deBruijn64tab), ("internal/strconv.uint64pow10", laid_internal_strconv_uint64pow10)] }
def SpaceMadeSaid : Prop := spaceMadeRow.holds Tryz.pinned (OpenSpec.ofChange spaceMadeSpec)

/-- ITS FALSE NEIGHBOUR: 'it returns false'. Refute it at one input. -/
def spaceMadeWrong : ChangeSpec := { name := "spaceMade", fn := fun _ => fun
  | [d1, d2, d3] => { results := [.lit (.bool false)], args := [d1, d2, d3] }
  | _ => none }
def SpaceMadeWrongFalsely : Prop := spaceMadeRow.holds Tryz.pinned (OpenSpec.ofChange spaceMadeWrong)

/-- 'gabletlaw10.SpaceArg': WHATEVER THE INPUT: true; the input reads as it did. -/
def spaceArgSpec : ChangeSpec := { name := "spaceArg", fn := fun _ => fun
  | [d1, d2, d3, d4] => { results := [.lit (.bool true)], args := [d1, d2, d3, d4] }
  | _ => none }
def spaceArgRow : OpenClaim := { program := "ytliajkheeniljaagreatdoor", sum := "5faf2205ba5325b7e6389c0c949aac3f6da144f2caec1d2eb1650071d86c1453", func := "gablet/gabletlaw10.SpaceArg", spec := "spaceArg", inPlace := ["internal/abi.NoEscape"], unfollowed := true, recurses := true, named := ["internal/strconv.uint64pow10", "math/bits.deBruijn32tab", "math/bits.deBruijn64tab"], apart := false, laid := [("math/bits.deBruijn32tab", laid_math_bits_deBruijn32tab), ("math/bits.deBruijn64tab", laid_math_bits_deBruijn64tab), ("internal/strconv.uint64pow10", laid_internal_strconv_uint64pow10)] }
def SpaceArgSaid : Prop := spaceArgRow.holds Tryz.pinned (OpenSpec.ofChange spaceArgSpec)

/-- ITS FALSE NEIGHBOUR: 'it returns false'. Refute it at one input. -/
def spaceArgWrong : ChangeSpec := { name := "spaceArg", fn := fun _ => fun
  | [d1, d2, d3, d4] => { results := [.lit (.bool false)], args := [d1, d2, d3, d4] }
  | _ => none }
def SpaceArgWrongFalsely : Prop := spaceArgRow.holds Tryz.pinned (OpenSpec.ofChange spaceArgWrong)

/-- 'gabletlaw10.SpaceReplay': WHATEVER THE INPUT: true; the input reads as it did. -/
def spaceReplaySpec : ChangeSpec := { name := "spaceReplay", fn := fun _ => fun
  | [d1, d2, d3, d4, d5] => { results := [.lit (.bool true)], args := [d1, d2, d3, d4, d5] }
  | _ => none }
def spaceReplayRow : OpenClaim := { program := "ytliajkheeniljaagreatdoor", sum := "5faf2205ba5325b7e6389c0c949aac3f6da144f2caec1d2eb1650071d86c1453", func := "gablet/gabletlaw10.SpaceReplay", spec := "spaceReplay", inPlace := ["internal/abi.NoEscape"], unfollowed := true, recurses := true, named := ["internal/strconv.uint64pow10", "math/bits.deBruijn32tab", "math/bits.deBruijn64tab"], apart := false, laid := [("math/bits.deBruijn32tab", laid_math_bits_deBruijn32tab), ("math/bits.deBruijn64tab", laid_math_bits_deBruijn64tab), ("internal/strconv.uint64pow10", laid_internal_strconv_uint64pow10)] }
def SpaceReplaySaid : Prop := spaceReplayRow.holds Tryz.pinned (OpenSpec.ofChange spaceReplaySpec)

/-- ITS FALSE NEIGHBOUR: 'it returns false'. Refute it at one input. -/
def spaceReplayWrong : ChangeSpec := { name := "spaceReplay", fn := fun _ => fun
  | [d1, d2, d3, d4, d5] => { results := [.lit (.bool false)], args := [d1, d2, d3, d4, d5] }
  | _ => none }
def SpaceReplayWrongFalsely : Prop := spaceReplayRow.holds Tryz.pinned (OpenSpec.ofChange spaceReplayWrong)

/-- 'gabletlaw10.SpaceClosed': WHATEVER THE INPUT: true; the input reads as it did. -/
def spaceClosedSpec : ChangeSpec := { name := "spaceClosed", fn := fun _ => fun
  | [d1, d2, d3] => { results := [.lit (.bool true)], args := [d1, d2, d3] }
  | _ => none }
def spaceClosedRow : OpenClaim := { program := "ytliajkheeniljaagreatdoor", sum := "5faf2205ba5325b7e6389c0c949aac3f6da144f2caec1d2eb1650071d86c1453", func := "gablet/gabletlaw10.SpaceClosed", spec := "spaceClosed", inPlace := ["internal/abi.NoEscape"], unfollowed := true, recurses := true, named := ["internal/strconv.uint64pow10", "math/bits.deBruijn32tab", "math/bits.deBruijn64tab"], apart := false, laid := [("math/bits.deBruijn32tab", laid_math_bits_deBruijn32tab), ("math/bits.deBruijn64tab", laid_math_bits_deBruijn64tab), ("internal/strconv.uint64pow10", laid_internal_strconv_uint64pow10)] }
def SpaceClosedSaid : Prop := spaceClosedRow.holds Tryz.pinned (OpenSpec.ofChange spaceClosedSpec)

/-- ITS FALSE NEIGHBOUR: 'it returns false'. Refute it at one input. -/
def spaceClosedWrong : ChangeSpec := { name := "spaceClosed", fn := fun _ => fun
  | [d1, d2, d3] => { results := [.lit (.bool false)], args := [d1, d2, d3] }
  | _ => none }
def SpaceClosedWrongFalsely : Prop := spaceClosedRow.holds Tryz.pinned (OpenSpec.ofChange spaceClosedWrong)

/-- 'gabletlaw10.SpaceShort': WHATEVER THE INPUT: true; the input reads as it did. -/
def spaceShortSpec : ChangeSpec := { name := "spaceShort", fn := fun _ => fun
  | [d1, d2, d3] => { results := [.lit (.bool true)], args := [d1, d2, d3] }
  | _ => none }
def spaceShortRow : OpenClaim := { program := "ytliajkheeniljaagreatdoor", sum := "5faf2205ba5325b7e6389c0c949aac3f6da144f2caec1d2eb1650071d86c1453", func := "gablet/gabletlaw10.SpaceShort", spec := "spaceShort", inPlace := ["internal/abi.NoEscape"], unfollowed := true, recurses := true, named := ["internal/strconv.uint64pow10", "math/bits.deBruijn32tab", "math/bits.deBruijn64tab"], apart := false, laid := [("math/bits.deBruijn32tab", laid_math_bits_deBruijn32tab), ("math/bits.deBruijn64tab", laid_math_bits_deBruijn64tab), ("internal/strconv.uint64pow10", laid_internal_strconv_uint64pow10)] }
def SpaceShortSaid : Prop := spaceShortRow.holds Tryz.pinned (OpenSpec.ofChange spaceShortSpec)

/-- ITS FALSE NEIGHBOUR: 'it returns false'. Refute it at one input. -/
def spaceShortWrong : ChangeSpec := { name := "spaceShort", fn := fun _ => fun
  | [d1, d2, d3] => { results := [.lit (.bool false)], args := [d1, d2, d3] }
  | _ => none }
def SpaceShortWrongFalsely : Prop := spaceShortRow.holds Tryz.pinned (OpenSpec.ofChange spaceShortWrong)

/-- 'gabletlaw10.SpaceRoom': WHATEVER THE INPUT: true; the input reads as it did. -/
def spaceRoomSpec : ChangeSpec := { name := "spaceRoom", fn := fun _ => fun
  | [d1, d2] => { results := [.lit (.bool true)], args := [d1, d2] }
  | _ => none }
def spaceRoomRow : OpenClaim := { program := "ytliajkheeniljaagreatdoor", sum := "5faf2205ba5325b7e6389c0c949aac3f6da144f2caec1d2eb1650071d86c1453", func := "gablet/gabletlaw10.SpaceRoom", spec := "spaceRoom", inPlace := ["internal/abi.NoEscape"], unfollowed := true, recurses := true, named := ["internal/strconv.uint64pow10", "math/bits.deBruijn32tab", "math/bits.deBruijn64tab"], apart := false, laid := [("math/bits.deBruijn32tab", laid_math_bits_deBruijn32tab), ("math/bits.deBruijn64tab", laid_math_bits_deBruijn64tab), ("internal/strconv.uint64pow10", laid_internal_strconv_uint64pow10)] }
def SpaceRoomSaid : Prop := spaceRoomRow.holds Tryz.pinned (OpenSpec.ofChange spaceRoomSpec)

/-- ITS FALSE NEIGHBOUR: 'it returns false'. Refute it at one input. -/
def spaceRoomWrong : ChangeSpec := { name := "spaceRoom", fn := fun _ => fun
  | [d1, d2] => { results := [.lit (.bool false)], args := [d1, d2] }
  | _ => none }
def SpaceRoomWrongFalsely : Prop := spaceRoomRow.holds Tryz.pinned (OpenSpec.ofChange spaceRoomWrong)

/- THE SECOND FORM. 'bulk': how many values and letters a reading holds, each counted each time it is reached (what is shared counts as often as it is met; a slice's spare places count too). A statement '..UptoSaid' is the law's where the arguments, and the package variables that the reading takes, are together of bulk at most 1048576: NARROWER than '..Said'. Prove '..Said' where nothing that the law and all that it calls make is longer than what came in: it says more and counts as full. Else prove '..UptoSaid'. A law counts once. -/
mutual
def uptoBulk {H : Type} : DataW H → Nat
  | .lit (.string bytes) => bytes.length + 1
  | .lit _ => 1
  | .nil => 1
  | .ptr d => uptoBulk d + 1
  | .slice elems spare => uptoBulkAll elems + uptoBulkAll spare + 1
  | .agg parts => uptoBulkAll parts + 1
  | .iface _ d => uptoBulk d + 1
  | .map entries => uptoBulkEntries entries + 1
  | .held _ => 1
def uptoBulkAll {H : Type} : List (DataW H) → Nat
  | [] => 0
  | d :: r => uptoBulk d + uptoBulkAll r
def uptoBulkEntries {H : Type} : List (Lit × DataW H) → Nat
  | [] => 0
  | x :: r => uptoBulkEntry x + uptoBulkEntries r
def uptoBulkEntry {H : Type} : Lit × DataW H → Nat
  | (.string bytes, d) => bytes.length + uptoBulk d + 1
  | (_, d) => uptoBulk d + 1
 end
def uptoSmall : (H : Type) → List (DataW H) → Bool := fun _ ds => decide (uptoBulkAll ds ≤ 1048576)
def OpenSpec.upto (s : _root_.Go.ChangeSpec) : _root_.Go.OpenSpec := { _root_.Go.OpenSpec.ofChange s with cond := some uptoSmall }

/-- 'gabletlaw07.StepAny', WHERE WHAT IT READS IS OF BULK AT MOST 1048576: true; the input reads as it did. -/
def stepAnyUptoRow : OpenClaim := { program := "ytliajkheeniljaagreatdoor", sum := "5faf2205ba5325b7e6389c0c949aac3f6da144f2caec1d2eb1650071d86c1453", func := "gablet/gabletlaw07.StepAny", spec := "stepAny", inPlace := ["internal/abi.NoEscape"], unfollowed := true, recurses := true, named := ["internal/strconv.uint64pow10", "math/bits.deBruijn32tab", "math/bits.deBruijn64tab"], loops := true, apart := false, laid := [("math/bits.deBruijn32tab", laid_math_bits_deBruijn32tab), ("math/bits.deBruijn64tab", laid_math_bits_deBruijn64tab), ("internal/strconv.uint64pow10", laid_internal_strconv_uint64pow10)], narrowed := true }
def StepAnyUptoSaid : Prop := stepAnyUptoRow.holds Tryz.pinned (OpenSpec.upto stepAnySpec)

/-- 'gabletlaw07.StepWalk', WHERE WHAT IT READS IS OF BULK AT MOST 1048576: true; the input reads as it did. -/
def stepWalkUptoRow : OpenClaim := { program := "ytliajkheeniljaagreatdoor", sum := "5faf2205ba5325b7e6389c0c949aac3f6da144f2caec1d2eb1650071d86c1453", func := "gablet/gabletlaw07.StepWalk", spec := "stepWalk", inPlace := ["internal/abi.NoEscape"], unfollowed := true, recurses := true, named := ["internal/strconv.uint64pow10", "math/bits.deBruijn32tab", "math/bits.deBruijn64tab"], apart := false, laid := [("math/bits.deBruijn32tab", laid_math_bits_deBruijn32tab), ("math/bits.deBruijn64tab", laid_math_bits_deBruijn64tab), ("internal/strconv.uint64pow10", laid_internal_strconv_uint64pow10)], narrowed := true }
def StepWalkUptoSaid : Prop := stepWalkUptoRow.holds Tryz.pinned (OpenSpec.upto stepWalkSpec)

/-- 'gabletlaw07.StepSpoilt', WHERE WHAT IT READS IS OF BULK AT MOST 1048576: true; the input reads as it did. -/
def stepSpoiltUptoRow : OpenClaim := { program := "ytliajkheeniljaagreatdoor", sum := "5faf2205ba5325b7e6389c0c949aac3f6da144f2caec1d2eb1650071d86c1453", func := "gablet/gabletlaw07.StepSpoilt", spec := "stepSpoilt", inPlace := ["internal/abi.NoEscape"], unfollowed := true, recurses := true, named := ["internal/strconv.uint64pow10", "math/bits.deBruijn32tab", "math/bits.deBruijn64tab"], apart := false, laid := [("math/bits.deBruijn32tab", laid_math_bits_deBruijn32tab), ("math/bits.deBruijn64tab", laid_math_bits_deBruijn64tab), ("internal/strconv.uint64pow10", laid_internal_strconv_uint64pow10)], narrowed := true }
def StepSpoiltUptoSaid : Prop := stepSpoiltUptoRow.holds Tryz.pinned (OpenSpec.upto stepSpoiltSpec)

/-- 'gabletlaw07.StepFits', WHERE WHAT IT READS IS OF BULK AT MOST 1048576: true; the input reads as it did. -/
def stepFitsUptoRow : OpenClaim := { program := "ytliajkheeniljaagreatdoor", sum := "5faf2205ba5325b7e6389c0c949aac3f6da144f2caec1d2eb1650071d86c1453", func := "gablet/gabletlaw07.StepFits", spec := "stepFits", inPlace := ["internal/abi.NoEscape"], unfollowed := true, recurses := true, named := ["internal/strconv.uint64pow10", "math/bits.deBruijn32tab", "math/bits.deBruijn64tab"], apart := false, laid := [("math/bits.deBruijn32tab", laid_math_bits_deBruijn32tab), ("math/bits.deBruijn64tab", laid_math_bits_deBruijn64tab), ("internal/strconv.uint64pow10", laid_internal_strconv_uint64pow10)], narrowed := true }
def StepFitsUptoSaid : Prop := stepFitsUptoRow.holds Tryz.pinned (OpenSpec.upto stepFitsSpec)

/-- 'gabletlaw07.StepFlushes', WHERE WHAT IT READS IS OF BULK AT MOST 1048576: true; the input reads as it did. -/
def stepFlushesUptoRow : OpenClaim := { program := "ytliajkheeniljaagreatdoor", sum := "5faf2205ba5325b7e6389c0c949aac3f6da144f2caec1d2eb1650071d86c1453", func := "gablet/gabletlaw07.StepFlushes", spec := "stepFlushes", inPlace := ["internal/abi.NoEscape"], unfollowed := true, recurses := true, named := ["internal/strconv.uint64pow10", "math/bits.deBruijn32tab", "math/bits.deBruijn64tab"], apart := false, laid := [("math/bits.deBruijn32tab", laid_math_bits_deBruijn32tab), ("math/bits.deBruijn64tab", laid_math_bits_deBruijn64tab), ("internal/strconv.uint64pow10", laid_internal_strconv_uint64pow10)], narrowed := true }
def StepFlushesUptoSaid : Prop := stepFlushesUptoRow.holds Tryz.pinned (OpenSpec.upto stepFlushesSpec)

/-- 'gabletlaw10.SpaceMade', WHERE WHAT IT READS IS OF BULK AT MOST 1048576: true; the input reads as it did. -/
def spaceMadeUptoRow : OpenClaim := { program := "ytliajkheeniljaagreatdoor", sum := "5faf2205ba5325b7e6389c0c949aac3f6da144f2caec1d2eb1650071d86c1453", func := "gablet/gabletlaw10.SpaceMade", spec := "spaceMade", inPlace := ["internal/abi.NoEscape"], unfollowed := true, recurses := true, named := ["internal/strconv.uint64pow10", "math/bits.deBruijn32tab", "math/bits.deBruijn64tab"], apart := false, laid := [("math/bits.deBruijn32tab", laid_math_bits_deBruijn32tab), ("math/bits.deBruijn64tab", laid_math_bits_deBruijn64tab), ("internal/strconv.uint64pow10", laid_internal_strconv_uint64pow10)], narrowed := true }
def SpaceMadeUptoSaid : Prop := spaceMadeUptoRow.holds Tryz.pinned (OpenSpec.upto spaceMadeSpec)

/-- 'gabletlaw10.SpaceArg', WHERE WHAT IT READS IS OF BULK AT MOST 1048576: true; the input reads as it did. -/
def spaceArgUptoRow : OpenClaim := { program := "ytliajkheeniljaagreatdoor", sum := "5faf2205ba5325b7e6389c0c949aac3f6da144f2caec1d2eb1650071d86c1453", func := "gablet/gabletlaw10.SpaceArg", spec := "spaceArg", inPlace := ["internal/abi.NoEscape"], unfollowed := true, recurses := true, named := ["internal/strconv.uint64pow10", "math/bits.deBruijn32tab", "math/bits.deBruijn64tab"], apart := false, laid := [("math/bits.deBruijn32tab", laid_math_bits_deBruijn32tab), ("math/bits.deBruijn64tab", laid_math_bits_deBruijn64tab), ("internal/strconv.uint64pow10", laid_internal_strconv_uint64pow10)], narrowed := true }
def SpaceArgUptoSaid : Prop := spaceArgUptoRow.holds Tryz.pinned (OpenSpec.upto spaceArgSpec)

/-- 'gabletlaw10.SpaceReplay', WHERE WHAT IT READS IS OF BULK AT MOST 1048576: true; the input reads as it did. -/
def spaceReplayUptoRow : OpenClaim := { program := "ytliajkheeniljaagreatdoor", sum := "5faf2205ba5325b7e6389c0c949aac3f6da144f2caec1d2eb1650071d86c1453", func := "gablet/gabletlaw10.SpaceReplay", spec := "spaceReplay", inPlace := ["internal/abi.NoEscape"], unfollowed := true, recurses := true, named := ["internal/strconv.uint64pow10", "math/bits.deBruijn32tab", "math/bits.deBruijn64tab"], apart := false, laid := [("math/bits.deBruijn32tab", laid_math_bits_deBruijn32tab), ("math/bits.deBruijn64tab", laid_math_bits_deBruijn64tab), ("internal/strconv.uint64pow10", laid_internal_strconv_uint64pow10)], narrowed := true }
def SpaceReplayUptoSaid : Prop := spaceReplayUptoRow.holds Tryz.pinned (OpenSpec.upto spaceReplaySpec)

/-- 'gabletlaw10.SpaceClosed', WHERE WHAT IT READS IS OF BULK AT MOST 1048576: true; the input reads as it did. -/
def spaceClosedUptoRow : OpenClaim := { program := "ytliajkheeniljaagreatdoor", sum := "5faf2205ba5325b7e6389c0c949aac3f6da144f2caec1d2eb1650071d86c1453", func := "gablet/gabletlaw10.SpaceClosed", spec := "spaceClosed", inPlace := ["internal/abi.NoEscape"], unfollowed := true, recurses := true, named := ["internal/strconv.uint64pow10", "math/bits.deBruijn32tab", "math/bits.deBruijn64tab"], apart := false, laid := [("math/bits.deBruijn32tab", laid_math_bits_deBruijn32tab), ("math/bits.deBruijn64tab", laid_math_bits_deBruijn64tab), ("internal/strconv.uint64pow10", laid_internal_strconv_uint64pow10)], narrowed := true }
def SpaceClosedUptoSaid : Prop := spaceClosedUptoRow.holds Tryz.pinned (OpenSpec.upto spaceClosedSpec)

/-- 'gabletlaw10.SpaceShort', WHERE WHAT IT READS IS OF BULK AT MOST 1048576: true; the input reads as it did. -/
def spaceShortUptoRow : OpenClaim := { program := "ytliajkheeniljaagreatdoor", sum := "5faf2205ba5325b7e6389c0c949aac3f6da144f2caec1d2eb1650071d86c1453", func := "gablet/gabletlaw10.SpaceShort", spec := "spaceShort", inPlace := ["internal/abi.NoEscape"], unfollowed := true, recurses := true, named := ["internal/strconv.uint64pow10", "math/bits.deBruijn32tab", "math/bits.deBruijn64tab"], apart := false, laid := [("math/bits.deBruijn32tab", laid_math_bits_deBruijn32tab), ("math/bits.deBruijn64tab", laid_math_bits_deBruijn64tab), ("internal/strconv.uint64pow10", laid_internal_strconv_uint64pow10)], narrowed := true }
def SpaceShortUptoSaid : Prop := spaceShortUptoRow.holds Tryz.pinned (OpenSpec.upto spaceShortSpec)

/-- 'gabletlaw10.SpaceRoom', WHERE WHAT IT READS IS OF BULK AT MOST 1048576: true; the input reads as it did. -/
def spaceRoomUptoRow : OpenClaim := { program := "ytliajkheeniljaagreatdoor", sum := "5faf2205ba5325b7e6389c0c949aac3f6da144f2caec1d2eb1650071d86c1453", func := "gablet/gabletlaw10.SpaceRoom", spec := "spaceRoom", inPlace := ["internal/abi.NoEscape"], unfollowed := true, recurses := true, named := ["internal/strconv.uint64pow10", "math/bits.deBruijn32tab", "math/bits.deBruijn64tab"], apart := false, laid := [("math/bits.deBruijn32tab", laid_math_bits_deBruijn32tab), ("math/bits.deBruijn64tab", laid_math_bits_deBruijn64tab), ("internal/strconv.uint64pow10", laid_internal_strconv_uint64pow10)], narrowed := true }
def SpaceRoomUptoSaid : Prop := spaceRoomUptoRow.holds Tryz.pinned (OpenSpec.upto spaceRoomSpec)

end Rows
end Go.Proofs.YtliajkheeniljaaGreatDoor
