/-
  NARROWER THAN 'FOR EVERY INPUT', by the rows' own cells (each row's printed sentence says how): FinalAny: loops.
  DERIVED. THE GIVEN ROWS OF THIS SEAT. 4 by the template 'for every input the law returns true; each argument reads behind the call as it read before'; 0 by the template 'total and deterministic' (their statements: YtnlkbboghcdpnaaTotals.lean).
  GIVEN WITH THE SEED: the statements are not yours to turn. If you find one false, say at which input.
  Laid BY PROGRAM, IN A SANDBOX (cutbox-rows.mjs): the forced cells as the released guide's own fill.sh prints them over the translation 585e6bb1ab3b64d0… (all of the seat's roots in one cut). By AI agents, Wed Nov 11 2026. No macro, syntax, notation, axiom, sorry.
-/
import Derived.Test.YtnlkbboghcdpnaaChecked
import GoSem.Claim
import GoSem.ClaimJoined
import GoSem.ClaimMapViews
import Derived.JoinedTies
import Derived.KernelRfl
namespace Go.Proofs.Ytnlkbboghcdpnaa
/- THE CELL 'sum', in the pinned program and in every row, IS THE sha256 OF THE DUMP (.gsa) THAT YtnlkbboghcdpnaaProg.lean LOADS. Nothing in Lean hashes anything: it is a label: what it is worth is what the hold of that sum in a sandbox is worth. -/
noncomputable def Try.pinned : Pinned := { name := "ytnlkbboghcdpnaa", sum := "585e6bb1ab3b64d065cb193f1b33a316ee9bfbe73de4522f8b7bd2b3821263ee", checked := Try.checked }
namespace Rows
def none {H : Type} : Left H := { results := [], args := [] }

/-- 'gabletlaw11.FinalAny': WHATEVER THE INPUT: true; the input reads as it did. -/
def finalAnySpec : ChangeSpec := { name := "finalAny", fn := fun _ => fun
  | [d1, d2] => { results := [.lit (.bool true)], args := [d1, d2] }
  | _ => none }
def finalAnyRow : OpenClaim := { program := "ytnlkbboghcdpnaa", sum := "585e6bb1ab3b64d065cb193f1b33a316ee9bfbe73de4522f8b7bd2b3821263ee", func := "gablet/gabletlaw11.FinalAny", spec := "finalAny", unfollowed := true, recurses := true, loops := true, apart := false }
def FinalAnySaid : Prop := finalAnyRow.holds Try.pinned (OpenSpec.ofChange finalAnySpec)

/-- ITS FALSE NEIGHBOUR: 'it returns false'. Refute it at one input. -/
def finalAnyWrong : ChangeSpec := { name := "finalAny", fn := fun _ => fun
  | [d1, d2] => { results := [.lit (.bool false)], args := [d1, d2] }
  | _ => none }
def FinalAnyWrongFalsely : Prop := finalAnyRow.holds Try.pinned (OpenSpec.ofChange finalAnyWrong)

/-- 'gabletlaw11.FinalMade': WHATEVER THE INPUT: true; the input reads as it did. -/
def finalMadeSpec : ChangeSpec := { name := "finalMade", fn := fun _ => fun
  | [d1, d2] => { results := [.lit (.bool true)], args := [d1, d2] }
  | _ => none }
def finalMadeRow : OpenClaim := { program := "ytnlkbboghcdpnaa", sum := "585e6bb1ab3b64d065cb193f1b33a316ee9bfbe73de4522f8b7bd2b3821263ee", func := "gablet/gabletlaw11.FinalMade", spec := "finalMade", unfollowed := true, recurses := true, apart := false }
def FinalMadeSaid : Prop := finalMadeRow.holds Try.pinned (OpenSpec.ofChange finalMadeSpec)

/-- ITS FALSE NEIGHBOUR: 'it returns false'. Refute it at one input. -/
def finalMadeWrong : ChangeSpec := { name := "finalMade", fn := fun _ => fun
  | [d1, d2] => { results := [.lit (.bool false)], args := [d1, d2] }
  | _ => none }
def FinalMadeWrongFalsely : Prop := finalMadeRow.holds Try.pinned (OpenSpec.ofChange finalMadeWrong)

/-- 'gabletlaw11.FinalEnds': WHATEVER THE INPUT: true; the input reads as it did. -/
def finalEndsSpec : ChangeSpec := { name := "finalEnds", fn := fun _ => fun
  | [d1, d2, d3] => { results := [.lit (.bool true)], args := [d1, d2, d3] }
  | _ => none }
def finalEndsRow : OpenClaim := { program := "ytnlkbboghcdpnaa", sum := "585e6bb1ab3b64d065cb193f1b33a316ee9bfbe73de4522f8b7bd2b3821263ee", func := "gablet/gabletlaw11.FinalEnds", spec := "finalEnds", unfollowed := true, recurses := true, apart := false }
def FinalEndsSaid : Prop := finalEndsRow.holds Try.pinned (OpenSpec.ofChange finalEndsSpec)

/-- ITS FALSE NEIGHBOUR: 'it returns false'. Refute it at one input. -/
def finalEndsWrong : ChangeSpec := { name := "finalEnds", fn := fun _ => fun
  | [d1, d2, d3] => { results := [.lit (.bool false)], args := [d1, d2, d3] }
  | _ => none }
def FinalEndsWrongFalsely : Prop := finalEndsRow.holds Try.pinned (OpenSpec.ofChange finalEndsWrong)

/-- 'gabletlaw11.FinalOrder': WHATEVER THE INPUT: true; the input reads as it did. -/
def finalOrderSpec : ChangeSpec := { name := "finalOrder", fn := fun _ => fun
  | [d1, d2, d3] => { results := [.lit (.bool true)], args := [d1, d2, d3] }
  | _ => none }
def finalOrderRow : OpenClaim := { program := "ytnlkbboghcdpnaa", sum := "585e6bb1ab3b64d065cb193f1b33a316ee9bfbe73de4522f8b7bd2b3821263ee", func := "gablet/gabletlaw11.FinalOrder", spec := "finalOrder", unfollowed := true, recurses := true, apart := false }
def FinalOrderSaid : Prop := finalOrderRow.holds Try.pinned (OpenSpec.ofChange finalOrderSpec)

/-- ITS FALSE NEIGHBOUR: 'it returns false'. Refute it at one input. -/
def finalOrderWrong : ChangeSpec := { name := "finalOrder", fn := fun _ => fun
  | [d1, d2, d3] => { results := [.lit (.bool false)], args := [d1, d2, d3] }
  | _ => none }
def FinalOrderWrongFalsely : Prop := finalOrderRow.holds Try.pinned (OpenSpec.ofChange finalOrderWrong)

/- THE SECOND FORM. 'bulk': how many values and letters a reading holds, each counted each time it is reached (what is shared counts as often as it is met; a slice's spare places count too). A statement '..UptoSaid' is the law's where the arguments, and the package variables that the reading takes, are together of bulk at most 1048576: NARROWER than '..Said'. Prove '..Said' where nothing that the law and all that it calls make is longer than what came in: it says more and counts as full. Else prove '..UptoSaid'. A law counts once. -/
mutual
def uptoBulk {H : Type} : DataW H → Nat
  | .lit (.string bytes) => bytes.length + 1
  | .lit _ => 1
  | .nil => 1
  | .ptr d => uptoBulk d + 1
  | .slice elems spare => uptoBulkAll elems + uptoBulkAll spare + 1
  | .agg parts => uptoBulkAll parts + 1
  | .iface _ d => uptoBulk d + 1
  | .map entries => uptoBulkEntries entries + 1
  | .held _ => 1
def uptoBulkAll {H : Type} : List (DataW H) → Nat
  | [] => 0
  | d :: r => uptoBulk d + uptoBulkAll r
def uptoBulkEntries {H : Type} : List (Lit × DataW H) → Nat
  | [] => 0
  | x :: r => uptoBulkEntry x + uptoBulkEntries r
def uptoBulkEntry {H : Type} : Lit × DataW H → Nat
  | (.string bytes, d) => bytes.length + uptoBulk d + 1
  | (_, d) => uptoBulk d + 1
 end
def uptoSmall : (H : Type) → List (DataW H) → Bool := fun _ ds => decide (uptoBulkAll ds ≤ 1048576)
def OpenSpec.upto (s : _root_.Go.ChangeSpec) : _root_.Go.OpenSpec := { _root_.Go.OpenSpec.ofChange s with cond := some uptoSmall }

/-- 'gabletlaw11.FinalAny', WHERE WHAT IT READS IS OF BULK AT MOST 1048576: true; the input reads as it did. -/
def finalAnyUptoRow : OpenClaim := { program := "ytnlkbboghcdpnaa", sum := "585e6bb1ab3b64d065cb193f1b33a316ee9bfbe73de4522f8b7bd2b3821263ee", func := "gablet/gabletlaw11.FinalAny", spec := "finalAny", unfollowed := true, recurses := true, loops := true, apart := false, narrowed := true }
def FinalAnyUptoSaid : Prop := finalAnyUptoRow.holds Try.pinned (OpenSpec.upto finalAnySpec)

/-- 'gabletlaw11.FinalMade', WHERE WHAT IT READS IS OF BULK AT MOST 1048576: true; the input reads as it did. -/
def finalMadeUptoRow : OpenClaim := { program := "ytnlkbboghcdpnaa", sum := "585e6bb1ab3b64d065cb193f1b33a316ee9bfbe73de4522f8b7bd2b3821263ee", func := "gablet/gabletlaw11.FinalMade", spec := "finalMade", unfollowed := true, recurses := true, apart := false, narrowed := true }
def FinalMadeUptoSaid : Prop := finalMadeUptoRow.holds Try.pinned (OpenSpec.upto finalMadeSpec)

/-- 'gabletlaw11.FinalEnds', WHERE WHAT IT READS IS OF BULK AT MOST 1048576: true; the input reads as it did. -/
def finalEndsUptoRow : OpenClaim := { program := "ytnlkbboghcdpnaa", sum := "585e6bb1ab3b64d065cb193f1b33a316ee9bfbe73de4522f8b7bd2b3821263ee", func := "gablet/gabletlaw11.FinalEnds", spec := "finalEnds", unfollowed := true, recurses := true, apart := false, narrowed := true }
def FinalEndsUptoSaid : Prop := finalEndsUptoRow.holds Try.pinned (OpenSpec.upto finalEndsSpec)

/-- 'gabletlaw11.FinalOrder', WHERE WHAT IT READS IS OF BULK AT MOST 1048576: true; the input reads as it did. -/
def finalOrderUptoRow : OpenClaim := { program := "ytnlkbboghcdpnaa", sum := "585e6bb1ab3b64d065cb193f1b33a316ee9bfbe73de4522f8b7bd2b3821263ee", func := "gablet/gabletlaw11.FinalOrder", spec := "finalOrder", unfollowed := true, recurses := true, apart := false, narrowed := true }
def FinalOrderUptoSaid : Prop := finalOrderUptoRow.holds Try.pinned (OpenSpec.upto finalOrderSpec)

end Rows
end Go.Proofs.Ytnlkbboghcdpnaa
