/-
  NARROWER THAN 'FOR EVERY INPUT', by the rows' own cells (each row's printed sentence says how): WordAny: loops.
  DERIVED. THE GIVEN ROWS OF THIS SEAT. 5 by the template 'for every input the law returns true; each argument reads behind the call as it read before'; 0 by the template 'total and deterministic' (their statements: YtidnpdkibndpkaaTotals.lean).
  GIVEN WITH THE SEED: the statements are not yours to turn. If you find one false, say at which input.
  Laid BY PROGRAM, IN A SANDBOX (cutbox-rows.mjs): the forced cells as the released guide's own fill.sh prints them over the translation f0e17ce96a8b5ee4… (all of the seat's roots in one cut). By AI agents, Wed Nov 11 2026. No macro, syntax, notation, axiom, sorry.
-/
import Derived.Test.YtidnpdkibndpkaaChecked
import GoSem.Claim
import GoSem.ClaimJoined
import GoSem.ClaimMapViews
import Derived.JoinedTies
import Derived.KernelRfl
namespace Go.Proofs.Ytidnpdkibndpkaa
/- THE CELL 'sum', in the pinned program and in every row, IS THE sha256 OF THE DUMP (.gsa) THAT YtidnpdkibndpkaaProg.lean LOADS. Nothing in Lean hashes anything: it is a label: what it is worth is what the hold of that sum in a sandbox is worth. -/
noncomputable def Try.pinned : Pinned := { name := "ytidnpdkibndpkaa", sum := "f0e17ce96a8b5ee41168d7371c54148cd148a7844caff40c8b4ef8f3b3fa265f", checked := Try.checked }
namespace Rows
def none {H : Type} : Left H := { results := [], args := [] }

/-- 'gabletlaw14.WordAny': WHATEVER THE INPUT: true; the input reads as it did. -/
def wordAnySpec : ChangeSpec := { name := "wordAny", fn := fun _ => fun
  | [d1, d2] => { results := [.lit (.bool true)], args := [d1, d2] }
  | _ => none }
def wordAnyRow : OpenClaim := { program := "ytidnpdkibndpkaa", sum := "f0e17ce96a8b5ee41168d7371c54148cd148a7844caff40c8b4ef8f3b3fa265f", func := "gablet/gabletlaw14.WordAny", spec := "wordAny", unfollowed := true, recurses := true, loops := true, apart := false }
def WordAnySaid : Prop := wordAnyRow.holds Try.pinned (OpenSpec.ofChange wordAnySpec)

/-- ITS FALSE NEIGHBOUR: 'it returns false'. Refute it at one input. -/
def wordAnyWrong : ChangeSpec := { name := "wordAny", fn := fun _ => fun
  | [d1, d2] => { results := [.lit (.bool false)], args := [d1, d2] }
  | _ => none }
def WordAnyWrongFalsely : Prop := wordAnyRow.holds Try.pinned (OpenSpec.ofChange wordAnyWrong)

/-- 'gabletlaw14.WordMade': WHATEVER THE INPUT: true; the input reads as it did. -/
def wordMadeSpec : ChangeSpec := { name := "wordMade", fn := fun _ => fun
  | [d1, d2, d3] => { results := [.lit (.bool true)], args := [d1, d2, d3] }
  | _ => none }
def wordMadeRow : OpenClaim := { program := "ytidnpdkibndpkaa", sum := "f0e17ce96a8b5ee41168d7371c54148cd148a7844caff40c8b4ef8f3b3fa265f", func := "gablet/gabletlaw14.WordMade", spec := "wordMade", unfollowed := true, recurses := true, apart := false }
def WordMadeSaid : Prop := wordMadeRow.holds Try.pinned (OpenSpec.ofChange wordMadeSpec)

/-- ITS FALSE NEIGHBOUR: 'it returns false'. Refute it at one input. -/
def wordMadeWrong : ChangeSpec := { name := "wordMade", fn := fun _ => fun
  | [d1, d2, d3] => { results := [.lit (.bool false)], args := [d1, d2, d3] }
  | _ => none }
def WordMadeWrongFalsely : Prop := wordMadeRow.holds Try.pinned (OpenSpec.ofChange wordMadeWrong)

/-- 'gabletlaw14.WordTurned': WHATEVER THE INPUT: true; the input reads as it did. -/
def wordTurnedSpec : ChangeSpec := { name := "wordTurned", fn := fun _ => fun
  | [d1, d2, d3, d4] => { results := [.lit (.bool true)], args := [d1, d2, d3, d4] }
  | _ => none }
def wordTurnedRow : OpenClaim := { program := "ytidnpdkibndpkaa", sum := "f0e17ce96a8b5ee41168d7371c54148cd148a7844caff40c8b4ef8f3b3fa265f", func := "gablet/gabletlaw14.WordTurned", spec := "wordTurned", unfollowed := true, recurses := true, apart := false }
def WordTurnedSaid : Prop := wordTurnedRow.holds Try.pinned (OpenSpec.ofChange wordTurnedSpec)

/-- ITS FALSE NEIGHBOUR: 'it returns false'. Refute it at one input. -/
def wordTurnedWrong : ChangeSpec := { name := "wordTurned", fn := fun _ => fun
  | [d1, d2, d3, d4] => { results := [.lit (.bool false)], args := [d1, d2, d3, d4] }
  | _ => none }
def WordTurnedWrongFalsely : Prop := wordTurnedRow.holds Try.pinned (OpenSpec.ofChange wordTurnedWrong)

/-- 'gabletlaw14.WordSteps': WHATEVER THE INPUT: true; the input reads as it did. -/
def wordStepsSpec : ChangeSpec := { name := "wordSteps", fn := fun _ => fun
  | [d1, d2, d3, d4] => { results := [.lit (.bool true)], args := [d1, d2, d3, d4] }
  | _ => none }
def wordStepsRow : OpenClaim := { program := "ytidnpdkibndpkaa", sum := "f0e17ce96a8b5ee41168d7371c54148cd148a7844caff40c8b4ef8f3b3fa265f", func := "gablet/gabletlaw14.WordSteps", spec := "wordSteps", unfollowed := true, recurses := true, apart := false }
def WordStepsSaid : Prop := wordStepsRow.holds Try.pinned (OpenSpec.ofChange wordStepsSpec)

/-- ITS FALSE NEIGHBOUR: 'it returns false'. Refute it at one input. -/
def wordStepsWrong : ChangeSpec := { name := "wordSteps", fn := fun _ => fun
  | [d1, d2, d3, d4] => { results := [.lit (.bool false)], args := [d1, d2, d3, d4] }
  | _ => none }
def WordStepsWrongFalsely : Prop := wordStepsRow.holds Try.pinned (OpenSpec.ofChange wordStepsWrong)

/-- 'gabletlaw14.WordTwice': WHATEVER THE INPUT: true; the input reads as it did. -/
def wordTwiceSpec : ChangeSpec := { name := "wordTwice", fn := fun _ => fun
  | [d1, d2, d3] => { results := [.lit (.bool true)], args := [d1, d2, d3] }
  | _ => none }
def wordTwiceRow : OpenClaim := { program := "ytidnpdkibndpkaa", sum := "f0e17ce96a8b5ee41168d7371c54148cd148a7844caff40c8b4ef8f3b3fa265f", func := "gablet/gabletlaw14.WordTwice", spec := "wordTwice", unfollowed := true, recurses := true, apart := false }
def WordTwiceSaid : Prop := wordTwiceRow.holds Try.pinned (OpenSpec.ofChange wordTwiceSpec)

/-- ITS FALSE NEIGHBOUR: 'it returns false'. Refute it at one input. -/
def wordTwiceWrong : ChangeSpec := { name := "wordTwice", fn := fun _ => fun
  | [d1, d2, d3] => { results := [.lit (.bool false)], args := [d1, d2, d3] }
  | _ => none }
def WordTwiceWrongFalsely : Prop := wordTwiceRow.holds Try.pinned (OpenSpec.ofChange wordTwiceWrong)

/- THE SECOND FORM. 'bulk': how many values and letters a reading holds, each counted each time it is reached (what is shared counts as often as it is met; a slice's spare places count too). A statement '..UptoSaid' is the law's where the arguments, and the package variables that the reading takes, are together of bulk at most 1048576: NARROWER than '..Said'. Prove '..Said' where nothing that the law and all that it calls make is longer than what came in: it says more and counts as full. Else prove '..UptoSaid'. A law counts once. -/
mutual
def uptoBulk {H : Type} : DataW H → Nat
  | .lit (.string bytes) => bytes.length + 1
  | .lit _ => 1
  | .nil => 1
  | .ptr d => uptoBulk d + 1
  | .slice elems spare => uptoBulkAll elems + uptoBulkAll spare + 1
  | .agg parts => uptoBulkAll parts + 1
  | .iface _ d => uptoBulk d + 1
  | .map entries => uptoBulkEntries entries + 1
  | .held _ => 1
def uptoBulkAll {H : Type} : List (DataW H) → Nat
  | [] => 0
  | d :: r => uptoBulk d + uptoBulkAll r
def uptoBulkEntries {H : Type} : List (Lit × DataW H) → Nat
  | [] => 0
  | x :: r => uptoBulkEntry x + uptoBulkEntries r
def uptoBulkEntry {H : Type} : Lit × DataW H → Nat
  | (.string bytes, d) => bytes.length + uptoBulk d + 1
  | (_, d) => uptoBulk d + 1
 end
def uptoSmall : (H : Type) → List (DataW H) → Bool := fun _ ds => decide (uptoBulkAll ds ≤ 1048576)
def OpenSpec.upto (s : _root_.Go.ChangeSpec) : _root_.Go.OpenSpec := { _root_.Go.OpenSpec.ofChange s with cond := some uptoSmall }

/-- 'gabletlaw14.WordAny', WHERE WHAT IT READS IS OF BULK AT MOST 1048576: true; the input reads as it did. -/
def wordAnyUptoRow : OpenClaim := { program := "ytidnpdkibndpkaa", sum := "f0e17ce96a8b5ee41168d7371c54148cd148a7844caff40c8b4ef8f3b3fa265f", func := "gablet/gabletlaw14.WordAny", spec := "wordAny", unfollowed := true, recurses := true, loops := true, apart := false, narrowed := true }
def WordAnyUptoSaid : Prop := wordAnyUptoRow.holds Try.pinned (OpenSpec.upto wordAnySpec)

/-- 'gabletlaw14.WordMade', WHERE WHAT IT READS IS OF BULK AT MOST 1048576: true; the input reads as it did. -/
def wordMadeUptoRow : OpenClaim := { program := "ytidnpdkibndpkaa", sum := "f0e17ce96a8b5ee41168d7371c54148cd148a7844caff40c8b4ef8f3b3fa265f", func := "gablet/gabletlaw14.WordMade", spec := "wordMade", unfollowed := true, recurses := true, apart := false, narrowed := true }
def WordMadeUptoSaid : Prop := wordMadeUptoRow.holds Try.pinned (OpenSpec.upto wordMadeSpec)

/-- 'gabletlaw14.WordTurned', WHERE WHAT IT READS IS OF BULK AT MOST 1048576: true; the input reads as it did. -/
def wordTurnedUptoRow : OpenClaim := { program := "ytidnpdkibndpkaa", sum := "f0e17ce96a8b5ee41168d7371c54148cd148a7844caff40c8b4ef8f3b3fa265f", func := "gablet/gabletlaw14.WordTurned", spec := "wordTurned", unfollowed := true, recurses := true, apart := false, narrowed := true }
def WordTurnedUptoSaid : Prop := wordTurnedUptoRow.holds Try.pinned (OpenSpec.upto wordTurnedSpec)

/-- 'gabletlaw14.WordSteps', WHERE WHAT IT READS IS OF BULK AT MOST 1048576: true; the input reads as it did. -/
def wordStepsUptoRow : OpenClaim := { program := "ytidnpdkibndpkaa", sum := "f0e17ce96a8b5ee41168d7371c54148cd148a7844caff40c8b4ef8f3b3fa265f", func := "gablet/gabletlaw14.WordSteps", spec := "wordSteps", unfollowed := true, recurses := true, apart := false, narrowed := true }
def WordStepsUptoSaid : Prop := wordStepsUptoRow.holds Try.pinned (OpenSpec.upto wordStepsSpec)

/-- 'gabletlaw14.WordTwice', WHERE WHAT IT READS IS OF BULK AT MOST 1048576: true; the input reads as it did. -/
def wordTwiceUptoRow : OpenClaim := { program := "ytidnpdkibndpkaa", sum := "f0e17ce96a8b5ee41168d7371c54148cd148a7844caff40c8b4ef8f3b3fa265f", func := "gablet/gabletlaw14.WordTwice", spec := "wordTwice", unfollowed := true, recurses := true, apart := false, narrowed := true }
def WordTwiceUptoSaid : Prop := wordTwiceUptoRow.holds Try.pinned (OpenSpec.upto wordTwiceSpec)

end Rows
end Go.Proofs.Ytidnpdkibndpkaa
