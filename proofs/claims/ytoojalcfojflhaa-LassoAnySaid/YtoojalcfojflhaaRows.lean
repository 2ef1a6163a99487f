/-
  No cell of these rows narrows 'for every input' (looked for: loops, veiled, ifaces, maps, wideKeys, modest, calm, conditions, laid).
  DERIVED. THE GIVEN ROWS OF THIS SEAT. 5 by the template 'for every input the law returns true; each argument reads behind the call as it read before'; 0 by the template 'total and deterministic' (their statements: YtoojalcfojflhaaTotals.lean).
  GIVEN WITH THE SEED: the statements are not yours to turn. If you find one false, say at which input.
  Laid BY PROGRAM, IN A SANDBOX (cutbox-rows.mjs): the forced cells as the released guide's own fill.sh prints them over the translation 41859f762ba6a405… (all of the seat's roots in one cut). By AI agents, Wed Nov 11 2026. No macro, syntax, notation, axiom, sorry.
-/
import Derived.Test.YtoojalcfojflhaaChecked
import GoSem.Claim
import GoSem.ClaimJoined
import GoSem.ClaimMapViews
import Derived.JoinedTies
import Derived.KernelRfl
namespace Go.Proofs.Ytoojalcfojflhaa
/- THE CELL 'sum', in the pinned program and in every row, IS THE sha256 OF THE DUMP (.gsa) THAT YtoojalcfojflhaaProg.lean LOADS. Nothing in Lean hashes anything: it is a label: what it is worth is what the hold of that sum in a sandbox is worth. -/
noncomputable def Try.pinned : Pinned := { name := "ytoojalcfojflhaa", sum := "41859f762ba6a405315df65dcc3d5cab4bf769b3533d943279e334c2a9332ea0", checked := Try.checked }
namespace Rows
def none {H : Type} : Left H := { results := [], args := [] }

/-- 'gabletlaw16.LassoAny': WHATEVER THE INPUT: true; the input reads as it did. -/
def lassoAnySpec : ChangeSpec := { name := "lassoAny", fn := fun _ => fun
  | [d1, d2] => { results := [.lit (.bool true)], args := [d1, d2] }
  | _ => none }
def lassoAnyRow : OpenClaim := { program := "ytoojalcfojflhaa", sum := "41859f762ba6a405315df65dcc3d5cab4bf769b3533d943279e334c2a9332ea0", func := "gablet/gabletlaw16.LassoAny", spec := "lassoAny", unfollowed := true, recurses := true, apart := false }
def LassoAnySaid : Prop := lassoAnyRow.holds Try.pinned (OpenSpec.ofChange lassoAnySpec)

/-- ITS FALSE NEIGHBOUR: 'it returns false'. Refute it at one input. -/
def lassoAnyWrong : ChangeSpec := { name := "lassoAny", fn := fun _ => fun
  | [d1, d2] => { results := [.lit (.bool false)], args := [d1, d2] }
  | _ => none }
def LassoAnyWrongFalsely : Prop := lassoAnyRow.holds Try.pinned (OpenSpec.ofChange lassoAnyWrong)

/-- 'gabletlaw16.LassoMade': WHATEVER THE INPUT: true; the input reads as it did. -/
def lassoMadeSpec : ChangeSpec := { name := "lassoMade", fn := fun _ => fun
  | [d1, d2, d3, d4] => { results := [.lit (.bool true)], args := [d1, d2, d3, d4] }
  | _ => none }
def lassoMadeRow : OpenClaim := { program := "ytoojalcfojflhaa", sum := "41859f762ba6a405315df65dcc3d5cab4bf769b3533d943279e334c2a9332ea0", func := "gablet/gabletlaw16.LassoMade", spec := "lassoMade", unfollowed := true, recurses := true, apart := false }
def LassoMadeSaid : Prop := lassoMadeRow.holds Try.pinned (OpenSpec.ofChange lassoMadeSpec)

/-- ITS FALSE NEIGHBOUR: 'it returns false'. Refute it at one input. -/
def lassoMadeWrong : ChangeSpec := { name := "lassoMade", fn := fun _ => fun
  | [d1, d2, d3, d4] => { results := [.lit (.bool false)], args := [d1, d2, d3, d4] }
  | _ => none }
def LassoMadeWrongFalsely : Prop := lassoMadeRow.holds Try.pinned (OpenSpec.ofChange lassoMadeWrong)

/-- 'gabletlaw16.LassoAccept': WHATEVER THE INPUT: true; the input reads as it did. -/
def lassoAcceptSpec : ChangeSpec := { name := "lassoAccept", fn := fun _ => fun
  | [d1, d2, d3, d4, d5, d6] => { results := [.lit (.bool true)], args := [d1, d2, d3, d4, d5, d6] }
  | _ => none }
def lassoAcceptRow : OpenClaim := { program := "ytoojalcfojflhaa", sum := "41859f762ba6a405315df65dcc3d5cab4bf769b3533d943279e334c2a9332ea0", func := "gablet/gabletlaw16.LassoAccept", spec := "lassoAccept", unfollowed := true, recurses := true, apart := false }
def LassoAcceptSaid : Prop := lassoAcceptRow.holds Try.pinned (OpenSpec.ofChange lassoAcceptSpec)

/-- ITS FALSE NEIGHBOUR: 'it returns false'. Refute it at one input. -/
def lassoAcceptWrong : ChangeSpec := { name := "lassoAccept", fn := fun _ => fun
  | [d1, d2, d3, d4, d5, d6] => { results := [.lit (.bool false)], args := [d1, d2, d3, d4, d5, d6] }
  | _ => none }
def LassoAcceptWrongFalsely : Prop := lassoAcceptRow.holds Try.pinned (OpenSpec.ofChange lassoAcceptWrong)

/-- 'gabletlaw16.LassoMore': WHATEVER THE INPUT: true; the input reads as it did. -/
def lassoMoreSpec : ChangeSpec := { name := "lassoMore", fn := fun _ => fun
  | [d1, d2, d3, d4, d5, d6] => { results := [.lit (.bool true)], args := [d1, d2, d3, d4, d5, d6] }
  | _ => none }
def lassoMoreRow : OpenClaim := { program := "ytoojalcfojflhaa", sum := "41859f762ba6a405315df65dcc3d5cab4bf769b3533d943279e334c2a9332ea0", func := "gablet/gabletlaw16.LassoMore", spec := "lassoMore", unfollowed := true, recurses := true, apart := false }
def LassoMoreSaid : Prop := lassoMoreRow.holds Try.pinned (OpenSpec.ofChange lassoMoreSpec)

/-- ITS FALSE NEIGHBOUR: 'it returns false'. Refute it at one input. -/
def lassoMoreWrong : ChangeSpec := { name := "lassoMore", fn := fun _ => fun
  | [d1, d2, d3, d4, d5, d6] => { results := [.lit (.bool false)], args := [d1, d2, d3, d4, d5, d6] }
  | _ => none }
def LassoMoreWrongFalsely : Prop := lassoMoreRow.holds Try.pinned (OpenSpec.ofChange lassoMoreWrong)

/-- 'gabletlaw16.LassoChain': WHATEVER THE INPUT: true; the input reads as it did. -/
def lassoChainSpec : ChangeSpec := { name := "lassoChain", fn := fun _ => fun
  | [d1, d2, d3] => { results := [.lit (.bool true)], args := [d1, d2, d3] }
  | _ => none }
def lassoChainRow : OpenClaim := { program := "ytoojalcfojflhaa", sum := "41859f762ba6a405315df65dcc3d5cab4bf769b3533d943279e334c2a9332ea0", func := "gablet/gabletlaw16.LassoChain", spec := "lassoChain", unfollowed := true, recurses := true, apart := false }
def LassoChainSaid : Prop := lassoChainRow.holds Try.pinned (OpenSpec.ofChange lassoChainSpec)

/-- ITS FALSE NEIGHBOUR: 'it returns false'. Refute it at one input. -/
def lassoChainWrong : ChangeSpec := { name := "lassoChain", fn := fun _ => fun
  | [d1, d2, d3] => { results := [.lit (.bool false)], args := [d1, d2, d3] }
  | _ => none }
def LassoChainWrongFalsely : Prop := lassoChainRow.holds Try.pinned (OpenSpec.ofChange lassoChainWrong)

/- THE SECOND FORM. 'bulk': how many values and letters a reading holds, each counted each time it is reached (what is shared counts as often as it is met; a slice's spare places count too). A statement '..UptoSaid' is the law's where the arguments, and the package variables that the reading takes, are together of bulk at most 1048576: NARROWER than '..Said'. Prove '..Said' where nothing that the law and all that it calls make is longer than what came in: it says more and counts as full. Else prove '..UptoSaid'. A law counts once. -/
mutual
def uptoBulk {H : Type} : DataW H → Nat
  | .lit (.string bytes) => bytes.length + 1
  | .lit _ => 1
  | .nil => 1
  | .ptr d => uptoBulk d + 1
  | .slice elems spare => uptoBulkAll elems + uptoBulkAll spare + 1
  | .agg parts => uptoBulkAll parts + 1
  | .iface _ d => uptoBulk d + 1
  | .map entries => uptoBulkEntries entries + 1
  | .held _ => 1
def uptoBulkAll {H : Type} : List (DataW H) → Nat
  | [] => 0
  | d :: r => uptoBulk d + uptoBulkAll r
def uptoBulkEntries {H : Type} : List (Lit × DataW H) → Nat
  | [] => 0
  | x :: r => uptoBulkEntry x + uptoBulkEntries r
def uptoBulkEntry {H : Type} : Lit × DataW H → Nat
  | (.string bytes, d) => bytes.length + uptoBulk d + 1
  | (_, d) => uptoBulk d + 1
 end
def uptoSmall : (H : Type) → List (DataW H) → Bool := fun _ ds => decide (uptoBulkAll ds ≤ 1048576)
def OpenSpec.upto (s : _root_.Go.ChangeSpec) : _root_.Go.OpenSpec := { _root_.Go.OpenSpec.ofChange s with cond := some uptoSmall }

/-- 'gabletlaw16.LassoAny', WHERE WHAT IT READS IS OF BULK AT MOST 1048576: true; the input reads as it did. -/
def lassoAnyUptoRow : OpenClaim := { program := "ytoojalcfojflhaa", sum := "41859f762ba6a405315df65dcc3d5cab4bf769b3533d943279e334c2a9332ea0", func := "gablet/gabletlaw16.LassoAny", spec := "lassoAny", unfollowed := true, recurses := true, apart := false, narrowed := true }
def LassoAnyUptoSaid : Prop := lassoAnyUptoRow.holds Try.pinned (OpenSpec.upto lassoAnySpec)

/-- 'gabletlaw16.LassoMade', WHERE WHAT IT READS IS OF BULK AT MOST 1048576: true; the input reads as it did. -/
def lassoMadeUptoRow : OpenClaim := { program := "ytoojalcfojflhaa", sum := "41859f762ba6a405315df65dcc3d5cab4bf769b3533d943279e334c2a9332ea0", func := "gablet/gabletlaw16.LassoMade", spec := "lassoMade", unfollowed := true, recurses := true, apart := false, narrowed := true }
def LassoMadeUptoSaid : Prop := lassoMadeUptoRow.holds Try.pinned (OpenSpec.upto lassoMadeSpec)

/-- 'gabletlaw16.LassoAccept', WHERE WHAT IT READS IS OF BULK AT MOST 1048576: true; the input reads as it did. -/
def lassoAcceptUptoRow : OpenClaim := { program := "ytoojalcfojflhaa", sum := "41859f762ba6a405315df65dcc3d5cab4bf769b3533d943279e334c2a9332ea0", func := "gablet/gabletlaw16.LassoAccept", spec := "lassoAccept", unfollowed := true, recurses := true, apart := false, narrowed := true }
def LassoAcceptUptoSaid : Prop := lassoAcceptUptoRow.holds Try.pinned (OpenSpec.upto lassoAcceptSpec)

/-- 'gabletlaw16.LassoMore', WHERE WHAT IT READS IS OF BULK AT MOST 1048576: true; the input reads as it did. -/
def lassoMoreUptoRow : OpenClaim := { program := "ytoojalcfojflhaa", sum := "41859f762ba6a405315df65dcc3d5cab4bf769b3533d943279e334c2a9332ea0", func := "gablet/gabletlaw16.LassoMore", spec := "lassoMore", unfollowed := true, recurses := true, apart := false, narrowed := true }
def LassoMoreUptoSaid : Prop := lassoMoreUptoRow.holds Try.pinned (OpenSpec.upto lassoMoreSpec)

/-- 'gabletlaw16.LassoChain', WHERE WHAT IT READS IS OF BULK AT MOST 1048576: true; the input reads as it did. -/
def lassoChainUptoRow : OpenClaim := { program := "ytoojalcfojflhaa", sum := "41859f762ba6a405315df65dcc3d5cab4bf769b3533d943279e334c2a9332ea0", func := "gablet/gabletlaw16.LassoChain", spec := "lassoChain", unfollowed := true, recurses := true, apart := false, narrowed := true }
def LassoChainUptoSaid : Prop := lassoChainUptoRow.holds Try.pinned (OpenSpec.upto lassoChainSpec)

end Rows
end Go.Proofs.Ytoojalcfojflhaa
