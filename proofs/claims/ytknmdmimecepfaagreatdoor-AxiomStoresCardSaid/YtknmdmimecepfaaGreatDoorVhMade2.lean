/- Steps. -/
import Derived.Test.YtknmdmimecepfaaGreatDoorVhMakerL
import Derived.Test.YtknmdmimecepfaaGreatDoorVhTail
set_option linter.all false
namespace Go.Proofs.YtknmdmimecepfaaGreatDoor
open Go.RowKit
set_option maxRecDepth 100000
set_option maxHeartbeats 16000000
def zjx:List Value:= [.string ⟨#[120]⟩, .string ⟨#[121]⟩, .string ⟨#[122]⟩]
def PF (va:Value) (g gp gr:Nat) (k:Nat):Prop:=va.ownBlock=some k\/k=g\/k=gp\/k=gr
structure zsZ (w X:World) (g gv gp gr:Nat) (sv:Value) (n dm i:Nat) (va:Value) (T:List (List yx)) (css:List (List Value)):Prop where
 mkr:∃a',zhL w X g sv a'/\a'<=10+i*5000
 box:X.heap[gp]? =some (.cells #[.slice (some ⟨gv,0,none⟩) n 3, .int .i64 dm,va] 93 (0,0))
 vars:X.heap[gv]? =some (.cells zjx.toArray 9 (0,0))
 res:X.heap[gr]? =some (.cells #[.slice none 0 0, .int .i64 0, .slice none 0 0] 93 (0,0))
 lo:w.heap.size<=g/\w.heap.size<=gv/\w.heap.size<=gp/\w.heap.size<=gr/\g≠gp/\g≠gr/\gp≠gr/\gv≠g/\gv≠gp/\gv≠gr
 len:T.length=i
 ok:∀l∈T,gX n dm l 20=true/\bT l<=52
 row:xY (PF va g gp gr) X (zmR 3 4) 1 w.heap.size 124 va T css
section
variable {w X Y:World} {g gv gp gr:Nat} {sv:Value} {n dm i:Nat} {va:Value} {T:List (List yx)} {css:List (List Value)}
end
end Go.Proofs.YtknmdmimecepfaaGreatDoor
namespace Go.Proofs.YtknmdmimecepfaaGreatDoor
open Go.RowKit
set_option maxRecDepth 100000
set_option maxHeartbeats 16000000
structure R2 (w X:World) (g gr:Nat) (sv:Value) (a:Nat) (mv mp:Option Nat):Prop where
 mkr:zhL w X g sv a
 res:X.heap[gr]? =some (.cells #[.slice none 0 0, .int .i64 0, .slice none 0 0] 93 (0,0))
 lo:w.heap.size<=gr/\g≠gr
 vars:∀b,mv=some b->X.heap[b]? =some (.cells zjx.toArray 9 (0,0))/\w.heap.size<=b/\b≠g/\b≠gr
 prog:∀b,mp=some b->X.heap[b]? =some (.cells #[.slice none 0 0, .int .i64 0, .slice none 0 0] 93 (0,0))/\w.heap.size<=b/\b≠g/\b≠gr
 ne:∀b c,mv=some b->mp=some c->b≠c
section
variable {w X Y:World} {g gr a b:Nat} {sv:Value} {mv mp:Option Nat}
end
end Go.Proofs.YtknmdmimecepfaaGreatDoor
namespace Go.Proofs.YtknmdmimecepfaaGreatDoor
open Go.RowKit
set_option maxRecDepth 100000
set_option maxHeartbeats 16000000
def CF (va:Value) (gb gr:Nat) (k:Nat):Prop:=va.ownBlock=some k\/k=gb\/k=gr
structure zta (e:Nat) (w X:World) (gb gr:Nat) (vn dom:Int) (va:Value) (cl:List (List zi)) (css:List (List Value)):Prop where
 below:Below w.heap.size w X
 box:X.heap[gb]? =some (.cells #[.int .i64 vn, .int .i64 dom,va] 25 (0,0))
 res:X.heap[gr]? =some (.cells #[.int .i64 0, .int .i64 0, .slice none 0 0] 25 (0,0))
 lo:w.heap.size<=gb/\w.heap.size<=gr/\gr≠gb
 row:xY (CF va gb gr) X (j5 e) 1 w.heap.size 40 va cl css
end Go.Proofs.YtknmdmimecepfaaGreatDoor
namespace Go.Proofs.YtknmdmimecepfaaGreatDoor
open Go.RowKit
set_option maxRecDepth 100000
set_option maxHeartbeats 16000000
def ztb (vars:Int):List zi:= [⟨2,0,0, .mk 1 1 0 [],default,0⟩,⟨1,0,vars - 1,default,default,0⟩,⟨9,0,0, .mk 2 0 0 [],default,0⟩]
def ztc (vars:Int):List Value:= [.int .i64 2, .int .i64 0, .int .i64 0, .int .i64 1, .int .i64 1, .int .u8 0, .slice none 0 0, .int .i64 0, .int .i64 0, .int .u8 0, .slice none 0 0, .int .i64 0,
 .int .i64 1, .int .i64 0, .int .i64 (vars - 1), .int .i64 0, .int .i64 0, .int .u8 0, .slice none 0 0, .int .i64 0, .int .i64 0, .int .u8 0, .slice none 0 0, .int .i64 0,
 .int .i64 9, .int .i64 0, .int .i64 0, .int .i64 2, .int .i64 0, .int .u8 0, .slice none 0 0, .int .i64 0, .int .i64 0, .int .u8 0, .slice none 0 0, .int .i64 0]
structure zse (w X:World) (gc gr g:Nat) (vars dom:Int) (n cap:Nat) (cl:List (List zi)):Prop where
 below:Below w.heap.size w X
 box:X.heap[gc]? =some (.cells #[.int .i64 vars, .int .i64 dom, .slice (some ⟨g,0,none⟩) n cap] 25 (0,0))
 res:X.heap[gr]? =some (.cells #[.int .i64 0, .int .i64 0, .slice none 0 0] 25 (0,0))
 lo:w.heap.size<=gc/\w.heap.size<=gr/\w.heap.size<=g/\gc≠gr/\g≠gc/\g≠gr
 row:∃cur:Array Value,X.heap[g]? =some (.cells cur 40 (0,0))/\n<=cur.size/\∀j,j<n->∃a c,cur[j]? =some (.slice a (cl.getD j []).length c)/\uq (λk=>k=g) X (λy=>j5 3 y (cl.getD j []) [.slice a (cl.getD j []).length c])
 len:cl.length=n
 ok:∀j,j<n->rowOk vars dom (cl.getD j [])=true
 room:n<=cap/\cap<=9223372036854775807
section
variable {w X:World} {gc gr g n cap:Nat} {vars dom:Int} {cl:List (List zi)}
end
end Go.Proofs.YtknmdmimecepfaaGreatDoor
namespace Go.Proofs.YtknmdmimecepfaaGreatDoor
open Go.RowKit
set_option maxRecDepth 100000
set_option maxHeartbeats 16000000
