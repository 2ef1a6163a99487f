/- Programs by numbers: what picks numbers; expressions. Programs by numbers: expressions. Programs by numbers: a statement, its parts' answers given. Programs by numbers: a statement: the walk. Programs by numbers: statements: the walk. -/
import Derived.Deep.RegionLaw
import Derived.IntWalk
import Derived.Test.YtliajkheeniljaaGreatDoorZaExpQ
import Derived.Test.YtliajkheeniljaaGreatDoorZaFits
import Derived.Test.YtliajkheeniljaaGreatDoorZaShort
set_option linter.all false
namespace Go.Proofs.YtliajkheeniljaaGreatDoor
open Go.RowKit
set_option maxRecDepth 100000
set_option maxHeartbeats 16000000
structure ziG (W0 X:World) (g:Nat) (lv:Value) (a:Nat):Prop where
 below:Below W0.heap.size W0 X
 lo:W0.heap.size<=g
 box:X.heap[g]? =some (.cells #[lv, .int .i64 a] 132 (0,0))
end Go.Proofs.YtliajkheeniljaaGreatDoor
namespace Go.Proofs.YtliajkheeniljaaGreatDoor
open Go.RowKit
set_option maxRecDepth 100000
set_option maxHeartbeats 16000000
end Go.Proofs.YtliajkheeniljaaGreatDoor
namespace Go.Proofs.YtliajkheeniljaaGreatDoor
open Go.RowKit
set_option maxRecDepth 100000
set_option maxHeartbeats 16000000
def zqr:Nat->Nat
 |0=>20
 |d+1=>20+3*zqr d
def zqs:Nat->Nat
 |0=>1
 |d+1=>1+3*zqs d
def zzj:List Value:= [.int .i64 0, .int .i64 0, .int .i64 0, .int .i64 0, .int .i64 0, .int .u8 0, .slice none 0 0, .int .i64 0, .int .i64 0, .int .u8 0, .slice none 0 0, .slice none 0 0, .slice none 0 0]
structure StL (W0 w X:World) (g gb gr:Nat) (lv:Value) (a:Nat) (cs:List Value):Prop where
 mkr:ziG W0 X g lv a
 since:Since (fun k=>k=g) w X
 box:X.heap[gb]? =some (.cells cs.toArray 165 (0,0))
 res:X.heap[gr]? =some (.cells zzj.toArray 165 (0,0))
 lo:w.heap.size<=gb/\w.heap.size<=gr/\gb≠gr/\g<w.heap.size/\W0.heap.size<=w.heap.size
section
variable {W0 w X Y:World} {g gb gr:Nat} {lv:Value} {a b:Nat} {cs:List Value}
end
end Go.Proofs.YtliajkheeniljaaGreatDoor
namespace Go.Proofs.YtliajkheeniljaaGreatDoor
open Go.RowKit
set_option maxRecDepth 100000
set_option maxHeartbeats 16000000
end Go.Proofs.YtliajkheeniljaaGreatDoor
namespace Go.Proofs.YtliajkheeniljaaGreatDoor
open Go.RowKit
set_option maxRecDepth 100000
set_option maxHeartbeats 16000000
structure zBk (W0 w X:World) (g:Nat) (lv:Value) (vars dom:Int) (d a i:Nat) (va:Value) (L:List xG) (css:List (List Value)):Prop where
 mkr:∃a',ziG W0 X g lv a'/\a'<=a+i*zqr d
 since:Since (fun k=>k=g) w X
 len:L.length=i
 ok:bW vars dom L (d+1)=true
 many:za9 L<=i*zqs d
 row:qG (fun k=>k<w.heap.size\/va.ownBlock=some k) X (zzk 3 (d+1)) 13 w.heap.size 165 va L css
end Go.Proofs.YtliajkheeniljaaGreatDoor
