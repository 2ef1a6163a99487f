/- Steps. -/
import Derived.Deep.RegionLaw
import Derived.Test.YtknmdmimecepfaaGreatDoorVhBlocks
set_option linter.all false
namespace Go.Proofs.YtknmdmimecepfaaGreatDoor
open Go.RowKit
set_option maxRecDepth 100000
set_option maxHeartbeats 16000000
structure zhL (W0 X:World) (g:Nat) (lv:Value) (a:Nat):Prop where
 below:Below W0.heap.size W0 X
 lo:W0.heap.size<=g
 box:X.heap[g]? =some (.cells #[lv, .int .i64 a] 127 (0,0))
end Go.Proofs.YtknmdmimecepfaaGreatDoor
namespace Go.Proofs.YtknmdmimecepfaaGreatDoor
open Go.RowKit
set_option maxRecDepth 100000
set_option maxHeartbeats 16000000
def zlR:Nat->Nat
 |0=>20
 |d+1=>20+3*zlR d
def zlS:Nat->Nat
 |0=>1
 |d+1=>1+3*zlS d
def zpn:List Value:= [.int .i64 0, .int .i64 0, .int .i64 0, .int .i64 0, .int .i64 0, .int .u8 0, .slice none 0 0, .int .i64 0, .int .i64 0, .int .u8 0, .slice none 0 0, .slice none 0 0, .slice none 0 0]
structure StL (W0 w X:World) (g gb gr:Nat) (lv:Value) (a:Nat) (cs:List Value):Prop where
 mkr:zhL W0 X g lv a
 since:Since (λk=>k=g) w X
 box:X.heap[gb]? =some (.cells cs.toArray 151 (0,0))
 res:X.heap[gr]? =some (.cells zpn.toArray 151 (0,0))
 lo:w.heap.size<=gb/\w.heap.size<=gr/\gb≠gr/\g<w.heap.size/\W0.heap.size<=w.heap.size
section
variable {W0 w X Y:World} {g gb gr:Nat} {lv:Value} {a b:Nat} {cs:List Value}
def SF (w:World) (gb gr k:Nat):Prop:=k<w.heap.size\/k=gb\/k=gr
end
end Go.Proofs.YtknmdmimecepfaaGreatDoor
namespace Go.Proofs.YtknmdmimecepfaaGreatDoor
open Go.RowKit
set_option maxRecDepth 100000
set_option maxHeartbeats 16000000
structure zte (W0 w X:World) (g:Nat) (lv:Value) (vars dom:Int) (d a i:Nat) (va:Value) (L:List yx) (css:List (List Value)):Prop where
 mkr:∃a',zhL W0 X g lv a'/\a'<=a+i*zlR d
 since:Since (λk=>k=g) w X
 len:L.length=i
 ok:gX vars dom L (d+1)=true
 many:bT L<=i*zlS d
 row:xY (λk=>k<w.heap.size\/va.ownBlock=some k) X (zoT 3 (d+1)) 13 w.heap.size 151 va L css
