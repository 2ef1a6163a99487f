/- Steps. -/
import Derived.Test.YtknmdmimecepfaaGreatDoorVhData
set_option linter.all false
namespace Go.Proofs.YtknmdmimecepfaaGreatDoor
open Go.RowKit
set_option maxRecDepth 100000
set_option maxHeartbeats 16000000
def qR (op:Int):Bool:=decide (op=43\/op=45\/op=42\/op=60\/op=38\/op=124\/op=61\/op=33)
theorem zms (op:Int):(strOfNums [op]).toList.isEmpty=false:=by
 rw [ByteArray.toList_eq,strOfNums_data];rfl
theorem zkh (w:World) (op:Int):(convert 22 9 (.slice (some ⟨w.heap.size,0,none⟩) 1 1)).run Tryz.prog (w.alloc (.cells #[.int .u8 op] 5))= .ok (.string (strOfNums [op])) (w.alloc (.cells #[.int .u8 op] 5)):=
 run_convert_bytes_arg _ 22 5 Tryz.underlying22 Tryz.underlying5 w.heap.size 0 1 1 [op] rfl (λi hi=>by
  obtain rfl:i=0:=by omega
  exact ze (yG w _) 0) 9 Tryz.underlying9
def j3 (x:zC):Bool:=decide (x.kind=0) && decide (x.n=0) && decide (x.op=0) && decide (x.kids.length=0)
def zS (dom:Int):Nat->zC->Bool
 |0,_=>false
 |d+1,x=>
 if x.kind=1 then decide (0<=x.n) && decide (x.n<dom) && decide (x.op=0) && decide (x.kids.length=0)
 else if x.kind=2 then decide (0<=x.n) && decide (x.n<4) && decide (x.op=0) && decide (x.kids.length=0)
 else if x.kind=3 then decide (x.n=0) && qR x.op && decide (x.kids.length=2) && zS dom d (x.kids.getD 0 default) && zS dom d (x.kids.getD 1 default)
 else false
def zaH (k:Int):Bool:=decide (k=1\/k=3\/k=6)
def zaI (k:Int):Bool:=decide (k=1\/k=2\/k=6\/k=7\/k=8)
def zaJ (k:Int):Bool:=decide (k=2\/k=3\/k=6\/k=9\/k=10\/k=11)
def hasB (k:Int):Bool:=decide (k=6)
