/- Steps. -/
import Derived.Test.YtnhahkiojbanfaaGreatDoorRqFinP
set_option linter.all false
namespace Go.Proofs.YtnhahkiojbanfaaGreatDoor
open Go.RowKit
set_option maxRecDepth 100000
set_option maxHeartbeats 16000000
theorem zdh:∃i,Tryz.prog.info? 3=some i/\i.size=1:=by
 have h:(Tryz.prog.info? 3).map (λi=>i.size)=some 1:=by kernel_rfl
 cases hq:Tryz.prog.info? 3 with
 |none=>rw [hq] at h;cases h
 |some i=>rw [hq] at h;exact⟨i,rfl,by simpa using h⟩
theorem zmp:Tryz.prog.cellsOf 3=1:=by kernel_rfl
theorem zfE:Tryz.prog.underlying 3=some (.int .i64):=by kernel_rfl
theorem zfF:Tryz.prog.underlying 77=some (.array 4 3):=by kernel_rfl
theorem zdO (d:Nat) (w:World) (a b:Int):(Op.equalIn (d+1) 3 (.int .i64 a) (.int .i64 b)).run Tryz.prog w= .ok (a==b) w:=by
 simp [Op.equalIn,run_underlying zfE]
theorem vL (w:World) (xs:Array Value) (j:Nat) (a:Int) (h:xs[j]? =some (.int .i64 a)):(part 3 xs j).run Tryz.prog w= .ok (.int .i64 a) w:=by
 obtain⟨i,hi,hs⟩:=zdh
 have hagg:(isAgg 3).run Tryz.prog w= .ok false w:=by
  unfold isAgg
  rw [Sem.run_bind,run_underlying zfE w]
  rfl
 simp [part,Sem.run_bind,hagg,h]
@[go_sem] theorem zvF (w:World) (q0 q1 q2 q3 p0 p1 p2 p3:Int):(Op.equalIn 10000 77 (.agg #[.int .i64 q0, .int .i64 q1, .int .i64 q2, .int .i64 q3]) (.agg #[.int .i64 p0, .int .i64 p1, .int .i64 p2, .int .i64 p3])).run Tryz.prog w
  = .ok (decide (([q0,q1,q2,q3] :List Int)= [p0,p1,p2,p3])) w:=by
 obtain⟨i,hi,hs⟩:=zdh
 rw [run_equalIn_array w 9999 _ _ zfF hi,zmp]
 have e:List.range 4= [0,1,2,3] :=rfl
 rw [e]
 have g0:=λ(w:World) (a b c d:Int)=>vL w #[.int .i64 a, .int .i64 b, .int .i64 c, .int .i64 d] 0 a rfl
 have g1:=λ(w:World) (a b c d:Int)=>vL w #[.int .i64 a, .int .i64 b, .int .i64 c, .int .i64 d] 1 b rfl
 have g2:=λ(w:World) (a b c d:Int)=>vL w #[.int .i64 a, .int .i64 b, .int .i64 c, .int .i64 d] 2 c rfl
 have g3:=λ(w:World) (a b c d:Int)=>vL w #[.int .i64 a, .int .i64 b, .int .i64 c, .int .i64 d] 3 d rfl
 have ge:=zdO 9998
 by_cases h0:q0=p0
 ·by_cases h1:q1=p1
  ·by_cases h2:q2=p2
   ·by_cases h3:q3=p3
    ·simp [Op.eqItems,g0,g1,g2,g3,ge,h0,h1,h2,h3]
    simp [Op.eqItems,g0,g1,g2,g3,ge,h0,h1,h2,h3]
   simp [Op.eqItems,g0,g1,g2,g3,ge,h0,h1,h2]
  simp [Op.eqItems,g0,g1,g2,g3,ge,h0,h1]
 simp [Op.eqItems,g0,g1,g2,g3,ge,h0]
