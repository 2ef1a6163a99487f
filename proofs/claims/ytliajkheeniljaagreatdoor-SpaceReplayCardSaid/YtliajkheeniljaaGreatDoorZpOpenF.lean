/- Steps. -/
import Derived.Lib.SmallJoins
import Derived.Test.YtliajkheeniljaaGreatDoorZpDo
set_option linter.all false
namespace Go.Proofs.YtliajkheeniljaaGreatDoor
open Go.RowKit Go.ChangeShapes Go.WideShapes Go.ChangeAt
set_option maxRecDepth 100000
set_option maxHeartbeats 16000000
theorem zgD {fs:Array Field} {i:Nat} {t:TypeId} {o:Nat} (h:(fs[i]?).map (λf=>(f.type,f.offset))=some (t,o)):∃f,fs[i]? =some f/\f.type=t/\f.offset=o:=by
 rw [Option.map_eq_some_iff] at h
 obtain⟨f,h1,h2⟩:=h
 exact⟨f,h1,(Prod.mk.inj h2).1,(Prod.mk.inj h2).2⟩
theorem zo6 {α:Type} {l:List α} (h:l.length=3):∃a b c,l= [a,b,c] :=by
 match l,h with
 | [a,b,c],_=>exact⟨a,b,c,rfl⟩
section
variable {H:Type} {enc:TypeId × Value->H} {w:World} {fuel:Nat} {x:DataW H × List MemPlace}
theorem zcU:Tryz.prog.cellsOf 3=1:=by kernel_rfl
theorem zi4 {cs:List Value} (h:DataW.trod enc Tryz.prog w 0 (λ_=>true) true fuel 3 cs=some x):∃q:Int,cs= [.int .i64 q] :=by
 obtain⟨q,hq, -, -⟩:=DataW.trod_int Tryz.underlying3 h
 exact⟨q,hq⟩
end
end Go.Proofs.YtliajkheeniljaaGreatDoor
namespace Go.Proofs.YtliajkheeniljaaGreatDoor
open Go.RowKit Go.ChangeShapes Go.WideShapes Go.ChangeAt
set_option maxRecDepth 100000
set_option maxHeartbeats 16000000
section
variable {H:Type} {enc:TypeId × Value->H} {w:World} {fuel:Nat} {x:DataW H × List MemPlace}
end
theorem zgi:Tryz.prog.underlying 32=some (.struct (Tryz.prog.fieldsOf 32)):=by kernel_rfl
theorem zlw:Tryz.prog.cellsOf 32=3:=by kernel_rfl
theorem zwW:(Tryz.prog.fieldsOf 32).size=3:=by kernel_rfl
theorem zwX:((Tryz.prog.fieldsOf 32)[0]?).map (λf=>(f.type,f.offset))=some (3,0):=by kernel_rfl
theorem zwY:((Tryz.prog.fieldsOf 32)[1]?).map (λf=>(f.type,f.offset))=some (3,1):=by kernel_rfl
theorem zwZ:((Tryz.prog.fieldsOf 32)[2]?).map (λf=>(f.type,f.offset))=some (3,2):=by kernel_rfl
theorem zrt {H:Type} {enc:TypeId × Value->H} {w:World} {b0:Nat} {v:Value} {d:DataW H} {p:List MemPlace} (hv:Value.okWide Tryz.prog w .any b0 32 v) (h:DataW.Trod enc Tryz.prog w 0 (λ_=>true) true 32 v d p):∃x,v=zaD x:=by
 obtain⟨cs,rfl, -⟩:=okWide_struct zgi hv
 obtain⟨fuel,hf⟩:=h
 obtain⟨cl,hcl⟩:∃cl,cl=(Value.agg cs).cells.toList:=⟨_,rfl⟩
 rw [<-hcl] at hf
 have h:=hf
 obtain⟨xs,n,hfu, -,hl,hxl,hg⟩:=DataW.trod_struct zgi h
 rw [zwW] at hxl
 rw [zlw] at hl
 obtain⟨v0,v1,v2,hcv⟩:=zo6 hl
 subst hcv
 obtain⟨f0,g0,t0,o0⟩:=zgD zwX
 have h0:=hg 0 f0 g0
 rw [t0,o0,zcU,List.getElem?_eq_getElem (by omega)] at h0
 obtain⟨f1,g1,t1,o1⟩:=zgD zwY
 have h1:=hg 1 f1 g1
 rw [t1,o1,zcU,List.getElem?_eq_getElem (by omega)] at h1
 obtain⟨f2,g2,t2,o2⟩:=zgD zwZ
 have h2:=hg 2 f2 g2
 rw [t2,o2,zcU,List.getElem?_eq_getElem (by omega)] at h2
 simp only [List.drop_zero,List.drop_succ_cons,List.take_succ_cons,List.take_zero] at h0 h1 h2
 obtain⟨q0,e0⟩:=zi4 h0
 simp only [List.cons.injEq,and_true] at e0
 subst e0
 obtain⟨q1,e1⟩:=zi4 h1
 simp only [List.cons.injEq,and_true] at e1
 subst e1
 obtain⟨q2,e2⟩:=zi4 h2
 simp only [List.cons.injEq,and_true] at e2
 subst e2
 have hcs:cs= #[.int .i64 q0, .int .i64 q1, .int .i64 q2] :=by
  apply Array.toList_inj.1
  simpa [Value.cells] using hcl.symm
 exact⟨⟨q0,q1,q2⟩,by rw [hcs];rfl⟩
