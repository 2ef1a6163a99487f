/- Code and states that came in: how they lie in memory. -/
import Derived.Lib.SmallJoins
import Derived.OpenShut
import Derived.Test.YtliajkheeniljaaGreatDoorZaData
import Derived.Test.YtliajkheeniljaaGreatDoorZaShort
set_option linter.all false
namespace Go.Proofs.YtliajkheeniljaaGreatDoor
open Go.RowKit Go.ChangeShapes Go.WideShapes Go.ChangeAt
set_option maxRecDepth 100000
set_option maxHeartbeats 16000000
theorem yU {fs:Array Field} {i:Nat} {t:TypeId} {o:Nat} (h:(fs[i]?).map (fun f=>(f.type,f.offset))=some (t,o)):∃f,fs[i]? =some f/\f.type=t/\f.offset=o:=by
 rw [Option.map_eq_some_iff] at h
 obtain⟨f,h1,h2⟩:=h
 exact⟨f,h1,(Prod.mk.inj h2).1,(Prod.mk.inj h2).2⟩
theorem zcB {α:Type} (n:Nat) (P:Nat->α->Prop) (h:∀i,i<n->∃x,P i x):∃l:List α,l.length=n/\∀i (hi:i<l.length),P i l[i] :=by
 induction n with
 |zero=>exact⟨[],rfl,fun i hi=>by simp at hi⟩
 |succ n ih=>
  obtain⟨l,hl,hp⟩:=ih (fun i hi=>h i (by omega))
  obtain⟨x,hx⟩:=h n (by omega)
  refine⟨l++ [x],by simp [hl],fun i hi=> ?_⟩
  by_cases he:i<l.length
  ·rw [List.getElem_append_left he];exact hp i he
  ·have:i=l.length:=by simp at hi;omega
   subst this
   rw [List.getElem_append_right (by omega)]
   simp [hl];exact hx
theorem zeQ {w:World} {a:Addr} {v:Value} (h:w.cell? ((a.add 0).add 0)=some v):∃b off,a=⟨b,off,none⟩:=by
 obtain⟨b,off,spot⟩:=a
 have hspot:spot=none:=by simpa [Addr.add] using World.cell?_spot h
 subst hspot
 exact⟨b,off,rfl⟩
theorem zgd {α:Type} {l:List α} (h:l.length=2):∃a b,l= [a,b] :=by
 match l,h with
 | [a,b],_=>exact⟨a,b,rfl⟩
theorem zaX {α:Type} {l:List α} (h:l.length=3):∃a b c,l= [a,b,c] :=by
 match l,h with
 | [a,b,c],_=>exact⟨a,b,c,rfl⟩
theorem zmc {α:Type} {l:List α} (h:l.length=4):∃a b c d,l= [a,b,c,d] :=by
 match l,h with
 | [a,b,c,d],_=>exact⟨a,b,c,d,rfl⟩
theorem znM {α:Type} {l:List α} (h:l.length=6):∃a b c d e f,l= [a,b,c,d,e,f] :=by
 match l,h with
 | [a,b,c,d,e,f],_=>exact⟨a,b,c,d,e,f,rfl⟩
theorem zhz {α:Type} {l:List α} (h:l.length=12):∃a b c d e f a' b' c' d' e' f',l= [a,b,c,d,e,f,a',b',c',d',e',f'] :=by
 match l,h with
 | [a,b,c,d,e,f,a',b',c',d',e',f'],_=>exact⟨a,b,c,d,e,f,a',b',c',d',e',f',rfl⟩
theorem zmd {α:Type} [Inhabited α] {R:World->α->List Value->Prop} {size:Nat} {t e:TypeId} {H:Type} {enc:TypeId × Value->H} {w:World} {fuel:Nat} {c:Value} {x:DataW H × List MemPlace}
  (ht:Tryz.prog.underlying t=some (.slice e)) (hce:Tryz.prog.cellsOf e=size) (hs:0<size) (hopen:∀m cs y,m<fuel->DataW.trod enc Tryz.prog w 0 (fun _=>true) true m e cs=some y->cs.length=size->∃q,R w q cs)
  (h:DataW.trod enc Tryz.prog w 0 (fun _=>true) true fuel t [c] =some x):∃l,zl R size w c l:=by
 rcases DataW.trod_slice ht h with⟨hc, -⟩|⟨a,len,cap,elems,rest,m,hm,hc, -, -,hlc,hcm,hel,he, -⟩
 ·simp only [List.cons.injEq,and_true] at hc
  subst hc
  exact⟨[],none,0,rfl,by simp,fun j hj=>by simp at hj⟩
 ·simp only [List.cons.injEq,and_true] at hc
  subst hc
  rw [hce] at he
  have znK:∀i,i<len->∃q:α × List Value,(q.2.length=size/\∀j,j<size->w.cell? ((a.add (i*size)).add j)=q.2[j]?)/\R w q.1 q.2:=by
   intro i hi
   have:=he i hi
   rw [List.getElem?_eq_getElem (by omega),Option.bind_eq_some_iff] at this
   obtain⟨cs',h3,h4⟩:=this
   obtain⟨-,hcl,hcell⟩:=World.cells?_some h3
   obtain⟨q,hq⟩:=hopen m cs' _ (by omega) h4 hcl
   exact⟨(q,cs'),⟨hcl,hcell⟩,hq⟩
  obtain⟨l,hll,hlp⟩:=zcB len _ znK
  have hmax:len<=cap/\cap<=9223372036854775807:=by unfold maxLen at hcm;exact⟨hlc,by omega⟩
  refine⟨l.map (·.1),some a,cap,by simp [hll],by simp [hll];exact hmax,fun j hj=> ?_⟩
  simp only [List.length_map] at hj
  obtain⟨⟨hl1,hc1⟩,hc2⟩:=hlp j hj
  have h00:∃v,w.cell? ((a.add 0).add 0)=some v:=by
   obtain⟨⟨k1,k2⟩, -⟩:=hlp 0 (by omega)
   have:=k2 0 hs
   rw [Nat.zero_mul,List.getElem?_eq_getElem (by omega)] at this
   exact⟨_,this⟩
  obtain⟨v,hv⟩:=h00
  obtain⟨b,off,rfl⟩:=zeQ hv
  have hcell:∀i,i<size->w.cell? ⟨b,off+j*size+i,none⟩=(l[j]).2[i]? :=fun i hi=>by
   have:=hc1 i hi
   rw [add_plain,add_plain] at this;exact this
  refine⟨b,off,(l[j]).2,rfl, ?_,hl1,hcell, ?_⟩
  ·have:=hcell 0 hs
   rw [List.getElem?_eq_getElem (by omega)] at this
   exact World.block_lt_of_cell? w _ this
  ·rw [show(l.map (·.1)).getD j default=(l[j]).1 by simp [List.getD_eq_getElem?_getD,hj]]
   exact hc2
section
variable {H:Type} {enc:TypeId × Value->H} {w:World} {fuel:Nat} {x:DataW H × List MemPlace}
theorem yX:Tryz.prog.cellsOf 3=1:=by kernel_rfl
theorem zg8:Tryz.prog.cellsOf 5=1:=by kernel_rfl
theorem zfZ:Tryz.prog.cellsOf 4=1:=by kernel_rfl
theorem xR {cs:List Value} (h:DataW.trod enc Tryz.prog w 0 (fun _=>true) true fuel 3 cs=some x):∃q:Int,cs= [.int .i64 q] :=by
 obtain⟨q,hq, -, -⟩:=DataW.trod_int Tryz.underlying3 h
 exact⟨q,hq⟩
theorem zjw:Tryz.prog.underlying 62=some (.struct (Tryz.prog.fieldsOf 62)):=by kernel_rfl
theorem gU:Tryz.prog.cellsOf 62=4:=by kernel_rfl
theorem zrE:(Tryz.prog.fieldsOf 62).size=4:=by kernel_rfl
theorem zrF:((Tryz.prog.fieldsOf 62)[0]?).map (fun f=>(f.type,f.offset))=some (3,0):=by kernel_rfl
theorem zrG:((Tryz.prog.fieldsOf 62)[1]?).map (fun f=>(f.type,f.offset))=some (3,1):=by kernel_rfl
theorem zrH:((Tryz.prog.fieldsOf 62)[2]?).map (fun f=>(f.type,f.offset))=some (5,2):=by kernel_rfl
theorem zrI:((Tryz.prog.fieldsOf 62)[3]?).map (fun f=>(f.type,f.offset))=some (60,3):=by kernel_rfl
theorem zh0:Tryz.prog.underlying 50=some (.struct (Tryz.prog.fieldsOf 50)):=by kernel_rfl
theorem zb2:Tryz.prog.cellsOf 50=2:=by kernel_rfl
theorem zo2:(Tryz.prog.fieldsOf 50).size=2:=by kernel_rfl
theorem zo3:((Tryz.prog.fieldsOf 50)[0]?).map (fun f=>(f.type,f.offset))=some (3,0):=by kernel_rfl
theorem zo4:((Tryz.prog.fieldsOf 50)[1]?).map (fun f=>(f.type,f.offset))=some (3,1):=by kernel_rfl
theorem zbT:Tryz.prog.underlying 48=some (.struct (Tryz.prog.fieldsOf 48)):=by kernel_rfl
theorem zaB:Tryz.prog.cellsOf 48=6:=by kernel_rfl
theorem zlg:(Tryz.prog.fieldsOf 48).size=3:=by kernel_rfl
theorem zlh:((Tryz.prog.fieldsOf 48)[0]?).map (fun f=>(f.type,f.offset))=some (3,0):=by kernel_rfl
theorem zli:((Tryz.prog.fieldsOf 48)[1]?).map (fun f=>(f.type,f.offset))=some (45,1):=by kernel_rfl
theorem zlj:((Tryz.prog.fieldsOf 48)[2]?).map (fun f=>(f.type,f.offset))=some (46,5):=by kernel_rfl
theorem uJ:Tryz.prog.underlying 30=some (.struct (Tryz.prog.fieldsOf 30)):=by kernel_rfl
theorem zfp:Tryz.prog.cellsOf 30=3:=by kernel_rfl
theorem znN:(Tryz.prog.fieldsOf 30).size=3:=by kernel_rfl
theorem znO:((Tryz.prog.fieldsOf 30)[0]?).map (fun f=>(f.type,f.offset))=some (27,0):=by kernel_rfl
theorem znP:((Tryz.prog.fieldsOf 30)[1]?).map (fun f=>(f.type,f.offset))=some (28,1):=by kernel_rfl
theorem znQ:((Tryz.prog.fieldsOf 30)[2]?).map (fun f=>(f.type,f.offset))=some (4,2):=by kernel_rfl
theorem zh1:Tryz.prog.underlying 64=some (.struct (Tryz.prog.fieldsOf 64)):=by kernel_rfl
theorem zb1:Tryz.prog.cellsOf 64=12:=by kernel_rfl
theorem zo5:(Tryz.prog.fieldsOf 64).size=6:=by kernel_rfl
theorem zo6:((Tryz.prog.fieldsOf 64)[0]?).map (fun f=>(f.type,f.offset))=some (3,0):=by kernel_rfl
theorem zo7:((Tryz.prog.fieldsOf 64)[1]?).map (fun f=>(f.type,f.offset))=some (3,1):=by kernel_rfl
theorem zo8:((Tryz.prog.fieldsOf 64)[2]?).map (fun f=>(f.type,f.offset))=some (3,2):=by kernel_rfl
theorem zo9:((Tryz.prog.fieldsOf 64)[3]?).map (fun f=>(f.type,f.offset))=some (62,3):=by kernel_rfl
theorem zoA:((Tryz.prog.fieldsOf 64)[4]?).map (fun f=>(f.type,f.offset))=some (62,7):=by kernel_rfl
theorem zoB:((Tryz.prog.fieldsOf 64)[5]?).map (fun f=>(f.type,f.offset))=some (3,11):=by kernel_rfl
theorem zaY:Tryz.prog.underlying 24=some (.struct (Tryz.prog.fieldsOf 24)):=by kernel_rfl
theorem zga:Tryz.prog.cellsOf 24=3:=by kernel_rfl
theorem zqD:(Tryz.prog.fieldsOf 24).size=3:=by kernel_rfl
theorem zqE:((Tryz.prog.fieldsOf 24)[0]?).map (fun f=>(f.type,f.offset))=some (3,0):=by kernel_rfl
theorem zqF:((Tryz.prog.fieldsOf 24)[1]?).map (fun f=>(f.type,f.offset))=some (3,1):=by kernel_rfl
theorem zqG:((Tryz.prog.fieldsOf 24)[2]?).map (fun f=>(f.type,f.offset))=some (22,2):=by kernel_rfl
theorem zjx:Tryz.prog.cellsOf 60=1:=by kernel_rfl
theorem ziI:Tryz.prog.cellsOf 45=4:=by kernel_rfl
theorem ziJ:Tryz.prog.cellsOf 46=1:=by kernel_rfl
theorem ziL:Tryz.prog.cellsOf 27=1:=by kernel_rfl
theorem ziM:Tryz.prog.cellsOf 28=1:=by kernel_rfl
theorem ziO:Tryz.prog.cellsOf 22=1:=by kernel_rfl
theorem zg9 (fuel:Nat):∀(cs:List Value) (x:DataW H × List MemPlace),DataW.trod enc Tryz.prog w 0 (fun _=>true) true fuel 62 cs=some x->∃q kv,cs=zR.cells q kv/\zF fuel w q kv:=by
 induction fuel using Nat.strongRecOn with
 |ind fuel ih=>
  intro cs x h
  obtain⟨xs,n,hfu, -,hl,hxl,hg⟩:=DataW.trod_struct zjw h
  rw [zrE] at hxl
  rw [gU] at hl
  obtain⟨v0,v1,v2,v3,rfl⟩:=zmc hl
  obtain⟨f0,g0,t0,o0⟩:=yU zrF
  have h0:=hg 0 f0 g0
  rw [t0,o0,yX,List.getElem?_eq_getElem (by omega)] at h0
  obtain⟨f1,g1,t1,o1⟩:=yU zrG
  have h1:=hg 1 f1 g1
  rw [t1,o1,yX,List.getElem?_eq_getElem (by omega)] at h1
  obtain⟨f2,g2,t2,o2⟩:=yU zrH
  have h2:=hg 2 f2 g2
  rw [t2,o2,zg8,List.getElem?_eq_getElem (by omega)] at h2
  obtain⟨f3,g3,t3,o3⟩:=yU zrI
  have h3:=hg 3 f3 g3
  rw [t3,o3,zjx,List.getElem?_eq_getElem (by omega)] at h3
  simp only [List.drop_zero,List.drop_succ_cons,List.take_succ_cons,List.take_zero] at h0 h1 h2 h3
  obtain⟨q0,e0⟩:=xR h0
  simp only [List.cons.injEq,and_true] at e0
  subst e0
  obtain⟨q1,e1⟩:=xR h1
  simp only [List.cons.injEq,and_true] at e1
  subst e1
  obtain⟨q2,e2, -, -⟩:=DataW.trod_int Tryz.underlying5 h2
  simp only [List.cons.injEq,and_true] at e2
  subst e2
  obtain⟨l,hl⟩:=zmd (R:=fun w y cs=>∃kv',cs=zR.cells y kv'/\zF n w y kv') Tryz.underlying60 gU (by decide) (fun m cs y hm hy _=>by
   obtain⟨q,kv,e,hq⟩:=ih m (by omega) cs y hy
   exact⟨q,kv,e,hq.le (by omega)⟩) h3
  exact⟨.mk q0 q1 q2 l,v3,rfl,by rw [hfu];exact hl⟩
theorem zlk {cs:List Value} (h:DataW.trod enc Tryz.prog w 0 (fun _=>true) true fuel 50 cs=some x):∃q,jK w q cs:=by
 obtain⟨xs,n,hfu, -,hl,hxl,hg⟩:=DataW.trod_struct zh0 h
 rw [zo2] at hxl
 rw [zb2] at hl
 obtain⟨v0,v1,rfl⟩:=zgd hl
 obtain⟨f0,g0,t0,o0⟩:=yU zo3
 have h0:=hg 0 f0 g0
 rw [t0,o0,yX,List.getElem?_eq_getElem (by omega)] at h0
 obtain⟨f1,g1,t1,o1⟩:=yU zo4
 have h1:=hg 1 f1 g1
 rw [t1,o1,yX,List.getElem?_eq_getElem (by omega)] at h1
 simp only [List.drop_zero,List.drop_succ_cons,List.take_succ_cons,List.take_zero] at h0 h1
 obtain⟨q0,e0⟩:=xR h0
 simp only [List.cons.injEq,and_true] at e0
 subst e0
 obtain⟨q1,e1⟩:=xR h1
 simp only [List.cons.injEq,and_true] at e1
 subst e1
 exact⟨⟨q0,q1⟩,rfl⟩
theorem zld {cs:List Value} {d:Nat} (hd:fuel<=d) (h:DataW.trod enc Tryz.prog w 0 (fun _=>true) true fuel 64 cs=some x):∃q,kL d w q cs:=by
 obtain⟨xs,n,hfu, -,hl,hxl,hg⟩:=DataW.trod_struct zh1 h
 rw [zo5] at hxl
 rw [zb1] at hl
 obtain⟨v0,v1,v2,v3,v4,v5,v6,v7,v8,v9,v10,v11,rfl⟩:=zhz hl
 obtain⟨f0,g0,t0,o0⟩:=yU zo6
 have h0:=hg 0 f0 g0
 rw [t0,o0,yX,List.getElem?_eq_getElem (by omega)] at h0
 obtain⟨f1,g1,t1,o1⟩:=yU zo7
 have h1:=hg 1 f1 g1
 rw [t1,o1,yX,List.getElem?_eq_getElem (by omega)] at h1
 obtain⟨f2,g2,t2,o2⟩:=yU zo8
 have h2:=hg 2 f2 g2
 rw [t2,o2,yX,List.getElem?_eq_getElem (by omega)] at h2
 obtain⟨f3,g3,t3,o3⟩:=yU zo9
 have h3:=hg 3 f3 g3
 rw [t3,o3,gU,List.getElem?_eq_getElem (by omega)] at h3
 obtain⟨f4,g4,t4,o4⟩:=yU zoA
 have h4:=hg 4 f4 g4
 rw [t4,o4,gU,List.getElem?_eq_getElem (by omega)] at h4
 obtain⟨f5,g5,t5,o5⟩:=yU zoB
 have h5:=hg 5 f5 g5
 rw [t5,o5,yX,List.getElem?_eq_getElem (by omega)] at h5
 simp only [List.drop_zero,List.drop_succ_cons,List.take_succ_cons,List.take_zero] at h0 h1 h2 h3 h4 h5
 obtain⟨q0,e0⟩:=xR h0
 simp only [List.cons.injEq,and_true] at e0
 subst e0
 obtain⟨q1,e1⟩:=xR h1
 simp only [List.cons.injEq,and_true] at e1
 subst e1
 obtain⟨q2,e2⟩:=xR h2
 simp only [List.cons.injEq,and_true] at e2
 subst e2
 obtain⟨q5,e5⟩:=xR h5
 simp only [List.cons.injEq,and_true] at e5
 subst e5
 obtain⟨a,ka,ea,ha⟩:=zg9 _ _ _ h3
 obtain⟨b,kb,eb,hb⟩:=zg9 _ _ _ h4
 unfold zR.cells at ea eb
 simp only [List.cons.injEq,and_true] at ea eb
 obtain⟨rfl,rfl,rfl,rfl⟩:=ea
 obtain⟨rfl,rfl,rfl,rfl⟩:=eb
 exact⟨⟨q0,q1,q2,a,b,q5⟩,v6,v10,rfl,ha.le (by omega),hb.le (by omega)⟩
theorem zhs:Tryz.prog.cellsOf 59=1:=by kernel_rfl
end
end Go.Proofs.YtliajkheeniljaaGreatDoor
