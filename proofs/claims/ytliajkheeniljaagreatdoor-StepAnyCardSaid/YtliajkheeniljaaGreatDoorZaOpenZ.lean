/- Code, a machine, a state, a move that came in: how they lie in memory, and how long the form's reach lets them be. -/
import Derived.SizedLaws
import Derived.Test.YtliajkheeniljaaGreatDoorZaDo
import Derived.Test.YtliajkheeniljaaGreatDoorZaOpenF
import Derived.Test.YtliajkheeniljaaGreatDoorZaShort
set_option linter.all false
namespace Go.Proofs.YtliajkheeniljaaGreatDoor
open Go.RowKit Go.ChangeShapes Go.WideShapes Go.ChangeAt
set_option maxRecDepth 100000
set_option maxHeartbeats 16000000
theorem zcA {H:Type} {P:Program} {e:TypeId} :∀ {ds:List (DataW H)} {d:DataW H},d∈ds->∀n∈d.weights P e,n∈DataW.weightsAll P e ds
 |d0::ds,d,hd,n,hn=>by
  unfold DataW.weightsAll
  rw [List.mem_append]
  rcases List.mem_cons.1 hd with rfl|hd
  ·exact .inl hn
  ·exact .inr (zcA hd n hn)
 | [],_,hd,_,_=>by cases hd
theorem gH {α:Type} [Inhabited α] {R:World->α->List Value->Prop} {Z:α->Prop} {size:Nat} {t e:TypeId} {H:Type} {enc:TypeId × Value->H} {w:World} {fuel:Nat} {c:Value} {x:DataW H × List MemPlace}
  (ht:Tryz.prog.underlying t=some (.slice e)) (hce:Tryz.prog.cellsOf e=size) (hs:0<size) (hby:0<Tryz.prog.bytesOf e)
  (hopen:∀m cs y,m<fuel->DataW.trod enc Tryz.prog w 0 (fun _=>true) true m e cs=some y->cs.length=size->(∀n∈y.1.weights Tryz.prog e,n<=reachBytes)->∃q,R w q cs/\Z q)
  (h:DataW.trod enc Tryz.prog w 0 (fun _=>true) true fuel t [c] =some x) (hz:∀n∈x.1.weights Tryz.prog t,n<=reachBytes):∃l,zl R size w c l/\l.length<=reachBytes/\∀j,j<l.length->Z (l.getD j default):=by
 rcases DataW.trod_slice ht h with⟨hc, -⟩|⟨a,len,cap,elems,rest,m,hm,hc,hx, -,hlc,hcm,hel,he, -⟩
 ·simp only [List.cons.injEq,and_true] at hc
  subst hc
  exact⟨[],⟨none,0,rfl,by simp,fun j hj=>by simp at hj⟩,by simp,fun j hj=>by simp at hj⟩
 ·simp only [List.cons.injEq,and_true] at hc
  subst hc
  rw [hce] at he
  subst hx
  have hwt:DataW.weights Tryz.prog t (.slice (elems.map (·.1)) (rest.map (·.1)))=(elems.length+rest.length)*Tryz.prog.bytesOf e::(DataW.weightsAll Tryz.prog e (elems.map (·.1))++DataW.weightsAll Tryz.prog e (rest.map (·.1))):=by simp only [DataW.weights,ht,List.length_map]
  have hzz:=hz
  simp only [hwt] at hzz
  have hlen:len<=reachBytes:=by
   have h1:=hzz _ (List.mem_cons_self ..)
   have h2:(elems.length+rest.length)*1<=(elems.length+rest.length)*Tryz.prog.bytesOf e:=Nat.mul_le_mul_left _ hby
   omega
  have znK:∀i,i<len->∃q:α × List Value,(q.2.length=size/\∀j,j<size->w.cell? ((a.add (i*size)).add j)=q.2[j]?)/\R w q.1 q.2/\Z q.1:=by
   intro i hi
   have:=he i hi
   rw [List.getElem?_eq_getElem (by omega),Option.bind_eq_some_iff] at this
   obtain⟨cs',h3,h4⟩:=this
   obtain⟨-,hcl,hcell⟩:=World.cells?_some h3
   obtain⟨q,hq,hq2⟩:=hopen m cs' _ (by omega) h4 hcl (fun n hn=>hzz n (List.mem_cons_of_mem _ (List.mem_append_left _ (zcA (List.mem_map_of_mem (f:=fun z:DataW H × List MemPlace=>z.1) (List.getElem_mem (l:=elems) (n:=i) (by omega))) n hn))))
   exact⟨(q,cs'),⟨hcl,hcell⟩,hq,hq2⟩
  obtain⟨l,hll,hlp⟩:=zcB len _ znK
  have hmax:len<=cap/\cap<=9223372036854775807:=by unfold maxLen at hcm;exact⟨hlc,by omega⟩
  refine⟨l.map (·.1),⟨some a,cap,by simp [hll],by simp [hll];exact hmax,fun j hj=> ?_⟩,by simp [hll];exact hlen,fun j hj=> ?_⟩
  ·simp only [List.length_map] at hj
   obtain⟨⟨hl1,hc1⟩,hc2, -⟩:=hlp j hj
   have h00:∃v,w.cell? ((a.add 0).add 0)=some v:=by
    obtain⟨⟨k1,k2⟩, -⟩:=hlp 0 (by omega)
    have:=k2 0 hs
    rw [Nat.zero_mul,List.getElem?_eq_getElem (by omega)] at this
    exact⟨_,this⟩
   obtain⟨v,hv⟩:=h00
   obtain⟨b,off,rfl⟩:=zeQ hv
   have hcell:∀i,i<size->w.cell? ⟨b,off+j*size+i,none⟩=(l[j]).2[i]? :=fun i hi=>by
    have:=hc1 i hi
    rw [add_plain,add_plain] at this;exact this
   refine⟨b,off,(l[j]).2,rfl, ?_,hl1,hcell, ?_⟩
   ·have:=hcell 0 hs
    rw [List.getElem?_eq_getElem (by omega)] at this
    exact World.block_lt_of_cell? w _ this
   ·rw [show(l.map (·.1)).getD j default=(l[j]).1 by simp [List.getD_eq_getElem?_getD,hj]]
    exact hc2
  ·simp only [List.length_map] at hj
   rw [show(l.map (·.1)).getD j default=(l[j]).1 by simp [List.getD_eq_getElem?_getD,hj]]
   exact(hlp j hj).2.2
theorem wF {H:Type} {t:TypeId} {fs:Array Field} {xs:List (DataW H × List MemPlace)} {i:Nat} {f:Field} {y:DataW H × List MemPlace} (hu:Tryz.prog.underlying t=some (.struct fs)) (hf:fs[i]? =some f) (hy:xs[i]? =some y)
  (hz:∀n∈DataW.weights Tryz.prog t (.agg (xs.map (·.1))),n<=reachBytes):∀n∈y.1.weights Tryz.prog f.type,n<=reachBytes:=fun n hn=>hz n (by
 have hwt:DataW.weights Tryz.prog t (.agg (xs.map (·.1)))=DataW.weightsEach Tryz.prog (fs.toList.map (·.type)) (xs.map (·.1)):=by simp only [DataW.weights,hu]
 rw [hwt]
 exact DataW.weights_mem_each (j:=i) (t:=f.type) (d:=y.1) (by rw [List.getElem?_map,Array.getElem?_toList,hf];rfl) (by rw [List.getElem?_map,hy];rfl) n hn)
theorem zlb:0<Tryz.prog.bytesOf 59:=by decide+kernel
theorem zhq:0<Tryz.prog.bytesOf 64:=by decide+kernel
theorem zhr:0<Tryz.prog.bytesOf 50:=by decide+kernel
theorem zfY:0<Tryz.prog.bytesOf 48:=by decide+kernel
theorem zlc:0<Tryz.prog.bytesOf 3:=by decide+kernel
section
variable {H:Type} {enc:TypeId × Value->H} {w:World} {fuel:Nat} {x:DataW H × List MemPlace}
theorem znL {cs:List Value} {d:Nat} (hd:fuel<=d) (h:DataW.trod enc Tryz.prog w 0 (fun _=>true) true fuel 59 cs=some x) (hl:cs.length=1) (hz:∀n∈x.1.weights Tryz.prog 59,n<=reachBytes):∃q,xu d w q cs/\q.length<=reachBytes:=by
 obtain⟨v,rfl⟩:=List.length_eq_one_iff.1 hl
 obtain⟨l,hl,hn, -⟩:=gH (R:=kL d) (Z:=fun _=>True) Tryz.underlying59 zb1 (by decide) zhq (fun m cs y hm hy _ _=>by
  obtain⟨q,hq⟩:=zld (d:=d) (by omega) hy
  exact⟨q,hq,trivial⟩) h hz
 exact⟨l,⟨v,rfl,hl⟩,hn⟩
theorem zle {c:Value} (h:DataW.trod enc Tryz.prog w 0 (fun _=>true) true fuel 22 [c] =some x) (hz:∀n∈x.1.weights Tryz.prog 22,n<=reachBytes):∃l,yF fuel w c l/\l.length<=reachBytes/\∀j,j<l.length->(l.getD j default).length<=reachBytes:=
 gH (R:=xu fuel) (Z:=fun q:List yB=>q.length<=reachBytes) Tryz.underlying22 zhs (by decide) zlb (fun m cs y hm hy hl hz=>znL (by omega) hy hl hz) h hz
theorem zlf {c:Value} (h:DataW.trod enc Tryz.prog w 0 (fun _=>true) true fuel 28 [c] =some x) (hz:∀n∈x.1.weights Tryz.prog 28,n<=reachBytes):∃l,xH w c l/\l.length<=reachBytes:=by
 obtain⟨l,hl,hn, -⟩:=gH (R:=jY) (Z:=fun _=>True) Tryz.underlying28 yX (by decide) zlc (fun m cs y _ hy _ _=>by
  obtain⟨q,hq⟩:=xR hy
  exact⟨q,hq,trivial⟩) h hz
 exact⟨l,hl,hn⟩
theorem zht {cs:List Value} (h:DataW.trod enc Tryz.prog w 0 (fun _=>true) true fuel 48 cs=some x) (hz:∀n∈x.1.weights Tryz.prog 48,n<=reachBytes):∃q,jf w q cs/\q.buf.length<=reachBytes:=by
 obtain⟨xs,n,hfu,hxe,hl,hxl,hg⟩:=DataW.trod_struct zbT h
 rw [zlg] at hxl
 subst hxe
 rw [zaB] at hl
 obtain⟨v0,v1,v2,v3,v4,v5,rfl⟩:=znM hl
 obtain⟨f0,g0,t0,o0⟩:=yU zlh
 have h0:=hg 0 f0 g0
 rw [t0,o0,yX,List.getElem?_eq_getElem (by omega)] at h0
 obtain⟨f1,g1,t1,o1⟩:=yU zli
 have h1:=hg 1 f1 g1
 rw [t1,o1,ziI,List.getElem?_eq_getElem (by omega)] at h1
 obtain⟨f2,g2,t2,o2⟩:=yU zlj
 have h2:=hg 2 f2 g2
 have z2:=wF zbT g2 (List.getElem?_eq_getElem (l:=xs) (i:=2) (by omega)) hz
 rw [t2] at z2
 rw [t2,o2,ziJ,List.getElem?_eq_getElem (by omega)] at h2
 simp only [List.drop_zero,List.drop_succ_cons,List.take_succ_cons,List.take_zero] at h0 h1 h2
 obtain⟨q0,e0⟩:=xR h0
 simp only [List.cons.injEq,and_true] at e0
 subst e0
 obtain⟨y0,y1,y2,y3,m, -,e0,e1,e2,e3⟩:=trod_array4 Tryz.underlying45 yX h1
 obtain⟨r0,hr0⟩:=xR e0
 obtain⟨r1,hr1⟩:=xR e1
 obtain⟨r2,hr2⟩:=xR e2
 obtain⟨r3,hr3⟩:=xR e3
 simp only [List.cons.injEq,and_true] at hr0 hr1 hr2 hr3
 subst hr0 hr1 hr2 hr3
 obtain⟨l,hl,hn, -⟩:=gH (R:=jK) (Z:=fun _=>True) Tryz.underlying46 zb2 (by decide) zhr (fun m cs y _ hy _ _=>by
  obtain⟨q,hq⟩:=zlk hy
  exact⟨q,hq,trivial⟩) h2 z2
 exact⟨⟨q0, [r0,r1,r2,r3],l⟩,⟨rfl,v5,rfl,hl⟩,hn⟩
theorem ziK {cs:List Value} (h:DataW.trod enc Tryz.prog w 0 (fun _=>true) true fuel 30 cs=some x) (hz:∀n∈x.1.weights Tryz.prog 30,n<=reachBytes):∃q,gI w q cs/\q.threads.length<=reachBytes/\q.mem.length<=reachBytes/\∀j,j<q.threads.length->(q.threads.getD j default).buf.length<=reachBytes:=by
 obtain⟨xs,n,hfu,hxe,hl,hxl,hg⟩:=DataW.trod_struct uJ h
 rw [znN] at hxl
 subst hxe
 rw [zfp] at hl
 obtain⟨v0,v1,v2,rfl⟩:=zaX hl
 obtain⟨f0,g0,t0,o0⟩:=yU znO
 have h0:=hg 0 f0 g0
 have z0:=wF uJ g0 (List.getElem?_eq_getElem (l:=xs) (i:=0) (by omega)) hz
 rw [t0] at z0
 rw [t0,o0,ziL,List.getElem?_eq_getElem (by omega)] at h0
 obtain⟨f1,g1,t1,o1⟩:=yU znP
 have h1:=hg 1 f1 g1
 have z1:=wF uJ g1 (List.getElem?_eq_getElem (l:=xs) (i:=1) (by omega)) hz
 rw [t1] at z1
 rw [t1,o1,ziM,List.getElem?_eq_getElem (by omega)] at h1
 obtain⟨f2,g2,t2,o2⟩:=yU znQ
 have h2:=hg 2 f2 g2
 rw [t2,o2,zfZ,List.getElem?_eq_getElem (by omega)] at h2
 simp only [List.drop_zero,List.drop_succ_cons,List.take_succ_cons,List.take_zero] at h0 h1 h2
 obtain⟨q2,e2, -⟩:=DataW.trod_bool Tryz.underlying4 h2
 simp only [List.cons.injEq,and_true] at e2
 subst e2
 obtain⟨l,hl,hn,hq⟩:=gH (R:=jf) (Z:=fun q:zw=>q.buf.length<=reachBytes) Tryz.underlying27 zaB (by decide) zfY (fun m cs y _ hy _ hz=>zht hy hz) h0 z0
 obtain⟨k,hk,hkn⟩:=zlf h1 z1
 exact⟨⟨l,k,q2⟩,⟨v0,v1,rfl,hl,hk⟩,hn,hkn,hq⟩
end
theorem ziN {H:Type} {enc:TypeId × Value->H} {w:World} {b0:Nat} {v:Value} {d:DataW H} {p:List MemPlace} (hv:Value.okWide Tryz.prog w .any b0 24 v) (h:DataW.Trod enc Tryz.prog w 0 (fun _=>true) true 24 v d p) (hz:∀n∈d.weights Tryz.prog 24,n<=reachBytes):
  ∃k c tv,v=yD c tv/\yF k w tv c.threads/\c.threads.length<=reachBytes/\∀j,j<c.threads.length->(c.threads.getD j default).length<=reachBytes:=by
 obtain⟨cs,rfl, -⟩:=okWide_struct zaY hv
 obtain⟨fuel,hf⟩:=h
 obtain⟨cl,hcl⟩:∃cl,cl=(Value.agg cs).cells.toList:=⟨_,rfl⟩
 rw [<-hcl] at hf
 have h:=hf
 obtain⟨xs,n,hfu,hxe,hl,hxl,hg⟩:=DataW.trod_struct zaY h
 rw [zqD] at hxl
 obtain⟨hxe, -⟩:=Prod.mk.inj hxe
 subst hxe
 rw [zga] at hl
 obtain⟨v0,v1,v2,hcv⟩:=zaX hl
 subst hcv
 obtain⟨f0,g0,t0,o0⟩:=yU zqE
 have h0:=hg 0 f0 g0
 rw [t0,o0,yX,List.getElem?_eq_getElem (by omega)] at h0
 obtain⟨f1,g1,t1,o1⟩:=yU zqF
 have h1:=hg 1 f1 g1
 rw [t1,o1,yX,List.getElem?_eq_getElem (by omega)] at h1
 obtain⟨f2,g2,t2,o2⟩:=yU zqG
 have h2:=hg 2 f2 g2
 have z2:=wF zaY g2 (List.getElem?_eq_getElem (l:=xs) (i:=2) (by omega)) hz
 rw [t2] at z2
 rw [t2,o2,ziO,List.getElem?_eq_getElem (by omega)] at h2
 simp only [List.drop_zero,List.drop_succ_cons,List.take_succ_cons,List.take_zero] at h0 h1 h2
 obtain⟨q0,e0⟩:=xR h0
 simp only [List.cons.injEq,and_true] at e0
 subst e0
 obtain⟨q1,e1⟩:=xR h1
 simp only [List.cons.injEq,and_true] at e1
 subst e1
 obtain⟨l,hl,hn,hq⟩:=zle h2 z2
 have hcs:cs= #[.int .i64 q0, .int .i64 q1,v2] :=by
  apply Array.toList_inj.1
  simpa [Value.cells] using hcl.symm
 exact⟨n,⟨q0,q1,l⟩,v2,by rw [hcs];rfl,hl,hn,hq⟩
theorem zhu {H:Type} {enc:TypeId × Value->H} {w:World} {b0:Nat} {v:Value} {d:DataW H} {p:List MemPlace} (hv:Value.okWide Tryz.prog w .any b0 30 v) (h:DataW.Trod enc Tryz.prog w 0 (fun _=>true) true 30 v d p) (hz:∀n∈d.weights Tryz.prog 30,n<=reachBytes):
  ∃s sv mv,v=zW s sv mv/\zN w s sv mv/\s.threads.length<=reachBytes/\s.mem.length<=reachBytes/\∀j,j<s.threads.length->(s.threads.getD j default).buf.length<=reachBytes:=by
 obtain⟨cs,rfl, -⟩:=okWide_struct uJ hv
 obtain⟨fuel,hf⟩:=h
 obtain⟨q,⟨sv,mv,he,hs⟩,h1,h2,h3⟩:=ziK hf hz
 have hcs:cs= #[sv,mv, .bool q.bad] :=by
  apply Array.toList_inj.1
  simpa [Value.cells] using he
 exact⟨q,sv,mv,by rw [hcs];rfl,hs,h1,h2,h3⟩
theorem zd6:Tryz.prog.underlying 26=some (.struct (Tryz.prog.fieldsOf 26)):=by kernel_rfl
theorem zgb:Tryz.prog.cellsOf 26=2:=by kernel_rfl
theorem zqH:(Tryz.prog.fieldsOf 26).size=2:=by kernel_rfl
theorem zqI:((Tryz.prog.fieldsOf 26)[0]?).map (fun f=>(f.type,f.offset))=some (3,0):=by kernel_rfl
theorem zqJ:((Tryz.prog.fieldsOf 26)[1]?).map (fun f=>(f.type,f.offset))=some (3,1):=by kernel_rfl
theorem bM:Tryz.prog.underlying 32=some (.struct (Tryz.prog.fieldsOf 32)):=by kernel_rfl
theorem zgc:Tryz.prog.cellsOf 32=3:=by kernel_rfl
theorem zqK:(Tryz.prog.fieldsOf 32).size=3:=by kernel_rfl
theorem zqL:((Tryz.prog.fieldsOf 32)[0]?).map (fun f=>(f.type,f.offset))=some (3,0):=by kernel_rfl
theorem zqM:((Tryz.prog.fieldsOf 32)[1]?).map (fun f=>(f.type,f.offset))=some (3,1):=by kernel_rfl
theorem zqN:((Tryz.prog.fieldsOf 32)[2]?).map (fun f=>(f.type,f.offset))=some (3,2):=by kernel_rfl
theorem zll {H:Type} {enc:TypeId × Value->H} {w:World} {b0:Nat} {v:Value} {d:DataW H} {p:List MemPlace} (hv:Value.okWide Tryz.prog w .any b0 26 v) (h:DataW.Trod enc Tryz.prog w 0 (fun _=>true) true 26 v d p):∃x,v=yR x:=by
 obtain⟨cs,rfl, -⟩:=okWide_struct zd6 hv
 obtain⟨fuel,hf⟩:=h
 obtain⟨cl,hcl⟩:∃cl,cl=(Value.agg cs).cells.toList:=⟨_,rfl⟩
 rw [<-hcl] at hf
 have h:=hf
 obtain⟨xs,n,hfu, -,hl,hxl,hg⟩:=DataW.trod_struct zd6 h
 rw [zqH] at hxl
 rw [zgb] at hl
 obtain⟨v0,v1,hcv⟩:=zgd hl
 subst hcv
 obtain⟨f0,g0,t0,o0⟩:=yU zqI
 have h0:=hg 0 f0 g0
 rw [t0,o0,yX,List.getElem?_eq_getElem (by omega)] at h0
 obtain⟨f1,g1,t1,o1⟩:=yU zqJ
 have h1:=hg 1 f1 g1
 rw [t1,o1,yX,List.getElem?_eq_getElem (by omega)] at h1
 simp only [List.drop_zero,List.drop_succ_cons,List.take_succ_cons,List.take_zero] at h0 h1
 obtain⟨q0,e0⟩:=xR h0
 simp only [List.cons.injEq,and_true] at e0
 subst e0
 obtain⟨q1,e1⟩:=xR h1
 simp only [List.cons.injEq,and_true] at e1
 subst e1
 have hcs:cs= #[.int .i64 q0, .int .i64 q1] :=by
  apply Array.toList_inj.1
  simpa [Value.cells] using hcl.symm
 exact⟨⟨q0,q1⟩,by rw [hcs];rfl⟩
theorem zlm {H:Type} {enc:TypeId × Value->H} {w:World} {b0:Nat} {v:Value} {d:DataW H} {p:List MemPlace} (hv:Value.okWide Tryz.prog w .any b0 32 v) (h:DataW.Trod enc Tryz.prog w 0 (fun _=>true) true 32 v d p):∃x,v=gJ x:=by
 obtain⟨cs,rfl, -⟩:=okWide_struct bM hv
 obtain⟨fuel,hf⟩:=h
 obtain⟨cl,hcl⟩:∃cl,cl=(Value.agg cs).cells.toList:=⟨_,rfl⟩
 rw [<-hcl] at hf
 have h:=hf
 obtain⟨xs,n,hfu, -,hl,hxl,hg⟩:=DataW.trod_struct bM h
 rw [zqK] at hxl
 rw [zgc] at hl
 obtain⟨v0,v1,v2,hcv⟩:=zaX hl
 subst hcv
 obtain⟨f0,g0,t0,o0⟩:=yU zqL
 have h0:=hg 0 f0 g0
 rw [t0,o0,yX,List.getElem?_eq_getElem (by omega)] at h0
 obtain⟨f1,g1,t1,o1⟩:=yU zqM
 have h1:=hg 1 f1 g1
 rw [t1,o1,yX,List.getElem?_eq_getElem (by omega)] at h1
 obtain⟨f2,g2,t2,o2⟩:=yU zqN
 have h2:=hg 2 f2 g2
 rw [t2,o2,yX,List.getElem?_eq_getElem (by omega)] at h2
 simp only [List.drop_zero,List.drop_succ_cons,List.take_succ_cons,List.take_zero] at h0 h1 h2
 obtain⟨q0,e0⟩:=xR h0
 simp only [List.cons.injEq,and_true] at e0
 subst e0
 obtain⟨q1,e1⟩:=xR h1
 simp only [List.cons.injEq,and_true] at e1
 subst e1
 obtain⟨q2,e2⟩:=xR h2
 simp only [List.cons.injEq,and_true] at e2
 subst e2
 have hcs:cs= #[.int .i64 q0, .int .i64 q1, .int .i64 q2] :=by
  apply Array.toList_inj.1
  simpa [Value.cells] using hcl.symm
 exact⟨⟨q0,q1,q2⟩,by rw [hcs];rfl⟩
end Go.Proofs.YtliajkheeniljaaGreatDoor
