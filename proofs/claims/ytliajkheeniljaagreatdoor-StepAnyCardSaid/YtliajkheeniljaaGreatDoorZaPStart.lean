/- The first state: the program's answer: the walk. -/
import Derived.Test.YtliajkheeniljaaGreatDoorZaPCode
import Derived.Test.YtliajkheeniljaaGreatDoorZaPSrc
import Derived.Test.YtliajkheeniljaaGreatDoorZaStart
import Derived.Test.YtliajkheeniljaaGreatDoorZaStepQ
import Derived.Test.YtliajkheeniljaaGreatDoorZaShort
set_option linter.all false
namespace Go.Proofs.YtliajkheeniljaaGreatDoor
open Go.RowKit
set_option maxRecDepth 100000
set_option maxHeartbeats 16000000
theorem bP {P:Program} (w:World) {ops:Array Oper} {o:Oper} {a:Act} {K:Act->World->Prop} {Q:Exit->Act->World->Prop} {E:Prop} (hw:Region.wanted o (yielded ops a.tmps)=true) (l c:Operand) (t:TypeId) (ho:o.op=Op.makeSlice t l c)
  (e:TypeId) (z:Value) (size bytes:Nat) (ht:P.underlying t=some (.slice e)) (hinfo:(P.info? e).map (fun i=>(i.zero,i.size,i.bytes))=some (some z,size,bytes)) (n:Nat) (hl:a.eval l= .int .i64 (n:Int)) (hc:a.eval c= .int .i64 (n:Int))
  (h63:n<=maxLen) (hbytes:n*bytes<=281474976710656) (h:K (a.put o.dst (.slice (some ⟨w.heap.size,0,none⟩) n n)) (w.alloc (.cells (madeCells z.cells (n*size)).toList.toArray e))):if Region.wanted o (yielded ops a.tmps)=true then Oper.wp P o a w K Q else E:=by
 rw [if_pos hw]
 obtain⟨i,hi,hz,hsize,hby⟩:=info_parts hinfo
 have h63':(n:Int)<=9223372036854775807:=by have:=h63;unfold maxLen at this;omega
 have hb':(i.bytes:Int)*(n:Int)<=281474976710656:=by
  have h:((i.bytes*n:Nat):Int)<=281474976710656:=by rw [hby,Nat.mul_comm];omega
  rwa [Int.natCast_mul] at h
 have hr:=run_make (P:=P) w t e i z ht hi hz .i64 .i64 (n:Int) (n:Int) (by omega) (Int.le_refl _) hb' h63'
 unfold Oper.wp execOp
 simp only [ho,resolve,Sem.run_bind,Sem.run_pure,Result.andThen_ok,hl,hc,hr,Int.toNat_natCast,hsize]
 rw [Array.toArray_toList] at h
 exact h
theorem zjf {z:Array Value} {n j:Nat} (h:j<n):(madeCells z n).toList[j]? =some z[j % z.size]! :=by
 rw [Array.getElem?_toList,madeCells,Array.getElem?_map,Array.getElem?_range,if_pos h];rfl
theorem zgz (n:Nat):(madeCells (Value.agg #[.int .i64 0, .int .i64 0, .int .i64 0, .int .i64 0, .int .i64 0, .slice none 0 0]).cells (n*6)).toList=zL (List.replicate n default) (List.replicate n (.slice none 0 0)):=by
 have hl:=jm (List.replicate n default) (List.replicate n (.slice none 0 0))
 rw [List.length_replicate] at hl
 apply List.ext_getElem?
 intro j
 by_cases hj:j<n*6
 rotate_left
 ·rw [List.getElem?_eq_none (by simp [size_madeCells];omega),List.getElem?_eq_none (by omega)]
 rw [zjf hj]
 have e:j=j / 6*6+j % 6:=by omega
 have hd:(List.replicate n (default:zw)).getD (j / 6) default=default:=by simp [List.getD_eq_getElem?_getD,List.getElem?_replicate];split<;>rfl
 have hv:(List.replicate n (Value.slice none 0 0)).getD (j / 6) (.slice none 0 0)= .slice none 0 0:=by simp [List.getD_eq_getElem?_getD,List.getElem?_replicate];split<;>rfl
 have hc:=qd (l:=List.replicate n default) (bs:=List.replicate n (.slice none 0 0)) (j:=j / 6) (i:=j % 6) (by rw [List.length_replicate];omega) (by omega)
 rw [<-e,hd,hv] at hc
 rw [hc]
 have h6:j % 6=0\/j % 6=1\/j % 6=2\/j % 6=3\/j % 6=4\/j % 6=5:=by omega
 show some (#[Value.int .i64 0, .int .i64 0, .int .i64 0, .int .i64 0, .int .i64 0, .slice none 0 0][j % 6]!)=_
 rcases h6 with h|h|h|h|h|h<;>rw [h] <;>rfl
theorem zop (n:Nat):(madeCells (Value.int .i64 0).cells (n*1)).toList=zq yE (List.replicate n 0):=by
 rw [Nat.mul_one]
 refine(toList_madeCells_one (.int .i64 0) n).trans ?_
 induction n with
 |zero=>rfl
 |succ n ih=>rw [zeP, <-ih,List.replicate_succ']
def zfb (w:World) (s:zu) (e:Ending) (w':World):Prop:=(∃sv mv,e= .returned (zW s sv mv)/\vB (fun k=>k<w.heap.size) w' (fun y=>zN y s sv mv))/\Below w.heap.size w w'
theorem zfc {w X:World} {g1 g2 gr n k:Nat} (hb:Below w.heap.size w X) (h1:X.heap[g1]? =some (.cells (madeCells (Value.agg #[.int .i64 0, .int .i64 0, .int .i64 0, .int .i64 0, .int .i64 0, .slice none 0 0]).cells (n*6)).toList.toArray 48 (0,0))) (h2:X.heap[g2]? =some (.cells (madeCells (Value.int .i64 0).cells (k*1)).toList.toArray 3 (0,0)))
  (l1:w.heap.size<=g1) (l2:w.heap.size<=g2) (hn:n<=4) (hk:k<=4) (_hr:X.heap[gr]? =some (.cells #[.slice (some ⟨g1,0,none⟩) n n, .slice (some ⟨g2,0,none⟩) k k, .bool false] 30 (0,0))):
  zfb w ⟨List.replicate n default,List.replicate k 0,false⟩ (.returned (.agg #[.slice (some ⟨g1,0,none⟩) n n, .slice (some ⟨g2,0,none⟩) k k, .bool false])) X:=by
 rw [zgz] at h1
 rw [zop] at h2
 have r1:=vU (n:=n) h1 l1 (by rw [jm,List.length_replicate]) (by unfold maxLen;omega)
 have r2:=vU (n:=k) h2 l2 (by rw [vI (f:=yE) wO,List.length_replicate]) (by unfold maxLen;omega)
 exact⟨⟨_,_,rfl,fun y hy=>zhp (hy.row r1 (fun x hx e=>by cases hx;exact absurd l1 (Nat.not_le.2 e))) (hy.row r2 (fun x hx e=>by cases hx;exact absurd l2 (Nat.not_le.2 e)))⟩,hb⟩
theorem zd2 (w:World) (c:zS) (tv:Value) (d:Nat) (h:yF d w tv c.threads):Calls Tryz.prog 18 #[yD c tv] w (zfb w (kI c)):=by
 obtain⟨ca,cc,rfl,hcl⟩:=zl.slice h
 obtain⟨co,hco⟩:∃co,co=codeOk c:=⟨_,rfl⟩
 have hcode:=fun W (hW:yF d W (.slice ca c.threads.length cc) c.threads)=>zcC W c (.slice ca c.threads.length cc) d hW
 rw [<-hco] at hcode
 have hst:kI c=if co then⟨List.replicate c.threads.length default,List.replicate c.vars.toNat 0,false⟩ else⟨[], [],false⟩:=by rw [hco];rfl
 rw [hst]
 have hbd:co=true->1<=c.vars/\c.vars<=4/\c.threads.length<=4:=fun e=>by
  have:=qP (hco.symm.trans e);exact⟨this.1,this.2.1,this.2.2.2.2.2⟩
 obtain⟨vars,dom,cs⟩:=c
 simp only [] at h hcl hcode hbd ⊢
 unfold yD
 unfold yD at hcode
 simp only [] at hcode ⊢
 obtain⟨n,hn⟩:∃n,n=cs.length:=⟨_,rfl⟩
 rw [<-hn] at h hcl hcode hbd ⊢
 have hl0:=(((Loc.start w).alloc 24 [.int .i64 vars, .int .i64 dom, .slice ca n cc]).alloc 30 [.slice none 0 0, .slice none 0 0, .bool false])
 have hsz:(w.alloc (.cells [.int .i64 vars, .int .i64 dom, .slice ca n cc].toArray 24)).heap.size=w.heap.size+1:=by simp
 rw [hsz] at hl0
 have HL0:=qh hl0
 clear hl0 hsz
 have HT:=qh h
 have uI:=qh hcode
 have gZ:=qh hbd
 obtain⟨nv,gG⟩:∃nv:Nat,nv=vars.toNat:=⟨_,rfl⟩
 rw [<-gG]
 have uN:=qh gG
 obtain⟨R,hR⟩:∃R:zu,R=if co then⟨List.replicate n default,List.replicate nv 0,false⟩ else⟨[], [],false⟩:=⟨_,rfl⟩
 rw [<-hR]
 have HRR:=qh hR
 clear hR
 clear h hcode hst hco hn hbd gG
 go_enter Tryz.func18,Tryz.ntmps18
 go_upto_region 1 with fail
 obtain⟨gx,hgx⟩:∃gx,gx=w.heap.size:=⟨_,rfl⟩
 have jo:Hid (gx+1≠gx):=by rw [Hid];omega
 rw [<-hgx] at HL0 ⊢
 generalize World.alloc (World.alloc w _) _=W at HL0 ⊢
 clear hgx
 obtain⟨n1, -⟩:=HL0.out.news (gx,24, [.int .i64 vars, .int .i64 dom, .slice ca n cc]) (List.mem_cons_of_mem _ (List.mem_cons_self ..))
 have c0:=zh n1 0
 have c1:=zh n1 1
 have c2:=zh n1 2
 clear n1
 go_wp2_with fail
 refine(uI.out W (zl.below (xu.stays d) HT.out HL0.out.below)).mono ?_
 rintro e W1 ⟨rfl,hb⟩
 have HL:=qh (HL0.out.later hb)
 clear hb c0 c1 c2 uI HT HL0
 cases co with
 |false=>
  obtain⟨n2, -⟩:=HL.out.news (gx+1,30, [.slice none 0 0, .slice none 0 0, .bool false]) (List.mem_cons_self ..)
  have a0:=zh n2 0
  have a1:=zh n2 1
  have a2:=zh n2 2
  have f0:=zK n2 0
  have f1:=zK n2 1
  have f2:=zK n2 2
  have HS:=qh (HL.out.store (List.mem_cons_self ..) [.slice none 0 0, .slice none 0 0, .bool false] rfl)
  clear n2
  go_wp2_with fail
  (try simp only [Exit.inBlock,Exit.then])
  obtain⟨hset, -⟩:=HS.out.news (gx+1,30, [.slice none 0 0, .slice none 0 0, .bool false]) (wU (List.mem_cons_self ..))
  have zbi:(((W1.setCell ⟨gx+1,0,none⟩ (.slice none 0 0)).setCell ⟨gx+1,1,none⟩ (.slice none 0 0)).setCell ⟨gx+1,2,none⟩ (.bool false)).heap[gx+1]? =some (.cells #[.slice none 0 0, .slice none 0 0, .bool false] 30 (0,0)):=hset
  refine bodyPost_ret (qI rfl _ _ (gx+1) 30 _ (0,0) _ rfl zbi Tryz.underlying30 rfl zC) rfl ?_
  have hr:R=⟨[], [],false⟩:=HRR.out
  rw [hr]
  exact⟨⟨_,_,rfl,fun y _=>⟨zl.nil _,zl.nil _⟩⟩,HS.out.below⟩
 |true=>
  obtain⟨hv1,hv4,hn4⟩:=gZ.out rfl
  have jy:vars=(nv:Int):=by rw [uN.out];omega
  subst jy
  have zuz:nv<=4:=by omega
  clear gZ uN hv1 hv4
  have CC:Hid (∀y,Since (fun k=>k=gx+1) W1 y->y.cell? ⟨gx,0,none⟩=some (.int .i64 nv)/\y.cell? ⟨gx,2,none⟩=some (.slice ca n cc)):=fun y hy=>by
   obtain⟨n1, -⟩:=HL.out.news (gx,24, [.int .i64 nv, .int .i64 dom, .slice ca n cc]) (List.mem_cons_of_mem _ (List.mem_cons_self ..))
   have n3:=(hy.block gx (zJ n1) (by omega)).trans n1
   exact⟨zh n3 0,zh n3 2⟩
  go_wp2_with fail
  refine wp_region_noPanic ?_
  refine wp_region_held_drew (S:=fun x=>Since (fun k=>k=gx+1) W1 x) (by kernel_rfl) (Since.refl _ _).drew (fun _=> ?_)
  obtain⟨V1,hV1⟩:∃V1,V1=W1.drew:=⟨_,rfl⟩
  have jD:Hid (Since (fun k=>k=gx+1) W1 V1):=by rw [hV1];exact(Since.refl _ _).drew
  have hT0:=qh (HL.out.drew)
  rw [<-hV1] at hT0 ⊢
  clear hV1
  refine zA 0 7 ?vs1 rfl ?zg0 (jD.out) ?_
  case zg0=>(intro _ _;go_simp<;>rfl)
  simp only [Act.put,za,ze,zf]
  refine zA 1 8 ?vs2 rfl ?zg1 (jD.out) ?_
  case zg1=>(intro x h;have e:=CC.out x h;go_simp<;>rfl)
  simp only [Act.put,za,ze,zf]
  refine zA 2 9 ?vs3 rfl ?zg2 (jD.out) ?_
  case zg2=>(intro _ _;go_simp<;>rfl)
  simp only [Act.put,za,ze,zf]
  refine zA 4 11 ?vs4 rfl ?zg3 (jD.out) ?_
  case zg3=>(intro _ _;go_simp<;>rfl)
  simp only [Act.put,za,ze,zf]
  refine zA 5 12 ?vs5 rfl ?zg4 (jD.out) ?_
  case zg4=>(intro x h;have e:=CC.out x h;go_simp<;>rfl)
  simp only [Act.put,za,ze,zf]
  refine wpAnyH_ready (rs:= [3,6]) (by kernel_rfl) (by simp) ?_
  refine AllReadyH.cons rfl (fun K hK=> ?_) (AllReadyH.cons rfl (fun K hK=> ?_) AllReadyH.nil)
  ·skip
   refine bP V1 (by rfl) (.tmp 9) (.tmp 9) 27 rfl 48 (.agg #[.int .i64 0, .int .i64 0, .int .i64 0, .int .i64 0, .int .i64 0, .slice none 0 0]) 6 64 Tryz.underlying27 wB n (by rfl) (by rfl) (by unfold maxLen;omega) (by omega) ?_
   have jE:(gx+1)≠V1.heap.size:=hT0.out.uP (List.mem_cons_self ..)
   have wI:=hT0.out.alloc 48 (madeCells (Value.agg #[.int .i64 0, .int .i64 0, .int .i64 0, .int .i64 0, .int .i64 0, .slice none 0 0]).cells (n*6)).toList
   have zdM:=(jD.out).alloc (.cells (madeCells (Value.agg #[.int .i64 0, .int .i64 0, .int .i64 0, .int .i64 0, .int .i64 0, .slice none 0 0]).cells (n*6)).toList.toArray 48)
   refine hK.out _ _ zdM (fun _=> ?_)
   change wpAnyH _ _ _ _ _ _ _ (Act.put _ (some 10) _) _
   simp only [Act.put,za]
   try simp only [ze,zf]
   obtain⟨ga,hga⟩:∃n,n=V1.heap.size:=⟨_,rfl⟩
   rw [<-hga] at wI jE ⊢
   clear hga
   replace jE:=qh jE
   generalize World.alloc V1 _=Xs2 at wI zdM ⊢
   replace wI:=qh wI
   replace zdM:=qh zdM
   clear hK K
   refine zT 6 rfl (fun K hK=> ?_)
   refine bP Xs2 (by rfl) (.tmp 12) (.tmp 12) 28 rfl 3 (.int .i64 0) 1 8 Tryz.underlying28 qC nv (by rfl) (by rfl) (by unfold maxLen;omega) (by omega) ?_
   have jF:(gx+1)≠Xs2.heap.size:=wI.out.uP (List.mem_cons_of_mem _ (List.mem_cons_self ..))
   have zdf:ga≠Xs2.heap.size:=wI.out.uP (List.mem_cons_self ..)
   have gQ:=wI.out.alloc 3 (madeCells (Value.int .i64 0).cells (nv*1)).toList
   have zc0:=(zdM.out).alloc (.cells (madeCells (Value.int .i64 0).cells (nv*1)).toList.toArray 3)
   refine hK.out _ _ zc0 (fun _=> ?_)
   change wpAnyH _ _ _ _ _ _ _ (Act.put _ (some 13) _) _
   simp only [Act.put,za]
   try simp only [ze,zf]
   obtain⟨gm,hgm⟩:∃n,n=Xs2.heap.size:=⟨_,rfl⟩
   rw [<-hgm] at gQ jF zdf ⊢
   clear hgm
   replace jF:=qh jF
   replace zdf:=qh zdf
   generalize World.alloc Xs2 _=Xs4 at gQ zc0 ⊢
   replace gQ:=qh gQ
   replace zc0:=qh zc0
   clear hK K
   refine zA 7 14 ?vs6 rfl ?zg5 (zc0.out) ?_
   case zg5=>(intro _ _;go_simp<;>rfl)
   simp only [Act.put,za,ze,zf]
   refine zT 8 rfl (fun K hK=> ?_)
   obtain⟨hn, -⟩:=gQ.out.news (gx+1,30, [.slice none 0 0, .slice none 0 0, .bool false]) (List.mem_cons_of_mem _ (List.mem_cons_of_mem _ (List.mem_cons_self ..)))
   have d0:=zh hn 0
   have f0:=zK hn 0
   have d1:=zh hn 1
   have f1:=zK hn 1
   have d2:=zh hn 2
   have f2:=zK hn 2
   clear hn
   have HS:=qh (gQ.out.store (g:=gx+1) (t:=30) (cs:= [.slice none 0 0, .slice none 0 0, .bool false]) (List.mem_cons_of_mem _ (List.mem_cons_of_mem _ (List.mem_cons_self ..))) [.slice (some ⟨ga,0,none⟩) n n, .slice (some ⟨gm,0,none⟩) nv nv, .bool false] rfl)
   go_simp
   clear d0 d1 d2 f0 f1 f2
   refine hK.out _ (zU Xs4 (gx+1) 0 [.slice (some ⟨ga,0,none⟩) n n, .slice (some ⟨gm,0,none⟩) nv nv, .bool false]) ((zc0.out).trans (xK _ _ _) (fun _ h=> .inl h)) (fun _=> ?_)
   obtain⟨hset, -⟩:=HS.out.news (gx+1,30, [.slice (some ⟨ga,0,none⟩) n n, .slice (some ⟨gm,0,none⟩) nv nv, .bool false]) (wU (List.mem_cons_of_mem _ (List.mem_cons_of_mem _ (List.mem_cons_self ..))))
   obtain⟨hga,hla⟩:=HS.out.news (ga,48,(madeCells (Value.agg #[.int .i64 0, .int .i64 0, .int .i64 0, .int .i64 0, .int .i64 0, .slice none 0 0]).cells (n*6)).toList) (qV (p:=(ga,48,(madeCells (Value.agg #[.int .i64 0, .int .i64 0, .int .i64 0, .int .i64 0, .int .i64 0, .slice none 0 0]).cells (n*6)).toList)) (List.mem_cons_of_mem _ (List.mem_cons_self ..)) (by simpa using (Ne.symm jE.out)))
   obtain⟨hgm,hlm⟩:=HS.out.news (gm,3,(madeCells (Value.int .i64 0).cells (nv*1)).toList) (qV (p:=(gm,3,(madeCells (Value.int .i64 0).cells (nv*1)).toList)) (List.mem_cons_self ..) (by simpa using (Ne.symm jF.out)))
   have yT:=qh (zfc (w:=w) HS.out.below hga hgm hla hlm hn4 zuz hset)
   have zI:=qh hset
   clear hga hgm hla hlm hset HS
   generalize zU Xs4 (gx+1) 0 _=Xs5 at yT zI ⊢
   clear hK K
   refine wpAnyH_done (by kernel_rfl) ?_ _
   refine NoPanic.normal ?_
   go_wp2_with fail
   (try simp only [Exit.inBlock,Exit.then])
   refine bodyPost_ret (qI rfl _ _ (gx+1) 30 _ (0,0) _ rfl zI.out Tryz.underlying30 rfl zC) rfl ?_
   have hr:R=⟨List.replicate n default,List.replicate nv 0,false⟩:=HRR.out
   rw [hr]
   exact yT.out
  ·skip
   refine bP V1 (by rfl) (.tmp 12) (.tmp 12) 28 rfl 3 (.int .i64 0) 1 8 Tryz.underlying28 qC nv (by rfl) (by rfl) (by unfold maxLen;omega) (by omega) ?_
   have jF:(gx+1)≠V1.heap.size:=hT0.out.uP (List.mem_cons_self ..)
   have zdg:=hT0.out.alloc 3 (madeCells (Value.int .i64 0).cells (nv*1)).toList
   have zdO:=(jD.out).alloc (.cells (madeCells (Value.int .i64 0).cells (nv*1)).toList.toArray 3)
   refine hK.out _ _ zdO (fun _=> ?_)
   change wpAnyH _ _ _ _ _ _ _ (Act.put _ (some 13) _) _
   simp only [Act.put,za]
   try simp only [ze,zf]
   obtain⟨gm,hgm⟩:∃n,n=V1.heap.size:=⟨_,rfl⟩
   rw [<-hgm] at zdg jF ⊢
   clear hgm
   replace jF:=qh jF
   generalize World.alloc V1 _=Xs7 at zdg zdO ⊢
   replace zdg:=qh zdg
   replace zdO:=qh zdO
   clear hK K
   refine zT 3 rfl (fun K hK=> ?_)
   refine bP Xs7 (by rfl) (.tmp 9) (.tmp 9) 27 rfl 48 (.agg #[.int .i64 0, .int .i64 0, .int .i64 0, .int .i64 0, .int .i64 0, .slice none 0 0]) 6 64 Tryz.underlying27 wB n (by rfl) (by rfl) (by unfold maxLen;omega) (by omega) ?_
   have jE:(gx+1)≠Xs7.heap.size:=zdg.out.uP (List.mem_cons_of_mem _ (List.mem_cons_self ..))
   have zdh:gm≠Xs7.heap.size:=zdg.out.uP (List.mem_cons_self ..)
   have zez:=zdg.out.alloc 48 (madeCells (Value.agg #[.int .i64 0, .int .i64 0, .int .i64 0, .int .i64 0, .int .i64 0, .slice none 0 0]).cells (n*6)).toList
   have zc1:=(zdO.out).alloc (.cells (madeCells (Value.agg #[.int .i64 0, .int .i64 0, .int .i64 0, .int .i64 0, .int .i64 0, .slice none 0 0]).cells (n*6)).toList.toArray 48)
   refine hK.out _ _ zc1 (fun _=> ?_)
   change wpAnyH _ _ _ _ _ _ _ (Act.put _ (some 10) _) _
   simp only [Act.put,za]
   try simp only [ze,zf]
   obtain⟨ga,hga⟩:∃n,n=Xs7.heap.size:=⟨_,rfl⟩
   rw [<-hga] at zez jE zdh ⊢
   clear hga
   replace jE:=qh jE
   replace zdh:=qh zdh
   generalize World.alloc Xs7 _=Xs9 at zez zc1 ⊢
   replace zez:=qh zez
   replace zc1:=qh zc1
   clear hK K
   refine zA 7 14 ?vs7 rfl ?zg6 (zc1.out) ?_
   case zg6=>(intro _ _;go_simp<;>rfl)
   simp only [Act.put,za,ze,zf]
   refine zT 8 rfl (fun K hK=> ?_)
   obtain⟨hn, -⟩:=zez.out.news (gx+1,30, [.slice none 0 0, .slice none 0 0, .bool false]) (List.mem_cons_of_mem _ (List.mem_cons_of_mem _ (List.mem_cons_self ..)))
   have d0:=zh hn 0
   have f0:=zK hn 0
   have d1:=zh hn 1
   have f1:=zK hn 1
   have d2:=zh hn 2
   have f2:=zK hn 2
   clear hn
   have HS:=qh (zez.out.store (g:=gx+1) (t:=30) (cs:= [.slice none 0 0, .slice none 0 0, .bool false]) (List.mem_cons_of_mem _ (List.mem_cons_of_mem _ (List.mem_cons_self ..))) [.slice (some ⟨ga,0,none⟩) n n, .slice (some ⟨gm,0,none⟩) nv nv, .bool false] rfl)
   go_simp
   clear d0 d1 d2 f0 f1 f2
   refine hK.out _ (zU Xs9 (gx+1) 0 [.slice (some ⟨ga,0,none⟩) n n, .slice (some ⟨gm,0,none⟩) nv nv, .bool false]) ((zc1.out).trans (xK _ _ _) (fun _ h=> .inl h)) (fun _=> ?_)
   obtain⟨hset, -⟩:=HS.out.news (gx+1,30, [.slice (some ⟨ga,0,none⟩) n n, .slice (some ⟨gm,0,none⟩) nv nv, .bool false]) (wU (List.mem_cons_of_mem _ (List.mem_cons_of_mem _ (List.mem_cons_self ..))))
   obtain⟨hga,hla⟩:=HS.out.news (ga,48,(madeCells (Value.agg #[.int .i64 0, .int .i64 0, .int .i64 0, .int .i64 0, .int .i64 0, .slice none 0 0]).cells (n*6)).toList) (qV (p:=(ga,48,(madeCells (Value.agg #[.int .i64 0, .int .i64 0, .int .i64 0, .int .i64 0, .int .i64 0, .slice none 0 0]).cells (n*6)).toList)) (List.mem_cons_self ..) (by simpa using (Ne.symm jE.out)))
   obtain⟨hgm,hlm⟩:=HS.out.news (gm,3,(madeCells (Value.int .i64 0).cells (nv*1)).toList) (qV (p:=(gm,3,(madeCells (Value.int .i64 0).cells (nv*1)).toList)) (List.mem_cons_of_mem _ (List.mem_cons_self ..)) (by simpa using (Ne.symm jF.out)))
   have yT:=qh (zfc (w:=w) HS.out.below hga hgm hla hlm hn4 zuz hset)
   have zI:=qh hset
   clear hga hgm hla hlm hset HS
   generalize zU Xs9 (gx+1) 0 _=zjg at yT zI ⊢
   clear hK K
   refine wpAnyH_done (by kernel_rfl) ?_ _
   refine NoPanic.normal ?_
   go_wp2_with fail
   (try simp only [Exit.inBlock,Exit.then])
   refine bodyPost_ret (qI rfl _ _ (gx+1) 30 _ (0,0) _ rfl zI.out Tryz.underlying30 rfl zC) rfl ?_
   have hr:R=⟨List.replicate n default,List.replicate nv 0,false⟩:=HRR.out
   rw [hr]
   exact yT.out
end Go.Proofs.YtliajkheeniljaaGreatDoor
