/- The first state: the program's answer: the walk. -/
import Derived.Test.YtliajkheeniljaaGreatDoorZsPCode
import Derived.Test.YtliajkheeniljaaGreatDoorZsPSrc
import Derived.Test.YtliajkheeniljaaGreatDoorZsStart
import Derived.Test.YtliajkheeniljaaGreatDoorZsStepQ
import Derived.Test.YtliajkheeniljaaGreatDoorZsShort
set_option linter.all false
namespace Go.Proofs.YtliajkheeniljaaGreatDoor
open Go.RowKit
set_option maxRecDepth 100000
set_option maxHeartbeats 16000000
theorem zaT {P:Program} (w:World) {ops:Array Oper} {o:Oper} {a:Act} {K:Act->World->Prop} {Q:Exit->Act->World->Prop} {E:Prop} (hw:Region.wanted o (yielded ops a.tmps)=true) (l c:Operand) (t:TypeId) (ho:o.op=Op.makeSlice t l c)
  (e:TypeId) (z:Value) (size bytes:Nat) (ht:P.underlying t=some (.slice e)) (hinfo:(P.info? e).map (fun i=>(i.zero,i.size,i.bytes))=some (some z,size,bytes)) (n:Nat) (hl:a.eval l= .int .i64 (n:Int)) (hc:a.eval c= .int .i64 (n:Int))
  (h63:n<=maxLen) (hbytes:n*bytes<=281474976710656) (h:K (a.put o.dst (.slice (some ⟨w.heap.size,0,none⟩) n n)) (w.alloc (.cells (madeCells z.cells (n*size)).toList.toArray e))):if Region.wanted o (yielded ops a.tmps)=true then Oper.wp P o a w K Q else E:=by
 rw [if_pos hw]
 obtain⟨i,hi,hz,hsize,hby⟩:=info_parts hinfo
 have h63':(n:Int)<=9223372036854775807:=by have:=h63;unfold maxLen at this;omega
 have hb':(i.bytes:Int)*(n:Int)<=281474976710656:=by
  have h:((i.bytes*n:Nat):Int)<=281474976710656:=by rw [hby,Nat.mul_comm];omega
  rwa [Int.natCast_mul] at h
 have hr:=run_make (P:=P) w t e i z ht hi hz .i64 .i64 (n:Int) (n:Int) (by omega) (Int.le_refl _) hb' h63'
 unfold Oper.wp execOp
 simp only [ho,resolve,Sem.run_bind,Sem.run_pure,Result.andThen_ok,hl,hc,hr,Int.toNat_natCast,hsize]
 rw [Array.toArray_toList] at h
 exact h
theorem zmN {z:Array Value} {n j:Nat} (h:j<n):(madeCells z n).toList[j]? =some z[j % z.size]! :=by
 rw [Array.getElem?_toList,madeCells,Array.getElem?_map,Array.getElem?_range,if_pos h];rfl
theorem zjn (n:Nat):(madeCells (Value.agg #[.int .i64 0, .int .i64 0, .int .i64 0, .int .i64 0, .int .i64 0, .slice none 0 0]).cells (n*6)).toList=zR (List.replicate n default) (List.replicate n (.slice none 0 0)):=by
 have hl:=ku (List.replicate n default) (List.replicate n (.slice none 0 0))
 rw [List.length_replicate] at hl
 apply List.ext_getElem?
 intro j
 by_cases hj:j<n*6
 rotate_left
 ·rw [List.getElem?_eq_none (by simp [size_madeCells];omega),List.getElem?_eq_none (by omega)]
 rw [zmN hj]
 have e:j=j / 6*6+j % 6:=by omega
 have hd:(List.replicate n (default:zx)).getD (j / 6) default=default:=by simp [List.getD_eq_getElem?_getD,List.getElem?_replicate];split<;>rfl
 have hv:(List.replicate n (Value.slice none 0 0)).getD (j / 6) (.slice none 0 0)= .slice none 0 0:=by simp [List.getD_eq_getElem?_getD,List.getElem?_replicate];split<;>rfl
 have hc:=qK (l:=List.replicate n default) (bs:=List.replicate n (.slice none 0 0)) (j:=j / 6) (i:=j % 6) (by rw [List.length_replicate];omega) (by omega)
 rw [<-e,hd,hv] at hc
 rw [hc]
 have h6:j % 6=0\/j % 6=1\/j % 6=2\/j % 6=3\/j % 6=4\/j % 6=5:=by omega
 show some (#[Value.int .i64 0, .int .i64 0, .int .i64 0, .int .i64 0, .int .i64 0, .slice none 0 0][j % 6]!)=_
 rcases h6 with h|h|h|h|h|h<;>rw [h] <;>rfl
theorem zrH (n:Nat):(madeCells (Value.int .i64 0).cells (n*1)).toList=zq yK (List.replicate n 0):=by
 rw [Nat.mul_one]
 refine(toList_madeCells_one (.int .i64 0) n).trans ?_
 induction n with
 |zero=>rfl
 |succ n ih=>rw [zhi, <-ih,List.replicate_succ']
def zhy (w:World) (s:zu) (e:Ending) (w':World):Prop:=(∃sv mv,e= .returned (yH s sv mv)/\yM (fun k=>k<w.heap.size) w' (fun y=>zZ y s sv mv))/\Below w.heap.size w w'
theorem zhz {w X:World} {g1 g2 gr n k:Nat} (hb:Below w.heap.size w X) (h1:X.heap[g1]? =some (.cells (madeCells (Value.agg #[.int .i64 0, .int .i64 0, .int .i64 0, .int .i64 0, .int .i64 0, .slice none 0 0]).cells (n*6)).toList.toArray 48 (0,0))) (h2:X.heap[g2]? =some (.cells (madeCells (Value.int .i64 0).cells (k*1)).toList.toArray 3 (0,0)))
  (l1:w.heap.size<=g1) (l2:w.heap.size<=g2) (hn:n<=4) (hk:k<=4) (_hr:X.heap[gr]? =some (.cells #[.slice (some ⟨g1,0,none⟩) n n, .slice (some ⟨g2,0,none⟩) k k, .bool false] 30 (0,0))):
  zhy w ⟨List.replicate n default,List.replicate k 0,false⟩ (.returned (.agg #[.slice (some ⟨g1,0,none⟩) n n, .slice (some ⟨g2,0,none⟩) k k, .bool false])) X:=by
 rw [zjn] at h1
 rw [zrH] at h2
 have r1:=jJ (n:=n) h1 l1 (by rw [ku,List.length_replicate]) (by unfold maxLen;omega)
 have r2:=jJ (n:=k) h2 l2 (by rw [jy (f:=yK) uZ,List.length_replicate]) (by unfold maxLen;omega)
 exact⟨⟨_,_,rfl,fun y hy=>zkf (hy.row r1 (fun x hx e=>by cases hx;exact absurd l1 (Nat.not_le.2 e))) (hy.row r2 (fun x hx e=>by cases hx;exact absurd l2 (Nat.not_le.2 e)))⟩,hb⟩
theorem zl6 (w:World) (c:zX) (tv:Value) (d:Nat) (h:yZ d w tv c.threads):Calls Tryz.prog 18 #[yL c tv] w (zhy w (jL c)):=by
 obtain⟨ca,cc,rfl,hcl⟩:=zk.slice h
 obtain⟨co,hco⟩:∃co,co=codeOk c:=⟨_,rfl⟩
 have hcode:=fun W (hW:yZ d W (.slice ca c.threads.length cc) c.threads)=>zes W c (.slice ca c.threads.length cc) d hW
 rw [<-hco] at hcode
 have hst:jL c=if co then⟨List.replicate c.threads.length default,List.replicate c.vars.toNat 0,false⟩ else⟨[], [],false⟩:=by rw [hco];rfl
 rw [hst]
 have hbd:co=true->1<=c.vars/\c.vars<=4/\c.threads.length<=4:=fun e=>by
  have:=qj (hco.symm.trans e);exact⟨this.1,this.2.1,this.2.2.2.2.2⟩
 obtain⟨vars,dom,cs⟩:=c
 simp only [] at h hcl hcode hbd ⊢
 unfold yL
 unfold yL at hcode
 simp only [] at hcode ⊢
 obtain⟨n,hn⟩:∃n,n=cs.length:=⟨_,rfl⟩
 rw [<-hn] at h hcl hcode hbd ⊢
 have hl0:=(((Loc.start w).alloc 24 [.int .i64 vars, .int .i64 dom, .slice ca n cc]).alloc 30 [.slice none 0 0, .slice none 0 0, .bool false])
 have hsz:(w.alloc (.cells [.int .i64 vars, .int .i64 dom, .slice ca n cc].toArray 24)).heap.size=w.heap.size+1:=by simp
 rw [hsz] at hl0
 have bT:=qh hl0
 clear hl0 hsz
 have HT:=qh h
 have zam:=qh hcode
 have uq:=qh hbd
 obtain⟨nv,bS⟩:∃nv:Nat,nv=vars.toNat:=⟨_,rfl⟩
 rw [<-bS]
 have HNV:=qh bS
 obtain⟨R,hR⟩:∃R:zu,R=if co then⟨List.replicate n default,List.replicate nv 0,false⟩ else⟨[], [],false⟩:=⟨_,rfl⟩
 rw [<-hR]
 have HRR:=qh hR
 clear hR
 clear h hcode hst hco hn hbd bS
 go_enter Tryz.func18,Tryz.ntmps18
 go_upto_region 1 with fail
 obtain⟨gx,hgx⟩:∃gx,gx=w.heap.size:=⟨_,rfl⟩
 have kr:Hid (gx+1≠gx):=by rw [Hid];omega
 rw [<-hgx] at bT ⊢
 generalize World.alloc (World.alloc w _) _=W at bT ⊢
 clear hgx
 obtain⟨n1, -⟩:=bT.out.news (gx,24, [.int .i64 vars, .int .i64 dom, .slice ca n cc]) (List.mem_cons_of_mem _ (List.mem_cons_self ..))
 have c0:=zi n1 0
 have c1:=zi n1 1
 have c2:=zi n1 2
 clear n1
 go_wp2_with fail
 refine(zam.out W (zk.below (xC.stays d) HT.out bT.out.below)).mono ?_
 rintro e W1 ⟨rfl,hb⟩
 have HL:=qh (bT.out.later hb)
 clear hb c0 c1 c2 zam HT bT
 cases co with
 |false=>
  obtain⟨n2, -⟩:=HL.out.news (gx+1,30, [.slice none 0 0, .slice none 0 0, .bool false]) (List.mem_cons_self ..)
  have a0:=zi n2 0
  have a1:=zi n2 1
  have a2:=zi n2 2
  have f0:=zB n2 0
  have f1:=zB n2 1
  have f2:=zB n2 2
  have HS:=qh (HL.out.store (List.mem_cons_self ..) [.slice none 0 0, .slice none 0 0, .bool false] rfl)
  clear n2
  go_wp2_with fail
  (try simp only [Exit.inBlock,Exit.then])
  obtain⟨hset, -⟩:=HS.out.news (gx+1,30, [.slice none 0 0, .slice none 0 0, .bool false]) (uX (List.mem_cons_self ..))
  have zcF:(((W1.setCell ⟨gx+1,0,none⟩ (.slice none 0 0)).setCell ⟨gx+1,1,none⟩ (.slice none 0 0)).setCell ⟨gx+1,2,none⟩ (.bool false)).heap[gx+1]? =some (.cells #[.slice none 0 0, .slice none 0 0, .bool false] 30 (0,0)):=hset
  refine bodyPost_ret (yV rfl _ _ (gx+1) 30 _ (0,0) _ rfl zcF Tryz.underlying30 rfl zG) rfl ?_
  have hr:R=⟨[], [],false⟩:=HRR.out
  rw [hr]
  exact⟨⟨_,_,rfl,fun y _=>⟨zk.nil _,zk.nil _⟩⟩,HS.out.below⟩
 |true=>
  obtain⟨hv1,hv4,wS⟩:=uq.out rfl
  have kF:vars=(nv:Int):=by rw [HNV.out];omega
  subst kF
  have zym:nv<=4:=by omega
  clear uq HNV hv1 hv4
  have CC:Hid (∀y,Since (fun k=>k=gx+1) W1 y->y.cell? ⟨gx,0,none⟩=some (.int .i64 nv)/\y.cell? ⟨gx,2,none⟩=some (.slice ca n cc)):=fun y hy=>by
   obtain⟨n1, -⟩:=HL.out.news (gx,24, [.int .i64 nv, .int .i64 dom, .slice ca n cc]) (List.mem_cons_of_mem _ (List.mem_cons_self ..))
   have n3:=(hy.block gx (zw n1) (by omega)).trans n1
   exact⟨zi n3 0,zi n3 2⟩
  go_wp2_with fail
  refine wp_region_noPanic ?_
  refine wp_region_held_drew (S:=fun x=>Since (fun k=>k=gx+1) W1 x) (by kernel_rfl) (Since.refl _ _).drew (fun _=> ?_)
  obtain⟨V1,hV1⟩:∃V1,V1=W1.drew:=⟨_,rfl⟩
  have kS:Hid (Since (fun k=>k=gx+1) W1 V1):=by rw [hV1];exact(Since.refl _ _).drew
  have hT0:=qh (HL.out.drew)
  rw [<-hV1] at hT0 ⊢
  clear hV1
  refine zy 0 7 ?vs1 rfl ?zrI (kS.out) ?_
  case zrI=>(intro _ _;go_simp<;>rfl)
  simp only [Act.put,za,ze,zh]
  refine zy 1 8 ?vs2 rfl ?zrJ (kS.out) ?_
  case zrJ=>(intro x h;have e:=CC.out x h;go_simp<;>rfl)
  simp only [Act.put,za,ze,zh]
  refine zy 2 9 ?vs3 rfl ?zrK (kS.out) ?_
  case zrK=>(intro _ _;go_simp<;>rfl)
  simp only [Act.put,za,ze,zh]
  refine zy 4 11 ?vs4 rfl ?zrL (kS.out) ?_
  case zrL=>(intro _ _;go_simp<;>rfl)
  simp only [Act.put,za,ze,zh]
  refine zy 5 12 ?vs5 rfl ?zrM (kS.out) ?_
  case zrM=>(intro x h;have e:=CC.out x h;go_simp<;>rfl)
  simp only [Act.put,za,ze,zh]
  refine wpAnyH_ready (rs:= [3,6]) (by kernel_rfl) (by simp) ?_
  refine AllReadyH.cons rfl (fun K hK=> ?_) (AllReadyH.cons rfl (fun K hK=> ?_) AllReadyH.nil)
  ·skip
   refine zaT V1 (by rfl) (.tmp 9) (.tmp 9) 27 rfl 48 (.agg #[.int .i64 0, .int .i64 0, .int .i64 0, .int .i64 0, .int .i64 0, .slice none 0 0]) 6 64 Tryz.underlying27 wC n (by rfl) (by rfl) (by unfold maxLen;omega) (by omega) ?_
   have kT:(gx+1)≠V1.heap.size:=hT0.out.za1 (List.mem_cons_self ..)
   have uQ:=hT0.out.alloc 48 (madeCells (Value.agg #[.int .i64 0, .int .i64 0, .int .i64 0, .int .i64 0, .int .i64 0, .slice none 0 0]).cells (n*6)).toList
   have zfZ:=(kS.out).alloc (.cells (madeCells (Value.agg #[.int .i64 0, .int .i64 0, .int .i64 0, .int .i64 0, .int .i64 0, .slice none 0 0]).cells (n*6)).toList.toArray 48)
   refine hK.out _ _ zfZ (fun _=> ?_)
   change wpAnyH _ _ _ _ _ _ _ (Act.put _ (some 10) _) _
   simp only [Act.put,za]
   try simp only [ze,zh]
   obtain⟨ga,hga⟩:∃n,n=V1.heap.size:=⟨_,rfl⟩
   rw [<-hga] at uQ kT ⊢
   clear hga
   replace kT:=qh kT
   generalize World.alloc V1 _=Xs2 at uQ zfZ ⊢
   replace uQ:=qh uQ
   replace zfZ:=qh zfZ
   clear hK K
   refine zY 6 rfl (fun K hK=> ?_)
   refine zaT Xs2 (by rfl) (.tmp 12) (.tmp 12) 28 rfl 3 (.int .i64 0) 1 8 Tryz.underlying28 vF nv (by rfl) (by rfl) (by unfold maxLen;omega) (by omega) ?_
   have kU:(gx+1)≠Xs2.heap.size:=uQ.out.za1 (List.mem_cons_of_mem _ (List.mem_cons_self ..))
   have zeX:ga≠Xs2.heap.size:=uQ.out.za1 (List.mem_cons_self ..)
   have pI:=uQ.out.alloc 3 (madeCells (Value.int .i64 0).cells (nv*1)).toList
   have zei:=(zfZ.out).alloc (.cells (madeCells (Value.int .i64 0).cells (nv*1)).toList.toArray 3)
   refine hK.out _ _ zei (fun _=> ?_)
   change wpAnyH _ _ _ _ _ _ _ (Act.put _ (some 13) _) _
   simp only [Act.put,za]
   try simp only [ze,zh]
   obtain⟨gm,hgm⟩:∃n,n=Xs2.heap.size:=⟨_,rfl⟩
   rw [<-hgm] at pI kU zeX ⊢
   clear hgm
   replace kU:=qh kU
   replace zeX:=qh zeX
   generalize World.alloc Xs2 _=Xs4 at pI zei ⊢
   replace pI:=qh pI
   replace zei:=qh zei
   clear hK K
   refine zy 7 14 ?vs6 rfl ?zrN (zei.out) ?_
   case zrN=>(intro _ _;go_simp<;>rfl)
   simp only [Act.put,za,ze,zh]
   refine zY 8 rfl (fun K hK=> ?_)
   obtain⟨hn, -⟩:=pI.out.news (gx+1,30, [.slice none 0 0, .slice none 0 0, .bool false]) (List.mem_cons_of_mem _ (List.mem_cons_of_mem _ (List.mem_cons_self ..)))
   have d0:=zi hn 0
   have f0:=zB hn 0
   have d1:=zi hn 1
   have f1:=zB hn 1
   have d2:=zi hn 2
   have f2:=zB hn 2
   clear hn
   have HS:=qh (pI.out.store (g:=gx+1) (t:=30) (cs:= [.slice none 0 0, .slice none 0 0, .bool false]) (List.mem_cons_of_mem _ (List.mem_cons_of_mem _ (List.mem_cons_self ..))) [.slice (some ⟨ga,0,none⟩) n n, .slice (some ⟨gm,0,none⟩) nv nv, .bool false] rfl)
   go_simp
   clear d0 d1 d2 f0 f1 f2
   refine hK.out _ (zU Xs4 (gx+1) 0 [.slice (some ⟨ga,0,none⟩) n n, .slice (some ⟨gm,0,none⟩) nv nv, .bool false]) ((zei.out).trans (yP _ _ _) (fun _ h=> .inl h)) (fun _=> ?_)
   obtain⟨hset, -⟩:=HS.out.news (gx+1,30, [.slice (some ⟨ga,0,none⟩) n n, .slice (some ⟨gm,0,none⟩) nv nv, .bool false]) (uX (List.mem_cons_of_mem _ (List.mem_cons_of_mem _ (List.mem_cons_self ..))))
   obtain⟨hga,hla⟩:=HS.out.news (ga,48,(madeCells (Value.agg #[.int .i64 0, .int .i64 0, .int .i64 0, .int .i64 0, .int .i64 0, .slice none 0 0]).cells (n*6)).toList) (vV (p:=(ga,48,(madeCells (Value.agg #[.int .i64 0, .int .i64 0, .int .i64 0, .int .i64 0, .int .i64 0, .slice none 0 0]).cells (n*6)).toList)) (List.mem_cons_of_mem _ (List.mem_cons_self ..)) (by simpa using (Ne.symm kT.out)))
   obtain⟨hgm,hlm⟩:=HS.out.news (gm,3,(madeCells (Value.int .i64 0).cells (nv*1)).toList) (vV (p:=(gm,3,(madeCells (Value.int .i64 0).cells (nv*1)).toList)) (List.mem_cons_self ..) (by simpa using (Ne.symm kU.out)))
   have yj:=qh (zhz (w:=w) HS.out.below hga hgm hla hlm wS zym hset)
   have zI:=qh hset
   clear hga hgm hla hlm hset HS
   generalize zU Xs4 (gx+1) 0 _=Xs5 at yj zI ⊢
   clear hK K
   refine wpAnyH_done (by kernel_rfl) ?_ _
   refine NoPanic.normal ?_
   go_wp2_with fail
   (try simp only [Exit.inBlock,Exit.then])
   refine bodyPost_ret (yV rfl _ _ (gx+1) 30 _ (0,0) _ rfl zI.out Tryz.underlying30 rfl zG) rfl ?_
   have hr:R=⟨List.replicate n default,List.replicate nv 0,false⟩:=HRR.out
   rw [hr]
   exact yj.out
  ·skip
   refine zaT V1 (by rfl) (.tmp 12) (.tmp 12) 28 rfl 3 (.int .i64 0) 1 8 Tryz.underlying28 vF nv (by rfl) (by rfl) (by unfold maxLen;omega) (by omega) ?_
   have kU:(gx+1)≠V1.heap.size:=hT0.out.za1 (List.mem_cons_self ..)
   have zeY:=hT0.out.alloc 3 (madeCells (Value.int .i64 0).cells (nv*1)).toList
   have zgb:=(kS.out).alloc (.cells (madeCells (Value.int .i64 0).cells (nv*1)).toList.toArray 3)
   refine hK.out _ _ zgb (fun _=> ?_)
   change wpAnyH _ _ _ _ _ _ _ (Act.put _ (some 13) _) _
   simp only [Act.put,za]
   try simp only [ze,zh]
   obtain⟨gm,hgm⟩:∃n,n=V1.heap.size:=⟨_,rfl⟩
   rw [<-hgm] at zeY kU ⊢
   clear hgm
   replace kU:=qh kU
   generalize World.alloc V1 _=Xs7 at zeY zgb ⊢
   replace zeY:=qh zeY
   replace zgb:=qh zgb
   clear hK K
   refine zY 3 rfl (fun K hK=> ?_)
   refine zaT Xs7 (by rfl) (.tmp 9) (.tmp 9) 27 rfl 48 (.agg #[.int .i64 0, .int .i64 0, .int .i64 0, .int .i64 0, .int .i64 0, .slice none 0 0]) 6 64 Tryz.underlying27 wC n (by rfl) (by rfl) (by unfold maxLen;omega) (by omega) ?_
   have kT:(gx+1)≠Xs7.heap.size:=zeY.out.za1 (List.mem_cons_of_mem _ (List.mem_cons_self ..))
   have zeZ:gm≠Xs7.heap.size:=zeY.out.za1 (List.mem_cons_self ..)
   have zgV:=zeY.out.alloc 48 (madeCells (Value.agg #[.int .i64 0, .int .i64 0, .int .i64 0, .int .i64 0, .int .i64 0, .slice none 0 0]).cells (n*6)).toList
   have zej:=(zgb.out).alloc (.cells (madeCells (Value.agg #[.int .i64 0, .int .i64 0, .int .i64 0, .int .i64 0, .int .i64 0, .slice none 0 0]).cells (n*6)).toList.toArray 48)
   refine hK.out _ _ zej (fun _=> ?_)
   change wpAnyH _ _ _ _ _ _ _ (Act.put _ (some 10) _) _
   simp only [Act.put,za]
   try simp only [ze,zh]
   obtain⟨ga,hga⟩:∃n,n=Xs7.heap.size:=⟨_,rfl⟩
   rw [<-hga] at zgV kT zeZ ⊢
   clear hga
   replace kT:=qh kT
   replace zeZ:=qh zeZ
   generalize World.alloc Xs7 _=Xs9 at zgV zej ⊢
   replace zgV:=qh zgV
   replace zej:=qh zej
   clear hK K
   refine zy 7 14 ?vs7 rfl ?zrO (zej.out) ?_
   case zrO=>(intro _ _;go_simp<;>rfl)
   simp only [Act.put,za,ze,zh]
   refine zY 8 rfl (fun K hK=> ?_)
   obtain⟨hn, -⟩:=zgV.out.news (gx+1,30, [.slice none 0 0, .slice none 0 0, .bool false]) (List.mem_cons_of_mem _ (List.mem_cons_of_mem _ (List.mem_cons_self ..)))
   have d0:=zi hn 0
   have f0:=zB hn 0
   have d1:=zi hn 1
   have f1:=zB hn 1
   have d2:=zi hn 2
   have f2:=zB hn 2
   clear hn
   have HS:=qh (zgV.out.store (g:=gx+1) (t:=30) (cs:= [.slice none 0 0, .slice none 0 0, .bool false]) (List.mem_cons_of_mem _ (List.mem_cons_of_mem _ (List.mem_cons_self ..))) [.slice (some ⟨ga,0,none⟩) n n, .slice (some ⟨gm,0,none⟩) nv nv, .bool false] rfl)
   go_simp
   clear d0 d1 d2 f0 f1 f2
   refine hK.out _ (zU Xs9 (gx+1) 0 [.slice (some ⟨ga,0,none⟩) n n, .slice (some ⟨gm,0,none⟩) nv nv, .bool false]) ((zej.out).trans (yP _ _ _) (fun _ h=> .inl h)) (fun _=> ?_)
   obtain⟨hset, -⟩:=HS.out.news (gx+1,30, [.slice (some ⟨ga,0,none⟩) n n, .slice (some ⟨gm,0,none⟩) nv nv, .bool false]) (uX (List.mem_cons_of_mem _ (List.mem_cons_of_mem _ (List.mem_cons_self ..))))
   obtain⟨hga,hla⟩:=HS.out.news (ga,48,(madeCells (Value.agg #[.int .i64 0, .int .i64 0, .int .i64 0, .int .i64 0, .int .i64 0, .slice none 0 0]).cells (n*6)).toList) (vV (p:=(ga,48,(madeCells (Value.agg #[.int .i64 0, .int .i64 0, .int .i64 0, .int .i64 0, .int .i64 0, .slice none 0 0]).cells (n*6)).toList)) (List.mem_cons_self ..) (by simpa using (Ne.symm kT.out)))
   obtain⟨hgm,hlm⟩:=HS.out.news (gm,3,(madeCells (Value.int .i64 0).cells (nv*1)).toList) (vV (p:=(gm,3,(madeCells (Value.int .i64 0).cells (nv*1)).toList)) (List.mem_cons_of_mem _ (List.mem_cons_self ..)) (by simpa using (Ne.symm kU.out)))
   have yj:=qh (zhz (w:=w) HS.out.below hga hgm hla hlm wS zym hset)
   have zI:=qh hset
   clear hga hgm hla hlm hset HS
   generalize zU Xs9 (gx+1) 0 _=zmO at yj zI ⊢
   clear hK K
   refine wpAnyH_done (by kernel_rfl) ?_ _
   refine NoPanic.normal ?_
   go_wp2_with fail
   (try simp only [Exit.inBlock,Exit.then])
   refine bodyPost_ret (yV rfl _ _ (gx+1) 30 _ (0,0) _ rfl zI.out Tryz.underlying30 rfl zG) rfl ?_
   have hr:R=⟨List.replicate n default,List.replicate nv 0,false⟩:=HRR.out
   rw [hr]
   exact yj.out
end Go.Proofs.YtliajkheeniljaaGreatDoor
