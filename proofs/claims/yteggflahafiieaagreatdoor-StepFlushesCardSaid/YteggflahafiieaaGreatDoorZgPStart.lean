/- Steps. -/
import Derived.Test.YteggflahafiieaaGreatDoorZgPCode
import Derived.Test.YteggflahafiieaaGreatDoorZgPSrc
import Derived.Test.YteggflahafiieaaGreatDoorZgStart
set_option linter.all false
namespace Go.Proofs.YteggflahafiieaaGreatDoor
open Go.RowKit
set_option maxRecDepth 100000
set_option maxHeartbeats 16000000
theorem zaE {P:Program} (w:World) {ops:Array Oper} {o:Oper} {a:Act} {K:Act->World->Prop} {Q:Exit->Act->World->Prop} {E:Prop} (hw:Region.wanted o (yielded ops a.tmps)=true) (l c:Operand) (t:TypeId) (ho:o.op=Op.makeSlice t l c)
  (e:TypeId) (z:Value) (size bytes:Nat) (ht:P.underlying t=some (.slice e)) (hinfo:(P.info? e).map (λi=>(i.zero,i.size,i.bytes))=some (some z,size,bytes)) (n:Nat) (hl:a.eval l= .int .i64 (n:Int)) (hc:a.eval c= .int .i64 (n:Int))
  (h63:n<=maxLen) (hbytes:n*bytes<=281474976710656) (h:K (a.put o.dst (.slice (some ⟨w.heap.size,0,none⟩) n n)) (w.alloc (.cells (madeCells z.cells (n*size)).toList.toArray e))):if Region.wanted o (yielded ops a.tmps)=true then Oper.wp P o a w K Q else E:=by
 rw [if_pos hw]
 obtain⟨i,hi,hz,hsize,hby⟩:=info_parts hinfo
 have h63':(n:Int)<=9223372036854775807:=by have:=h63;unfold maxLen at this;omega
 have hb':(i.bytes:Int)*(n:Int)<=281474976710656:=by
  have h:((i.bytes*n:Nat):Int)<=281474976710656:=by rw [hby,Nat.mul_comm];omega
  rwa [Int.natCast_mul] at h
 have hr:=run_make (P:=P) w t e i z ht hi hz .i64 .i64 (n:Int) (n:Int) (by omega) (Int.le_refl _) hb' h63'
 unfold Oper.wp execOp
 simp only [ho,resolve,Sem.run_bind,Sem.run_pure,Result.andThen_ok,hl,hc,hr,Int.toNat_natCast,hsize]
 rw [Array.toArray_toList] at h
 exact h
theorem zq8 {z:Array Value} {n j:Nat} (h:j<n):(madeCells z n).toList[j]? =some z[j % z.size]! :=by
 rw [Array.getElem?_toList,madeCells,Array.getElem?_map,Array.getElem?_range,if_pos h];rfl
theorem znH (n:Nat):(madeCells (Value.agg #[.int .i64 0, .int .i64 0, .int .i64 0, .int .i64 0, .int .i64 0, .slice none 0 0]).cells (n*6)).toList=zU (List.replicate n default) (List.replicate n (.slice none 0 0)):=by
 have hl:=kR (List.replicate n default) (List.replicate n (.slice none 0 0))
 rw [List.length_replicate] at hl
 apply List.ext_getElem?
 intro j
 by_cases hj:j<n*6
 rotate_left
 ·rw [List.getElem?_eq_none (by simp [size_madeCells];omega),List.getElem?_eq_none (by omega)]
 rw [zq8 hj]
 have e:j=j / 6*6+j % 6:=by omega
 have hd:(List.replicate n (default:zo)).getD (j / 6) default=default:=by simp [List.getD_eq_getElem?_getD,List.getElem?_replicate];split<;>rfl
 have hv:(List.replicate n (Value.slice none 0 0)).getD (j / 6) (.slice none 0 0)= .slice none 0 0:=by simp [List.getD_eq_getElem?_getD,List.getElem?_replicate];split<;>rfl
 have hc:=qV (l:=List.replicate n default) (bs:=List.replicate n (.slice none 0 0)) (j:=j / 6) (i:=j % 6) (by rw [List.length_replicate];omega) (by omega)
 rw [<-e,hd,hv] at hc
 rw [hc]
 have h6:j % 6=0\/j % 6=1\/j % 6=2\/j % 6=3\/j % 6=4\/j % 6=5:=by omega
 show some (#[Value.int .i64 0, .int .i64 0, .int .i64 0, .int .i64 0, .int .i64 0, .slice none 0 0][j % 6]!)=_
 rcases h6 with h|h|h|h|h|h<;>rw [h] <;>rfl
theorem zvl (n:Nat):(madeCells (Value.int .i64 0).cells (n*1)).toList=zl yO (List.replicate n 0):=by
 rw [Nat.mul_one]
 refine(toList_madeCells_one (.int .i64 0) n).trans ?_
 induction n with
 |zero=>rfl
 |succ n ih=>rw [zjx, <-ih,List.replicate_succ']
def zj8 (w:World) (s:zm) (e:Ending) (w':World):Prop:=(∃sv mv,e= .returned (yR s sv mv)/\yK (λk=>k<w.heap.size) w' (λy=>yh y s sv mv))/\Below w.heap.size w w'
theorem zj9 {w X:World} {g1 g2 gr n k:Nat} (hb:Below w.heap.size w X) (h1:X.heap[g1]? =some (.cells (madeCells (Value.agg #[.int .i64 0, .int .i64 0, .int .i64 0, .int .i64 0, .int .i64 0, .slice none 0 0]).cells (n*6)).toList.toArray 47 (0,0))) (h2:X.heap[g2]? =some (.cells (madeCells (Value.int .i64 0).cells (k*1)).toList.toArray 3 (0,0)))
  (l1:w.heap.size<=g1) (l2:w.heap.size<=g2) (hn:n<=4) (hk:k<=4) (_hr:X.heap[gr]? =some (.cells #[.slice (some ⟨g1,0,none⟩) n n, .slice (some ⟨g2,0,none⟩) k k, .bool false] 35 (0,0))):
  zj8 w ⟨List.replicate n default,List.replicate k 0,false⟩ (.returned (.agg #[.slice (some ⟨g1,0,none⟩) n n, .slice (some ⟨g2,0,none⟩) k k, .bool false])) X:=by
 rw [znH] at h1
 rw [zvl] at h2
 have r1:=jT (n:=n) h1 l1 (by rw [kR,List.length_replicate]) (by unfold maxLen;omega)
 have r2:=jT (n:=k) h2 l2 (by rw [jA (f:=yO) uZ,List.length_replicate]) (by unfold maxLen;omega)
 exact⟨⟨_,_,rfl,λy hy=>zo8 (hy.row r1 (λx hx e=>by cases hx;exact absurd l1 (Nat.not_le.2 e))) (hy.row r2 (λx hx e=>by cases hx;exact absurd l2 (Nat.not_le.2 e)))⟩,hb⟩
theorem zq9 (w:World) (c:zK) (tv:Value) (d:Nat) (h:yZ d w tv c.threads):Calls Tryz.prog 25 #[yT c tv] w (zj8 w (uJ c)):=by
 obtain⟨ca,cc,rfl,hcl⟩:=ze.slice h
 obtain⟨co,hco⟩:∃co,co=codeOk c:=⟨_,rfl⟩
 have hcode:=λW (hW:yZ d W (.slice ca c.threads.length cc) c.threads)=>zeK W c (.slice ca c.threads.length cc) d hW
 rw [<-hco] at hcode
 have hst:uJ c=if co then⟨List.replicate c.threads.length default,List.replicate c.vars.toNat 0,false⟩ else⟨[], [],false⟩:=by rw [hco];rfl
 rw [hst]
 have hbd:co=true->1<=c.vars/\c.vars<=4/\c.threads.length<=4:=λe=>by
  have:=qA (hco.symm.trans e);exact⟨this.1,this.2.1,this.2.2.2.2.2⟩
 obtain⟨vars,dom,cs⟩:=c
 simp only [] at h hcl hcode hbd ⊢
 unfold yT
 unfold yT at hcode
 simp only [] at hcode ⊢
 obtain⟨n,hn⟩:∃n,n=cs.length:=⟨_,rfl⟩
 rw [<-hn] at h hcl hcode hbd ⊢
 have hl0:=(((Loc.start w).alloc 26 [.int .i64 vars, .int .i64 dom, .slice ca n cc]).alloc 35 [.slice none 0 0, .slice none 0 0, .bool false])
 have hsz:(w.alloc (.cells [.int .i64 vars, .int .i64 dom, .slice ca n cc].toArray 26)).heap.size=w.heap.size+1:=by simp
 rw [hsz] at hl0
 have HL0:=qh hl0
 clear hl0 hsz
 have HT:=qh h
 have zab:=qh hcode
 have wN:=qh hbd
 obtain⟨nv,bL⟩:∃nv:Nat,nv=vars.toNat:=⟨_,rfl⟩
 rw [<-bL]
 have HNV:=qh bL
 obtain⟨R,hR⟩:∃R:zm,R=if co then⟨List.replicate n default,List.replicate nv 0,false⟩ else⟨[], [],false⟩:=⟨_,rfl⟩
 rw [<-hR]
 have HRR:=qh hR
 clear hR
 clear h hcode hst hco hn hbd bL
 go_enter Tryz.func25,Tryz.ntmps25
 go_upto_region 1 with fail
 obtain⟨gx,hgx⟩:∃gx,gx=w.heap.size:=⟨_,rfl⟩
 have HNE:Hid (gx+1≠gx):=by rw [Hid];omega
 rw [<-hgx] at HL0 ⊢
 generalize World.alloc (World.alloc w _) _=W at HL0 ⊢
 clear hgx
 obtain⟨n1, -⟩:=HL0.out.news (gx,26, [.int .i64 vars, .int .i64 dom, .slice ca n cc]) (List.mem_cons_of_mem _ (List.mem_cons_self ..))
 have c0:=za n1 0
 have c1:=za n1 1
 have c2:=za n1 2
 clear n1
 go_wp2_with fail
 refine(zab.out W (ze.below (xK.stays d) HT.out HL0.out.below)).mono ?_
 rintro e W1 ⟨rfl,hb⟩
 have HL:=qh (HL0.out.later hb)
 clear hb c0 c1 c2 zab HT HL0
 cases co with
 |false=>
  obtain⟨n2, -⟩:=HL.out.news (gx+1,35, [.slice none 0 0, .slice none 0 0, .bool false]) (List.mem_cons_self ..)
  have a0:=za n2 0
  have a1:=za n2 1
  have a2:=za n2 2
  have f0:=zw n2 0
  have f1:=zw n2 1
  have f2:=zw n2 2
  have HS:=qh (HL.out.store (List.mem_cons_self ..) [.slice none 0 0, .slice none 0 0, .bool false] rfl)
  clear n2
  go_wp2_with fail
  (try simp only [Exit.inBlock,Exit.then])
  obtain⟨hset, -⟩:=HS.out.news (gx+1,35, [.slice none 0 0, .slice none 0 0, .bool false]) (bq (List.mem_cons_self ..))
  have zc9:(((W1.setCell ⟨gx+1,0,none⟩ (.slice none 0 0)).setCell ⟨gx+1,1,none⟩ (.slice none 0 0)).setCell ⟨gx+1,2,none⟩ (.bool false)).heap[gx+1]? =some (.cells #[.slice none 0 0, .slice none 0 0, .bool false] 35 (0,0)):=hset
  refine bodyPost_ret (yY rfl _ _ (gx+1) 35 _ (0,0) _ rfl zc9 Tryz.underlying35 rfl zC) rfl ?_
  have hr:R=⟨[], [],false⟩:=HRR.out
  rw [hr]
  exact⟨⟨_,_,rfl,λy _=>⟨ze.nil _,ze.nil _⟩⟩,HS.out.below⟩
 |true=>
 obtain⟨hv1,hv4,gD⟩:=wN.out rfl
 have kW:vars=(nv:Int):=by rw [HNV.out];omega
 subst kW
 have zzL:nv<=4:=by omega
 clear wN HNV hv1 hv4
 have CC:Hid (∀y,Since (λk=>k=gx+1) W1 y->y.cell? ⟨gx,0,none⟩=some (.int .i64 nv)/\y.cell? ⟨gx,2,none⟩=some (.slice ca n cc)):=λy hy=>by
  obtain⟨n1, -⟩:=HL.out.news (gx,26, [.int .i64 nv, .int .i64 dom, .slice ca n cc]) (List.mem_cons_of_mem _ (List.mem_cons_self ..))
  have n3:=(hy.block gx (zq n1) (by omega)).trans n1
  exact⟨za n3 0,za n3 2⟩
 go_wp2_with fail
 refine vJ (S:=λx=>Since (λk=>k=gx+1) W1 x) (Since.refl _ _).drew (λ_=> ?_)
 obtain⟨V1,hV1⟩:∃V1,V1=W1.drew:=⟨_,rfl⟩
 have zfr:Hid (Since (λk=>k=gx+1) W1 V1):=by rw [hV1];exact(Since.refl _ _).drew
 have hT0:=qh (HL.out.drew)
 rw [<-hV1] at hT0 ⊢
 clear hV1
 refine zA 0 zM (zfr.out) ?_
 refine zA 1 CC.out (zfr.out) ?_
 refine zA 2 zM (zfr.out) ?_
 refine zA 4 zM (zfr.out) ?_
 refine zA 5 CC.out (zfr.out) ?_
 refine wpAnyH_ready (rs:= [3,6]) (by kernel_rfl) (by simp) ?_
 refine AllReadyH.cons rfl (λK hK=> ?_) (AllReadyH.cons rfl (λK hK=> ?_) AllReadyH.nil)
 ·skip
  refine zaE V1 (by rfl) (.tmp 9) (.tmp 9) 33 rfl 47 (.agg #[.int .i64 0, .int .i64 0, .int .i64 0, .int .i64 0, .int .i64 0, .slice none 0 0]) 6 64 Tryz.underlying33 uK n (by rfl) (by rfl) (by unfold maxLen;omega) (by omega) ?_
  have wB:(gx+1)≠V1.heap.size:=hT0.out.zam (List.mem_cons_self ..)
  have zfs:=hT0.out.alloc 47 (madeCells (Value.agg #[.int .i64 0, .int .i64 0, .int .i64 0, .int .i64 0, .int .i64 0, .slice none 0 0]).cells (n*6)).toList
  have zgB:=(zfr.out).alloc (.cells (madeCells (Value.agg #[.int .i64 0, .int .i64 0, .int .i64 0, .int .i64 0, .int .i64 0, .slice none 0 0]).cells (n*6)).toList.toArray 47)
  refine hK.out _ _ zgB (λ_=> ?_)
  change wpAnyH _ _ _ _ _ _ _ (Act.put _ (some 10) _) _
  simp only [Act.put,zQ]
  try simp only [zR,zS]
  obtain⟨ga,hga⟩:∃n,n=V1.heap.size:=⟨_,rfl⟩
  rw [<-hga] at zfs wB ⊢
  clear hga
  replace wB:=qh wB
  generalize World.alloc V1 _=Xs2 at zfs zgB ⊢
  replace zfs:=qh zfs
  replace zgB:=qh zgB
  clear hK K
  refine yw 6 rfl (λK hK=> ?_)
  refine zaE Xs2 (by rfl) (.tmp 12) (.tmp 12) 28 rfl 3 (.int .i64 0) 1 8 Tryz.underlying28 vO nv (by rfl) (by rfl) (by unfold maxLen;omega) (by omega) ?_
  have wC:(gx+1)≠Xs2.heap.size:=zfs.out.zam (List.mem_cons_of_mem _ (List.mem_cons_self ..))
  have zft:ga≠Xs2.heap.size:=zfs.out.zam (List.mem_cons_self ..)
  have zhc:=zfs.out.alloc 3 (madeCells (Value.int .i64 0).cells (nv*1)).toList
  have zes:=(zgB.out).alloc (.cells (madeCells (Value.int .i64 0).cells (nv*1)).toList.toArray 3)
  refine hK.out _ _ zes (λ_=> ?_)
  change wpAnyH _ _ _ _ _ _ _ (Act.put _ (some 13) _) _
  simp only [Act.put,zQ]
  try simp only [zR,zS]
  obtain⟨gm,hgm⟩:∃n,n=Xs2.heap.size:=⟨_,rfl⟩
  rw [<-hgm] at zhc wC zft ⊢
  clear hgm
  replace wC:=qh wC
  replace zft:=qh zft
  generalize World.alloc Xs2 _=Xs4 at zhc zes ⊢
  replace zhc:=qh zhc
  replace zes:=qh zes
  clear hK K
  refine zA 7 zM (zes.out) ?_
  refine yw 8 rfl (λK hK=> ?_)
  obtain⟨hn, -⟩:=zhc.out.news (gx+1,35, [.slice none 0 0, .slice none 0 0, .bool false]) (List.mem_cons_of_mem _ (List.mem_cons_of_mem _ (List.mem_cons_self ..)))
  have d0:=za hn 0
  have f0:=zw hn 0
  have d1:=za hn 1
  have f1:=zw hn 1
  have d2:=za hn 2
  have f2:=zw hn 2
  clear hn
  have HS:=qh (zhc.out.store (g:=gx+1) (t:=35) (cs:= [.slice none 0 0, .slice none 0 0, .bool false]) (List.mem_cons_of_mem _ (List.mem_cons_of_mem _ (List.mem_cons_self ..))) [.slice (some ⟨ga,0,none⟩) n n, .slice (some ⟨gm,0,none⟩) nv nv, .bool false] rfl)
  go_simp
  clear d0 d1 d2 f0 f1 f2
  refine hK.out _ (zY Xs4 (gx+1) 0 [.slice (some ⟨ga,0,none⟩) n n, .slice (some ⟨gm,0,none⟩) nv nv, .bool false]) ((zes.out).trans (yX _ _ _) (λ_ h=> .inl h)) (λ_=> ?_)
  obtain⟨hset, -⟩:=HS.out.news (gx+1,35, [.slice (some ⟨ga,0,none⟩) n n, .slice (some ⟨gm,0,none⟩) nv nv, .bool false]) (bq (List.mem_cons_of_mem _ (List.mem_cons_of_mem _ (List.mem_cons_self ..))))
  obtain⟨hga,hla⟩:=HS.out.news (ga,47,(madeCells (Value.agg #[.int .i64 0, .int .i64 0, .int .i64 0, .int .i64 0, .int .i64 0, .slice none 0 0]).cells (n*6)).toList) (je (p:=(ga,47,(madeCells (Value.agg #[.int .i64 0, .int .i64 0, .int .i64 0, .int .i64 0, .int .i64 0, .slice none 0 0]).cells (n*6)).toList)) (List.mem_cons_of_mem _ (List.mem_cons_self ..)) (by simpa using (Ne.symm wB.out)))
  obtain⟨hgm,hlm⟩:=HS.out.news (gm,3,(madeCells (Value.int .i64 0).cells (nv*1)).toList) (je (p:=(gm,3,(madeCells (Value.int .i64 0).cells (nv*1)).toList)) (List.mem_cons_self ..) (by simpa using (Ne.symm wC.out)))
  have yt:=qh (zj9 (w:=w) HS.out.below hga hgm hla hlm gD zzL hset)
  have zI:=qh hset
  clear hga hgm hla hlm hset HS
  generalize zY Xs4 (gx+1) 0 _=Xs5 at yt zI ⊢
  clear hK K
  refine xM ?_
  go_wp2_with fail
  (try simp only [Exit.inBlock,Exit.then])
  refine bodyPost_ret (yY rfl _ _ (gx+1) 35 _ (0,0) _ rfl zI.out Tryz.underlying35 rfl zC) rfl ?_
  have hr:R=⟨List.replicate n default,List.replicate nv 0,false⟩:=HRR.out
  rw [hr]
  exact yt.out
 skip
 refine zaE V1 (by rfl) (.tmp 12) (.tmp 12) 28 rfl 3 (.int .i64 0) 1 8 Tryz.underlying28 vO nv (by rfl) (by rfl) (by unfold maxLen;omega) (by omega) ?_
 have wC:(gx+1)≠V1.heap.size:=hT0.out.zam (List.mem_cons_self ..)
 have zfu:=hT0.out.alloc 3 (madeCells (Value.int .i64 0).cells (nv*1)).toList
 have zgC:=(zfr.out).alloc (.cells (madeCells (Value.int .i64 0).cells (nv*1)).toList.toArray 3)
 refine hK.out _ _ zgC (λ_=> ?_)
 change wpAnyH _ _ _ _ _ _ _ (Act.put _ (some 13) _) _
 simp only [Act.put,zQ]
 try simp only [zR,zS]
 obtain⟨gm,hgm⟩:∃n,n=V1.heap.size:=⟨_,rfl⟩
 rw [<-hgm] at zfu wC ⊢
 clear hgm
 replace wC:=qh wC
 generalize World.alloc V1 _=Xs7 at zfu zgC ⊢
 replace zfu:=qh zfu
 replace zgC:=qh zgC
 clear hK K
 refine yw 3 rfl (λK hK=> ?_)
 refine zaE Xs7 (by rfl) (.tmp 9) (.tmp 9) 33 rfl 47 (.agg #[.int .i64 0, .int .i64 0, .int .i64 0, .int .i64 0, .int .i64 0, .slice none 0 0]) 6 64 Tryz.underlying33 uK n (by rfl) (by rfl) (by unfold maxLen;omega) (by omega) ?_
 have wB:(gx+1)≠Xs7.heap.size:=zfu.out.zam (List.mem_cons_of_mem _ (List.mem_cons_self ..))
 have zfv:gm≠Xs7.heap.size:=zfu.out.zam (List.mem_cons_self ..)
 have zhd:=zfu.out.alloc 47 (madeCells (Value.agg #[.int .i64 0, .int .i64 0, .int .i64 0, .int .i64 0, .int .i64 0, .slice none 0 0]).cells (n*6)).toList
 have zet:=(zgC.out).alloc (.cells (madeCells (Value.agg #[.int .i64 0, .int .i64 0, .int .i64 0, .int .i64 0, .int .i64 0, .slice none 0 0]).cells (n*6)).toList.toArray 47)
 refine hK.out _ _ zet (λ_=> ?_)
 change wpAnyH _ _ _ _ _ _ _ (Act.put _ (some 10) _) _
 simp only [Act.put,zQ]
 try simp only [zR,zS]
 obtain⟨ga,hga⟩:∃n,n=Xs7.heap.size:=⟨_,rfl⟩
 rw [<-hga] at zhd wB zfv ⊢
 clear hga
 replace wB:=qh wB
 replace zfv:=qh zfv
 generalize World.alloc Xs7 _=Xs9 at zhd zet ⊢
 replace zhd:=qh zhd
 replace zet:=qh zet
 clear hK K
 refine zA 7 zM (zet.out) ?_
 refine yw 8 rfl (λK hK=> ?_)
 obtain⟨hn, -⟩:=zhd.out.news (gx+1,35, [.slice none 0 0, .slice none 0 0, .bool false]) (List.mem_cons_of_mem _ (List.mem_cons_of_mem _ (List.mem_cons_self ..)))
 have d0:=za hn 0
 have f0:=zw hn 0
 have d1:=za hn 1
 have f1:=zw hn 1
 have d2:=za hn 2
 have f2:=zw hn 2
 clear hn
 have HS:=qh (zhd.out.store (g:=gx+1) (t:=35) (cs:= [.slice none 0 0, .slice none 0 0, .bool false]) (List.mem_cons_of_mem _ (List.mem_cons_of_mem _ (List.mem_cons_self ..))) [.slice (some ⟨ga,0,none⟩) n n, .slice (some ⟨gm,0,none⟩) nv nv, .bool false] rfl)
 go_simp
 clear d0 d1 d2 f0 f1 f2
 refine hK.out _ (zY Xs9 (gx+1) 0 [.slice (some ⟨ga,0,none⟩) n n, .slice (some ⟨gm,0,none⟩) nv nv, .bool false]) ((zet.out).trans (yX _ _ _) (λ_ h=> .inl h)) (λ_=> ?_)
 obtain⟨hset, -⟩:=HS.out.news (gx+1,35, [.slice (some ⟨ga,0,none⟩) n n, .slice (some ⟨gm,0,none⟩) nv nv, .bool false]) (bq (List.mem_cons_of_mem _ (List.mem_cons_of_mem _ (List.mem_cons_self ..))))
 obtain⟨hga,hla⟩:=HS.out.news (ga,47,(madeCells (Value.agg #[.int .i64 0, .int .i64 0, .int .i64 0, .int .i64 0, .int .i64 0, .slice none 0 0]).cells (n*6)).toList) (je (p:=(ga,47,(madeCells (Value.agg #[.int .i64 0, .int .i64 0, .int .i64 0, .int .i64 0, .int .i64 0, .slice none 0 0]).cells (n*6)).toList)) (List.mem_cons_self ..) (by simpa using (Ne.symm wB.out)))
 obtain⟨hgm,hlm⟩:=HS.out.news (gm,3,(madeCells (Value.int .i64 0).cells (nv*1)).toList) (je (p:=(gm,3,(madeCells (Value.int .i64 0).cells (nv*1)).toList)) (List.mem_cons_of_mem _ (List.mem_cons_self ..)) (by simpa using (Ne.symm wC.out)))
 have yt:=qh (zj9 (w:=w) HS.out.below hga hgm hla hlm gD zzL hset)
 have zI:=qh hset
 clear hga hgm hla hlm hset HS
 generalize zY Xs9 (gx+1) 0 _=zB4 at yt zI ⊢
 clear hK K
 refine xM ?_
 go_wp2_with fail
 (try simp only [Exit.inBlock,Exit.then])
 refine bodyPost_ret (yY rfl _ _ (gx+1) 35 _ (0,0) _ rfl zI.out Tryz.underlying35 rfl zC) rfl ?_
 have hr:R=⟨List.replicate n default,List.replicate nv 0,false⟩:=HRR.out
 rw [hr]
 exact yt.out
