/- Steps. -/
import Derived.Test.YtnhahkiojbanfaaGreatDoorRqFinP
import Derived.Test.YtnhahkiojbanfaaGreatDoorRqPCode
set_option linter.all false
namespace Go.Proofs.YtnhahkiojbanfaaGreatDoor
open Go.RowKit
set_option maxRecDepth 100000
set_option maxHeartbeats 16000000
theorem pU {P:Program} (w:World) {ops:Array Oper} {o:Oper} {a:Act} {K:Act->World->Prop} {Q:Exit->Act->World->Prop} {E:Prop} (hw:Region.wanted o (yielded ops a.tmps)=true) (l c:Operand) (t:TypeId) (ho:o.op=Op.makeSlice t l c)
  (e:TypeId) (z:Value) (size bytes:Nat) (ht:P.underlying t=some (.slice e)) (hinfo:(P.info? e).map (λi=>(i.zero,i.size,i.bytes))=some (some z,size,bytes)) (n:Nat) (hl:a.eval l= .int .i64 (n:Int)) (hc:a.eval c= .int .i64 (n:Int))
  (h63:n<=maxLen) (hbytes:n*bytes<=281474976710656) (h:K (a.put o.dst (.slice (some ⟨w.heap.size,0,none⟩) n n)) (w.alloc (.cells (madeCells z.cells (n*size)).toList.toArray e))):if Region.wanted o (yielded ops a.tmps)=true then Oper.wp P o a w K Q else E:=by
 rw [if_pos hw]
 obtain⟨i,hi,hz,hsize,hby⟩:=info_parts hinfo
 have h63':(n:Int)<=9223372036854775807:=by have:=h63;unfold maxLen at this;omega
 have hb':(i.bytes:Int)*(n:Int)<=281474976710656:=by
  have h:((i.bytes*n:Nat):Int)<=281474976710656:=by rw [hby,Nat.mul_comm];omega
  rwa [Int.natCast_mul] at h
 have hr:=run_make (P:=P) w t e i z ht hi hz .i64 .i64 (n:Int) (n:Int) (by omega) (Int.le_refl _) hb' h63'
 unfold Oper.wp execOp
 simp only [ho,resolve,Sem.run_bind,Sem.run_pure,Result.andThen_ok,hl,hc,hr,Int.toNat_natCast,hsize]
 rw [Array.toArray_toList] at h
 exact h
theorem zl0 {z:Array Value} {n j:Nat} (h:j<n):(madeCells z n).toList[j]? =some z[j % z.size]! :=by
 rw [Array.getElem?_toList,madeCells,Array.getElem?_map,Array.getElem?_range,if_pos h];rfl
theorem zis (n:Nat):(madeCells (Value.agg #[.int .i64 0, .int .i64 0, .int .i64 0, .int .i64 0, .int .i64 0, .slice none 0 0]).cells (n*6)).toList=zR (List.replicate n default) (List.replicate n (.slice none 0 0)):=by
 have hl:=jJ (List.replicate n default) (List.replicate n (.slice none 0 0))
 rw [List.length_replicate] at hl
 apply List.ext_getElem?
 intro j
 by_cases hj:j<n*6
 rotate_left
 ·rw [List.getElem?_eq_none (by simp [size_madeCells];omega),List.getElem?_eq_none (by omega)]
 rw [zl0 hj]
 have e:j=j / 6*6+j % 6:=by omega
 have hd:(List.replicate n (default:zA)).getD (j / 6) default=default:=by simp [List.getD_eq_getElem?_getD,List.getElem?_replicate];split<;>rfl
 have hv:(List.replicate n (Value.slice none 0 0)).getD (j / 6) (.slice none 0 0)= .slice none 0 0:=by simp [List.getD_eq_getElem?_getD,List.getElem?_replicate];split<;>rfl
 have hc:=vE (l:=List.replicate n default) (bs:=List.replicate n (.slice none 0 0)) (j:=j / 6) (i:=j % 6) (by rw [List.length_replicate];omega) (by omega)
 rw [<-e,hd,hv] at hc
 rw [hc]
 have h6:j % 6=0\/j % 6=1\/j % 6=2\/j % 6=3\/j % 6=4\/j % 6=5:=by omega
 show some (#[Value.int .i64 0, .int .i64 0, .int .i64 0, .int .i64 0, .int .i64 0, .slice none 0 0][j % 6]!)=_
 rcases h6 with h|h|h|h|h|h<;>rw [h] <;>rfl
theorem zp2 (n:Nat):(madeCells (Value.int .i64 0).cells (n*1)).toList=zq yU (List.replicate n 0):=by
 rw [Nat.mul_one]
 refine(toList_madeCells_one (.int .i64 0) n).trans ?_
 induction n with
 |zero=>rfl
 |succ n ih=>rw [znq, <-ih,List.replicate_succ']
def zg9 (w:World) (s:zi) (e:Ending) (w':World):Prop:=(∃sv mv,e= .returned (vI s sv mv)/\zO (λk=>k<w.heap.size) w' (λy=>yG y s sv mv))/\Below w.heap.size w w'
theorem zgA {w X:World} {g1 g2 gr n k:Nat} (hb:Below w.heap.size w X) (h1:X.heap[g1]? =some (.cells (madeCells (Value.agg #[.int .i64 0, .int .i64 0, .int .i64 0, .int .i64 0, .int .i64 0, .slice none 0 0]).cells (n*6)).toList.toArray 80 (0,0))) (h2:X.heap[g2]? =some (.cells (madeCells (Value.int .i64 0).cells (k*1)).toList.toArray 3 (0,0)))
  (l1:w.heap.size<=g1) (l2:w.heap.size<=g2) (hn:n<=4) (hk:k<=4) (_hr:X.heap[gr]? =some (.cells #[.slice (some ⟨g1,0,none⟩) n n, .slice (some ⟨g2,0,none⟩) k k, .bool false] 42 (0,0))):
  zg9 w ⟨List.replicate n default,List.replicate k 0,false⟩ (.returned (.agg #[.slice (some ⟨g1,0,none⟩) n n, .slice (some ⟨g2,0,none⟩) k k, .bool false])) X:=by
 rw [zis] at h1
 rw [zp2] at h2
 have r1:=jq (n:=n) h1 l1 (by rw [jJ,List.length_replicate]) (by unfold maxLen;omega)
 have r2:=jq (n:=k) h2 l2 (by rw [jO (f:=yU) zaY,List.length_replicate]) (by unfold maxLen;omega)
 exact⟨⟨_,_,rfl,λy hy=>zjx (hy.row r1 (λx hx e=>by cases hx;exact absurd l1 (Nat.not_le.2 e))) (hy.row r2 (λx hx e=>by cases hx;exact absurd l2 (Nat.not_le.2 e)))⟩,hb⟩
theorem zlb (w:World) (c:zx) (tv:Value) (d:Nat) (h:yS d w tv c.threads):Calls Tryz.prog 36 #[xW c tv] w (zg9 w (xq c)):=by
 obtain⟨ca,cc,rfl,hcl⟩:=zh.slice h
 obtain⟨co,hco⟩:∃co,co=codeOk c:=⟨_,rfl⟩
 have hcode:=λW (hW:yS d W (.slice ca c.threads.length cc) c.threads)=>zd4 W c (.slice ca c.threads.length cc) d hW
 rw [<-hco] at hcode
 have hst:xq c=if co then⟨List.replicate c.threads.length default,List.replicate c.vars.toNat 0,false⟩ else⟨[], [],false⟩:=by rw [hco];rfl
 rw [hst]
 have hbd:co=true->1<=c.vars/\c.vars<=4/\c.threads.length<=4:=λe=>by
  have:=yQ (hco.symm.trans e);exact⟨this.1,this.2.1,this.2.2.2.2.2⟩
 obtain⟨vars,dom,cs⟩:=c
 simp only [] at h hcl hcode hbd ⊢
 unfold xW
 unfold xW at hcode
 simp only [] at hcode ⊢
 obtain⟨n,hn⟩:∃n,n=cs.length:=⟨_,rfl⟩
 rw [<-hn] at h hcl hcode hbd ⊢
 have hl0:=(((Loc.start w).alloc 26 [.int .i64 vars, .int .i64 dom, .slice ca n cc]).alloc 42 [.slice none 0 0, .slice none 0 0, .bool false])
 have hsz:(w.alloc (.cells [.int .i64 vars, .int .i64 dom, .slice ca n cc].toArray 26)).heap.size=w.heap.size+1:=by simp
 rw [hsz] at hl0
 have HL0:=qh hl0
 clear hl0 hsz
 have HT:=qh h
 have zeF:=qh hcode
 have HBD:=qh hbd
 obtain⟨nv,hnv⟩:∃nv:Nat,nv=vars.toNat:=⟨_,rfl⟩
 rw [<-hnv]
 have HNV:=qh hnv
 obtain⟨R,hR⟩:∃R:zi,R=if co then⟨List.replicate n default,List.replicate nv 0,false⟩ else⟨[], [],false⟩:=⟨_,rfl⟩
 rw [<-hR]
 have HRR:=qh hR
 clear hR
 clear h hcode hst hco hn hbd hnv
 go_enter Tryz.func36,Tryz.ntmps36
 go_upto_region 1 with fail
 obtain⟨gx,hgx⟩:∃gx,gx=w.heap.size:=⟨_,rfl⟩
 have HNE:Hid (gx+1≠gx):=by rw [Hid];omega
 rw [<-hgx] at HL0 ⊢
 generalize World.alloc (World.alloc w _) _=W at HL0 ⊢
 clear hgx
 obtain⟨n1, -⟩:=HL0.out.news (gx,26, [.int .i64 vars, .int .i64 dom, .slice ca n cc]) (List.mem_cons_of_mem _ (List.mem_cons_self ..))
 have c0:=ze n1 0
 have c1:=ze n1 1
 have c2:=ze n1 2
 clear n1
 go_wp2_with fail
 refine(zeF.out W (zh.below (qU.stays d) HT.out HL0.out.below)).mono ?_
 rintro e W1 ⟨rfl,hb⟩
 have HL:=qh (HL0.out.later hb)
 clear hb c0 c1 c2 zeF HT HL0
 cases co with
 |false=>
  obtain⟨n2, -⟩:=HL.out.news (gx+1,42, [.slice none 0 0, .slice none 0 0, .bool false]) (List.mem_cons_self ..)
  have a0:=ze n2 0
  have a1:=ze n2 1
  have a2:=ze n2 2
  have f0:=zK n2 0
  have f1:=zK n2 1
  have f2:=zK n2 2
  have HS:=qh (HL.out.store (List.mem_cons_self ..) [.slice none 0 0, .slice none 0 0, .bool false] rfl)
  clear n2
  go_wp2_with fail
  (try simp only [Exit.inBlock,Exit.then])
  obtain⟨hset, -⟩:=HS.out.news (gx+1,42, [.slice none 0 0, .slice none 0 0, .bool false]) (zdv (List.mem_cons_self ..))
  have zvP:(((W1.setCell ⟨gx+1,0,none⟩ (.slice none 0 0)).setCell ⟨gx+1,1,none⟩ (.slice none 0 0)).setCell ⟨gx+1,2,none⟩ (.bool false)).heap[gx+1]? =some (.cells #[.slice none 0 0, .slice none 0 0, .bool false] 42 (0,0)):=hset
  refine bodyPost_ret (yV rfl _ _ (gx+1) 42 _ (0,0) _ rfl zvP Tryz.underlying42 rfl jd) rfl ?_
  have hr:R=⟨[], [],false⟩:=HRR.out
  rw [hr]
  exact⟨⟨_,_,rfl,λy _=>⟨zh.nil _,zh.nil _⟩⟩,HS.out.below⟩
 |true=>
 obtain⟨hv1,hv4,hn4⟩:=HBD.out rfl
 have kW:vars=(nv:Int):=by rw [HNV.out];omega
 subst kW
 have zue:nv<=4:=by omega
 clear HBD HNV hv1 hv4
 have CC:Hid (∀y,Since (λk=>k=gx+1) W1 y->y.cell? ⟨gx,0,none⟩=some (.int .i64 nv)/\y.cell? ⟨gx,2,none⟩=some (.slice ca n cc)):=λy hy=>by
  obtain⟨n1, -⟩:=HL.out.news (gx,26, [.int .i64 nv, .int .i64 dom, .slice ca n cc]) (List.mem_cons_of_mem _ (List.mem_cons_self ..))
  have n3:=(hy.block gx (zy n1) (by omega)).trans n1
  exact⟨ze n3 0,ze n3 2⟩
 go_wp2_with fail
 refine gX (S:=λx=>Since (λk=>k=gx+1) W1 x) (Since.refl _ _).drew (λ_=> ?_)
 obtain⟨V1,hV1⟩:∃V1,V1=W1.drew:=⟨_,rfl⟩
 have ze0:Hid (Since (λk=>k=gx+1) W1 V1):=by rw [hV1];exact(Since.refl _ _).drew
 have hT0:=qh (HL.out.drew)
 rw [<-hV1] at hT0 ⊢
 clear hV1
 refine xu 0 xJ (ze0.out) ?_
 refine xu 1 CC.out (ze0.out) ?_
 refine xu 2 xJ (ze0.out) ?_
 refine xu 4 xJ (ze0.out) ?_
 refine xu 5 CC.out (ze0.out) ?_
 refine wpAnyH_ready (rs:= [3,6]) (by kernel_rfl) (by simp) ?_
 refine AllReadyH.cons rfl (λK hK=> ?_) (AllReadyH.cons rfl (λK hK=> ?_) AllReadyH.nil)
 ·skip
  refine pU V1 (by rfl) (.tmp 9) (.tmp 9) 40 rfl 80 (.agg #[.int .i64 0, .int .i64 0, .int .i64 0, .int .i64 0, .int .i64 0, .slice none 0 0]) 6 64 Tryz.underlying40 zaS n (by rfl) (by rfl) (by unfold maxLen;omega) (by omega) ?_
  have jW:(gx+1)≠V1.heap.size:=hT0.out.zbp (List.mem_cons_self ..)
  have ze1:=hT0.out.alloc 80 (madeCells (Value.agg #[.int .i64 0, .int .i64 0, .int .i64 0, .int .i64 0, .int .i64 0, .slice none 0 0]).cells (n*6)).toList
  have zfp:=(ze0.out).alloc (.cells (madeCells (Value.agg #[.int .i64 0, .int .i64 0, .int .i64 0, .int .i64 0, .int .i64 0, .slice none 0 0]).cells (n*6)).toList.toArray 80)
  refine hK.out _ _ zfp (λ_=> ?_)
  change wpAnyH _ _ _ _ _ _ _ (Act.put _ (some 10) _) _
  simp only [Act.put,kT]
  try simp only [kU,kV]
  obtain⟨ga,hga⟩:∃n,n=V1.heap.size:=⟨_,rfl⟩
  rw [<-hga] at ze1 jW ⊢
  clear hga
  replace jW:=qh jW
  generalize World.alloc V1 _=Xs2 at ze1 zfp ⊢
  replace ze1:=qh ze1
  replace zfp:=qh zfp
  clear hK K
  refine yZ 6 rfl (λK hK=> ?_)
  refine pU Xs2 (by rfl) (.tmp 12) (.tmp 12) 31 rfl 3 (.int .i64 0) 1 8 Tryz.underlying31 gL nv (by rfl) (by rfl) (by unfold maxLen;omega) (by omega) ?_
  have jX:(gx+1)≠Xs2.heap.size:=ze1.out.zbp (List.mem_cons_of_mem _ (List.mem_cons_self ..))
  have ze2:ga≠Xs2.heap.size:=ze1.out.zbp (List.mem_cons_self ..)
  have zfW:=ze1.out.alloc 3 (madeCells (Value.int .i64 0).cells (nv*1)).toList
  have zdw:=(zfp.out).alloc (.cells (madeCells (Value.int .i64 0).cells (nv*1)).toList.toArray 3)
  refine hK.out _ _ zdw (λ_=> ?_)
  change wpAnyH _ _ _ _ _ _ _ (Act.put _ (some 13) _) _
  simp only [Act.put,kT]
  try simp only [kU,kV]
  obtain⟨gm,hgm⟩:∃n,n=Xs2.heap.size:=⟨_,rfl⟩
  rw [<-hgm] at zfW jX ze2 ⊢
  clear hgm
  replace jX:=qh jX
  replace ze2:=qh ze2
  generalize World.alloc Xs2 _=Xs4 at zfW zdw ⊢
  replace zfW:=qh zfW
  replace zdw:=qh zdw
  clear hK K
  refine xu 7 xJ (zdw.out) ?_
  refine yZ 8 rfl (λK hK=> ?_)
  obtain⟨hn, -⟩:=zfW.out.news (gx+1,42, [.slice none 0 0, .slice none 0 0, .bool false]) (List.mem_cons_of_mem _ (List.mem_cons_of_mem _ (List.mem_cons_self ..)))
  have d0:=ze hn 0
  have f0:=zK hn 0
  have d1:=ze hn 1
  have f1:=zK hn 1
  have d2:=ze hn 2
  have f2:=zK hn 2
  clear hn
  have HS:=qh (zfW.out.store (g:=gx+1) (t:=42) (cs:= [.slice none 0 0, .slice none 0 0, .bool false]) (List.mem_cons_of_mem _ (List.mem_cons_of_mem _ (List.mem_cons_self ..))) [.slice (some ⟨ga,0,none⟩) n n, .slice (some ⟨gm,0,none⟩) nv nv, .bool false] rfl)
  go_simp
  clear d0 d1 d2 f0 f1 f2
  refine hK.out _ (xI Xs4 (gx+1) 0 [.slice (some ⟨ga,0,none⟩) n n, .slice (some ⟨gm,0,none⟩) nv nv, .bool false]) ((zdw.out).trans (qJ _ _ _) (λ_ h=> .inl h)) (λ_=> ?_)
  obtain⟨hset, -⟩:=HS.out.news (gx+1,42, [.slice (some ⟨ga,0,none⟩) n n, .slice (some ⟨gm,0,none⟩) nv nv, .bool false]) (zdv (List.mem_cons_of_mem _ (List.mem_cons_of_mem _ (List.mem_cons_self ..))))
  obtain⟨hga,hla⟩:=HS.out.news (ga,80,(madeCells (Value.agg #[.int .i64 0, .int .i64 0, .int .i64 0, .int .i64 0, .int .i64 0, .slice none 0 0]).cells (n*6)).toList) (uU (p:=(ga,80,(madeCells (Value.agg #[.int .i64 0, .int .i64 0, .int .i64 0, .int .i64 0, .int .i64 0, .slice none 0 0]).cells (n*6)).toList)) (List.mem_cons_of_mem _ (List.mem_cons_self ..)) (by simpa using (Ne.symm jW.out)))
  obtain⟨hgm,hlm⟩:=HS.out.news (gm,3,(madeCells (Value.int .i64 0).cells (nv*1)).toList) (uU (p:=(gm,3,(madeCells (Value.int .i64 0).cells (nv*1)).toList)) (List.mem_cons_self ..) (by simpa using (Ne.symm jX.out)))
  have zL:=qh (zgA (w:=w) HS.out.below hga hgm hla hlm hn4 zue hset)
  have xg:=qh hset
  clear hga hgm hla hlm hset HS
  generalize xI Xs4 (gx+1) 0 _=Xs5 at zL xg ⊢
  clear hK K
  refine vN ?_
  go_wp2_with fail
  (try simp only [Exit.inBlock,Exit.then])
  refine bodyPost_ret (yV rfl _ _ (gx+1) 42 _ (0,0) _ rfl xg.out Tryz.underlying42 rfl jd) rfl ?_
  have hr:R=⟨List.replicate n default,List.replicate nv 0,false⟩:=HRR.out
  rw [hr]
  exact zL.out
 skip
 refine pU V1 (by rfl) (.tmp 12) (.tmp 12) 31 rfl 3 (.int .i64 0) 1 8 Tryz.underlying31 gL nv (by rfl) (by rfl) (by unfold maxLen;omega) (by omega) ?_
 have jX:(gx+1)≠V1.heap.size:=hT0.out.zbp (List.mem_cons_self ..)
 have ze3:=hT0.out.alloc 3 (madeCells (Value.int .i64 0).cells (nv*1)).toList
 have zfq:=(ze0.out).alloc (.cells (madeCells (Value.int .i64 0).cells (nv*1)).toList.toArray 3)
 refine hK.out _ _ zfq (λ_=> ?_)
 change wpAnyH _ _ _ _ _ _ _ (Act.put _ (some 13) _) _
 simp only [Act.put,kT]
 try simp only [kU,kV]
 obtain⟨gm,hgm⟩:∃n,n=V1.heap.size:=⟨_,rfl⟩
 rw [<-hgm] at ze3 jX ⊢
 clear hgm
 replace jX:=qh jX
 generalize World.alloc V1 _=Xs7 at ze3 zfq ⊢
 replace ze3:=qh ze3
 replace zfq:=qh zfq
 clear hK K
 refine yZ 3 rfl (λK hK=> ?_)
 refine pU Xs7 (by rfl) (.tmp 9) (.tmp 9) 40 rfl 80 (.agg #[.int .i64 0, .int .i64 0, .int .i64 0, .int .i64 0, .int .i64 0, .slice none 0 0]) 6 64 Tryz.underlying40 zaS n (by rfl) (by rfl) (by unfold maxLen;omega) (by omega) ?_
 have jW:(gx+1)≠Xs7.heap.size:=ze3.out.zbp (List.mem_cons_of_mem _ (List.mem_cons_self ..))
 have ze4:gm≠Xs7.heap.size:=ze3.out.zbp (List.mem_cons_self ..)
 have zfX:=ze3.out.alloc 80 (madeCells (Value.agg #[.int .i64 0, .int .i64 0, .int .i64 0, .int .i64 0, .int .i64 0, .slice none 0 0]).cells (n*6)).toList
 have zdx:=(zfq.out).alloc (.cells (madeCells (Value.agg #[.int .i64 0, .int .i64 0, .int .i64 0, .int .i64 0, .int .i64 0, .slice none 0 0]).cells (n*6)).toList.toArray 80)
 refine hK.out _ _ zdx (λ_=> ?_)
 change wpAnyH _ _ _ _ _ _ _ (Act.put _ (some 10) _) _
 simp only [Act.put,kT]
 try simp only [kU,kV]
 obtain⟨ga,hga⟩:∃n,n=Xs7.heap.size:=⟨_,rfl⟩
 rw [<-hga] at zfX jW ze4 ⊢
 clear hga
 replace jW:=qh jW
 replace ze4:=qh ze4
 generalize World.alloc Xs7 _=Xs9 at zfX zdx ⊢
 replace zfX:=qh zfX
 replace zdx:=qh zdx
 clear hK K
 refine xu 7 xJ (zdx.out) ?_
 refine yZ 8 rfl (λK hK=> ?_)
 obtain⟨hn, -⟩:=zfX.out.news (gx+1,42, [.slice none 0 0, .slice none 0 0, .bool false]) (List.mem_cons_of_mem _ (List.mem_cons_of_mem _ (List.mem_cons_self ..)))
 have d0:=ze hn 0
 have f0:=zK hn 0
 have d1:=ze hn 1
 have f1:=zK hn 1
 have d2:=ze hn 2
 have f2:=zK hn 2
 clear hn
 have HS:=qh (zfX.out.store (g:=gx+1) (t:=42) (cs:= [.slice none 0 0, .slice none 0 0, .bool false]) (List.mem_cons_of_mem _ (List.mem_cons_of_mem _ (List.mem_cons_self ..))) [.slice (some ⟨ga,0,none⟩) n n, .slice (some ⟨gm,0,none⟩) nv nv, .bool false] rfl)
 go_simp
 clear d0 d1 d2 f0 f1 f2
 refine hK.out _ (xI Xs9 (gx+1) 0 [.slice (some ⟨ga,0,none⟩) n n, .slice (some ⟨gm,0,none⟩) nv nv, .bool false]) ((zdx.out).trans (qJ _ _ _) (λ_ h=> .inl h)) (λ_=> ?_)
 obtain⟨hset, -⟩:=HS.out.news (gx+1,42, [.slice (some ⟨ga,0,none⟩) n n, .slice (some ⟨gm,0,none⟩) nv nv, .bool false]) (zdv (List.mem_cons_of_mem _ (List.mem_cons_of_mem _ (List.mem_cons_self ..))))
 obtain⟨hga,hla⟩:=HS.out.news (ga,80,(madeCells (Value.agg #[.int .i64 0, .int .i64 0, .int .i64 0, .int .i64 0, .int .i64 0, .slice none 0 0]).cells (n*6)).toList) (uU (p:=(ga,80,(madeCells (Value.agg #[.int .i64 0, .int .i64 0, .int .i64 0, .int .i64 0, .int .i64 0, .slice none 0 0]).cells (n*6)).toList)) (List.mem_cons_self ..) (by simpa using (Ne.symm jW.out)))
 obtain⟨hgm,hlm⟩:=HS.out.news (gm,3,(madeCells (Value.int .i64 0).cells (nv*1)).toList) (uU (p:=(gm,3,(madeCells (Value.int .i64 0).cells (nv*1)).toList)) (List.mem_cons_of_mem _ (List.mem_cons_self ..)) (by simpa using (Ne.symm jX.out)))
 have zL:=qh (zgA (w:=w) HS.out.below hga hgm hla hlm hn4 zue hset)
 have xg:=qh hset
 clear hga hgm hla hlm hset HS
 generalize xI Xs9 (gx+1) 0 _=z0K at zL xg ⊢
 clear hK K
 refine vN ?_
 go_wp2_with fail
 (try simp only [Exit.inBlock,Exit.then])
 refine bodyPost_ret (yV rfl _ _ (gx+1) 42 _ (0,0) _ rfl xg.out Tryz.underlying42 rfl jd) rfl ?_
 have hr:R=⟨List.replicate n default,List.replicate nv 0,false⟩:=HRR.out
 rw [hr]
 exact zL.out
