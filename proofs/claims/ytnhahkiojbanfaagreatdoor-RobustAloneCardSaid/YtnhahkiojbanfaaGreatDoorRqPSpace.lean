/- Steps. -/
import Derived.Test.YtnhahkiojbanfaaGreatDoorRqFinMadeP
import Derived.Test.YtnhahkiojbanfaaGreatDoorRqPNext
import Derived.Test.YtnhahkiojbanfaaGreatDoorRqPStart
import Derived.Test.YtnhahkiojbanfaaGreatDoorRqPackW
import Derived.Test.YtnhahkiojbanfaaGreatDoorRqSpaceQ
set_option linter.all false
namespace Go.Proofs.YtnhahkiojbanfaaGreatDoor
open Go.RowKit
set_option maxRecDepth 100000
set_option maxHeartbeats 16000000
theorem zc4 (w:World) (c:zx) (cv:Value) (d:Nat) (hc:yS d w cv c.threads) (m:zu) (room:Int):
  Calls Tryz.prog 19 #[xW c cv,vZ m, .int .i64 room] w (zc5 w (zV c m room d)):=by
 obtain⟨ca,cc,rfl, -⟩:=zh.slice hc
 obtain⟨mo,hmo⟩:∃mo,mo=xC c m:=⟨_,rfl⟩
 have hmay:=λW hW=>zo8 W c (.slice ca c.threads.length cc) d hW m
 rw [<-hmo] at hmay
 obtain⟨R,hR⟩:∃R,R=zV c m room d:=⟨_,rfl⟩
 obtain⟨S0,hS0⟩:∃S0,S0=xq c:=⟨_,rfl⟩
 have hR2:R=if mo=false\/room<1\/100000<room then(⟨[], [], []⟩,1) else zla (qz c m d room (room.toNat+1) 0 [S0] [] []):=by rw [hR,hmo,hS0];rfl
 rw [<-hR]
 have hstart:=λW hc=>zlb W c (.slice ca c.threads.length cc) d hc
 rw [<-hS0] at hstart
 have zlc:mo=true->zP c m S0=true:=λe=>by rw [hS0];exact uy (hmo.symm.trans e)
 have hnext:=λW hc s sv mv hs hb hf F0 hF0 ha=>zmF W c (.slice ca c.threads.length cc) d hc m s sv mv hs hb hf F0 hF0 ha
 obtain⟨C,hC⟩:∃C,C=c:=⟨_,rfl⟩
 obtain⟨M,hM⟩:∃M,M=m:=⟨_,rfl⟩
 rw [<-hC, <-hM] at hR2 zlc
 obtain⟨vars,dom,cs⟩:=c
 obtain⟨mod,bnd⟩:=m
 unfold xW vZ
 unfold xW vZ at hnext hmay
 unfold xW at hstart
 simp only [] at hc hmay hstart hnext ⊢
 obtain⟨cn,hcn⟩:∃cn,cn=cs.length:=⟨_,rfl⟩
 rw [<-hcn] at hc hmay hstart hnext ⊢
 rw [<-hC, <-hM] at hnext
 obtain⟨W,hW⟩:∃W,W=(w.alloc (.cells #[.int .i64 vars, .int .i64 dom, .slice ca cn cc] 26)).alloc (.cells #[.int .i64 mod, .int .i64 bnd] 29):=⟨_,rfl⟩
 have hB:Below w.heap.size w W:=by rw [hW];exact xQ _ _ _
 have h1:W.heap[w.heap.size]? =some (.cells #[.int .i64 vars, .int .i64 dom, .slice ca cn cc] 26 (0,0)):=by rw [hW];exact xR _ _ _
 have h2:W.heap[w.heap.size+1]? =some (.cells #[.int .i64 mod, .int .i64 bnd] 29 (0,0)):=by rw [hW];exact yT _ _ _
 have hws:W.heap.size=w.heap.size+2:=by rw [hW];simp
 have HB:=qh hB
 have H1:=qh h1
 have H2:=qh h2
 have HCS:=qh (zh.below (qU.stays d) hc hB)
 have zfQ:=qh hmay
 have ztf:=qh hstart
 have HNX:=qh hnext
 have HF0:=qh zlc
 have HRR:=qh hR2
 have HWS:=qh hws
 have HWE:=qh hW
 clear hC hM hcn hmay hstart hnext zlc hR2 hmo hR hS0 hB h1 h2 hc hws hW
 go_enter Tryz.func19,Tryz.ntmps19
 go_upto_region 1 with fail
 rw [<-HWE.out]
 obtain⟨gx,hgx⟩:∃gx,gx=w.heap.size:=⟨_,rfl⟩
 rw [<-hgx] at H1 H2 HWS ⊢
 have xO:=qh hgx
 clear hgx HWE
 have hy0:=zmH W
 obtain⟨g,hg⟩:∃g,g=gx+1+1:=⟨_,rfl⟩
 have hwg:W.heap.size=g:=by rw [hg,HWS.out]
 rw [hwg] at hy0
 rw [<-hg]
 have HWG:=qh hwg
 have HGG:=qh hg
 have HY0:=qh hy0
 clear hy0 hwg hg
 generalize World.alloc W _=X0 at HY0 ⊢
 have HK:Hid (∀y,Below W.heap.size W y->y.cell? ⟨gx,0,none⟩=some (.int .i64 vars)/\y.cell? ⟨gx,1,none⟩=some (.int .i64 dom)/\y.cell? ⟨gx,2,none⟩=some (.slice ca cn cc)/\y.cell? ⟨gx+1,0,none⟩=some (.int .i64 mod)/\y.cell? ⟨gx+1,1,none⟩=some (.int .i64 bnd)):=λy hy=>
  ⟨zk hy _ _ (ze H1.out 0),zk hy _ _ (ze H1.out 1),zk hy _ _ (ze H1.out 2),zk hy _ _ (ze H2.out 0),zk hy _ _ (ze H2.out 1)⟩
 have zph:Hid (∀(y:World) (a b c:Value) (k:Int),Below W.heap.size W y->y.heap[g]? =some (.cells #[a,b,c] 49 (0,0))->R=(⟨[], [], []⟩,k)->(((y.setCell ⟨g,0,none⟩ (.slice none 0 0)).setCell ⟨g,1,none⟩ (.slice none 0 0)).setCell ⟨g,2,none⟩ (.slice none 0 0)).heap[g]? =some (.cells #[.slice none 0 0, .slice none 0 0, .slice none 0 0] 49 (0,0))/\zc5 w R (.returned (.tuple #[.agg #[.slice none 0 0, .slice none 0 0, .slice none 0 0], .int .i64 k])) (((y.setCell ⟨g,0,none⟩ (.slice none 0 0)).setCell ⟨g,1,none⟩ (.slice none 0 0)).setCell ⟨g,2,none⟩ (.slice none 0 0))):=λy a b c k hy hb hR=>by
  obtain⟨h1,h2⟩:=zgr hb (.slice none 0 0) (.slice none 0 0) (.slice none 0 0)
  exact⟨h1,zhG hR ((HB.out.trans (hy.mono HB.out.size)).trans (h2.below (Nat.le_trans HB.out.size hy.size) (λk hk=>by have:=HWG.out;have:=HB.out.size;omega)))⟩
 by_cases hr:room<1\/100000<room
 ·have HR:Hid (R=(⟨[], [], []⟩,1)):=by rw [Hid,HRR.out,if_pos (.inr hr)]
  have hb0:=HY0.out.box
  obtain⟨hset,hend⟩:=zph.out X0 _ _ _ 1 HY0.out.below hb0 HR.out
  have xg:=qh hset
  have zL:=qh hend
  have b0:=ze hb0 0
  have b1:=ze hb0 1
  have b2:=ze hb0 2
  have f0:=zK hb0 0
  have f1:=zK hb0 1
  have f2:=zK hb0 2
  have HTN:=qh (zjn room hr X0)
  clear hset hend hb0 hr
  go_wp2_with(go_at_call 34;go_must(refine HTN.out.mono ?_);rintro e X1 ⟨rfl,rfl⟩)
  refine bodyPost_ret (xP rfl _ _ g 49 _ (0,0) _ rfl xg.out Tryz.underlying49 rfl pO) rfl ?_
  exact zL.out
 obtain⟨rm,rfl⟩:∃rm:Nat,room=rm:=⟨room.toNat,by omega⟩
 have hrm1:1<=rm:=by omega
 have zxy:rm<=100000:=by omega
 have HR0:Hid (mo=true->R=zla (qz C M d rm (rm+1) 0 [S0] [] [])):=λe=>by
  rw [HRR.out,if_neg]
  ·simp
  rintro(h|h|h)
  ·rw [e] at h;cases h
  ·omega
  omega
 have HR1:Hid (mo=false->R=(⟨[], [], []⟩,1)):=λe=>by rw [HRR.out,if_pos (.inl e)]
 have HTN:=qh (zrX rm hrm1 zxy X0 W.heap.size HY0.out.below.size)
 clear hr HRR
 obtain⟨c0,c1,c2,e0,e1⟩:=HK.out X0 HY0.out.below
 go_upto_region 2 with(go_at_call 34;go_must(refine HTN.out.mono ?_);rintro e X1 ⟨tb,rfl,htab,hs⟩;have HT1:=qh htab;have HS1:=qh hs;clear htab hs)
 clear c0 c1 c2 e0 e1
 have hgw:=HWG.out
 have jS:Hid (vw W X1 (λk=>k<g\/(X0.heap.size<=k/\k<X1.heap.size)) g (.slice none 0 0) (.slice none 0 0) (.slice none 0 0) (.slice none 0 0) [] [] [] [] [] [] []):=
  HY0.out.table (F:=λ_=>False) HS1.out (λ_ h=>h.elim) (λk hk=>by
   have h1:=HS1.out.size
   have h2:=HY0.out.below.size
   rcases hk with hk|hk
   ·exact⟨.inl hk,by omega⟩
   exact⟨.inr hk.1,hk.2⟩)
 have zxz:=qh HY0.out.below.size
 clear HTN HS1 HY0 hgw
 obtain⟨F1,hF1⟩:∃F:Nat->Prop,F=λk=>X0.heap.size<=k/\k<X1.heap.size:=⟨_,rfl⟩
 have hy1:=jS.out
 rw [show(λk=>k<g\/(X0.heap.size<=k/\k<X1.heap.size))=(λk=>k<g\/F1 k) by rw [hF1]] at hy1
 have ht1:=HT1.out
 rw [<-hF1] at ht1
 have zpi:Hid (∀k,F1 k->W.heap.size<=k):=λk hk=>by
  rw [hF1] at hk
  have:=jS.out.below.size
  have h0:=zxz.out
  omega
 have HY2:=qh hy1
 have HT2:=qh ht1
 clear hF1 hy1 ht1 jS HT1
 obtain⟨c0,c1,c2,e0,e1⟩:=HK.out X1 HY2.out.below
 go_upto_if 26 with(go_at_call 35;go_must(refine(zfQ.out X1 (zh.below (qU.stays d) HCS.out HY2.out.below)).mono ?_);rintro e X2 ⟨rfl,hb⟩;have HBM:=qh hb;clear hb)
 clear c0 c1 c2 e0 e1
 have HY3:=qh (HY2.out.call HBM.out)
 have HT3:=qh (HT2.out.since (qA (λ_=>False) HBM.out) (λ_ _ h=>h))
 clear HY2 HT2 HBM zfQ
 cases mo with
 |false=>
  have hb0:=HY3.out.box
  obtain⟨hset,hend⟩:=zph.out X2 _ _ _ 1 HY3.out.below hb0 (HR1.out rfl)
  have xg:=qh hset
  have zL:=qh hend
  have b0:=ze hb0 0
  have b1:=ze hb0 1
  have b2:=ze hb0 2
  have f0:=zK hb0 0
  have f1:=zK hb0 1
  have f2:=zK hb0 2
  clear hset hend hb0
  go_wp2_with fail
  refine bodyPost_ret (xP rfl _ _ g 49 _ (0,0) _ rfl xg.out Tryz.underlying49 rfl pO) rfl ?_
  exact zL.out
 |true=>
 have HR:=qh (HR0.out rfl)
 have zld:=qh (HF0.out rfl)
 clear HR0 HR1 HF0
 go_upto_region 4 with fail
 have C4:Hid (∀y,Below X2.heap.size X2 y->y.cell? ⟨g,0,none⟩=some (.slice none 0 0)/\y.cell? ⟨gx,0,none⟩=some (.int .i64 vars)/\y.cell? ⟨gx,1,none⟩=some (.int .i64 dom)/\y.cell? ⟨gx,2,none⟩=some (.slice ca cn cc)):=λy hy=>by
  obtain⟨c0,c1,c2, -, -⟩:=HK.out y (HY3.out.call hy).below
  exact⟨ze (HY3.out.call hy).box 0,c0,c1,c2⟩
 refine wp_region_noPanic ?_
 refine yh (n0:=7) (S:=λx=>Below X2.heap.size X2 x) (by kernel_rfl) ((Below.refl _ _).drew) (λhT=> ?_)
 refine zJ 0 (λ_=>hT) ?_
 refine qP [5,6,7] 1 C4.out hT ?_
 refine qP [3,4,5,6,7] 2 C4.out hT ?_
 refine qx 3 rfl (λK hK=> ?_)
 go_simp
 refine(ztf.out X2.drew (zh.below (qU.stays d) HCS.out (HY3.out.call hT).below)).mono ?_
 rintro en rw3 ⟨⟨zv,yv,rfl,hst⟩,hb⟩
 obtain⟨za,zac,rfl, -⟩:=zh.slice hst.now.threads
 obtain⟨zb,zbc,rfl, -⟩:=zh.slice hst.now.mem
 have HST:=qh hst
 have HYS:=qh (HY3.out.call (zM hT hb))
 have HSZ:Hid (X2.heap.size<=X2.drew.heap.size):=(hT).size
 unfold vI
 clear hst
 obtain⟨zn,hzn⟩:∃n,n=S0.threads.length:=⟨_,rfl⟩
 obtain⟨zm,hzm⟩:∃n,n=S0.mem.length:=⟨_,rfl⟩
 obtain⟨zbd,zpj⟩:∃n,n=S0.bad:=⟨_,rfl⟩
 rw [<-hzn, <-hzm] at HST
 rw [<-hzn, <-hzm, <-zpj]
 have HZB:=qh zpj
 clear hzn hzm zpj
 have qK:Below X2.heap.size X2 rw3:=zM hT hb
 refine hK.out _ _ (λ_ _=>qK) ?_
 clear hK K hb hT
 refine qx 4 rfl (λK hK=> ?_)
 go_simp
 have hb:Below rw3.heap.size rw3 (rw3.alloc (.cells #[.slice za zn zac, .slice zb zm zbc, .bool zbd] 42)):=(Below.refl _ _).alloc (Nat.le_refl _) _
 obtain⟨gq,hgq⟩:∃n,n=rw3.heap.size:=⟨_,rfl⟩
 have HQB:=qh (vP rw3 [.slice za zn zac, .slice zb zm zbc, .bool zbd] 42)
 rw [<-hgq] at HQB ⊢
 clear hgq
 have HQA:Hid (∃o,rw3.alloc (.cells #[.slice za zn zac, .slice zb zm zbc, .bool zbd] 42)=rw3.alloc o):=⟨_,rfl⟩
 generalize World.alloc rw3 _=rw4 at hb HQB HQA ⊢
 have yI:Below X2.heap.size X2 rw4:=zM qK hb
 refine hK.out _ _ (λ_ _=>yI) ?_
 clear hK K hb qK
 refine qx 5 rfl (λK hK=> ?_)
 refine zY rw4 (by rfl) (.tmp 29) (.tmp 32) 45 rfl 42 (.agg #[.slice none 0 0, .slice none 0 0, .bool false]) 3 56 Tryz.underlying45 uz rfl (by decide) W.heap.size (.slice none 0 0) 0 [] (by rfl) (World.ownsRow_nil _ _ _ _) ⟨gq,0,none⟩ 1 1 [.slice za zn zac, .slice zb zm zbc, .bool zbd] (by rfl) rfl HQB.out (by simp [Value.oneCell']) (by unfold maxLen;omega) (by omega) (Nat.le_trans HY3.out.below.size (yI).size) ?_
 intro ja jc rw5 e1 e2 e3 e4 e5
 have E1:=qh e1
 have E4:=qh e4
 have E5:=qh e5
 have hb:Below rw4.heap.size rw4 rw5:=e4.below (Nat.le_refl _) (λk hk=>by simp [Value.ownBlock] at hk)
 clear e1 e2 e3 e4 e5
 have hT5:Below X2.heap.size X2 rw5:=zM yI hb
 refine hK.out _ _ (λ_ _=>hT5) ?_
 clear hK K hb yI
 change yM _ _ _ _ _ _ _ _ (Act.put _ (some 33) _) _
 simp only [Act.put,kT,kU,kV]
 refine zJ 6 (λ_=>hT5) ?_
 refine qx 7 rfl (λK hK=> ?_)
 have hbx:=((hT5).block _ (zy HY3.out.box)).trans HY3.out.box
 have q0:=ze hbx 0
 have q1:=zK hbx 0
 clear hbx
 go_simp
 refine hK.out _ _ (λh=>absurd rfl h) ?_
 clear hK K
 refine yA (by kernel_rfl) ?_ _
 refine NoPanic.normal ?_
 obtain⟨oq,hoq⟩:=HQA.out
 have e4:=E4.out
 have e5:=E5.out
 rw [hoq] at e4 e5
 have hst:zO (XQ (λk=>k<g\/F1 k) g (.slice none 0 0) (.slice none 0 0) (.slice none 0 0) (.slice none 0 0)) rw3 (λy=>qO y S0 [.slice za zn zac, .slice zb zm zbc, .bool zbd]):=λy hy=>
  ⟨_,_,by rw [HZB.out],(HST.out.mono (G:=XQ (λk=>k<g\/F1 k) g (.slice none 0 0) (.slice none 0 0) (.slice none 0 0) (.slice none 0 0)) (λk hk=>by
   have hg:=zy HY3.out.box
   have hz:=HSZ.out
   rcases hk with(hk|hk)|hk|hk|hk|hk
   ·omega
   ·have:=(HY3.out.vQ k hk).1;omega
   ·simp [Value.ownBlock] at hk
   ·simp [Value.ownBlock] at hk
   ·simp [Value.ownBlock] at hk
   simp [Value.ownBlock] at hk)) y hy⟩
 have hy4:=HYS.out.zqW (o:=oq) hst rfl E1.out e4 e5
 have hs4:Since (λk=>k=g) X2 (rw5.setCell ⟨g,0,none⟩ (.slice ja 1 jc)):=(qA (λk=>k=g) hT5).setCell (p:=⟨g,0,none⟩) (.inl rfl) _
 have HT4:=qh (HT3.out.since hs4 (λk hk e=>(HY3.out.vQ k (.inr hk)).2.1 e))
 have HY4:=qh hy4
 clear hy4 hs4 hst e4 e5 hoq HST HYS HSZ HZB HQB HQA E1 E4 E5 hT5 C4 HY3 HT3
 generalize World.setCell rw5 _ _=X4 at HY4 HT4 ⊢
 clear q0 q1
 have ztk:=HY4.out.st.slice
 obtain⟨eb,eo,tv,yv,zZ, -,x0,x1,x2,hst⟩:=gJ.part ztk 0 (by simp)
 simp only [List.getD_cons_zero,Nat.zero_mul,Nat.add_zero,List.nil_append] at x0 x1 x2 hst
 subst zZ
 obtain⟨ta,tac,rfl, -⟩:=zh.slice hst.threads
 obtain⟨ya,yac,rfl, -⟩:=zh.slice hst.mem
 have hkey:=zfR X4 S0 _ _ hst (zaA zld.out hst.qE)
 have zev:=zgt zld.out hst.qE
 have hadd:zds (([] :List zi).map keyOf) rm (keyOf S0) 0 true (([] ++ [S0]).map keyOf):=by
  rcases zjV (c:=C) (m:=M) (l:= []) (t:=S0) (room:=rm) (by simp) ⟨zld.out,hst.qE⟩ (by simp) with h|h|h
  ·exact absurd h.1 (by simp)
  ·exact absurd h.2.1 (by simp;omega)
  exact h.2.2.1
 have HR4:Hid (∀s∈([S0] :List zi),zP C M s=true):=λs hs=>by
  rw [List.mem_singleton] at hs;rw [hs];exact zld.out
 unfold vI at hkey
 generalize keyOf S0=key at hkey zev hadd
 have HKEY:=qh hkey
 have zhH:=qh hadd
 have zhI:=qh zev
 generalize S0.threads.length=n1 at x0 HKEY
 generalize S0.mem.length=n2 at x1 HKEY
 generalize S0.bad=bd at x2 HKEY
 have b0:=ze HY4.out.box 0
 clear ztk hst hkey hadd zev
 go_upto_region 6 with(first|(go_at_call 38;go_must(refine HKEY.out.mono ?_);rintro e X5 ⟨rfl,hb⟩;(have HY5:=qh (HY4.out.call hb));(have zak:=qh (zjW (HT4.out.since (qA (λ_=>False) hb) (λ_ _ h=>h)) key zhI.out zhH.out HY5.out.below.size));clear hb)|(go_at_call 37;go_must(refine zak.out.mono ?_);rintro e X6 ⟨rfl,F2,ht,hF2,hs⟩;(have HT6:=qh ht);(have ztm:Hid (∀k,F2 k->W.heap.size<=k):=λk hk=>(hF2 k hk).elim (zpi.out k) (λe=>Nat.le_trans HY5.out.below.size e));(have HY6:Hid (vw W X6 (λk=>k<g\/F2 k) g (.slice (some ⟨eb,eo,none⟩) 1 jc) (.slice none 0 0) (.slice none 0 0) (.slice none 0 0) [S0] [] [] [] [[.slice za zn zac, .slice zb zm zbc, .bool zbd]] [] []):=HY5.out.table (F:=F1) hs (λk hk=>⟨.inr hk,zpi.out k hk⟩) (λk hk=>⟨hk.elim (λe=> .inl (.inl e)) (λe=>(hF2 k e).imp .inr id),hk.elim (λe=>by have:=hs.size;have:=HY5.out.below.size;have:=HWG.out;omega) (ht.lt k)⟩));clear ht hF2 hs))
 clear HKEY zak zhH zhI HY5 HY4 HT4 zpi x0 x1 x2 b0
 have HKE:Hid (([] ++ [S0] :List zi).map keyOf= [S0].map keyOf):=rfl
 go_wp2_with fail
 go_loopg [9] (rm+1) (λgg s9 wr=>∃(i:Nat) (sa ma na:Option Addr) (sn sc mc nc:Nat) (sl:List zi) (ml:List (List zo)) (nl:List (List Int)) (scc kF ncc:List (List Value)) (F:Nat->Prop),i<=sn/\sn<=rm/\Hid (gg=rm+1 - i)/\s9= .int .i64 i/\Hid (vw W wr (λk=>k<g\/F k) g (.slice sa sn sc) (.slice ma i mc) (.slice na i nc) (.slice none 0 0) sl ml nl [] scc kF ncc)/\Hid (Tab wr W.heap.size F tb (sl.map keyOf) rm)/\Hid (∀k,F k->W.heap.size<=k)/\Hid (sl.length=sn)/\Hid (ml.length=i)/\Hid (nl.length=i)/\Hid (R=zla (qz C M d rm (rm+1 - i) i sl ml nl))/\Hid (∀s∈sl,zP C M s=true))
 case atStart=>exact⟨0,_,none,none,1,jc,0,0, [S0], [], [],_, [], [],F2,by omega,hrm1,rfl,rfl,HY6.out,HT6.out,ztm.out,rfl,rfl,rfl,HR.out,HR4.out⟩
 case round=>
 obtain⟨i,sa,ma,na,sn,sc,mc,nc,sl,ml,nl,scc,kF,ncc,F,hi,hsn,HG,rfl,HY,HT,HFB,HSL,bV,HNL,HRI,HFI⟩:=hrel
 obtain⟨wo,rfl⟩:∃wo:World,wo=wr:=⟨_,rfl⟩
 clear HY6 HT6 ztm HR HR4 HKE
 have b0:=ze HY.out.box 0
 by_cases hlt:i<sn
 rotate_left
 ·obtain rfl:sn=i:=by omega
  have hR:R=(⟨sl,ml,nl⟩,0):=by
   have hi2:rm+1 - sn=(rm - sn)+1:=by omega
   rw [HRI.out,hi2,zmJ (by rw [HSL.out];omega)]
   rfl
  have hbx:=HY.out.box
  have b1:=ze hbx 1
  have b2:=ze hbx 2
  have f0:=zK hbx 0
  have f1:=zK hbx 1
  have f2:=zK hbx 2
  obtain⟨hset,hsn⟩:=zgr hbx (.slice sa sn sc) (.slice ma sn mc) (.slice na sn nc)
  have haw:=HY.out.fin (B:=w.heap.size) HB.out.size hsn (λk hk=> .inl (by have:=HWG.out;have:=HB.out.size;omega))
  have hend:zc5 w R (.returned (.tuple #[.agg #[.slice sa sn sc, .slice ma sn mc, .slice na sn nc], .int .i64 0])) (((wo.setCell ⟨g,0,none⟩ (.slice sa sn sc)).setCell ⟨g,1,none⟩ (.slice ma sn mc)).setCell ⟨g,2,none⟩ (.slice na sn nc)):=by
   rw [hR]
   refine⟨⟨_,_,_,rfl,haw.now,haw,λa n c e=> ?_⟩,(HB.out.trans (HY.out.below.mono HB.out.size)).trans (hsn.below (Nat.le_trans HB.out.size HY.out.below.size) (λk hk=>by have:=HWG.out;have:=HB.out.size;omega))⟩
   obtain⟨a',c',e',h1, -⟩:=xB HY.out.st.row
   cases e;cases e';omega
  have xg:=qh hset
  have zL:=qh hend
  clear hset hend hR haw hsn hbx
  go_wp2_with fail
  (try simp only [Exit.inBlock,Exit.then])
  refine bodyPost_ret (xP rfl _ _ g 49 _ (0,0) _ rfl xg.out Tryz.underlying49 rfl pO) rfl ?_
  exact zL.out
 have vY:(i:Int)<(sn:Int):=by omega
 obtain⟨eb,tv,yv,zZ, -, -,x0,x1,x2,haw⟩:=zc6 HY.out.st (i:=i) (by rw [HSL.out];exact hlt)
 subst zZ
 have hfs:=HFI.out (sl.getD i default) (yC (by rw [HSL.out];exact hlt))
 obtain⟨s,hs⟩:∃s,s=sl.getD i default:=⟨_,rfl⟩
 rw [<-hs] at x2 haw hfs
 have HSI:=qh hs
 obtain⟨ta,tac,rfl, -⟩:=zh.slice haw.now.threads
 obtain⟨ya,yac,rfl, -⟩:=zh.slice haw.now.mem
 have hbf:=zc7 hfs
 have hNX:∀y,Below wo.heap.size wo y->Calls Tryz.prog 39 #[.agg #[.int .i64 vars, .int .i64 dom, .slice ca cn cc], .agg #[.int .i64 mod, .int .i64 bnd], .agg #[.slice ta s.threads.length tac, .slice ya s.mem.length yac, .bool s.bad]] y (zbF (XQ (λk=>k<g\/F k) g (.slice (some ⟨eb,0,none⟩) sn sc) (.slice ma i mc) (.slice na i nc) (.slice none 0 0)) y (yF C M s d) (zfa C M s d)):=λy hy=>
  HNX.out y (zh.below (qU.stays d) HCS.out (zM HY.out.below hy)) s _ _ (haw.now.below hy) (λj hj=>by have:=hbf j hj;omega) hfs _ (λk hk=>Nat.lt_of_lt_of_le (HY.out.blocks k hk) hy.size) (vw.zle haw hy)
 obtain⟨n1,hn1⟩:∃n,n=s.threads.length:=⟨_,rfl⟩
 obtain⟨n2,hn2⟩:∃n,n=s.mem.length:=⟨_,rfl⟩
 obtain⟨bd,hbd⟩:∃b,b=s.bad:=⟨_,rfl⟩
 rw [<-hn1] at x0 hNX
 rw [<-hn2] at x1 hNX
 rw [<-hbd] at x2 hNX
 obtain⟨ms,hms⟩:∃ms,ms=yF C M s d:=⟨_,rfl⟩
 obtain⟨ns,hns⟩:∃ns,ns=zfa C M s d:=⟨_,rfl⟩
 have hnm:ns=ms.map λx=>(qD C M s x d).1:=by rw [hns,hms];rfl
 have hnf:∀t∈ns,zP C M t=true:=λt ht=>by
  rw [hns] at ht
  obtain⟨x,hx,rfl⟩:=List.mem_map.1 ht
  exact zbb hx
 rw [<-hms, <-hns] at hNX
 have hml:ms.length<=132:=by rw [hms];exact zlf
 obtain⟨mn,hmn⟩:∃mn,mn=ms.length:=⟨_,rfl⟩
 have hnn:ns.length=mn:=by rw [hnm,List.length_map,hmn]
 unfold zbF at hNX
 rw [hnn, <-hmn] at hNX
 rw [<-hmn] at hml
 have zto:=qh hNX
 have HMS:=qh hms
 have bI:=qh hmn
 have HNN:=qh hnn
 have HNM:=qh hnm
 have HNF:=qh hnf
 have C9:Hid (∀y,Below wo.heap.size wo y->y.cell? ⟨gx,0,none⟩=some (.int .i64 vars)/\y.cell? ⟨gx,1,none⟩=some (.int .i64 dom)/\y.cell? ⟨gx,2,none⟩=some (.slice ca cn cc)/\y.cell? ⟨gx+1,0,none⟩=some (.int .i64 mod)/\y.cell? ⟨gx+1,1,none⟩=some (.int .i64 bnd)/\
   y.cell? ⟨g,0,none⟩=some (.slice (some ⟨eb,0,none⟩) sn sc)/\y.cell? ⟨eb,i*3,none⟩=some (.slice ta n1 tac)/\y.cell? ⟨eb,i*3+1,none⟩=some (.slice ya n2 yac)/\y.cell? ⟨eb,i*3+2,none⟩=some (.bool bd)):=λy hy=>by
  obtain⟨c0,c1,c2,e0,e1⟩:=HK.out y (zM HY.out.below hy)
  exact⟨c0,c1,c2,e0,e1,zk hy _ _ b0,zk hy _ _ x0,zk hy _ _ x1,zk hy _ _ x2⟩
 clear hs hbf hNX hn1 hn2 hbd hms hns hnm hnf hmn hnn haw x0 x1 x2 hfs
 go_upto_region 9 with fail
 clear b0
 refine gX (S:=λx=>Below wo.heap.size wo x) ((Below.refl _ _).drew) (λhH=> ?_)
 refine zB 0 C9.out ?_
 refine zB 1 C9.out ?_
 refine zB 2 C9.out ?_
 refine zB 3 C9.out ?_
 refine zB 4 C9.out ?_
 refine zB 5 C9.out ?_
 refine zB 6 C9.out ?_
 refine yZ 7 rfl (λK hK=> ?_)
 go_simp
 refine(zto.out wo.drew hH).mono ?_
 rintro en hw7 ⟨⟨va,vc,zva,zvc,css,rfl,hmr,hth⟩,hb⟩
 have HMR:=qh hmr
 have HTH:=qh hth
 have HMG:Hid (wo.heap.size<=wo.drew.heap.size):=(hH).size
 clear hmr hth
 have wQ:Below wo.heap.size wo hw7:=zM hH hb
 refine hK.out _ _ wQ (λ_=> ?_)
 clear hK K hb hH
 refine zB 8 C9.out ?_
 refine zB 9 C9.out ?_
 refine zB 10 C9.out ?_
 refine zB 11 C9.out ?_
 refine zB 12 C9.out ?_
 refine vN ?_
 have zL:=qh wQ
 clear wQ
 have hnp:zO (XQ (λk=>k<g\/F k) g (.slice (some ⟨eb,0,none⟩) sn sc) (.slice ma i mc) (.slice na i nc) (.slice none 0 0)) hw7 (NxP wo.drew.heap.size (.slice va mn vc) (.slice zva mn zvc) ms ns css):=
  zmM (λk hk=>Nat.lt_of_lt_of_le (HY.out.blocks k hk) HMG.out) (by rw [<-bI.out];exact HMR.out) HTH.out
 have HNP:=qh hnp
 have HY7:=qh (HY.out.call zL.out)
 have HT7:=qh (HT.out.since (qA (λ_=>False) zL.out) (λ_ _ h=>h))
 clear hnp HY HT zL HMR HTH HMG zto C9
 generalize wo.drew.heap.size=BN at HNP
 go_wp2_with fail
 go_loopg [12,62] mn (λgg s12 s62 wr=>∃(k:Nat) (sa' xa:Option Addr) (wW sc' xc:Nat) (sl':List zi) (xl:List Int) (zc8:List (List Value)) (F':Nat->Prop),k<=mn/\wW<=rm/\Hid (gg=mn - k)/\s12= .slice xa k xc/\s62= .int .i64 k/\Hid (i<wW)/\Hid (vw W wr (λk=>k<g\/F' k) g (.slice sa' wW sc') (.slice ma i mc) (.slice na i nc) (.slice xa k xc) sl' ml nl xl zc8 kF ncc)/\Hid (Tab wr W.heap.size F' tb (sl'.map keyOf) rm)/\Hid (∀k,F' k->W.heap.size<=k)/\Hid (sl'.length=wW)/\Hid (xl.length=k)/\
  Hid (xX C M d rm s ms sl [] =xX C M d rm s (ms.drop k) sl' xl)/\Hid (∀s∈sl',zP C M s=true)/\Hid (zO (XQ (λk=>k<g\/F' k) g (.slice sa' wW sc') (.slice ma i mc) (.slice na i nc) (.slice xa k xc)) wr (NxP BN (.slice va mn vc) (.slice zva mn zvc) ms ns css)))
 case atStart=>exact⟨0,_,none,sn,sc,0,sl, [],scc,F,Nat.zero_le _,hsn,rfl,rfl,rfl,hlt,HY7.out,HT7.out,HFB.out,HSL.out,rfl,rfl,HFI.out,HNP.out⟩
 case round=>
 obtain⟨k,sa',xa,wW,sc',xc,sl',xl,zc8,F',hk,zhK,HG2,rfl,rfl,HIN,jh,jm,HFK,zbG,HXL,HIX,HFF,HNK⟩:=hrel
 obtain⟨wo2,rfl⟩:∃wo2:World,wo2=wr:=⟨_,rfl⟩
 clear HY7 HT7 HNP
 by_cases hkl:k<mn
 ·have ztq:(k:Int)<(mn:Int):=by omega
  obtain⟨nb,tv,yv,zZ,hcs,x0,x1,x2,haw⟩:=zmN HNK.out (i:=k) (by rw [HNN.out];exact hkl)
  subst zZ
  have hft:=HNF.out (ns.getD k default) (yC (by rw [HNN.out];exact hkl))
  have htd:ns.getD k default=(qD C M s (ms.getD k default) d).1:=by
   rw [HNM.out,List.getD_eq_getElem?_getD,List.getD_eq_getElem?_getD,List.getElem?_map,List.getElem?_eq_getElem (by rw [<-bI.out];exact hkl)];rfl
  obtain⟨t,ht⟩:∃t,t=ns.getD k default:=⟨_,rfl⟩
  rw [<-ht] at x2 haw hft htd hcs
  have hrg:=haw.now.qE
  have hxs:zO (XQ (λk=>k<g\/F' k) g (.slice sa' wW sc') (.slice ma i mc) (.slice na i nc) (.slice xa k xc)) wo2 (λy=>qO y t [tv,yv, .bool t.bad]):=λy hy=>⟨tv,yv,rfl,haw y hy⟩
  have hstp:xX C M d rm s (ms.drop k) sl' xl=if (rm:Int)<=((putAt sl' t).2:Int) then none else xX C M d rm s (ms.drop (k+1)) (putAt sl' t).1 (xl++ [((putAt sl' t).2:Int)]):=by
   rw [zlg (by rw [<-bI.out];exact hkl),htd]
  obtain⟨a,is,sl2,hadd,wR⟩:=zpk (c:=C) (m:=M) (l:=sl') (t:=t) (room:=rm) (λq hq=>⟨HFF.out q hq,zjo jh.out.st hq⟩) ⟨hft,hrg⟩ (by rw [zbG.out];exact zhK)
  obtain⟨ta2,tac2,rfl, -⟩:=zh.slice haw.now.threads
  obtain⟨ya2,zhM,rfl, -⟩:=zh.slice haw.now.mem
  have hkey:=λy (hy:Below wo2.heap.size wo2 y)=>zfR y t _ _ (haw.now.below hy) (zaA hft hrg)
  have zev:=zgt hft hrg
  unfold vI at hkey
  generalize keyOf t=key at hkey hadd zev
  have HKEY:=qh hkey
  have zhH:=qh hadd
  have zew:=qh wR
  have zhI:=qh zev
  have HXS:=qh hxs
  have zhN:=qh hstp
  have HFT:=qh hft
  have HTE:=qh ht
  clear hkey hadd wR zev hxs hstp hft htd ht hrg haw hcs
  generalize t.threads.length=m1 at x0 HKEY HXS
  generalize t.mem.length=m2 at x1 HKEY HXS
  obtain⟨bd2,ztr⟩:∃b,b=t.bad:=⟨_,rfl⟩
  rw [<-ztr] at x2 HKEY HXS
  clear ztr
  go_upto_region 14 with fail
  have hB3:Below wo2.heap.size wo2 (wo2.alloc (.cells #[.slice ta2 m1 tac2, .slice ya2 m2 zhM, .bool bd2] 42)):=(Below.refl _ _).alloc (Nat.le_refl _) _
  have vk:=qh (zS wo2 (.cells #[.slice ta2 m1 tac2, .slice ya2 m2 zhM, .bool bd2] 42))
  have HB3:=qh hB3
  clear hB3 x0 x1 x2
  generalize World.alloc wo2 _=W3 at vk HB3 ⊢
  obtain⟨gt,hgt⟩:∃g,g=wo2.heap.size:=⟨_,rfl⟩
  rw [<-hgt] at vk ⊢
  have HGT:=qh hgt
  clear hgt
  have t0:=ze vk.out 0
  have t1:=ze vk.out 1
  have t2:=ze vk.out 2
  go_upto_region 15 with(first|(go_at_call 38;go_must(refine(HKEY.out W3 HB3.out).mono ?_);rintro e X5 ⟨rfl,hb⟩;(have HB5:=qh (zM HB3.out hb));(have HG5:=qh ((hb.block _ (zy vk.out)).trans vk.out));(have zak:=qh (zjW (jm.out.since (qA (λ_=>False) HB5.out) (λ_ _ h=>h)) key zhI.out zhH.out (jh.out.call HB5.out).below.size));clear hb)|(go_at_call 37;go_must(refine zak.out.mono ?_);rintro e X6 ⟨rfl,F6,ht,hF6,hs⟩;(have HT6:=qh ht);(have HF6:=qh hF6);(have HS6:=qh hs);clear ht hF6 hs))
  have HYX:Hid (vw W X6 (λk=>k<g\/F6 k) g (.slice sa' wW sc') (.slice ma i mc) (.slice na i nc) (.slice xa k xc) sl' ml nl xl zc8 kF ncc):=
   (jh.out.call HB5.out).table (F:=F') HS6.out (λk hk=>⟨.inr hk,HFK.out k hk⟩) (λk hk=>⟨hk.elim (λe=> .inl (.inl e)) (λe=>(HF6.out k e).imp .inr id),hk.elim (λe=>by have h1:=HS6.out.size;have h2:=(jh.out.call HB5.out).below.size;have h3:=HWG.out;omega) (HT6.out.lt k)⟩)
  have hq6:∀k,(k<g\/F6 k)->(k<g\/F' k)\/X5.heap.size<=k:=λk hk=>hk.elim (λe=> .inl (.inl e)) (λe=>(HF6.out k e).imp .inr id)
  have ztt:Hid (zO (XQ (λk=>k<g\/F6 k) g (.slice sa' wW sc') (.slice ma i mc) (.slice na i nc) (.slice xa k xc)) X6 (NxP BN (.slice va mn vc) (.slice (some ⟨nb,0,none⟩) mn zvc) ms ns css)):=vw.zrb (vw.zle HNK.out HB5.out) HS6.out (λk hk=> .inr hk) hq6
  have zx0:Hid (zO (XQ (λk=>k<g\/F6 k) g (.slice sa' wW sc') (.slice ma i mc) (.slice na i nc) (.slice xa k xc)) X6 (λy=>qO y t [.slice ta2 m1 tac2, .slice ya2 m2 zhM, .bool bd2])):=vw.zrb (vw.zle HXS.out HB5.out) HS6.out (λk hk=> .inr hk) hq6
  have ztu:Hid (∀k,F6 k->W.heap.size<=k):=λk hk=>(HF6.out k hk).elim (HFK.out k) (λe=>Nat.le_trans (jh.out.call HB5.out).below.size e)
  have HG6:=qh ((HS6.out.block gt (zy HG5.out) (λe=>by have:=jm.out.lt gt e;have:=HGT.out;omega)).trans HG5.out)
  have hxr:=HYX.out.xr
  rw [HXL.out] at hxr
  have HXR:=qh hxr
  have z04:k<=132:=by omega
  clear hxr hq6 zak HKEY zhI zhH HXS HNK jm HB3 vk HG5 t0 t1 t2 HB5 HF6 HS6 jh HGT HFK
  rcases zew.out with⟨ha0,rfl,rfl,hput,har⟩|⟨rfl,rfl,hput,hrl⟩|⟨hal,rfl,rfl,hput,hlr⟩
  ·have zb8:xX C M d rm s (ms.drop k) sl2 xl=xX C M d rm s (ms.drop (k+1)) sl2 (xl++ [a]):=by
    have h1:((a.toNat:Nat):Int)=a:=by omega
    rw [zhN.out,hput,if_neg (by simp only [];omega)]
    simp only [h1]
   have zbH:=qh zb8
   clear zb8 hput har zhN zew
   go_upto_region 19 with fail
   go_wp2_with(at_builtin;go_must(refine zX _ rfl _ _ 31 rfl 3 (.int .i64 0) 1 8 Tryz.underlying31 gL rfl (by decide) W.heap.size (.slice xa k xc) k (zq yU xl) rfl (HXR.out.alloc _) ⟨X6.heap.size,0,none⟩ 1 1 [.int .i64 a] rfl rfl (vP _ [.int .i64 a] _) (by simp [Value.oneCell']) (by unfold maxLen;omega) (by omega) (by have:=HYX.out.below.size;simp;omega) ?_);intro ja2 jc2 X9 f1 f2 f3 f4 f5 f6;have HY9:=qh (HYX.out.zrc (x:=a) (by rw [HXL.out];exact f1) f4 f5);have HN9:=qh (vw.zrd ztt.out f4 f5);have HT9:=qh (HT6.out.since (((Since.refl _ X6).alloc _).trans f4 (λ_ h=> .inl h)) (λk hk=>(HYX.out.vQ k (.inr hk)).2.2.2.2.2));clear f1 f2 f3 f4 f5 f6)
   go_roundg (mn - (k+1))
   case measure=>rw [HG2.out];omega
   case rel=>exact⟨k+1,sa',ja2,wW,sc',jc2,sl2,xl++ [a],zc8,F6,by omega,zhK,rfl,rfl,by simp,HIN.out,HY9.out,HT9.out,ztu.out,zbG.out,by rw [Hid,List.length_append,HXL.out];rfl,by rw [Hid,HIX.out,zbH.out],HFF.out,HN9.out⟩
  ·have hR:R=(⟨[], [], []⟩,40):=by
    have hi2:rm+1 - i=(rm - i)+1:=by omega
    rw [HRI.out,hi2,zfc (by rw [HSL.out];exact hlt), <-HSI.out, <-HMS.out,HIX.out,zhN.out,hput,if_pos (by simp only [];omega)]
    rfl
   have hb0:=HYX.out.box
   obtain⟨hset,hend⟩:=zph.out X6 _ _ _ 40 HYX.out.below hb0 hR
   have xg:=qh hset
   have zL:=qh hend
   have b0:=ze hb0 0
   have b1:=ze hb0 1
   have b2:=ze hb0 2
   have f0:=zK hb0 0
   have f1:=zK hb0 1
   have f2:=zK hb0 2
   clear hset hend hb0 hR
   go_wp2_with fail
   (try simp only [Exit.inBlock,Exit.then])
   refine bodyPost_ret (xP rfl _ _ g 49 _ (0,0) _ rfl xg.out Tryz.underlying49 rfl pO) rfl ?_
   exact zL.out
  have zb8:xX C M d rm s (ms.drop k) sl' xl=xX C M d rm s (ms.drop (k+1)) (sl'++ [t]) (xl++ [a]):=by
   rw [zhN.out,hput,if_neg (by simp only [];omega),hal]
  have zbH:=qh zb8
  have hsr:=HYX.out.st.row
  rw [zbG.out] at hsr
  have HSR:=qh hsr
  have zx1:wW+1<=rm:=by have:=zbG.out;omega
  have ha0:0<=a:=by omega
  have zx2:Hid (∀q∈sl'++ [t],zP C M q=true):=λq hq=>by
   rcases List.mem_append.1 hq with hq|hq
   ·exact HFF.out q hq
   rw [List.mem_singleton] at hq;rw [hq];exact HFT.out
  clear zb8 hput hlr zhN zew hal hsr
  have b0:=ze HYX.out.box 0
  have t0:=ze HG6.out 0
  have t1:=ze HG6.out 1
  have t2:=ze HG6.out 2
  go_upto_region 19 with(at_builtin;go_must(refine zX _ rfl _ _ 45 rfl 42 (.agg #[.slice none 0 0, .slice none 0 0, .bool false]) 3 56 Tryz.underlying45 uz rfl (by decide) W.heap.size (.slice sa' wW sc') wW zc8.flatten rfl (HSR.out.alloc _) ⟨X6.heap.size,0,none⟩ 1 1 [.slice ta2 m1 tac2, .slice ya2 m2 zhM, .bool bd2] rfl rfl (vP _ [.slice ta2 m1 tac2, .slice ya2 m2 zhM, .bool bd2] _) (by simp [Value.oneCell']) (by unfold maxLen;omega) (by omega) (by have:=HYX.out.below.size;simp;omega) ?_);intro ja1 jc1 X7 f1 f2 f3 f4 f5 f6;have HYS:=qh (HYX.out.zqW zx0.out rfl (by rw [zbG.out];exact f1) f4 f5);have HNS:=qh (vw.zvJ ztt.out f4 f5);have hbx:=bJ HSR.out HYX.out.box (by decide) f4;have g0:=ze hbx 0;have g1:=zK hbx 0;have HTS:=qh (HT6.out.since (G:=λk=>k=g\/(Value.slice sa' wW sc').ownBlock=some k) (((((Since.refl _ X6).alloc _).trans f4 (λ_ h=> .inl h)).mono (λ_ _ h=> .inr h)).setCell (p:=⟨g,0,none⟩) (.inl (.inl rfl)) (.slice ja1 (wW+1) jc1)) (λk hk e=>e.elim (HYX.out.vQ k (.inr hk)).2.1 (HYX.out.vQ k (.inr hk)).2.2.1));clear f1 f2 f3 f4 f5 f6 hbx b0 t0 t1 t2)
  generalize World.setCell X7 _ _=X8 at HYS HNS HTS ⊢
  have hxr:=HYS.out.xr
  rw [HXL.out] at hxr
  have zx3:=qh hxr
  clear hxr g0 g1
  go_wp2_with(at_builtin;go_must(refine zX _ rfl _ _ 31 rfl 3 (.int .i64 0) 1 8 Tryz.underlying31 gL rfl (by decide) W.heap.size (.slice xa k xc) k (zq yU xl) rfl (zx3.out.alloc _) ⟨X8.heap.size,0,none⟩ 1 1 [.int .i64 a] rfl rfl (vP _ [.int .i64 a] _) (by simp [Value.oneCell']) (by unfold maxLen;omega) (by omega) (by have:=HYS.out.below.size;simp;omega) ?_);intro ja2 jc2 X9 f1 f2 f3 f4 f5 f6;have HY9:=qh (HYS.out.zrc (x:=a) (by rw [HXL.out];exact f1) f4 f5);have HN9:=qh (vw.zrd HNS.out f4 f5);have HT9:=qh (HTS.out.since (((Since.refl _ X8).alloc _).trans f4 (λ_ h=> .inl h)) (λk hk=>(HYS.out.vQ k (.inr hk)).2.2.2.2.2));clear f1 f2 f3 f4 f5 f6)
  go_roundg (mn - (k+1))
  case measure=>rw [HG2.out];omega
  case rel=>exact⟨k+1,ja1,ja2,wW+1,jc1,jc2,sl'++ [t],xl++ [a],_,F6,by omega,zx1,rfl,rfl,by simp,by rw [Hid];have:=HIN.out;omega,HY9.out,HT9.out,ztu.out,by rw [Hid,List.length_append,zbG.out];rfl,by rw [Hid,List.length_append,HXL.out];rfl,by rw [Hid,HIX.out,zbH.out],zx2.out,HN9.out⟩
 obtain rfl:mn=k:=by omega
 have hin2:xX C M d rm s ms sl [] =some (sl',xl):=by rw [HIX.out,bI.out,List.drop_length];rfl
 have hR:R=zla (qz C M d rm (rm - i) (i+1) sl' (ml++ [ms]) (nl++ [xl])):=by
  have hi2:rm+1 - i=(rm - i)+1:=by omega
  rw [HRI.out,hi2,zfc (by rw [HSL.out];exact hlt), <-HSI.out, <-HMS.out,hin2]
 have HR2:=qh hR
 clear hin2 hR
 go_upto_region 21 with fail
 obtain⟨V,hV⟩:∃V,V=wo2:=⟨_,rfl⟩
 rw [<-hV] at jh jm HNK ⊢
 clear hV
 have hm1:=jh.out.mo.row
 have hm2:=jh.out.ne.row
 rw [bV.out] at hm1
 rw [HNL.out] at hm2
 have hT0:=qh (kX.start hm1 hm2 jh.out.below.size)
 have CC:Hid (∀y,Since (λx=>(Value.slice ma i mc).ownBlock=some x\/(Value.slice na i nc).ownBlock=some x) V y->y.heap[g]? =some (.cells #[.slice sa' wW sc', .slice ma i mc, .slice na i nc] 49 (0,0))):=λy hy=>
  (hy.block _ (zy jh.out.box) (λe=>e.elim (λe=>yX jh.out.mo.row jh.out.box (by decide) _ e rfl) (λe=>yX jh.out.ne.row jh.out.box (by decide) _ e rfl))).trans jh.out.box
 have CC2:Hid (∀y,Since (λx=>(Value.slice ma i mc).ownBlock=some x\/(Value.slice na i nc).ownBlock=some x) V y->y.cell? ⟨g,1,none⟩=some (.slice ma i mc)/\y.cell? ⟨g,2,none⟩=some (.slice na i nc)):=λy hy=>⟨ze (CC.out y hy) 1,ze (CC.out y hy) 2⟩
 have hi5:i<=100000:=by omega
 clear hm1 hm2
 refine wp_region_noPanic ?_
 refine yh (n0:=11) (S:=λy=>Since (λx=>(Value.slice ma i mc).ownBlock=some x\/(Value.slice na i nc).ownBlock=some x) V y) (by kernel_rfl) hT0.out.since (λ_=> ?_)
 obtain⟨V1,hV1⟩:∃V1,V1=V.drew:=⟨_,rfl⟩
 rw [<-hV1] at hT0 ⊢
 clear hV1
 refine zJ 0 (λ_=>hT0.out.since) ?_
 refine qP [4,9,10,11,12,13] 1 CC2.out (hT0.out.since) ?_
 refine zJ 2 (λ_=>hT0.out.since) ?_
 refine zJ 5 (λ_=>hT0.out.since) ?_
 refine qP [9,10,11,12,13] 6 CC2.out (hT0.out.since) ?_
 refine zJ 7 (λ_=>hT0.out.since) ?_
 refine zam (rs:= [3,8]) (by kernel_rfl) (by simp) ?_
 refine uD.cons rfl (λK hK=> ?_) (uD.cons rfl (λK hK=> ?_) uD.nil)
 ·skip
  go_simp
  have hT1:=hT0.out.alloc 32 [.slice va mn vc]
  refine hK.out _ _ (λ_ _=>hT1.since) ?_
  obtain⟨nb1,zao⟩:∃n,n=V1.heap.size:=⟨_,rfl⟩
  rw [<-zao] at hT1 ⊢
  clear zao
  generalize World.alloc V1 _=zhP at hT1 ⊢
  replace hT1:=qh hT1
  clear hK K
  refine zam (rs:= [4,8]) (by kernel_rfl) (by simp) ?_
  refine uD.cons rfl (λK hK=> ?_) (uD.cons rfl (λK hK=> ?_) uD.nil)
  ·skip
   refine zY zhP (by rfl) (.tmp 89) (.tmp 91) 46 rfl 32 (.slice none 0 0) 1 24 Tryz.underlying46 zaQ rfl (by decide) W.heap.size (.slice ma i mc) i kF.flatten (by rfl) hT1.out.r1 ⟨nb1,0,none⟩ 1 1 [.slice va mn vc] (by rfl) rfl (hT1.out.cell (b:=nb1) (t:=32) (cs:= [.slice va mn vc]) (by simp)) (by simp [Value.oneCell']) (by unfold maxLen;omega) (by omega) hT1.out.base ?_
   intro ma' mc' Z44 e1 e2 e3 e4 e5
   have jR:=qh (hT1.out.app1 (by decide) e1 e4 e5)
   clear e1 e2 e3 e4 e5
   refine hK.out _ _ (λ_ _=>jR.out.since) ?_
   clear hK K
   change yM _ _ _ _ _ _ _ _ (Act.put _ (some 92) _) _
   simp only [Act.put,kT,kU,kV]
   refine zJ 10 (λ_=>jR.out.since) ?_
   refine qx 8 rfl (λK hK=> ?_)
   go_simp
   have qK:=jR.out.alloc 31 [.slice xa mn xc]
   refine hK.out _ _ (λ_ _=>qK.since) ?_
   obtain⟨bK,kY⟩:∃n,n=Z44.heap.size:=⟨_,rfl⟩
   rw [<-kY] at qK ⊢
   clear kY
   generalize World.alloc Z44 _=zt1 at qK ⊢
   replace qK:=qh qK
   clear hK K
   refine qx 9 rfl (λK hK=> ?_)
   refine zY zt1 (by rfl) (.tmp 94) (.tmp 96) 47 rfl 31 (.slice none 0 0) 1 24 Tryz.underlying47 zbI rfl (by decide) W.heap.size (.slice na i nc) i ncc.flatten (by rfl) qK.out.r2 ⟨bK,0,none⟩ 1 1 [.slice xa mn xc] (by rfl) rfl (qK.out.cell (b:=bK) (t:=31) (cs:= [.slice xa mn xc]) (by simp)) (by simp [Value.oneCell']) (by unfold maxLen;omega) (by omega) qK.out.base ?_
   intro na' nc' Z69 e1 e2 e3 e4 e5
   have yI:=qh (qK.out.zfS (by decide) e1 e4 e5)
   clear e1 e2 e3 e4 e5
   refine hK.out _ _ (λ_ _=>yI.out.since) ?_
   clear hK K
   change yM _ _ _ _ _ _ _ _ (Act.put _ (some 97) _) _
   simp only [Act.put,kT,kU,kV]
   refine qx 11 rfl (λK hK=> ?_)
   have hbx:=CC.out Z69 yI.out.since
   have q1:=ze hbx 1
   have q2:=zK hbx 1
   go_simp
   refine hK.out _ _ (λh=>absurd rfl h) ?_
   have zc9:=zD hbx 1 (.slice ma' (i+1) mc')
   have uE:=qh zc9
   clear hbx zc9 q1 q2
   have hT5:=yI
   clear hK K
   refine zJ 12 (λh=>absurd h (by decide+kernel)) ?_
   refine qx 13 rfl (λK hK=> ?_)
   have q1:=ze uE.out 2
   have q2:=zK uE.out 2
   go_simp
   refine hK.out _ _ (λ_ h=>absurd h (by decide+kernel)) ?_
   clear q1 q2
   have jy:=hT5
   clear hK K
   refine yA (by kernel_rfl) ?_ _
   refine NoPanic.normal ?_
   have hy:=jh.out.both (x:=ms) (cs:= [.slice va mn vc]) (λy hy=>⟨_,rfl,zaq (by have h:=(HNK.out y hy).1;rw [<-bI.out] at h ⊢;exact h)⟩) rfl jy.out.since (by rw [bV.out];exact jy.out.r1) (by rw [HNL.out];exact jy.out.r2) jy.out.l1 jy.out.l2
   have ht:=jm.out.since (jy.out.since) (λk hk e=>e.elim (jh.out.vQ k (.inr hk)).2.2.2.1 (jh.out.vQ k (.inr hk)).2.2.2.2.1)
   have ht2:=ht.since (Since.setCell (F:=λk=>k=g) (p:=⟨g,2,none⟩) (Since.setCell (F:=λk=>k=g) (p:=⟨g,1,none⟩) (Since.refl _ Z69) (.inl rfl) (.slice ma' (i+1) mc')) (.inl rfl) (.slice na' (i+1) nc')) (λk hk e=>(jh.out.vQ k (.inr hk)).2.1 e)
   have HYF:=qh hy
   have HTF:=qh ht2
   clear hy ht ht2 jh jm HNK CC CC2 uE jy
   go_wp2_with fail
   go_roundg (rm+1 - (i+1))
   case measure=>rw [HG.out];omega
   case rel=>exact⟨i+1,sa',ma',na',wW,sc',mc',nc',sl',ml++ [ms],nl++ [xl],zc8,_,_,F',by have:=HIN.out;omega,zhK,rfl,by simp,HYF.out,HTF.out,HFK.out,zbG.out,by rw [Hid,List.length_append,bV.out];rfl,by rw [Hid,List.length_append,HNL.out];rfl,by rw [Hid,HR2.out,show rm+1 - (i+1)=rm - i by omega],HFF.out⟩
  skip
  go_simp
  have jR:=hT1.out.alloc 31 [.slice xa mn xc]
  refine hK.out _ _ (λ_ _=>jR.since) ?_
  obtain⟨bK,kY⟩:∃n,n=zhP.heap.size:=⟨_,rfl⟩
  rw [<-kY] at jR ⊢
  clear kY
  generalize World.alloc zhP _=zrY at jR ⊢
  replace jR:=qh jR
  clear hK K
  refine qx 4 rfl (λK hK=> ?_)
  refine zY zrY (by rfl) (.tmp 89) (.tmp 91) 46 rfl 32 (.slice none 0 0) 1 24 Tryz.underlying46 zaQ rfl (by decide) W.heap.size (.slice ma i mc) i kF.flatten (by rfl) jR.out.r1 ⟨nb1,0,none⟩ 1 1 [.slice va mn vc] (by rfl) rfl (jR.out.cell (b:=nb1) (t:=32) (cs:= [.slice va mn vc]) (by simp)) (by simp [Value.oneCell']) (by unfold maxLen;omega) (by omega) jR.out.base ?_
  intro ma' mc' zx4 e1 e2 e3 e4 e5
  have qK:=qh (jR.out.app1 (by decide) e1 e4 e5)
  clear e1 e2 e3 e4 e5
  refine hK.out _ _ (λ_ _=>qK.out.since) ?_
  clear hK K
  change yM _ _ _ _ _ _ _ _ (Act.put _ (some 92) _) _
  simp only [Act.put,kT,kU,kV]
  refine zJ 10 (λ_=>qK.out.since) ?_
  refine qx 9 rfl (λK hK=> ?_)
  refine zY zx4 (by rfl) (.tmp 94) (.tmp 96) 47 rfl 31 (.slice none 0 0) 1 24 Tryz.underlying47 zbI rfl (by decide) W.heap.size (.slice na i nc) i ncc.flatten (by rfl) qK.out.r2 ⟨bK,0,none⟩ 1 1 [.slice xa mn xc] (by rfl) rfl (qK.out.cell (b:=bK) (t:=31) (cs:= [.slice xa mn xc]) (by simp)) (by simp [Value.oneCell']) (by unfold maxLen;omega) (by omega) qK.out.base ?_
  intro na' nc' zt2 e1 e2 e3 e4 e5
  have yI:=qh (qK.out.zfS (by decide) e1 e4 e5)
  clear e1 e2 e3 e4 e5
  refine hK.out _ _ (λ_ _=>yI.out.since) ?_
  clear hK K
  change yM _ _ _ _ _ _ _ _ (Act.put _ (some 97) _) _
  simp only [Act.put,kT,kU,kV]
  refine qx 11 rfl (λK hK=> ?_)
  have hbx:=CC.out zt2 yI.out.since
  have q1:=ze hbx 1
  have q2:=zK hbx 1
  go_simp
  refine hK.out _ _ (λh=>absurd rfl h) ?_
  have zc9:=zD hbx 1 (.slice ma' (i+1) mc')
  have uE:=qh zc9
  clear hbx zc9 q1 q2
  have hT5:=yI
  clear hK K
  refine zJ 12 (λh=>absurd h (by decide+kernel)) ?_
  refine qx 13 rfl (λK hK=> ?_)
  have q1:=ze uE.out 2
  have q2:=zK uE.out 2
  go_simp
  refine hK.out _ _ (λ_ h=>absurd h (by decide+kernel)) ?_
  clear q1 q2
  have jy:=hT5
  clear hK K
  refine yA (by kernel_rfl) ?_ _
  refine NoPanic.normal ?_
  have hy:=jh.out.both (x:=ms) (cs:= [.slice va mn vc]) (λy hy=>⟨_,rfl,zaq (by have h:=(HNK.out y hy).1;rw [<-bI.out] at h ⊢;exact h)⟩) rfl jy.out.since (by rw [bV.out];exact jy.out.r1) (by rw [HNL.out];exact jy.out.r2) jy.out.l1 jy.out.l2
  have ht:=jm.out.since (jy.out.since) (λk hk e=>e.elim (jh.out.vQ k (.inr hk)).2.2.2.1 (jh.out.vQ k (.inr hk)).2.2.2.2.1)
  have ht2:=ht.since (Since.setCell (F:=λk=>k=g) (p:=⟨g,2,none⟩) (Since.setCell (F:=λk=>k=g) (p:=⟨g,1,none⟩) (Since.refl _ zt2) (.inl rfl) (.slice ma' (i+1) mc')) (.inl rfl) (.slice na' (i+1) nc')) (λk hk e=>(jh.out.vQ k (.inr hk)).2.1 e)
  have HYF:=qh hy
  have HTF:=qh ht2
  clear hy ht ht2 jh jm HNK CC CC2 uE jy
  go_wp2_with fail
  go_roundg (rm+1 - (i+1))
  case measure=>rw [HG.out];omega
  case rel=>exact⟨i+1,sa',ma',na',wW,sc',mc',nc',sl',ml++ [ms],nl++ [xl],zc8,_,_,F',by have:=HIN.out;omega,zhK,rfl,by simp,HYF.out,HTF.out,HFK.out,zbG.out,by rw [Hid,List.length_append,bV.out];rfl,by rw [Hid,List.length_append,HNL.out];rfl,by rw [Hid,HR2.out,show rm+1 - (i+1)=rm - i by omega],HFF.out⟩
 skip
 go_simp
 have hT1:=hT0.out.alloc 31 [.slice xa mn xc]
 refine hK.out _ _ (λ_ _=>hT1.since) ?_
 obtain⟨bK,kY⟩:∃n,n=V1.heap.size:=⟨_,rfl⟩
 rw [<-kY] at hT1 ⊢
 clear kY
 generalize World.alloc V1 _=zkc at hT1 ⊢
 replace hT1:=qh hT1
 clear hK K
 refine qx 3 rfl (λK hK=> ?_)
 go_simp
 have jR:=hT1.out.alloc 32 [.slice va mn vc]
 refine hK.out _ _ (λ_ _=>jR.since) ?_
 obtain⟨nb1,zao⟩:∃n,n=zkc.heap.size:=⟨_,rfl⟩
 rw [<-zao] at jR ⊢
 clear zao
 generalize World.alloc zkc _=zrZ at jR ⊢
 replace jR:=qh jR
 clear hK K
 refine qx 4 rfl (λK hK=> ?_)
 refine zY zrZ (by rfl) (.tmp 89) (.tmp 91) 46 rfl 32 (.slice none 0 0) 1 24 Tryz.underlying46 zaQ rfl (by decide) W.heap.size (.slice ma i mc) i kF.flatten (by rfl) jR.out.r1 ⟨nb1,0,none⟩ 1 1 [.slice va mn vc] (by rfl) rfl (jR.out.cell (b:=nb1) (t:=32) (cs:= [.slice va mn vc]) (by simp)) (by simp [Value.oneCell']) (by unfold maxLen;omega) (by omega) jR.out.base ?_
 intro ma' mc' zx5 e1 e2 e3 e4 e5
 have qK:=qh (jR.out.app1 (by decide) e1 e4 e5)
 clear e1 e2 e3 e4 e5
 refine hK.out _ _ (λ_ _=>qK.out.since) ?_
 clear hK K
 change yM _ _ _ _ _ _ _ _ (Act.put _ (some 92) _) _
 simp only [Act.put,kT,kU,kV]
 refine zJ 10 (λ_=>qK.out.since) ?_
 refine qx 9 rfl (λK hK=> ?_)
 refine zY zx5 (by rfl) (.tmp 94) (.tmp 96) 47 rfl 31 (.slice none 0 0) 1 24 Tryz.underlying47 zbI rfl (by decide) W.heap.size (.slice na i nc) i ncc.flatten (by rfl) qK.out.r2 ⟨bK,0,none⟩ 1 1 [.slice xa mn xc] (by rfl) rfl (qK.out.cell (b:=bK) (t:=31) (cs:= [.slice xa mn xc]) (by simp)) (by simp [Value.oneCell']) (by unfold maxLen;omega) (by omega) qK.out.base ?_
 intro na' nc' zt3 e1 e2 e3 e4 e5
 have yI:=qh (qK.out.zfS (by decide) e1 e4 e5)
 clear e1 e2 e3 e4 e5
 refine hK.out _ _ (λ_ _=>yI.out.since) ?_
 clear hK K
 change yM _ _ _ _ _ _ _ _ (Act.put _ (some 97) _) _
 simp only [Act.put,kT,kU,kV]
 refine qx 11 rfl (λK hK=> ?_)
 have hbx:=CC.out zt3 yI.out.since
 have q1:=ze hbx 1
 have q2:=zK hbx 1
 go_simp
 refine hK.out _ _ (λh=>absurd rfl h) ?_
 have zc9:=zD hbx 1 (.slice ma' (i+1) mc')
 have uE:=qh zc9
 clear hbx zc9 q1 q2
 have hT5:=yI
 clear hK K
 refine zJ 12 (λh=>absurd h (by decide+kernel)) ?_
 refine qx 13 rfl (λK hK=> ?_)
 have q1:=ze uE.out 2
 have q2:=zK uE.out 2
 go_simp
 refine hK.out _ _ (λ_ h=>absurd h (by decide+kernel)) ?_
 clear q1 q2
 have jy:=hT5
 clear hK K
 refine yA (by kernel_rfl) ?_ _
 refine NoPanic.normal ?_
 have hy:=jh.out.both (x:=ms) (cs:= [.slice va mn vc]) (λy hy=>⟨_,rfl,zaq (by have h:=(HNK.out y hy).1;rw [<-bI.out] at h ⊢;exact h)⟩) rfl jy.out.since (by rw [bV.out];exact jy.out.r1) (by rw [HNL.out];exact jy.out.r2) jy.out.l1 jy.out.l2
 have ht:=jm.out.since (jy.out.since) (λk hk e=>e.elim (jh.out.vQ k (.inr hk)).2.2.2.1 (jh.out.vQ k (.inr hk)).2.2.2.2.1)
 have ht2:=ht.since (Since.setCell (F:=λk=>k=g) (p:=⟨g,2,none⟩) (Since.setCell (F:=λk=>k=g) (p:=⟨g,1,none⟩) (Since.refl _ zt3) (.inl rfl) (.slice ma' (i+1) mc')) (.inl rfl) (.slice na' (i+1) nc')) (λk hk e=>(jh.out.vQ k (.inr hk)).2.1 e)
 have HYF:=qh hy
 have HTF:=qh ht2
 clear hy ht ht2 jh jm HNK CC CC2 uE jy
 go_wp2_with fail
 go_roundg (rm+1 - (i+1))
 case measure=>rw [HG.out];omega
 case rel=>exact⟨i+1,sa',ma',na',wW,sc',mc',nc',sl',ml++ [ms],nl++ [xl],zc8,_,_,F',by have:=HIN.out;omega,zhK,rfl,by simp,HYF.out,HTF.out,HFK.out,zbG.out,by rw [Hid,List.length_append,bV.out];rfl,by rw [Hid,List.length_append,HNL.out];rfl,by rw [Hid,HR2.out,show rm+1 - (i+1)=rm - i by omega],HFF.out⟩
