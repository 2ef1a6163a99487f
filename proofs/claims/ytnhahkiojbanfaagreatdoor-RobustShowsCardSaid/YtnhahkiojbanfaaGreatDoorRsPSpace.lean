/- Steps. -/
import Derived.Test.YtnhahkiojbanfaaGreatDoorRsFinMadeP
import Derived.Test.YtnhahkiojbanfaaGreatDoorRsPNext
import Derived.Test.YtnhahkiojbanfaaGreatDoorRsTabAdd
set_option linter.all false
namespace Go.Proofs.YtnhahkiojbanfaaGreatDoor
open Go.RowKit
set_option maxRecDepth 100000
set_option maxHeartbeats 16000000
theorem zf4 (w:World) (c:zD) (cv:Value) (d:Nat) (hc:yS d w cv c.threads) (m:zy) (room:Int):
  Calls Tryz.prog 19 #[yQ c cv,qg m, .int .i64 room] w (zcu w (yt c m room d)):=by
 obtain⟨ca,cc,rfl, -⟩:=zh.slice hc
 obtain⟨mo,hmo⟩:∃mo,mo=qA c m:=⟨_,rfl⟩
 have hmay:=λW hW=>zu6 W c (.slice ca c.threads.length cc) d hW m
 rw [<-hmo] at hmay
 obtain⟨R,hR⟩:∃R,R=yt c m room d:=⟨_,rfl⟩
 obtain⟨S0,hS0⟩:∃S0,S0=xY c:=⟨_,rfl⟩
 have hR2:R=if mo=false\/room<1\/100000<room then(⟨[], [], []⟩,1) else zft (qO c m d room (room.toNat+1) 0 [S0] [] []):=by rw [hR,hmo,hS0];rfl
 rw [<-hR]
 have hstart:=λW hc=>zp9 W c (.slice ca c.threads.length cc) d hc
 rw [<-hS0] at hstart
 have zpB:mo=true->yB c m S0=true:=λe=>by rw [hS0];exact zif (hmo.symm.trans e)
 have hnext:=λW hc s sv mv hs hb hf F0 hF0 ha=>zrM W c (.slice ca c.threads.length cc) d hc m s sv mv hs hb hf F0 hF0 ha
 obtain⟨C,hC⟩:∃C,C=c:=⟨_,rfl⟩
 obtain⟨M,hM⟩:∃M,M=m:=⟨_,rfl⟩
 rw [<-hC, <-hM] at hR2 zpB
 obtain⟨vars,dom,cs⟩:=c
 obtain⟨mod,bnd⟩:=m
 unfold yQ qg
 unfold yQ qg at hnext hmay
 unfold yQ at hstart
 simp only [] at hc hmay hstart hnext ⊢
 obtain⟨cn,hcn⟩:∃cn,cn=cs.length:=⟨_,rfl⟩
 rw [<-hcn] at hc hmay hstart hnext ⊢
 rw [<-hC, <-hM] at hnext
 obtain⟨W,hW⟩:∃W,W=(w.alloc (.cells #[.int .i64 vars, .int .i64 dom, .slice ca cn cc] 26)).alloc (.cells #[.int .i64 mod, .int .i64 bnd] 29):=⟨_,rfl⟩
 have hB:Below w.heap.size w W:=by rw [hW];exact xO _ _ _
 have h1:W.heap[w.heap.size]? =some (.cells #[.int .i64 vars, .int .i64 dom, .slice ca cn cc] 26 (0,0)):=by rw [hW];exact xP _ _ _
 have h2:W.heap[w.heap.size+1]? =some (.cells #[.int .i64 mod, .int .i64 bnd] 29 (0,0)):=by rw [hW];exact xw _ _ _
 have hws:W.heap.size=w.heap.size+2:=by rw [hW];simp
 have HB:=qh hB
 have H1:=qh h1
 have H2:=qh h2
 have wQ:=qh (zh.below (qD.stays d) hc hB)
 have zbg:=qh hmay
 have zfu:=qh hstart
 have HNX:=qh hnext
 have HF0:=qh zpB
 have HRR:=qh hR2
 have HWS:=qh hws
 have HWE:=qh hW
 clear hC hM hcn hmay hstart hnext zpB hR2 hmo hR hS0 hB h1 h2 hc hws hW
 go_enter Tryz.func19,Tryz.ntmps19
 go_upto_region 1 with fail
 rw [<-HWE.out]
 obtain⟨gx,hgx⟩:∃gx,gx=w.heap.size:=⟨_,rfl⟩
 rw [<-hgx] at H1 H2 HWS ⊢
 have xg:=qh hgx
 clear hgx HWE
 have hy0:=zri W
 obtain⟨g,hg⟩:∃g,g=gx+1+1:=⟨_,rfl⟩
 have hwg:W.heap.size=g:=by rw [hg,HWS.out]
 rw [hwg] at hy0
 rw [<-hg]
 have HWG:=qh hwg
 have HGG:=qh hg
 have HY0:=qh hy0
 clear hy0 hwg hg
 generalize World.alloc W _=X0 at HY0 ⊢
 have HK:Hid (∀y,Below W.heap.size W y->y.cell? ⟨gx,0,none⟩=some (.int .i64 vars)/\y.cell? ⟨gx,1,none⟩=some (.int .i64 dom)/\y.cell? ⟨gx,2,none⟩=some (.slice ca cn cc)/\y.cell? ⟨gx+1,0,none⟩=some (.int .i64 mod)/\y.cell? ⟨gx+1,1,none⟩=some (.int .i64 bnd)):=λy hy=>
  ⟨zk hy _ _ (ze H1.out 0),zk hy _ _ (ze H1.out 1),zk hy _ _ (ze H1.out 2),zk hy _ _ (ze H2.out 0),zk hy _ _ (ze H2.out 1)⟩
 have zu7:Hid (∀(y:World) (a b c:Value) (k:Int),Below W.heap.size W y->y.heap[g]? =some (.cells #[a,b,c] 49 (0,0))->R=(⟨[], [], []⟩,k)->(((y.setCell ⟨g,0,none⟩ (.slice none 0 0)).setCell ⟨g,1,none⟩ (.slice none 0 0)).setCell ⟨g,2,none⟩ (.slice none 0 0)).heap[g]? =some (.cells #[.slice none 0 0, .slice none 0 0, .slice none 0 0] 49 (0,0))/\zcu w R (.returned (.tuple #[.agg #[.slice none 0 0, .slice none 0 0, .slice none 0 0], .int .i64 k])) (((y.setCell ⟨g,0,none⟩ (.slice none 0 0)).setCell ⟨g,1,none⟩ (.slice none 0 0)).setCell ⟨g,2,none⟩ (.slice none 0 0))):=λy a b c k hy hb hR=>by
  obtain⟨h1,h2⟩:=zjO hb (.slice none 0 0) (.slice none 0 0) (.slice none 0 0)
  exact⟨h1,bQ hR ((HB.out.trans (hy.mono HB.out.size)).trans (h2.below (Nat.le_trans HB.out.size hy.size) (λk hk=>by have:=HWG.out;have:=HB.out.size;omega)))⟩
 by_cases hr:room<1\/100000<room
 ·have HR:Hid (R=(⟨[], [], []⟩,1)):=by rw [Hid,HRR.out,if_pos (.inr hr)]
  have hb0:=HY0.out.box
  obtain⟨hset,hend⟩:=zu7.out X0 _ _ _ 1 HY0.out.below hb0 HR.out
  have zJ:=qh hset
  have zR:=qh hend
  have b0:=ze hb0 0
  have b1:=ze hb0 1
  have b2:=ze hb0 2
  have f0:=zA hb0 0
  have f1:=zA hb0 1
  have f2:=zA hb0 2
  have HTN:=qh (znj room hr X0)
  clear hset hend hb0 hr
  go_wp2_with(go_at_call 34;go_must(refine HTN.out.mono ?_);rintro e X1 ⟨rfl,rfl⟩)
  refine bodyPost_ret (zC rfl _ _ g 49 _ (0,0) _ rfl zJ.out Tryz.underlying49 rfl kR) rfl ?_
  exact zR.out
 obtain⟨rm,rfl⟩:∃rm:Nat,room=rm:=⟨room.toNat,by omega⟩
 have hrm1:1<=rm:=by omega
 have zzf:rm<=100000:=by omega
 have HR0:Hid (mo=true->R=zft (qO C M d rm (rm+1) 0 [S0] [] [])):=λe=>by
  rw [HRR.out,if_neg]
  ·simp
  rintro(h|h|h)
  ·rw [e] at h;cases h
  ·omega
  omega
 have HR1:Hid (mo=false->R=(⟨[], [], []⟩,1)):=λe=>by rw [HRR.out,if_pos (.inl e)]
 have HTN:=qh (zxQ rm hrm1 zzf X0 W.heap.size HY0.out.below.size)
 clear hr HRR
 obtain⟨c0,c1,c2,e0,e1⟩:=HK.out X0 HY0.out.below
 go_upto_region 2 with(go_at_call 34;go_must(refine HTN.out.mono ?_);rintro e X1 ⟨tb,rfl,htab,hs⟩;have HT1:=qh htab;have vC:=qh hs;clear htab hs)
 clear c0 c1 c2 e0 e1
 have hgw:=HWG.out
 have uw:Hid (jH W X1 (λk=>k<g\/(X0.heap.size<=k/\k<X1.heap.size)) g (.slice none 0 0) (.slice none 0 0) (.slice none 0 0) (.slice none 0 0) [] [] [] [] [] [] []):=
  HY0.out.table (F:=λ_=>False) vC.out (λ_ h=>h.elim) (λk hk=>by
   have h1:=vC.out.size
   have h2:=HY0.out.below.size
   rcases hk with hk|hk
   ·exact⟨.inl hk,by omega⟩
   exact⟨.inr hk.1,hk.2⟩)
 have z5T:=qh HY0.out.below.size
 clear HTN vC HY0 hgw
 obtain⟨F1,hF1⟩:∃F:Nat->Prop,F=λk=>X0.heap.size<=k/\k<X1.heap.size:=⟨_,rfl⟩
 have hy1:=uw.out
 rw [show(λk=>k<g\/(X0.heap.size<=k/\k<X1.heap.size))=(λk=>k<g\/F1 k) by rw [hF1]] at hy1
 have ht1:=HT1.out
 rw [<-hF1] at ht1
 have zu8:Hid (∀k,F1 k->W.heap.size<=k):=λk hk=>by
  rw [hF1] at hk
  have:=uw.out.below.size
  have h0:=z5T.out
  omega
 have HY2:=qh hy1
 have HT2:=qh ht1
 clear hF1 hy1 ht1 uw HT1
 obtain⟨c0,c1,c2,e0,e1⟩:=HK.out X1 HY2.out.below
 go_upto_if 26 with(go_at_call 35;go_must(refine(zbg.out X1 (zh.below (qD.stays d) wQ.out HY2.out.below)).mono ?_);rintro e X2 ⟨rfl,hb⟩;have HBM:=qh hb;clear hb)
 clear c0 c1 c2 e0 e1
 have HY3:=qh (HY2.out.call HBM.out)
 have HT3:=qh (HT2.out.since (xU (λ_=>False) HBM.out) (λ_ _ h=>h))
 clear HY2 HT2 HBM zbg
 cases mo with
 |false=>
  have hb0:=HY3.out.box
  obtain⟨hset,hend⟩:=zu7.out X2 _ _ _ 1 HY3.out.below hb0 (HR1.out rfl)
  have zJ:=qh hset
  have zR:=qh hend
  have b0:=ze hb0 0
  have b1:=ze hb0 1
  have b2:=ze hb0 2
  have f0:=zA hb0 0
  have f1:=zA hb0 1
  have f2:=zA hb0 2
  clear hset hend hb0
  go_wp2_with fail
  refine bodyPost_ret (zC rfl _ _ g 49 _ (0,0) _ rfl zJ.out Tryz.underlying49 rfl kR) rfl ?_
  exact zR.out
 |true=>
 have HR:=qh (HR0.out rfl)
 have zpC:=qh (HF0.out rfl)
 clear HR0 HR1 HF0
 go_upto_region 4 with fail
 have C4:Hid (∀y,Below X2.heap.size X2 y->y.cell? ⟨g,0,none⟩=some (.slice none 0 0)/\y.cell? ⟨gx,0,none⟩=some (.int .i64 vars)/\y.cell? ⟨gx,1,none⟩=some (.int .i64 dom)/\y.cell? ⟨gx,2,none⟩=some (.slice ca cn cc)):=λy hy=>by
  obtain⟨c0,c1,c2, -, -⟩:=HK.out y (HY3.out.call hy).below
  exact⟨ze (HY3.out.call hy).box 0,c0,c1,c2⟩
 refine wp_region_noPanic ?_
 refine yX (n0:=7) (S:=λx=>Below X2.heap.size X2 x) (by kernel_rfl) ((Below.refl _ _).drew) (λhT=> ?_)
 refine zV 0 (λ_=>hT) ?_
 refine jr [5,6,7] 1 C4.out hT ?_
 refine jr [3,4,5,6,7] 2 C4.out hT ?_
 refine vO 3 rfl (λK hK=> ?_)
 go_simp
 refine(zfu.out X2.drew (zh.below (qD.stays d) wQ.out (HY3.out.call hT).below)).mono ?_
 rintro en rw3 ⟨⟨zv,yv,rfl,hst⟩,hb⟩
 obtain⟨za,zac,rfl, -⟩:=zh.slice hst.now.threads
 obtain⟨zb,zbc,rfl, -⟩:=zh.slice hst.now.mem
 have HST:=qh hst
 have HYS:=qh (HY3.out.call (zH hT hb))
 have HSZ:Hid (X2.heap.size<=X2.drew.heap.size):=(hT).size
 unfold yA
 clear hst
 obtain⟨zn,hzn⟩:∃n,n=S0.threads.length:=⟨_,rfl⟩
 obtain⟨zm,hzm⟩:∃n,n=S0.mem.length:=⟨_,rfl⟩
 obtain⟨zbd,zu9⟩:∃n,n=S0.bad:=⟨_,rfl⟩
 rw [<-hzn, <-hzm] at HST
 rw [<-hzn, <-hzm, <-zu9]
 have HZB:=qh zu9
 clear hzn hzm zu9
 have jg:Below X2.heap.size X2 rw3:=zH hT hb
 refine hK.out _ _ (λ_ _=>jg) ?_
 clear hK K hb hT
 refine vO 4 rfl (λK hK=> ?_)
 go_simp
 have hb:Below rw3.heap.size rw3 (rw3.alloc (.cells #[.slice za zn zac, .slice zb zm zbc, .bool zbd] 42)):=(Below.refl _ _).alloc (Nat.le_refl _) _
 obtain⟨gq,hgq⟩:∃n,n=rw3.heap.size:=⟨_,rfl⟩
 have HQB:=qh (qY rw3 [.slice za zn zac, .slice zb zm zbc, .bool zbd] 42)
 rw [<-hgq] at HQB ⊢
 clear hgq
 have HQA:Hid (∃o,rw3.alloc (.cells #[.slice za zn zac, .slice zb zm zbc, .bool zbd] 42)=rw3.alloc o):=⟨_,rfl⟩
 generalize World.alloc rw3 _=rw4 at hb HQB HQA ⊢
 have qd:Below X2.heap.size X2 rw4:=zH jg hb
 refine hK.out _ _ (λ_ _=>qd) ?_
 clear hK K hb jg
 refine vO 5 rfl (λK hK=> ?_)
 refine zK rw4 (by rfl) (.tmp 29) (.tmp 32) 45 rfl 42 (.agg #[.slice none 0 0, .slice none 0 0, .bool false]) 3 56 Tryz.underlying45 pJ rfl (by decide) W.heap.size (.slice none 0 0) 0 [] (by rfl) (World.ownsRow_nil _ _ _ _) ⟨gq,0,none⟩ 1 1 [.slice za zn zac, .slice zb zm zbc, .bool zbd] (by rfl) rfl HQB.out (by simp [Value.oneCell']) (by unfold maxLen;omega) (by omega) (Nat.le_trans HY3.out.below.size (qd).size) ?_
 intro ja jc rw5 e1 e2 e3 e4 e5
 have E1:=qh e1
 have E4:=qh e4
 have E5:=qh e5
 have hb:Below rw4.heap.size rw4 rw5:=e4.below (Nat.le_refl _) (λk hk=>by simp [Value.ownBlock] at hk)
 clear e1 e2 e3 e4 e5
 have hT5:Below X2.heap.size X2 rw5:=zH qd hb
 refine hK.out _ _ (λ_ _=>hT5) ?_
 clear hK K hb qd
 change qz _ _ _ _ _ _ _ _ (Act.put _ (some 33) _) _
 simp only [Act.put,kJ,kK,kL]
 refine zV 6 (λ_=>hT5) ?_
 refine vO 7 rfl (λK hK=> ?_)
 have hbx:=((hT5).block _ (zw HY3.out.box)).trans HY3.out.box
 have q0:=ze hbx 0
 have q1:=zA hbx 0
 clear hbx
 go_simp
 refine hK.out _ _ (λh=>absurd rfl h) ?_
 clear hK K
 refine xE (by kernel_rfl) ?_ _
 refine NoPanic.normal ?_
 obtain⟨oq,hoq⟩:=HQA.out
 have e4:=E4.out
 have e5:=E5.out
 rw [hoq] at e4 e5
 have hst:zW (XQ (λk=>k<g\/F1 k) g (.slice none 0 0) (.slice none 0 0) (.slice none 0 0) (.slice none 0 0)) rw3 (λy=>qo y S0 [.slice za zn zac, .slice zb zm zbc, .bool zbd]):=λy hy=>
  ⟨_,_,by rw [HZB.out],(HST.out.mono (G:=XQ (λk=>k<g\/F1 k) g (.slice none 0 0) (.slice none 0 0) (.slice none 0 0) (.slice none 0 0)) (λk hk=>by
   have hg:=zw HY3.out.box
   have hz:=HSZ.out
   rcases hk with(hk|hk)|hk|hk|hk|hk
   ·omega
   ·have:=(HY3.out.kr k hk).1;omega
   ·simp [Value.ownBlock] at hk
   ·simp [Value.ownBlock] at hk
   ·simp [Value.ownBlock] at hk
   simp [Value.ownBlock] at hk)) y hy⟩
 have hy4:=HYS.out.zkK (o:=oq) hst rfl E1.out e4 e5
 have hs4:Since (λk=>k=g) X2 (rw5.setCell ⟨g,0,none⟩ (.slice ja 1 jc)):=(xU (λk=>k=g) hT5).setCell (p:=⟨g,0,none⟩) (.inl rfl) _
 have HT4:=qh (HT3.out.since hs4 (λk hk e=>(HY3.out.kr k (.inr hk)).2.1 e))
 have HY4:=qh hy4
 clear hy4 hs4 hst e4 e5 hoq HST HYS HSZ HZB HQB HQA E1 E4 E5 hT5 C4 HY3 HT3
 generalize World.setCell rw5 _ _=X4 at HY4 HT4 ⊢
 clear q0 q1
 have zzJ:=HY4.out.st.slice
 obtain⟨eb,eo,tv,yv,yh, -,x0,x1,x2,hst⟩:=kH.part zzJ 0 (by simp)
 simp only [List.getD_cons_zero,Nat.zero_mul,Nat.add_zero,List.nil_append] at x0 x1 x2 hst
 subst yh
 obtain⟨ta,tac,rfl, -⟩:=zh.slice hst.threads
 obtain⟨ya,yac,rfl, -⟩:=zh.slice hst.mem
 have hkey:=zju X4 S0 _ _ hst (zdb zpC.out hst.vX)
 have zh1:=zjP zpC.out hst.vX
 have hadd:zge (([] :List zi).map keyOf) rm (keyOf S0) 0 true (([] ++ [S0]).map keyOf):=by
  rcases zof (c:=C) (m:=M) (l:= []) (t:=S0) (room:=rm) (by simp) ⟨zpC.out,hst.vX⟩ (by simp) with h|h|h
  ·exact absurd h.1 (by simp)
  ·exact absurd h.2.1 (by simp;omega)
  exact h.2.2.1
 have HR4:Hid (∀s∈([S0] :List zi),yB C M s=true):=λs hs=>by
  rw [List.mem_singleton] at hs;rw [hs];exact zpC.out
 unfold yA at hkey
 generalize keyOf S0=key at hkey zh1 hadd
 have HKEY:=qh hkey
 have zlQ:=qh hadd
 have zlR:=qh zh1
 generalize S0.threads.length=n1 at x0 HKEY
 generalize S0.mem.length=n2 at x1 HKEY
 generalize S0.bad=bd at x2 HKEY
 have b0:=ze HY4.out.box 0
 clear zzJ hst hkey hadd zh1
 go_upto_region 6 with(first|(go_at_call 38;go_must(refine HKEY.out.mono ?_);rintro e X5 ⟨rfl,hb⟩;(have HY5:=qh (HY4.out.call hb));(have jE:=qh (zod (HT4.out.since (xU (λ_=>False) hb) (λ_ _ h=>h)) key zlR.out zlQ.out HY5.out.below.size));clear hb)|(go_at_call 37;go_must(refine jE.out.mono ?_);rintro e X6 ⟨rfl,F2,ht,hF2,hs⟩;(have HT6:=qh ht);(have zzK:Hid (∀k,F2 k->W.heap.size<=k):=λk hk=>(hF2 k hk).elim (zu8.out k) (λe=>Nat.le_trans HY5.out.below.size e));(have HY6:Hid (jH W X6 (λk=>k<g\/F2 k) g (.slice (some ⟨eb,eo,none⟩) 1 jc) (.slice none 0 0) (.slice none 0 0) (.slice none 0 0) [S0] [] [] [] [[.slice za zn zac, .slice zb zm zbc, .bool zbd]] [] []):=HY5.out.table (F:=F1) hs (λk hk=>⟨.inr hk,zu8.out k hk⟩) (λk hk=>⟨hk.elim (λe=> .inl (.inl e)) (λe=>(hF2 k e).imp .inr id),hk.elim (λe=>by have:=hs.size;have:=HY5.out.below.size;have:=HWG.out;omega) (ht.lt k)⟩));clear ht hF2 hs))
 clear HKEY jE zlQ zlR HY5 HY4 HT4 zu8 x0 x1 x2 b0
 have HKE:Hid (([] ++ [S0] :List zi).map keyOf= [S0].map keyOf):=rfl
 go_wp2_with fail
 go_loopg [9] (rm+1) (λgg s9 wr=>∃(i:Nat) (sa ma na:Option Addr) (sn sc mc nc:Nat) (sl:List zi) (ml:List (List zq)) (nl:List (List Int)) (scc wI ncc:List (List Value)) (F:Nat->Prop),i<=sn/\sn<=rm/\Hid (gg=rm+1 - i)/\s9= .int .i64 i/\Hid (jH W wr (λk=>k<g\/F k) g (.slice sa sn sc) (.slice ma i mc) (.slice na i nc) (.slice none 0 0) sl ml nl [] scc wI ncc)/\Hid (Tab wr W.heap.size F tb (sl.map keyOf) rm)/\Hid (∀k,F k->W.heap.size<=k)/\Hid (sl.length=sn)/\Hid (ml.length=i)/\Hid (nl.length=i)/\Hid (R=zft (qO C M d rm (rm+1 - i) i sl ml nl))/\Hid (∀s∈sl,yB C M s=true))
 case atStart=>exact⟨0,_,none,none,1,jc,0,0, [S0], [], [],_, [], [],F2,by omega,hrm1,rfl,rfl,HY6.out,HT6.out,zzK.out,rfl,rfl,rfl,HR.out,HR4.out⟩
 case round=>
 obtain⟨i,sa,ma,na,sn,sc,mc,nc,sl,ml,nl,scc,wI,ncc,F,hi,hsn,HG,rfl,HY,HT,HFB,HSL,bq,HNL,HRI,HFI⟩:=hrel
 obtain⟨wo,rfl⟩:∃wo:World,wo=wr:=⟨_,rfl⟩
 clear HY6 HT6 zzK HR HR4 HKE
 have b0:=ze HY.out.box 0
 by_cases hlt:i<sn
 rotate_left
 ·obtain rfl:sn=i:=by omega
  have hR:R=(⟨sl,ml,nl⟩,0):=by
   have hi2:rm+1 - sn=(rm - sn)+1:=by omega
   rw [HRI.out,hi2,zjQ (by rw [HSL.out];omega)]
   rfl
  have hbx:=HY.out.box
  have b1:=ze hbx 1
  have b2:=ze hbx 2
  have f0:=zA hbx 0
  have f1:=zA hbx 1
  have f2:=zA hbx 2
  obtain⟨hset,hsn⟩:=zjO hbx (.slice sa sn sc) (.slice ma sn mc) (.slice na sn nc)
  have haw:=HY.out.fin (B:=w.heap.size) HB.out.size hsn (λk hk=> .inl (by have:=HWG.out;have:=HB.out.size;omega))
  have hend:zcu w R (.returned (.tuple #[.agg #[.slice sa sn sc, .slice ma sn mc, .slice na sn nc], .int .i64 0])) (((wo.setCell ⟨g,0,none⟩ (.slice sa sn sc)).setCell ⟨g,1,none⟩ (.slice ma sn mc)).setCell ⟨g,2,none⟩ (.slice na sn nc)):=by
   rw [hR]
   refine⟨⟨_,_,_,rfl,haw.now,haw,λa n c e=> ?_⟩,(HB.out.trans (HY.out.below.mono HB.out.size)).trans (hsn.below (Nat.le_trans HB.out.size HY.out.below.size) (λk hk=>by have:=HWG.out;have:=HB.out.size;omega))⟩
   obtain⟨a',c',e',h1, -⟩:=xu HY.out.st.row
   cases e;cases e';omega
  have zJ:=qh hset
  have zR:=qh hend
  clear hset hend hR haw hsn hbx
  go_wp2_with fail
  (try simp only [Exit.inBlock,Exit.then])
  refine bodyPost_ret (zC rfl _ _ g 49 _ (0,0) _ rfl zJ.out Tryz.underlying49 rfl kR) rfl ?_
  exact zR.out
 have qN:(i:Int)<(sn:Int):=by omega
 obtain⟨eb,tv,yv,yh, -, -,x0,x1,x2,haw⟩:=zfo HY.out.st (i:=i) (by rw [HSL.out];exact hlt)
 subst yh
 have hfs:=HFI.out (sl.getD i default) (xS (by rw [HSL.out];exact hlt))
 obtain⟨s,hs⟩:∃s,s=sl.getD i default:=⟨_,rfl⟩
 rw [<-hs] at x2 haw hfs
 have HSI:=qh hs
 obtain⟨ta,tac,rfl, -⟩:=zh.slice haw.now.threads
 obtain⟨ya,yac,rfl, -⟩:=zh.slice haw.now.mem
 have hbf:=zde hfs
 have hNX:∀y,Below wo.heap.size wo y->Calls Tryz.prog 39 #[.agg #[.int .i64 vars, .int .i64 dom, .slice ca cn cc], .agg #[.int .i64 mod, .int .i64 bnd], .agg #[.slice ta s.threads.length tac, .slice ya s.mem.length yac, .bool s.bad]] y (zew (XQ (λk=>k<g\/F k) g (.slice (some ⟨eb,0,none⟩) sn sc) (.slice ma i mc) (.slice na i nc) (.slice none 0 0)) y (xH C M s d) (zi0 C M s d)):=λy hy=>
  HNX.out y (zh.below (qD.stays d) wQ.out (zH HY.out.below hy)) s _ _ (haw.now.below hy) (λj hj=>by have:=hbf j hj;omega) hfs _ (λk hk=>Nat.lt_of_lt_of_le (HY.out.blocks k hk) hy.size) (jH.zpm haw hy)
 obtain⟨n1,hn1⟩:∃n,n=s.threads.length:=⟨_,rfl⟩
 obtain⟨n2,hn2⟩:∃n,n=s.mem.length:=⟨_,rfl⟩
 obtain⟨bd,hbd⟩:∃b,b=s.bad:=⟨_,rfl⟩
 rw [<-hn1] at x0 hNX
 rw [<-hn2] at x1 hNX
 rw [<-hbd] at x2 hNX
 obtain⟨ms,hms⟩:∃ms,ms=xH C M s d:=⟨_,rfl⟩
 obtain⟨ns,hns⟩:∃ns,ns=zi0 C M s d:=⟨_,rfl⟩
 have hnm:ns=ms.map λx=>(qB C M s x d).1:=by rw [hns,hms];rfl
 have hnf:∀t∈ns,yB C M t=true:=λt ht=>by
  rw [hns] at ht
  obtain⟨x,hx,rfl⟩:=List.mem_map.1 ht
  exact zog hx
 rw [<-hms, <-hns] at hNX
 have hml:ms.length<=132:=by rw [hms];exact zii
 obtain⟨mn,hmn⟩:∃mn,mn=ms.length:=⟨_,rfl⟩
 have hnn:ns.length=mn:=by rw [hnm,List.length_map,hmn]
 unfold zew at hNX
 rw [hnn, <-hmn] at hNX
 rw [<-hmn] at hml
 have zzL:=qh hNX
 have HMS:=qh hms
 have vH:=qh hmn
 have HNN:=qh hnn
 have HNM:=qh hnm
 have HNF:=qh hnf
 have C9:Hid (∀y,Below wo.heap.size wo y->y.cell? ⟨gx,0,none⟩=some (.int .i64 vars)/\y.cell? ⟨gx,1,none⟩=some (.int .i64 dom)/\y.cell? ⟨gx,2,none⟩=some (.slice ca cn cc)/\y.cell? ⟨gx+1,0,none⟩=some (.int .i64 mod)/\y.cell? ⟨gx+1,1,none⟩=some (.int .i64 bnd)/\
   y.cell? ⟨g,0,none⟩=some (.slice (some ⟨eb,0,none⟩) sn sc)/\y.cell? ⟨eb,i*3,none⟩=some (.slice ta n1 tac)/\y.cell? ⟨eb,i*3+1,none⟩=some (.slice ya n2 yac)/\y.cell? ⟨eb,i*3+2,none⟩=some (.bool bd)):=λy hy=>by
  obtain⟨c0,c1,c2,e0,e1⟩:=HK.out y (zH HY.out.below hy)
  exact⟨c0,c1,c2,e0,e1,zk hy _ _ b0,zk hy _ _ x0,zk hy _ _ x1,zk hy _ _ x2⟩
 clear hs hbf hNX hn1 hn2 hbd hms hns hnm hnf hmn hnn haw x0 x1 x2 hfs
 go_upto_region 9 with fail
 clear b0
 refine jf (S:=λx=>Below wo.heap.size wo x) ((Below.refl _ _).drew) (λhH=> ?_)
 refine zB 0 C9.out ?_
 refine zB 1 C9.out ?_
 refine zB 2 C9.out ?_
 refine zB 3 C9.out ?_
 refine zB 4 C9.out ?_
 refine zB 5 C9.out ?_
 refine zB 6 C9.out ?_
 refine yC 7 rfl (λK hK=> ?_)
 go_simp
 refine(zzL.out wo.drew hH).mono ?_
 rintro en hw7 ⟨⟨va,vc,zva,zvc,css,rfl,hmr,hth⟩,hb⟩
 have HMR:=qh hmr
 have HTH:=qh hth
 have HMG:Hid (wo.heap.size<=wo.drew.heap.size):=(hH).size
 clear hmr hth
 have gU:Below wo.heap.size wo hw7:=zH hH hb
 refine hK.out _ _ gU (λ_=> ?_)
 clear hK K hb hH
 refine zB 8 C9.out ?_
 refine zB 9 C9.out ?_
 refine zB 10 C9.out ?_
 refine zB 11 C9.out ?_
 refine zB 12 C9.out ?_
 refine xW ?_
 have zR:=qh gU
 clear gU
 have hnp:zW (XQ (λk=>k<g\/F k) g (.slice (some ⟨eb,0,none⟩) sn sc) (.slice ma i mc) (.slice na i nc) (.slice none 0 0)) hw7 (NxP wo.drew.heap.size (.slice va mn vc) (.slice zva mn zvc) ms ns css):=
  zrg (λk hk=>Nat.lt_of_lt_of_le (HY.out.blocks k hk) HMG.out) (by rw [<-vH.out];exact HMR.out) HTH.out
 have HNP:=qh hnp
 have HY7:=qh (HY.out.call zR.out)
 have HT7:=qh (HT.out.since (xU (λ_=>False) zR.out) (λ_ _ h=>h))
 clear hnp HY HT zR HMR HTH HMG zzL C9
 generalize wo.drew.heap.size=BN at HNP
 go_wp2_with fail
 go_loopg [12,62] mn (λgg s12 s62 wr=>∃(k:Nat) (sa' xa:Option Addr) (vP sc' xc:Nat) (sl':List zi) (xl:List Int) (zbk:List (List Value)) (F':Nat->Prop),k<=mn/\vP<=rm/\Hid (gg=mn - k)/\s12= .slice xa k xc/\s62= .int .i64 k/\Hid (i<vP)/\Hid (jH W wr (λk=>k<g\/F' k) g (.slice sa' vP sc') (.slice ma i mc) (.slice na i nc) (.slice xa k xc) sl' ml nl xl zbk wI ncc)/\Hid (Tab wr W.heap.size F' tb (sl'.map keyOf) rm)/\Hid (∀k,F' k->W.heap.size<=k)/\Hid (sl'.length=vP)/\Hid (xl.length=k)/\
  Hid (xX C M d rm s ms sl [] =xX C M d rm s (ms.drop k) sl' xl)/\Hid (∀s∈sl',yB C M s=true)/\Hid (zW (XQ (λk=>k<g\/F' k) g (.slice sa' vP sc') (.slice ma i mc) (.slice na i nc) (.slice xa k xc)) wr (NxP BN (.slice va mn vc) (.slice zva mn zvc) ms ns css)))
 case atStart=>exact⟨0,_,none,sn,sc,0,sl, [],scc,F,Nat.zero_le _,hsn,rfl,rfl,rfl,hlt,HY7.out,HT7.out,HFB.out,HSL.out,rfl,rfl,HFI.out,HNP.out⟩
 case round=>
 obtain⟨k,sa',xa,vP,sc',xc,sl',xl,zbk,F',hk,zhp,HG2,rfl,rfl,HIN,wD,j3,HFK,zex,HXL,HIX,HFF,HNK⟩:=hrel
 obtain⟨jT,rfl⟩:∃jT:World,jT=wr:=⟨_,rfl⟩
 clear HY7 HT7 HNP
 by_cases hkl:k<mn
 ·have zpt:(k:Int)<(mn:Int):=by omega
  obtain⟨nb,tv,yv,yh,hcs,x0,x1,x2,haw⟩:=zrh HNK.out (i:=k) (by rw [HNN.out];exact hkl)
  subst yh
  have hft:=HNF.out (ns.getD k default) (xS (by rw [HNN.out];exact hkl))
  have htd:ns.getD k default=(qB C M s (ms.getD k default) d).1:=by
   rw [HNM.out,List.getD_eq_getElem?_getD,List.getD_eq_getElem?_getD,List.getElem?_map,List.getElem?_eq_getElem (by rw [<-vH.out];exact hkl)];rfl
  obtain⟨t,ht⟩:∃t,t=ns.getD k default:=⟨_,rfl⟩
  rw [<-ht] at x2 haw hft htd hcs
  have hrg:=haw.now.vX
  have hxs:zW (XQ (λk=>k<g\/F' k) g (.slice sa' vP sc') (.slice ma i mc) (.slice na i nc) (.slice xa k xc)) jT (λy=>qo y t [tv,yv, .bool t.bad]):=λy hy=>⟨tv,yv,rfl,haw y hy⟩
  have hstp:xX C M d rm s (ms.drop k) sl' xl=if (rm:Int)<=((putAt sl' t).2:Int) then none else xX C M d rm s (ms.drop (k+1)) (putAt sl' t).1 (xl++ [((putAt sl' t).2:Int)]):=by
   rw [zih (by rw [<-vH.out];exact hkl),htd]
  obtain⟨a,is,sl2,hadd,zai⟩:=zuk (c:=C) (m:=M) (l:=sl') (t:=t) (room:=rm) (λq hq=>⟨HFF.out q hq,znk wD.out.st hq⟩) ⟨hft,hrg⟩ (by rw [zex.out];exact zhp)
  obtain⟨ta2,tac2,rfl, -⟩:=zh.slice haw.now.threads
  obtain⟨ya2,zlS,rfl, -⟩:=zh.slice haw.now.mem
  have hkey:=λy (hy:Below jT.heap.size jT y)=>zju y t _ _ (haw.now.below hy) (zdb hft hrg)
  have zh1:=zjP hft hrg
  unfold yA at hkey
  generalize keyOf t=key at hkey hadd zh1
  have HKEY:=qh hkey
  have zlQ:=qh hadd
  have zh2:=qh zai
  have zlR:=qh zh1
  have HXS:=qh hxs
  have zf5:=qh hstp
  have HFT:=qh hft
  have HTE:=qh ht
  clear hkey hadd zai zh1 hxs hstp hft htd ht hrg haw hcs
  generalize t.threads.length=m1 at x0 HKEY HXS
  generalize t.mem.length=m2 at x1 HKEY HXS
  obtain⟨bd2,zzN⟩:∃b,b=t.bad:=⟨_,rfl⟩
  rw [<-zzN] at x2 HKEY HXS
  clear zzN
  go_upto_region 14 with fail
  have hB3:Below jT.heap.size jT (jT.alloc (.cells #[.slice ta2 m1 tac2, .slice ya2 m2 zlS, .bool bd2] 42)):=(Below.refl _ _).alloc (Nat.le_refl _) _
  have jv:=qh (yj jT (.cells #[.slice ta2 m1 tac2, .slice ya2 m2 zlS, .bool bd2] 42))
  have HB3:=qh hB3
  clear hB3 x0 x1 x2
  generalize World.alloc jT _=W3 at jv HB3 ⊢
  obtain⟨gt,hgt⟩:∃g,g=jT.heap.size:=⟨_,rfl⟩
  rw [<-hgt] at jv ⊢
  have HGT:=qh hgt
  clear hgt
  have t0:=ze jv.out 0
  have t1:=ze jv.out 1
  have t2:=ze jv.out 2
  go_upto_region 15 with(first|(go_at_call 38;go_must(refine(HKEY.out W3 HB3.out).mono ?_);rintro e X5 ⟨rfl,hb⟩;(have gJ:=qh (zH HB3.out hb));(have HG5:=qh ((hb.block _ (zw jv.out)).trans jv.out));(have jE:=qh (zod (j3.out.since (xU (λ_=>False) gJ.out) (λ_ _ h=>h)) key zlR.out zlQ.out (wD.out.call gJ.out).below.size));clear hb)|(go_at_call 37;go_must(refine jE.out.mono ?_);rintro e X6 ⟨rfl,F6,ht,hF6,hs⟩;(have HT6:=qh ht);(have HF6:=qh hF6);(have HS6:=qh hs);clear ht hF6 hs))
  have HYX:Hid (jH W X6 (λk=>k<g\/F6 k) g (.slice sa' vP sc') (.slice ma i mc) (.slice na i nc) (.slice xa k xc) sl' ml nl xl zbk wI ncc):=
   (wD.out.call gJ.out).table (F:=F') HS6.out (λk hk=>⟨.inr hk,HFK.out k hk⟩) (λk hk=>⟨hk.elim (λe=> .inl (.inl e)) (λe=>(HF6.out k e).imp .inr id),hk.elim (λe=>by have h1:=HS6.out.size;have h2:=(wD.out.call gJ.out).below.size;have h3:=HWG.out;omega) (HT6.out.lt k)⟩)
  have hq6:∀k,(k<g\/F6 k)->(k<g\/F' k)\/X5.heap.size<=k:=λk hk=>hk.elim (λe=> .inl (.inl e)) (λe=>(HF6.out k e).imp .inr id)
  have zzP:Hid (zW (XQ (λk=>k<g\/F6 k) g (.slice sa' vP sc') (.slice ma i mc) (.slice na i nc) (.slice xa k xc)) X6 (NxP BN (.slice va mn vc) (.slice (some ⟨nb,0,none⟩) mn zvc) ms ns css)):=jH.zw3 (jH.zpm HNK.out gJ.out) HS6.out (λk hk=> .inr hk) hq6
  have z5U:Hid (zW (XQ (λk=>k<g\/F6 k) g (.slice sa' vP sc') (.slice ma i mc) (.slice na i nc) (.slice xa k xc)) X6 (λy=>qo y t [.slice ta2 m1 tac2, .slice ya2 m2 zlS, .bool bd2])):=jH.zw3 (jH.zpm HXS.out gJ.out) HS6.out (λk hk=> .inr hk) hq6
  have zzQ:Hid (∀k,F6 k->W.heap.size<=k):=λk hk=>(HF6.out k hk).elim (HFK.out k) (λe=>Nat.le_trans (wD.out.call gJ.out).below.size e)
  have HG6:=qh ((HS6.out.block gt (zw HG5.out) (λe=>by have:=j3.out.lt gt e;have:=HGT.out;omega)).trans HG5.out)
  have hxr:=HYX.out.xr
  rw [HXL.out] at hxr
  have HXR:=qh hxr
  have z99:k<=132:=by omega
  clear hxr hq6 jE HKEY zlR zlQ HXS HNK j3 HB3 jv HG5 t0 t1 t2 gJ HF6 HS6 wD HGT HFK
  rcases zh2.out with⟨ha0,rfl,rfl,hput,har⟩|⟨rfl,rfl,hput,hrl⟩|⟨hal,rfl,rfl,hput,hlr⟩
  ·have zah:xX C M d rm s (ms.drop k) sl2 xl=xX C M d rm s (ms.drop (k+1)) sl2 (xl++ [a]):=by
    have h1:((a.toNat:Nat):Int)=a:=by omega
    rw [zf5.out,hput,if_neg (by simp only [];omega)]
    simp only [h1]
   have qI:=qh zah
   clear zah hput har zf5 zh2
   go_upto_region 19 with fail
   go_wp2_with(at_builtin;go_must(refine zI _ rfl _ _ 31 rfl 3 (.int .i64 0) 1 8 Tryz.underlying31 vg rfl (by decide) W.heap.size (.slice xa k xc) k (zo yM xl) rfl (HXR.out.alloc _) ⟨X6.heap.size,0,none⟩ 1 1 [.int .i64 a] rfl rfl (qY _ [.int .i64 a] _) (by simp [Value.oneCell']) (by unfold maxLen;omega) (by omega) (by have:=HYX.out.below.size;simp;omega) ?_);intro ja2 jc2 X9 f1 f2 f3 f4 f5 f6;have HY9:=qh (HYX.out.zkL (x:=a) (by rw [HXL.out];exact f1) f4 f5);have HN9:=qh (jH.zw2 zzP.out f4 f5);have HT9:=qh (HT6.out.since (((Since.refl _ X6).alloc _).trans f4 (λ_ h=> .inl h)) (λk hk=>(HYX.out.kr k (.inr hk)).2.2.2.2.2));clear f1 f2 f3 f4 f5 f6)
   go_roundg (mn - (k+1))
   case measure=>rw [HG2.out];omega
   case rel=>exact⟨k+1,sa',ja2,vP,sc',jc2,sl2,xl++ [a],zbk,F6,by omega,zhp,rfl,rfl,by simp,HIN.out,HY9.out,HT9.out,zzQ.out,zex.out,by rw [Hid,List.length_append,HXL.out];rfl,by rw [Hid,HIX.out,qI.out],HFF.out,HN9.out⟩
  ·have hR:R=(⟨[], [], []⟩,40):=by
    have hi2:rm+1 - i=(rm - i)+1:=by omega
    rw [HRI.out,hi2,zcd (by rw [HSL.out];exact hlt), <-HSI.out, <-HMS.out,HIX.out,zf5.out,hput,if_pos (by simp only [];omega)]
    rfl
   have hb0:=HYX.out.box
   obtain⟨hset,hend⟩:=zu7.out X6 _ _ _ 40 HYX.out.below hb0 hR
   have zJ:=qh hset
   have zR:=qh hend
   have b0:=ze hb0 0
   have b1:=ze hb0 1
   have b2:=ze hb0 2
   have f0:=zA hb0 0
   have f1:=zA hb0 1
   have f2:=zA hb0 2
   clear hset hend hb0 hR
   go_wp2_with fail
   (try simp only [Exit.inBlock,Exit.then])
   refine bodyPost_ret (zC rfl _ _ g 49 _ (0,0) _ rfl zJ.out Tryz.underlying49 rfl kR) rfl ?_
   exact zR.out
  have zah:xX C M d rm s (ms.drop k) sl' xl=xX C M d rm s (ms.drop (k+1)) (sl'++ [t]) (xl++ [a]):=by
   rw [zf5.out,hput,if_neg (by simp only [];omega),hal]
  have qI:=qh zah
  have hsr:=HYX.out.st.row
  rw [zex.out] at hsr
  have HSR:=qh hsr
  have z5V:vP+1<=rm:=by have:=zex.out;omega
  have ha0:0<=a:=by omega
  have z5W:Hid (∀q∈sl'++ [t],yB C M q=true):=λq hq=>by
   rcases List.mem_append.1 hq with hq|hq
   ·exact HFF.out q hq
   rw [List.mem_singleton] at hq;rw [hq];exact HFT.out
  clear zah hput hlr zf5 zh2 hal hsr
  have b0:=ze HYX.out.box 0
  have t0:=ze HG6.out 0
  have t1:=ze HG6.out 1
  have t2:=ze HG6.out 2
  go_upto_region 19 with(at_builtin;go_must(refine zI _ rfl _ _ 45 rfl 42 (.agg #[.slice none 0 0, .slice none 0 0, .bool false]) 3 56 Tryz.underlying45 pJ rfl (by decide) W.heap.size (.slice sa' vP sc') vP zbk.flatten rfl (HSR.out.alloc _) ⟨X6.heap.size,0,none⟩ 1 1 [.slice ta2 m1 tac2, .slice ya2 m2 zlS, .bool bd2] rfl rfl (qY _ [.slice ta2 m1 tac2, .slice ya2 m2 zlS, .bool bd2] _) (by simp [Value.oneCell']) (by unfold maxLen;omega) (by omega) (by have:=HYX.out.below.size;simp;omega) ?_);intro ja1 jc1 X7 f1 f2 f3 f4 f5 f6;have HYS:=qh (HYX.out.zkK z5U.out rfl (by rw [zex.out];exact f1) f4 f5);have HNS:=qh (jH.z2M zzP.out f4 f5);have hbx:=zbC HSR.out HYX.out.box (by decide) f4;have g0:=ze hbx 0;have g1:=zA hbx 0;have HTS:=qh (HT6.out.since (G:=λk=>k=g\/(Value.slice sa' vP sc').ownBlock=some k) (((((Since.refl _ X6).alloc _).trans f4 (λ_ h=> .inl h)).mono (λ_ _ h=> .inr h)).setCell (p:=⟨g,0,none⟩) (.inl (.inl rfl)) (.slice ja1 (vP+1) jc1)) (λk hk e=>e.elim (HYX.out.kr k (.inr hk)).2.1 (HYX.out.kr k (.inr hk)).2.2.1));clear f1 f2 f3 f4 f5 f6 hbx b0 t0 t1 t2)
  generalize World.setCell X7 _ _=X8 at HYS HNS HTS ⊢
  have hxr:=HYS.out.xr
  rw [HXL.out] at hxr
  have z5X:=qh hxr
  clear hxr g0 g1
  go_wp2_with(at_builtin;go_must(refine zI _ rfl _ _ 31 rfl 3 (.int .i64 0) 1 8 Tryz.underlying31 vg rfl (by decide) W.heap.size (.slice xa k xc) k (zo yM xl) rfl (z5X.out.alloc _) ⟨X8.heap.size,0,none⟩ 1 1 [.int .i64 a] rfl rfl (qY _ [.int .i64 a] _) (by simp [Value.oneCell']) (by unfold maxLen;omega) (by omega) (by have:=HYS.out.below.size;simp;omega) ?_);intro ja2 jc2 X9 f1 f2 f3 f4 f5 f6;have HY9:=qh (HYS.out.zkL (x:=a) (by rw [HXL.out];exact f1) f4 f5);have HN9:=qh (jH.zw2 HNS.out f4 f5);have HT9:=qh (HTS.out.since (((Since.refl _ X8).alloc _).trans f4 (λ_ h=> .inl h)) (λk hk=>(HYS.out.kr k (.inr hk)).2.2.2.2.2));clear f1 f2 f3 f4 f5 f6)
  go_roundg (mn - (k+1))
  case measure=>rw [HG2.out];omega
  case rel=>exact⟨k+1,ja1,ja2,vP+1,jc1,jc2,sl'++ [t],xl++ [a],_,F6,by omega,z5V,rfl,rfl,by simp,by rw [Hid];have:=HIN.out;omega,HY9.out,HT9.out,zzQ.out,by rw [Hid,List.length_append,zex.out];rfl,by rw [Hid,List.length_append,HXL.out];rfl,by rw [Hid,HIX.out,qI.out],z5W.out,HN9.out⟩
 obtain rfl:mn=k:=by omega
 have hin2:xX C M d rm s ms sl [] =some (sl',xl):=by rw [HIX.out,vH.out,List.drop_length];rfl
 have hR:R=zft (qO C M d rm (rm - i) (i+1) sl' (ml++ [ms]) (nl++ [xl])):=by
  have hi2:rm+1 - i=(rm - i)+1:=by omega
  rw [HRI.out,hi2,zcd (by rw [HSL.out];exact hlt), <-HSI.out, <-HMS.out,hin2]
 have HR2:=qh hR
 clear hin2 hR
 go_upto_region 21 with fail
 obtain⟨V,hV⟩:∃V,V=jT:=⟨_,rfl⟩
 rw [<-hV] at wD j3 HNK ⊢
 clear hV
 have hm1:=wD.out.mo.row
 have hm2:=wD.out.ne.row
 rw [bq.out] at hm1
 rw [HNL.out] at hm2
 have hT0:=qh (bV.start hm1 hm2 wD.out.below.size)
 have CC:Hid (∀y,Since (λx=>(Value.slice ma i mc).ownBlock=some x\/(Value.slice na i nc).ownBlock=some x) V y->y.heap[g]? =some (.cells #[.slice sa' vP sc', .slice ma i mc, .slice na i nc] 49 (0,0))):=λy hy=>
  (hy.block _ (zw wD.out.box) (λe=>e.elim (λe=>yD wD.out.mo.row wD.out.box (by decide) _ e rfl) (λe=>yD wD.out.ne.row wD.out.box (by decide) _ e rfl))).trans wD.out.box
 have CC2:Hid (∀y,Since (λx=>(Value.slice ma i mc).ownBlock=some x\/(Value.slice na i nc).ownBlock=some x) V y->y.cell? ⟨g,1,none⟩=some (.slice ma i mc)/\y.cell? ⟨g,2,none⟩=some (.slice na i nc)):=λy hy=>⟨ze (CC.out y hy) 1,ze (CC.out y hy) 2⟩
 have hi5:i<=100000:=by omega
 clear hm1 hm2
 refine wp_region_noPanic ?_
 refine yX (n0:=11) (S:=λy=>Since (λx=>(Value.slice ma i mc).ownBlock=some x\/(Value.slice na i nc).ownBlock=some x) V y) (by kernel_rfl) hT0.out.since (λ_=> ?_)
 obtain⟨V1,hV1⟩:∃V1,V1=V.drew:=⟨_,rfl⟩
 rw [<-hV1] at hT0 ⊢
 clear hV1
 refine zV 0 (λ_=>hT0.out.since) ?_
 refine jr [4,9,10,11,12,13] 1 CC2.out (hT0.out.since) ?_
 refine zV 2 (λ_=>hT0.out.since) ?_
 refine zV 5 (λ_=>hT0.out.since) ?_
 refine jr [9,10,11,12,13] 6 CC2.out (hT0.out.since) ?_
 refine zV 7 (λ_=>hT0.out.since) ?_
 refine zcF (rs:= [3,8]) (by kernel_rfl) (by simp) ?_
 refine zaU.cons rfl (λK hK=> ?_) (zaU.cons rfl (λK hK=> ?_) zaU.nil)
 ·skip
  go_simp
  have hT1:=hT0.out.alloc 32 [.slice va mn vc]
  refine hK.out _ _ (λ_ _=>hT1.since) ?_
  obtain⟨nb1,zcH⟩:∃n,n=V1.heap.size:=⟨_,rfl⟩
  rw [<-zcH] at hT1 ⊢
  clear zcH
  generalize World.alloc V1 _=zlU at hT1 ⊢
  replace hT1:=qh hT1
  clear hK K
  refine zcF (rs:= [4,8]) (by kernel_rfl) (by simp) ?_
  refine zaU.cons rfl (λK hK=> ?_) (zaU.cons rfl (λK hK=> ?_) zaU.nil)
  ·skip
   refine zK zlU (by rfl) (.tmp 89) (.tmp 91) 46 rfl 32 (.slice none 0 0) 1 24 Tryz.underlying46 zbx rfl (by decide) W.heap.size (.slice ma i mc) i wI.flatten (by rfl) hT1.out.r1 ⟨nb1,0,none⟩ 1 1 [.slice va mn vc] (by rfl) rfl (hT1.out.cell (b:=nb1) (t:=32) (cs:= [.slice va mn vc]) (by simp)) (by simp [Value.oneCell']) (by unfold maxLen;omega) (by omega) hT1.out.base ?_
   intro ma' mc' Z44 e1 e2 e3 e4 e5
   have uj:=qh (hT1.out.app1 (by decide) e1 e4 e5)
   clear e1 e2 e3 e4 e5
   refine hK.out _ _ (λ_ _=>uj.out.since) ?_
   clear hK K
   change qz _ _ _ _ _ _ _ _ (Act.put _ (some 92) _) _
   simp only [Act.put,kJ,kK,kL]
   refine zV 10 (λ_=>uj.out.since) ?_
   refine vO 8 rfl (λK hK=> ?_)
   go_simp
   have jg:=uj.out.alloc 31 [.slice xa mn xc]
   refine hK.out _ _ (λ_ _=>jg.since) ?_
   obtain⟨nb2,bW⟩:∃n,n=Z44.heap.size:=⟨_,rfl⟩
   rw [<-bW] at jg ⊢
   clear bW
   generalize World.alloc Z44 _=zzU at jg ⊢
   replace jg:=qh jg
   clear hK K
   refine vO 9 rfl (λK hK=> ?_)
   refine zK zzU (by rfl) (.tmp 94) (.tmp 96) 47 rfl 31 (.slice none 0 0) 1 24 Tryz.underlying47 zcc rfl (by decide) W.heap.size (.slice na i nc) i ncc.flatten (by rfl) jg.out.r2 ⟨nb2,0,none⟩ 1 1 [.slice xa mn xc] (by rfl) rfl (jg.out.cell (b:=nb2) (t:=31) (cs:= [.slice xa mn xc]) (by simp)) (by simp [Value.oneCell']) (by unfold maxLen;omega) (by omega) jg.out.base ?_
   intro na' nc' Z69 e1 e2 e3 e4 e5
   have qd:=qh (jg.out.zjv (by decide) e1 e4 e5)
   clear e1 e2 e3 e4 e5
   refine hK.out _ _ (λ_ _=>qd.out.since) ?_
   clear hK K
   change qz _ _ _ _ _ _ _ _ (Act.put _ (some 97) _) _
   simp only [Act.put,kJ,kK,kL]
   refine vO 11 rfl (λK hK=> ?_)
   have hbx:=CC.out Z69 qd.out.since
   have q1:=ze hbx 1
   have q2:=zA hbx 1
   go_simp
   refine hK.out _ _ (λh=>absurd rfl h) ?_
   have zcI:=zu hbx 1 (.slice ma' (i+1) mc')
   have zaf:=qh zcI
   clear hbx zcI q1 q2
   have hT5:=qd
   clear hK K
   refine zV 12 (λh=>absurd h (by decide+kernel)) ?_
   refine vO 13 rfl (λK hK=> ?_)
   have q1:=ze zaf.out 2
   have q2:=zA zaf.out 2
   go_simp
   refine hK.out _ _ (λ_ h=>absurd h (by decide+kernel)) ?_
   clear q1 q2
   have wY:=hT5
   clear hK K
   refine xE (by kernel_rfl) ?_ _
   refine NoPanic.normal ?_
   have hy:=wD.out.both (x:=ms) (cs:= [.slice va mn vc]) (λy hy=>⟨_,rfl,zbj (by have h:=(HNK.out y hy).1;rw [<-vH.out] at h ⊢;exact h)⟩) rfl wY.out.since (by rw [bq.out];exact wY.out.r1) (by rw [HNL.out];exact wY.out.r2) wY.out.l1 wY.out.l2
   have ht:=j3.out.since (wY.out.since) (λk hk e=>e.elim (wD.out.kr k (.inr hk)).2.2.2.1 (wD.out.kr k (.inr hk)).2.2.2.2.1)
   have ht2:=ht.since (Since.setCell (F:=λk=>k=g) (p:=⟨g,2,none⟩) (Since.setCell (F:=λk=>k=g) (p:=⟨g,1,none⟩) (Since.refl _ Z69) (.inl rfl) (.slice ma' (i+1) mc')) (.inl rfl) (.slice na' (i+1) nc')) (λk hk e=>(wD.out.kr k (.inr hk)).2.1 e)
   have HYF:=qh hy
   have HTF:=qh ht2
   clear hy ht ht2 wD j3 HNK CC CC2 zaf wY
   go_wp2_with fail
   go_roundg (rm+1 - (i+1))
   case measure=>rw [HG.out];omega
   case rel=>exact⟨i+1,sa',ma',na',vP,sc',mc',nc',sl',ml++ [ms],nl++ [xl],zbk,_,_,F',by have:=HIN.out;omega,zhp,rfl,by simp,HYF.out,HTF.out,HFK.out,zex.out,by rw [Hid,List.length_append,bq.out];rfl,by rw [Hid,List.length_append,HNL.out];rfl,by rw [Hid,HR2.out,show rm+1 - (i+1)=rm - i by omega],HFF.out⟩
  skip
  go_simp
  have uj:=hT1.out.alloc 31 [.slice xa mn xc]
  refine hK.out _ _ (λ_ _=>uj.since) ?_
  obtain⟨nb2,bW⟩:∃n,n=zlU.heap.size:=⟨_,rfl⟩
  rw [<-bW] at uj ⊢
  clear bW
  generalize World.alloc zlU _=zyb at uj ⊢
  replace uj:=qh uj
  clear hK K
  refine vO 4 rfl (λK hK=> ?_)
  refine zK zyb (by rfl) (.tmp 89) (.tmp 91) 46 rfl 32 (.slice none 0 0) 1 24 Tryz.underlying46 zbx rfl (by decide) W.heap.size (.slice ma i mc) i wI.flatten (by rfl) uj.out.r1 ⟨nb1,0,none⟩ 1 1 [.slice va mn vc] (by rfl) rfl (uj.out.cell (b:=nb1) (t:=32) (cs:= [.slice va mn vc]) (by simp)) (by simp [Value.oneCell']) (by unfold maxLen;omega) (by omega) uj.out.base ?_
  intro ma' mc' z5Y e1 e2 e3 e4 e5
  have jg:=qh (uj.out.app1 (by decide) e1 e4 e5)
  clear e1 e2 e3 e4 e5
  refine hK.out _ _ (λ_ _=>jg.out.since) ?_
  clear hK K
  change qz _ _ _ _ _ _ _ _ (Act.put _ (some 92) _) _
  simp only [Act.put,kJ,kK,kL]
  refine zV 10 (λ_=>jg.out.since) ?_
  refine vO 9 rfl (λK hK=> ?_)
  refine zK z5Y (by rfl) (.tmp 94) (.tmp 96) 47 rfl 31 (.slice none 0 0) 1 24 Tryz.underlying47 zcc rfl (by decide) W.heap.size (.slice na i nc) i ncc.flatten (by rfl) jg.out.r2 ⟨nb2,0,none⟩ 1 1 [.slice xa mn xc] (by rfl) rfl (jg.out.cell (b:=nb2) (t:=31) (cs:= [.slice xa mn xc]) (by simp)) (by simp [Value.oneCell']) (by unfold maxLen;omega) (by omega) jg.out.base ?_
  intro na' nc' zzV e1 e2 e3 e4 e5
  have qd:=qh (jg.out.zjv (by decide) e1 e4 e5)
  clear e1 e2 e3 e4 e5
  refine hK.out _ _ (λ_ _=>qd.out.since) ?_
  clear hK K
  change qz _ _ _ _ _ _ _ _ (Act.put _ (some 97) _) _
  simp only [Act.put,kJ,kK,kL]
  refine vO 11 rfl (λK hK=> ?_)
  have hbx:=CC.out zzV qd.out.since
  have q1:=ze hbx 1
  have q2:=zA hbx 1
  go_simp
  refine hK.out _ _ (λh=>absurd rfl h) ?_
  have zcI:=zu hbx 1 (.slice ma' (i+1) mc')
  have zaf:=qh zcI
  clear hbx zcI q1 q2
  have hT5:=qd
  clear hK K
  refine zV 12 (λh=>absurd h (by decide+kernel)) ?_
  refine vO 13 rfl (λK hK=> ?_)
  have q1:=ze zaf.out 2
  have q2:=zA zaf.out 2
  go_simp
  refine hK.out _ _ (λ_ h=>absurd h (by decide+kernel)) ?_
  clear q1 q2
  have wY:=hT5
  clear hK K
  refine xE (by kernel_rfl) ?_ _
  refine NoPanic.normal ?_
  have hy:=wD.out.both (x:=ms) (cs:= [.slice va mn vc]) (λy hy=>⟨_,rfl,zbj (by have h:=(HNK.out y hy).1;rw [<-vH.out] at h ⊢;exact h)⟩) rfl wY.out.since (by rw [bq.out];exact wY.out.r1) (by rw [HNL.out];exact wY.out.r2) wY.out.l1 wY.out.l2
  have ht:=j3.out.since (wY.out.since) (λk hk e=>e.elim (wD.out.kr k (.inr hk)).2.2.2.1 (wD.out.kr k (.inr hk)).2.2.2.2.1)
  have ht2:=ht.since (Since.setCell (F:=λk=>k=g) (p:=⟨g,2,none⟩) (Since.setCell (F:=λk=>k=g) (p:=⟨g,1,none⟩) (Since.refl _ zzV) (.inl rfl) (.slice ma' (i+1) mc')) (.inl rfl) (.slice na' (i+1) nc')) (λk hk e=>(wD.out.kr k (.inr hk)).2.1 e)
  have HYF:=qh hy
  have HTF:=qh ht2
  clear hy ht ht2 wD j3 HNK CC CC2 zaf wY
  go_wp2_with fail
  go_roundg (rm+1 - (i+1))
  case measure=>rw [HG.out];omega
  case rel=>exact⟨i+1,sa',ma',na',vP,sc',mc',nc',sl',ml++ [ms],nl++ [xl],zbk,_,_,F',by have:=HIN.out;omega,zhp,rfl,by simp,HYF.out,HTF.out,HFK.out,zex.out,by rw [Hid,List.length_append,bq.out];rfl,by rw [Hid,List.length_append,HNL.out];rfl,by rw [Hid,HR2.out,show rm+1 - (i+1)=rm - i by omega],HFF.out⟩
 skip
 go_simp
 have hT1:=hT0.out.alloc 31 [.slice xa mn xc]
 refine hK.out _ _ (λ_ _=>hT1.since) ?_
 obtain⟨nb2,bW⟩:∃n,n=V1.heap.size:=⟨_,rfl⟩
 rw [<-bW] at hT1 ⊢
 clear bW
 generalize World.alloc V1 _=zox at hT1 ⊢
 replace hT1:=qh hT1
 clear hK K
 refine vO 3 rfl (λK hK=> ?_)
 go_simp
 have uj:=hT1.out.alloc 32 [.slice va mn vc]
 refine hK.out _ _ (λ_ _=>uj.since) ?_
 obtain⟨nb1,zcH⟩:∃n,n=zox.heap.size:=⟨_,rfl⟩
 rw [<-zcH] at uj ⊢
 clear zcH
 generalize World.alloc zox _=zyc at uj ⊢
 replace uj:=qh uj
 clear hK K
 refine vO 4 rfl (λK hK=> ?_)
 refine zK zyc (by rfl) (.tmp 89) (.tmp 91) 46 rfl 32 (.slice none 0 0) 1 24 Tryz.underlying46 zbx rfl (by decide) W.heap.size (.slice ma i mc) i wI.flatten (by rfl) uj.out.r1 ⟨nb1,0,none⟩ 1 1 [.slice va mn vc] (by rfl) rfl (uj.out.cell (b:=nb1) (t:=32) (cs:= [.slice va mn vc]) (by simp)) (by simp [Value.oneCell']) (by unfold maxLen;omega) (by omega) uj.out.base ?_
 intro ma' mc' z5Z e1 e2 e3 e4 e5
 have jg:=qh (uj.out.app1 (by decide) e1 e4 e5)
 clear e1 e2 e3 e4 e5
 refine hK.out _ _ (λ_ _=>jg.out.since) ?_
 clear hK K
 change qz _ _ _ _ _ _ _ _ (Act.put _ (some 92) _) _
 simp only [Act.put,kJ,kK,kL]
 refine zV 10 (λ_=>jg.out.since) ?_
 refine vO 9 rfl (λK hK=> ?_)
 refine zK z5Z (by rfl) (.tmp 94) (.tmp 96) 47 rfl 31 (.slice none 0 0) 1 24 Tryz.underlying47 zcc rfl (by decide) W.heap.size (.slice na i nc) i ncc.flatten (by rfl) jg.out.r2 ⟨nb2,0,none⟩ 1 1 [.slice xa mn xc] (by rfl) rfl (jg.out.cell (b:=nb2) (t:=31) (cs:= [.slice xa mn xc]) (by simp)) (by simp [Value.oneCell']) (by unfold maxLen;omega) (by omega) jg.out.base ?_
 intro na' nc' zzW e1 e2 e3 e4 e5
 have qd:=qh (jg.out.zjv (by decide) e1 e4 e5)
 clear e1 e2 e3 e4 e5
 refine hK.out _ _ (λ_ _=>qd.out.since) ?_
 clear hK K
 change qz _ _ _ _ _ _ _ _ (Act.put _ (some 97) _) _
 simp only [Act.put,kJ,kK,kL]
 refine vO 11 rfl (λK hK=> ?_)
 have hbx:=CC.out zzW qd.out.since
 have q1:=ze hbx 1
 have q2:=zA hbx 1
 go_simp
 refine hK.out _ _ (λh=>absurd rfl h) ?_
 have zcI:=zu hbx 1 (.slice ma' (i+1) mc')
 have zaf:=qh zcI
 clear hbx zcI q1 q2
 have hT5:=qd
 clear hK K
 refine zV 12 (λh=>absurd h (by decide+kernel)) ?_
 refine vO 13 rfl (λK hK=> ?_)
 have q1:=ze zaf.out 2
 have q2:=zA zaf.out 2
 go_simp
 refine hK.out _ _ (λ_ h=>absurd h (by decide+kernel)) ?_
 clear q1 q2
 have wY:=hT5
 clear hK K
 refine xE (by kernel_rfl) ?_ _
 refine NoPanic.normal ?_
 have hy:=wD.out.both (x:=ms) (cs:= [.slice va mn vc]) (λy hy=>⟨_,rfl,zbj (by have h:=(HNK.out y hy).1;rw [<-vH.out] at h ⊢;exact h)⟩) rfl wY.out.since (by rw [bq.out];exact wY.out.r1) (by rw [HNL.out];exact wY.out.r2) wY.out.l1 wY.out.l2
 have ht:=j3.out.since (wY.out.since) (λk hk e=>e.elim (wD.out.kr k (.inr hk)).2.2.2.1 (wD.out.kr k (.inr hk)).2.2.2.2.1)
 have ht2:=ht.since (Since.setCell (F:=λk=>k=g) (p:=⟨g,2,none⟩) (Since.setCell (F:=λk=>k=g) (p:=⟨g,1,none⟩) (Since.refl _ zzW) (.inl rfl) (.slice ma' (i+1) mc')) (.inl rfl) (.slice na' (i+1) nc')) (λk hk e=>(wD.out.kr k (.inr hk)).2.1 e)
 have HYF:=qh hy
 have HTF:=qh ht2
 clear hy ht ht2 wD j3 HNK CC CC2 zaf wY
 go_wp2_with fail
 go_roundg (rm+1 - (i+1))
 case measure=>rw [HG.out];omega
 case rel=>exact⟨i+1,sa',ma',na',vP,sc',mc',nc',sl',ml++ [ms],nl++ [xl],zbk,_,_,F',by have:=HIN.out;omega,zhp,rfl,by simp,HYF.out,HTF.out,HFK.out,zex.out,by rw [Hid,List.length_append,bq.out];rfl,by rw [Hid,List.length_append,HNL.out];rfl,by rw [Hid,HR2.out,show rm+1 - (i+1)=rm - i by omega],HFF.out⟩
