/- Steps. -/
import Derived.Test.YtliajkheeniljaaGreatDoorZtAwake10
set_option linter.all false
namespace Go.Proofs.YtliajkheeniljaaGreatDoor
open Go.RowKit
set_option maxRecDepth 100000
set_option maxHeartbeats 16000000
theorem ziP (w:World) (sv:Value) (l0:List Int) (hn:jJ w .u8 sv l0) (hcap:∀a n c,sv= .slice a n c->n<=c) (q:Int) (q0:0<=q) (q1:q<=255) (which:Int) (r0:0<=which) (r1:which<=65535):
  Calls Tryz.prog 12 #[sv, .int .u8 q, .int .u16 which] w λe w'=>e= .returned (.bool true)/\Below w.heap.size w w':=by
 have HSM:Hid (∀y,Below w.heap.size w y->Calls Tryz.prog 27 #[sv] y (zgL y)):=λy hy=>zmD y sv l0 (hn.below hy) hcap
 obtain⟨sa,sc,rfl, -⟩:∃a c,sv= .slice a l0.length c/\True:=by obtain⟨a,c,h, -⟩:=hn;exact⟨a,c,h,trivial⟩
 generalize l0.length=ln at HSM ⊢
 clear hn hcap
 have zhz:=λy=>zmE y q q0 q1
 have hmay:=λc (h:codeOk c=true)=>zqu h q
 unfold xq at zhz
 obtain⟨M,hM⟩:∃M,M=zh0 q:=⟨_,rfl⟩
 rw [<-hM] at zhz hmay
 clear hM
 obtain⟨mo,bo⟩:=M
 dsimp only at zhz
 have z2t:=qh zhz
 have pQ:=qh hmay
 clear zhz hmay q0 q1
 go_enter Tryz.func12,Tryz.ntmps12
 go_upto_region 4 with(go_at_call 33;go_must(refine(zmF _).mono ?_);rintro e W0 ⟨rfl,hb⟩;(have HB0:=qh hb);clear hb)
 have zyo:=qh (HSM.out W0 HB0.out)
 go_upto_region 5 with(first|(go_at_call 27;go_must(refine(zyo.out).mono ?_);rintro en W1 ⟨⟨c,tv,rfl,hc,hok,hct⟩,hb⟩;(have HB1:=qh hb);(have HC1:=qh hc);(have vY:=qh hok);(obtain⟨ca,cc,rfl, -⟩:=zh.slice hc);clear hb hc hok hct;unfold yB)|(go_at_call 22;go_must(refine(z2t.out _).mono ?_);rintro en W2 ⟨rfl,hb⟩;(have HB2:=qh hb);clear hb))
 have zdV:=λy hy=>zcj y c (.slice ca c.threads.length cc) 3 hy ⟨mo,bo⟩ 400
 have hst:=λy hy=>zxy y c (.slice ca c.threads.length cc) hy
 have hdo:=λy hy s hb sv mv hs x=>z5a y c (.slice ca c.threads.length cc) hy ⟨mo,bo⟩ s hb sv mv hs x
 have hmv:=λy hy s hb sv mv hs=>zxz y c (.slice ca c.threads.length cc) hy ⟨mo,bo⟩ s hb sv mv hs
 have hrep:=λy hy lv l hl=>zkH y c (.slice ca c.threads.length cc) 3 hy ⟨mo,bo⟩ lv l hl
 have hcl:=zd5 (c:=c) (m:=⟨mo,bo⟩) (d:=3) (R:=400) (pQ.out c vY.out) (by omega) (by omega)
 have hsf:∀S,qx c ⟨mo,bo⟩ 400 3=(S,0)->zkI S S.states.length (xI c) (λs=>xu c ⟨mo,bo⟩ s 3) (λs x=>(xR c ⟨mo,bo⟩ s x 3).1) (λl=>jO c ⟨mo,bo⟩ l 3) (zcK c ⟨mo,bo⟩ 3):=λS h=>zx0 (pQ.out c vY.out) h
 obtain⟨SX,hSX⟩:∃SX,SX=qx c ⟨mo,bo⟩ 400 3:=⟨_,rfl⟩
 rw [<-hSX] at zdV hcl hsf
 clear hSX
 obtain⟨S,er⟩:=SX
 dsimp only at hcl
 have zkJ:(er=0/\zkI S S.states.length (xI c) (λs=>xu c ⟨mo,bo⟩ s 3) (λs x=>(xR c ⟨mo,bo⟩ s x 3).1) (λl=>jO c ⟨mo,bo⟩ l 3) (zcK c ⟨mo,bo⟩ 3))\/er=40:=by
  rcases hcl with⟨h0,h⟩|h
  ·exact .inl ⟨h0,hsf S (by rw [h0])⟩
  exact .inr h
 clear hcl hsf
 obtain⟨MV,hMV⟩:∃MV:zi->List zu,MV=λs=>xu c ⟨mo,bo⟩ s 3:=⟨_,rfl⟩
 obtain⟨DO,hDO⟩:∃DO:zi->zu->zi,DO=λs x=>(xR c ⟨mo,bo⟩ s x 3).1:=⟨_,rfl⟩
 obtain⟨RPL,ztm⟩:∃RPL:List zu->zi × Int,RPL=λl=>jO c ⟨mo,bo⟩ l 3:=⟨_,rfl⟩
 have zyr:∀s,xu c ⟨mo,bo⟩ s 3=MV s:=λs=>by rw [hMV]
 have zys:∀s x,(xR c ⟨mo,bo⟩ s x 3).1=DO s x:=λs x=>by rw [hDO]
 have zvY:∀l,jO c ⟨mo,bo⟩ l 3=RPL l:=λl=>by rw [ztm]
 rw [<-hMV, <-hDO, <-ztm] at zkJ
 simp only [zyr] at hmv
 simp only [zys] at hdo
 simp only [zvY] at hrep
 obtain⟨S0,hS0⟩:∃s,s=xI c:=⟨_,rfl⟩
 rw [<-hS0] at hst zkJ
 obtain⟨NR,hNR⟩:∃NR,NR=zcK c ⟨mo,bo⟩ 3:=⟨_,rfl⟩
 rw [<-hNR] at zkJ
 clear hS0 hMV zyr hDO zys ztm zvY hNR
 unfold yB xq yC zcL at hdo
 unfold yB xq yC at hmv
 unfold yB at hst
 unfold yB xq at zdV hrep
 dsimp only at zdV hst hdo hmv hrep
 generalize c.vars=vars at zdV hst hdo hmv hrep ⊢
 generalize c.domain=dom at zdV hst hdo hmv hrep ⊢
 generalize c.threads=cs at HC1 zdV hst hdo hmv hrep ⊢
 generalize cs.length=cn at HC1 zdV hst hdo hmv hrep ⊢
 clear vY
 clear pQ
 clear c
 obtain⟨n1,hn1⟩:∃n,n=S.states.length:=⟨_,rfl⟩
 obtain⟨n2,hn2⟩:∃n,n=S.moves.length:=⟨_,rfl⟩
 obtain⟨n3,hn3⟩:∃n,n=S.next.length:=⟨_,rfl⟩
 have HX1:Hid (∀y,yE 3 y (.slice ca cn cc) cs->Calls Tryz.prog 28 #[.agg #[.int .i64 vars, .int .i64 dom, .slice ca cn cc], .agg #[.int .i64 mo, .int .i64 bo], .int .i64 400] y (zyt S er n1 n2 n3 y)):=λy hy=>(zdV y hy).mono λ_ _ h=>zx1 rfl hn1 hn2 hn3 h
 have HST:=qh hst
 have HDO:=qh hdo
 have HMV:=qh hmv
 have zyu:=qh hrep
 have HCL:=qh zkJ
 have HN1:=qh hn1
 have HN2:=qh hn2
 have HN3:=qh hn3
 clear zdV hst hdo hmv hrep zkJ hn1 hn2 hn3
 have ha:=xA W2 (.cells #[.int .i64 vars, .int .i64 dom, .slice ca cn cc] 24) (.cells #[.int .i64 mo, .int .i64 bo] 26)
 have hw1:=HB2.out.trans (ha.mono HB2.out.size)
 have hw0:=HB1.out.trans (hw1.mono HB1.out.size)
 have HBV:=qh (HB0.out.trans (hw0.mono HB0.out.size))
 have HCV:=qh (zh.below (qm.stays 3) HC1.out hw1)
 have k1:((W2.alloc (.cells #[.int .i64 vars, .int .i64 dom, .slice ca cn cc] 24)).alloc (.cells #[.int .i64 mo, .int .i64 bo] 26)).heap[W2.heap.size]? =some (.cells #[.int .i64 vars, .int .i64 dom, .slice ca cn cc] 24 (0,0)):=(Below.heap_alloc _ _ _ (by simp)).trans (yh W2 _)
 have k2:((W2.alloc (.cells #[.int .i64 vars, .int .i64 dom, .slice ca cn cc] 24)).alloc (.cells #[.int .i64 mo, .int .i64 bo] 26)).heap[W2.heap.size+1]? =some (.cells #[.int .i64 mo, .int .i64 bo] 26 (0,0)):=by
  have:=yh (W2.alloc (.cells #[.int .i64 vars, .int .i64 dom, .slice ca cn cc] 24)) (.cells #[.int .i64 mo, .int .i64 bo] 26)
  rwa [World.size_alloc] at this
 have K1:=qh k1
 have K2:=qh k2
 clear ha hw1 hw0 k1 k2 HB0 HB1 HB2 HC1 HSM zyo
 generalize World.alloc (World.alloc W2 _) _=V at HBV HCV K1 K2 ⊢
 generalize W2.heap.size=gc at K1 K2 ⊢
 have CX:Hid (∀y,Below V.heap.size V y->(y.cell? ⟨gc,0,none⟩=some (.int .i64 vars)/\y.cell? ⟨gc,1,none⟩=some (.int .i64 dom)/\y.cell? ⟨gc,2,none⟩=some (.slice ca cn cc))/\y.cell? ⟨gc+1,0,none⟩=some (.int .i64 mo)/\y.cell? ⟨gc+1,1,none⟩=some (.int .i64 bo)):=λy hy=>
  ⟨⟨zk hy _ _ (ze K1.out 0),zk hy _ _ (ze K1.out 1),zk hy _ _ (ze K1.out 2)⟩,zk hy _ _ (ze K2.out 0),zk hy _ _ (ze K2.out 1)⟩
 have CR:Hid (∀y,Below V.heap.size V y->yE 3 y (.slice ca cn cc) cs):=λy hy=>zh.below (qm.stays 3) HCV.out hy
 clear K1 K2 HCV
 obtain⟨⟨z0,z1,z2⟩,x0,x1⟩:=CX.out V (Below.refl _ _)
 go_upto_region 6 with(go_at_call 28;go_must(refine(HX1.out V (CR.out V (Below.refl _ _))).mono ?_);rintro e W5 ⟨⟨a1,a2,a3,c1,c2,c3,rfl,hs⟩,hb⟩;(have HSP:=qh hs);(have yA:=qh hb);clear hs hb)
 have hz:=yh W5 (.cells #[.slice a1 n1 c1, .slice a2 n2 c2, .slice a3 n3 c3] 71)
 have ha:=(Below.refl W5.heap.size W5).alloc (Nat.le_refl _) (.cells #[.slice a1 n1 c1, .slice a2 n2 c2, .slice a3 n3 c3] 71)
 have HS:=qh (HSP.out.below ha)
 have HVX:=qh (yA.out.trans (ha.mono yA.out.size))
 have HZ:=qh hz
 clear hz ha yA HSP z0 z1 z2 x0 x1 HX1
 generalize World.alloc W5 _=X5 at HZ HS HVX ⊢
 generalize W5.heap.size=g5 at HZ ⊢
 rcases HCL.out with⟨h0,hf⟩|h40
 rotate_left
 ·subst h40
  go_wp2_with fail
  go_ret
  exact⟨rfl,HBV.out.trans (HVX.out.mono HBV.out.size)⟩
 subst h0
 rw [<-HN1.out] at hf
 obtain rfl:n2=n1:=by rw [HN2.out];exact hf.mvs
 obtain rfl:n3=n2:=by rw [HN3.out];exact hf.nxt
 obtain⟨n,rfl⟩:∃n,n=n3:=⟨_,rfl⟩
 have hpn:0<n:=hf.pos
 have z9I:n<=400:=hf.few
 have HF:=qh hf
 obtain⟨sb,so,rfl,hps⟩:=zyw HS.out.1 (by rw [hf.sts];exact hpn)
 rw [hf.sts] at hps
 have HPS:=qh hps
 clear hf hps HCL HN2 HN3
 have zAa:(1:Int)<=(n:Int):=by omega
 have hd0:((n:Int)==0)=false:=beq_eq_false_iff_ne.2 (by omega)
 have hd1:decide ((n:Int)=0)=false:=decide_eq_false (by omega)
 have hd2:(n==0)=false:=beq_eq_false_iff_ne.2 (by omega)
 have hd3:decide (n=0)=false:=decide_eq_false (by omega)
 have CP:Hid (∀y,Below X5.heap.size X5 y->y.cell? ⟨g5,0,none⟩=some (.slice (some ⟨sb,so,none⟩) n c1)/\y.cell? ⟨g5,1,none⟩=some (.slice a2 n c2)/\y.cell? ⟨g5,2,none⟩=some (.slice a3 n c3)):=λy hy=>⟨zk hy _ _ (ze HZ.out 0),zk hy _ _ (ze HZ.out 1),zk hy _ _ (ze HZ.out 2)⟩
 clear HZ
 have CX5:Hid (∀y,Below X5.heap.size X5 y->(y.cell? ⟨gc,0,none⟩=some (.int .i64 vars)/\y.cell? ⟨gc,1,none⟩=some (.int .i64 dom)/\y.cell? ⟨gc,2,none⟩=some (.slice ca cn cc))/\y.cell? ⟨gc+1,0,none⟩=some (.int .i64 mo)/\y.cell? ⟨gc+1,1,none⟩=some (.int .i64 bo)):=λy hy=>CX.out y (zF HVX.out hy)
 have CR5:Hid (∀y,Below X5.heap.size X5 y->yE 3 y (.slice ca cn cc) cs):=λy hy=>CR.out y (zF HVX.out hy)
 have yS:=qh (HBV.out.trans (HVX.out.mono HBV.out.size))
 clear CX CR HBV HVX
 obtain⟨p0,p1,p2⟩:=CP.out X5 (Below.refl _ _)
 go_upto_region 8 with fail
 go_cut [12] (λs12 w'=>(∃v:Int,s12= .int .i64 v/\0<=v/\v<n)/\w'=X5)
 case first=>
  have hnz:(n:Int)≠0:=by omega
  go_wp2_with fail
  go_meet
  case rel=>
  refine⟨⟨_,rfl, ?_, ?_⟩,rfl⟩
  ·first|exact Int.emod_nonneg _ (by omega)|exact Int.tmod_nonneg _ (by omega)
  first|exact Int.emod_lt_of_pos _ (by omega)|exact Int.tmod_lt_of_pos _ (by omega)
 case rest=>
 obtain⟨⟨v,rfl,hv0,gF⟩,hwv⟩:=hcut
 obtain rfl:X5=wc:=hwv.symm
 clear r0 r1
 obtain⟨kk,rfl⟩:∃i:Nat,v=i:=⟨v.toNat,by omega⟩
 have hkn:kk<n:=by omega
 have htr:=λy hy=>zh1 y S (.slice (some ⟨sb,so,none⟩) n c1) (.slice a2 n c2) (.slice a3 n c3) hy (by rw [HF.out.mvs,HF.out.sts]) (by rw [HF.out.nxt,HF.out.sts]) kk (by rw [HF.out.sts];exact hkn) (by rw [HF.out.sts];omega)
 unfold zaD at htr
 obtain⟨tl,htl⟩:∃l,l=(xS S kk (kk:Int)).reverse:=⟨_,rfl⟩
 obtain⟨T,hT⟩:∃T,T=S.states.getD kk default:=⟨_,rfl⟩
 obtain⟨xn,hxn⟩:∃x,x=tl.length:=⟨_,rfl⟩
 have hshort:∀p s,p<xn->NR p s->s≠T:=λp s hp hs=>by
  rw [hT]
  exact HF.out.short kk hkn p s (by rw [hxn,htl,List.length_reverse] at hp;exact hp) hs
 have zyx:RPL tl=(T,0):=by rw [htl,hT];exact HF.out.rep kk hkn
 have hpk:=HPS.out kk hkn
 rw [<-hT] at hpk
 rw [<-htl] at htr
 obtain⟨bT,hbT⟩:∃b,b=T.bad:=⟨_,rfl⟩
 rw [<-hbT] at hpk
 obtain⟨ua,ub,un,uc,uk,uf,hu⟩:=hpk
 have HTR:Hid (Calls Tryz.prog 39 #[.agg #[.slice (some ⟨sb,so,none⟩) n c1, .slice a2 n c2, .slice a3 n c3], .int .i64 (kk:Int)] X5 (zwc tl xn X5)):=(htr X5 HS.out).mono λ_ _ h=>ztn hxn h
 have HRP:Hid (∀y lv,yE 3 y (.slice ca cn cc) cs->qO y lv tl->Calls Tryz.prog 35 #[.agg #[.int .i64 vars, .int .i64 dom, .slice ca cn cc], .agg #[.int .i64 mo, .int .i64 bo],lv] y (zyy T bT 0 y)):=λy lv hy hl=>(zyu.out y hy lv tl hl).mono λ_ _ h=>zx2 zyx hbT h
 have HU:=qh hu
 have zyz:=qh hshort
 have HBT:=qh hbT
 have HXN:=qh hxn
 clear htr htl hT hshort zyx hu hbT hxn zyu HS HPS
 go_upto_region 10 with(go_at_call 39;go_must(refine(HTR.out).mono ?_);rintro e W9 ⟨⟨xa,xc,rfl,hx⟩,hb⟩;(have HMX:=qh hx);(have jB:=qh hb);clear hx hb)
 clear p0 p1 p2 HTR
 obtain⟨_,_, -,z5b⟩:=zh.slice HMX.out
 rw [<-HXN.out] at z5b
 clear HXN
 obtain⟨⟨z0,z1,z2⟩,x0,x1⟩:=CX5.out W9 jB.out
 go_upto_region 11 with(go_at_call 35;go_must(refine(HRP.out W9 _ (CR5.out _ jB.out) HMX.out).mono ?_);rintro e W10 ⟨⟨ta,tb,tn,tc,tk,tf,rfl,hs⟩,hb⟩;(have HSP:=qh hs);(have yA:=qh (zF jB.out hb));clear hs hb)
 have hz:=yh W10 (.cells #[.slice ta tn tc, .slice tb tk tf, .bool bT] 30)
 have ha:=(Below.refl W10.heap.size W10).alloc (Nat.le_refl _) (.cells #[.slice ta tn tc, .slice tb tk tf, .bool bT] 30)
 have HTS:=qh (HSP.out.below ha)
 have zdW:=qh (zF yA.out ha)
 have HZ:=qh hz
 clear hz ha yA HSP HRP HMX jB z0 z1 z2 x0 x1
 generalize World.alloc W10 _=X10 at HZ HTS zdW ⊢
 generalize W10.heap.size=gt at HZ ⊢
 have CT:Hid (∀y,Below X10.heap.size X10 y->((y.cell? ⟨gc,0,none⟩=some (.int .i64 vars)/\y.cell? ⟨gc,1,none⟩=some (.int .i64 dom)/\y.cell? ⟨gc,2,none⟩=some (.slice ca cn cc))/\y.cell? ⟨gc+1,0,none⟩=some (.int .i64 mo)/\y.cell? ⟨gc+1,1,none⟩=some (.int .i64 bo))/\y.cell? ⟨gt,0,none⟩=some (.slice ta tn tc)/\y.cell? ⟨gt,1,none⟩=some (.slice tb tk tf)/\y.cell? ⟨gt,2,none⟩=some (.bool bT)):=λy hy=>⟨CX5.out y (zF zdW.out hy),zk hy _ _ (ze HZ.out 0),zk hy _ _ (ze HZ.out 1),zk hy _ _ (ze HZ.out 2)⟩
 have CRT:Hid (∀y,Below X10.heap.size X10 y->yE 3 y (.slice ca cn cc) cs):=λy hy=>CR5.out y (zF zdW.out hy)
 have CC:Hid (∀y,Below X10.heap.size X10 y->(((y.cell? ⟨gc,0,none⟩=some (.int .i64 vars)/\y.cell? ⟨gc,1,none⟩=some (.int .i64 dom)/\y.cell? ⟨gc,2,none⟩=some (.slice ca cn cc))/\y.cell? ⟨gc+1,0,none⟩=some (.int .i64 mo)/\y.cell? ⟨gc+1,1,none⟩=some (.int .i64 bo))/\y.cell? ⟨gt,0,none⟩=some (.slice ta tn tc)/\y.cell? ⟨gt,1,none⟩=some (.slice tb tk tf)/\y.cell? ⟨gt,2,none⟩=some (.bool bT))/\(y.cell? ⟨g5,0,none⟩=some (.slice (some ⟨sb,so,none⟩) n c1)/\y.cell? ⟨g5,1,none⟩=some (.slice a2 n c2)/\y.cell? ⟨g5,2,none⟩=some (.slice a3 n c3))/\y.cell? ⟨sb,so+kk*3,none⟩=some (.slice ua un uc)/\y.cell? ⟨sb,so+kk*3+1,none⟩=some (.slice ub uk uf)/\y.cell? ⟨sb,so+kk*3+2,none⟩=some (.bool bT)):=λy hy=>⟨CT.out y hy,CP.out y (zF zdW.out hy),(HU.out y (zF zdW.out hy)).1,(HU.out y (zF zdW.out hy)).2.1,(HU.out y (zF zdW.out hy)).2.2.1⟩
 clear HZ
 go_cut [79] (λs79 w'=>s79= .bool false/\Hid (Below X10.heap.size X10 w'))
 case first=>
  refine vg (S:=λx=>Below X10.heap.size X10 x) ((Below.refl _ _).drew) (λhH=> ?_)
  refine zq 0 CC.out ?_
  refine zq 1 CC.out ?_
  refine zq 2 CC.out ?_
  refine zq 3 CC.out ?_
  refine zq 4 CC.out ?_
  refine zq 5 CC.out ?_
  refine zq 6 CC.out ?_
  refine zq 7 CC.out ?_
  refine zq 8 CC.out ?_
  refine yu 9 rfl (λK hK=> ?_)
  go_simp
  refine(zfg X10.drew T T bT bT HBT.out HBT.out _ _ _ _ _ _ _ _ _ _ _ _ (HTS.out.below hH) (HU.out _ (zF zdW.out hH)).2.2.2).mono ?_
  rintro e hw9 ⟨rfl,hb⟩
  simp only [decide_true]
  have ziO:Below X10.heap.size X10 hw9:=zF hH hb
  refine hK.out _ _ ziO (λ_=> ?_)
  clear hK K hb hH
  refine zq 10 CC.out ?_
  refine zq 11 CC.out ?_
  refine xL ?_
  go_wp2_with fail
  go_meet
  case rel=>exact⟨rfl,ziO⟩
 case rest=>
 obtain⟨rfl,zoy⟩:=hcut
 obtain⟨X11,rfl⟩:∃X:World,X=wc:=⟨_,rfl⟩
 clear CC CP HU
 obtain⟨⟨⟨z0,z1,z2⟩,x0,x1⟩,t0,t1,t2⟩:=CT.out X11 zoy.out
 go_upto_region 13 with fail
 obtain⟨b0,hb0⟩:∃b,b=S0.bad:=⟨_,rfl⟩
 have hst:=HST.out X11 (CRT.out _ zoy.out)
 rw [<-hb0] at hst
 have zy1:=qh hst
 have HB0:=qh hb0
 clear hst hb0 HST
 go_upto_region 14 with(go_at_call 19;go_must(refine(zy1.out).mono ?_);rintro e W13 ⟨⟨va,vb,vn,vc,vk,vf,rfl,hs⟩,hb⟩;(have HSP:=qh hs);(have zy2:=qh hb);clear hs hb)
 have hl:=zoz HSP.out
 rw [<-HB0.out] at hl
 have zo0:=qh hl
 have zto:=qh (zF (zF zoy.out zy2.out) ((Below.refl W13.heap.size W13).alloc (Nat.le_refl _) (.cells #[.slice va vn vc, .slice vb vk vf, .bool b0] 30)))
 clear hl HSP zy2 zy1 z0 z1 z2 x0 x1 t0 t1 t2 HB0 zoy
 generalize World.alloc W13 _=X13 at zo0 zto ⊢
 generalize W13.heap.size=g13 at zo0 ⊢
 have HN0:Hid (∀s∈ [S0],NR 0 s):=λs hs=>by
  obtain rfl:s=S0:=by simpa using hs
  exact HF.out.zero
 go_wp2_with fail
 go_loopg [16,17] xn (λgg s16 s17 wr=>∃(i nn nc:Nat) (na:Option Addr) (nl:List zi),i<=xn/\Hid (gg=xn - i)/\s16= .slice na nn nc/\s17= .int .i64 i/\Hid (Below X10.heap.size X10 wr)/\Hid (jP wr (.slice na nn nc) nl)/\Hid (nl.length=nn)/\Hid (nl.Nodup)/\Hid (∀s∈nl,NR i s))
 case atStart=>exact⟨0,1,1,_, [S0],Nat.zero_le _,rfl,rfl,rfl,zto.out,zo0.out,rfl,by rw [Hid];simp,HN0.out⟩
 case round=>
 obtain⟨i,nn,nc,na,nl,hi,HG,rfl,rfl,HWO,HNS,HNL,HND,HNN⟩:=hrel
 obtain⟨wo,rfl⟩:∃X:World,X=wr:=⟨_,rfl⟩
 clear zo0 zto HN0
 by_cases hlt:i<xn
 rotate_left
 ·obtain rfl:i=xn:=by omega
  go_wp2_with fail
  go_ret
  exact⟨rfl,yS.out.trans ((zF zdW.out HWO.out).mono yS.out.size)⟩
 have qL:(i:Int)<(xn:Int):=by omega
 have zAb:nn<=n:=by rw [<-HNL.out];exact HF.out.len i nl HND.out HNN.out
 go_wp2_with fail
 go_loopg [18,19] nn (λgg s18 s19 wr=>∃(j pn pc:Nat) (pa:Option Addr) (pl:List zi) (pcs:List (List Value)),j<=nn/\Hid (gg=nn - j)/\s18= .slice pa pn pc/\s19= .int .i64 j/\Hid (bV wo wr (.slice pa pn pc) pl pcs)/\Hid (pl.length=pn)/\Hid (pl.Nodup)/\Hid (∀s∈pl,NR (i+1) s))
 case atStart=>exact⟨0,0,0,none, [], [],Nat.zero_le _,rfl,rfl,rfl,bV.start (Below.refl _ _),rfl,by rw [Hid];exact List.nodup_nil,λs hs=>by cases hs⟩
 case round=>
 obtain⟨j,pn,pc,pa,pl,pcs,hj,HG2,rfl,rfl,HSK,vO,HPD,HPN⟩:=hrel
 obtain⟨w2,rfl⟩:∃X:World,X=wr:=⟨_,rfl⟩
 by_cases hjl:j<nn
 rotate_left
 ·obtain rfl:j=nn:=by omega
  go_wp2_with fail
  go_roundg (xn - (i+1))
  case measure=>rw [HG.out];omega
  case rel=>exact⟨i+1,pn,pc,pa,pl,by omega,rfl,rfl,by simp,zF HWO.out HSK.out.below,HSK.out.st.slice,vO.out,HPD.out,HPN.out⟩
 have hjI:(j:Int)<(nn:Int):=by omega
 obtain⟨eb,eo,yv,mv,yj, -,y0,y1,y2,hst⟩:=jP.part HNS.out j (by rw [HNL.out];exact hjl)
 subst yj
 obtain⟨s,hs⟩:∃s,s=nl.getD j default:=⟨_,rfl⟩
 rw [<-hs] at y2 hst
 have hns:NR i s:=by rw [hs];exact HNN.out _ (zdq (by rw [HNL.out];exact hjl))
 clear hs
 have hbs:=HF.out.z5c i s hns
 have hne:s≠T:=zyz.out i s hlt hns
 obtain⟨bs,hbb⟩:∃b,b=s.bad:=⟨_,rfl⟩
 rw [<-hbb] at y2
 obtain⟨qa,qc,rfl, -⟩:=zh.slice hst.threads
 obtain⟨ra,rc,rfl, -⟩:=zh.slice hst.mem
 obtain⟨qn,hqn⟩:∃x,x=s.threads.length:=⟨_,rfl⟩
 obtain⟨rn,hrn⟩:∃x,x=s.mem.length:=⟨_,rfl⟩
 rw [<-hqn, <-hrn] at hst
 rw [<-hqn] at y0
 rw [<-hrn] at y1
 clear hqn hrn
 obtain⟨ms,hms⟩:∃x,x=MV s:=⟨_,rfl⟩
 obtain⟨mn,hmn⟩:∃x,x=ms.length:=⟨_,rfl⟩
 have ztp:=λy hy sv mv h=>HMV.out y hy s hbs sv mv h
 rw [<-hbb, <-hms, <-hmn] at ztp
 have hstep:∀x∈ms,NR (i+1) (DO s x):=λx hx=>HF.out.step i s x hns (by rw [<-hms];exact hx)
 have ztq:=λy hy sv mv h x=>HDO.out y hy s hbs sv mv h x
 simp only [<-hbb] at ztq
 have CJ:Hid (∀y,Below wo.heap.size wo y->(((y.cell? ⟨gc,0,none⟩=some (.int .i64 vars)/\y.cell? ⟨gc,1,none⟩=some (.int .i64 dom)/\y.cell? ⟨gc,2,none⟩=some (.slice ca cn cc))/\y.cell? ⟨gc+1,0,none⟩=some (.int .i64 mo)/\y.cell? ⟨gc+1,1,none⟩=some (.int .i64 bo))/\y.cell? ⟨gt,0,none⟩=some (.slice ta tn tc)/\y.cell? ⟨gt,1,none⟩=some (.slice tb tk tf)/\y.cell? ⟨gt,2,none⟩=some (.bool bT))/\y.cell? ⟨eb,eo+j*3,none⟩=some (.slice qa qn qc)/\y.cell? ⟨eb,eo+j*3+1,none⟩=some (.slice ra rn rc)/\y.cell? ⟨eb,eo+j*3+2,none⟩=some (.bool bs)):=λy hy=>⟨CT.out y (zF HWO.out hy),zk hy _ _ y0,zk hy _ _ y1,zk hy _ _ y2⟩
 have HSJ:Hid (∀y,Below wo.heap.size wo y->zY y s (.slice qa qn qc) (.slice ra rn rc)):=λy hy=>hst.below hy
 have HTJ:Hid (∀y,Below wo.heap.size wo y->zY y T (.slice ta tn tc) (.slice tb tk tf)):=λy hy=>HTS.out.below (zF HWO.out hy)
 have CRJ:Hid (∀y,Below wo.heap.size wo y->yE 3 y (.slice ca cn cc) cs):=λy hy=>CRT.out y (zF HWO.out hy)
 have zy6:=qh ztp
 have wK:=qh hstep
 have z5d:=qh ztq
 have vC:=qh hmn
 have wD:=qh hne
 have HBB:=qh hbb
 clear ztp hstep ztq hmn hms hne hbb hbs hns hst y0 y1 y2
 have HW2:=qh HSK.out.below
 go_upto_region 21 with fail
 go_cut [100] (λz5e w'=>z5e= .bool false/\Hid (Below w2.heap.size w2 w'))
 case first=>
  have CV:=qh (λy hy=>CJ.out y (zF HW2.out hy))
  refine vg (S:=λx=>Below w2.heap.size w2 x) ((Below.refl _ _).drew) (λhI=> ?_)
  refine zq 0 CV.out ?_
  refine zq 1 CV.out ?_
  refine zq 2 CV.out ?_
  refine zq 3 CV.out ?_
  refine zq 4 CV.out ?_
  refine yu 5 rfl (λK hK=> ?_)
  go_simp
  refine(zfg w2.drew s T bs bT HBB.out HBT.out _ _ _ _ _ _ _ _ _ _ _ _ (HSJ.out _ (zF HW2.out hI)) (HTJ.out _ (zF HW2.out hI))).mono ?_
  rintro e iw5 ⟨rfl,hb⟩
  rw [decide_eq_false wD.out]
  have zy7:Below w2.heap.size w2 iw5:=zF hI hb
  refine hK.out _ _ zy7 (λ_=> ?_)
  clear hK K hb hI
  refine xL ?_
  go_wp2_with fail
  go_meet
  case rel=>exact⟨rfl,zy7⟩
 case rest=>
 obtain⟨rfl,zo1⟩:=hcut
 obtain⟨w3,rfl⟩:∃X:World,X=wc:=⟨_,rfl⟩
 have HW3:=qh (zF HW2.out zo1.out)
 go_upto_region 23 with fail
 go_cut [20] (λs20 w'=>∃(ka:Option Addr) (kc:Nat),s20= .slice ka mn kc/\Hid (zX (λk=>k<w3.heap.size) w' (λy=>qO y (.slice ka mn kc) ms))/\Hid (Below w3.heap.size w3 w'))
 case first=>
  have CV:=qh (λy hy=>CJ.out y (zF HW3.out hy))
  refine vg (S:=λx=>Below w3.heap.size w3 x) ((Below.refl _ _).drew) (λhL=> ?_)
  refine zq 0 CV.out ?_
  refine zq 1 CV.out ?_
  refine zq 2 CV.out ?_
  refine zq 3 CV.out ?_
  refine zq 4 CV.out ?_
  refine zq 5 CV.out ?_
  refine yu 6 rfl (λK hK=> ?_)
  go_simp
  refine(zy6.out w3.drew (CRJ.out _ (zF HW3.out hL)) _ _ (HSJ.out _ (zF HW3.out hL))).mono ?_
  rintro e kw6 ⟨⟨ka,kc,rfl,hv⟩,hb⟩
  have z5f:=qh (zju hv (B:=w3.heap.size) (hL).size)
  clear hv
  have zy8:Below w3.heap.size w3 kw6:=zF hL hb
  refine hK.out _ _ zy8 (λ_=> ?_)
  clear hK K hb hL
  refine zq 7 CV.out ?_
  refine xL ?_
  go_wp2_with fail
  go_meet
  case rel=>exact⟨ka,kc,rfl,z5f.out,zy8⟩
 case rest=>
 obtain⟨ka,kc,rfl,HMS,zy9⟩:=hcut
 obtain⟨w4,rfl⟩:∃X:World,X=wc:=⟨_,rfl⟩
 obtain⟨_,_, -,hm63⟩:=zh.slice HMS.out.now
 rw [<-vC.out] at hm63
 have zyA:=qh ((HSK.out.call zo1.out).call zy9.out)
 have zyB:Hid (zX (λk=>(Value.slice pa pn pc).ownBlock=some k) w4 (λy=>qO y (.slice ka mn kc) ms)):=HMS.out.mono (λk hk=>Nat.lt_of_lt_of_le (HSK.out.lt k hk) zo1.out.size)
 clear zo1 zy9 HW2 HW3 HSK zy6 HMS wD
 go_wp2_with fail
 go_loopg [18,21] mn (λgg s18 s21 wr=>∃(r pn pc:Nat) (pa:Option Addr) (pl:List zi) (pcs:List (List Value)),r<=mn/\Hid (gg=mn - r)/\s18= .slice pa pn pc/\s21= .int .i64 r/\Hid (bV wo wr (.slice pa pn pc) pl pcs)/\Hid (zX (λk=>(Value.slice pa pn pc).ownBlock=some k) wr (λy=>qO y (.slice ka mn kc) ms))/\Hid (pl.length=pn)/\Hid (pl.Nodup)/\Hid (∀s∈pl,NR (i+1) s))
 case atStart=>exact⟨0,pn,pc,pa,pl,pcs,Nat.zero_le _,rfl,rfl,rfl,zyA.out,zyB.out,vO.out,HPD.out,HPN.out⟩
 case round=>
 clear zyA zyB vO HPD HPN
 obtain⟨r,pn,pc,pa,pl,pcs,hr,vS,rfl,rfl,HSK,HMA,vO,HPD,HPN⟩:=hrel
 obtain⟨w5,rfl⟩:∃X:World,X=wr:=⟨_,rfl⟩
 by_cases hrl:r<mn
 rotate_left
 ·obtain rfl:r=mn:=by omega
  go_wp2_with fail
  go_roundg (nn - (j+1))
  case measure=>rw [HG2.out];omega
  case rel=>exact⟨j+1,pn,pc,pa,pl,pcs,by omega,rfl,rfl,by simp,HSK.out,vO.out,HPD.out,HPN.out⟩
 have hrI:(r:Int)<(mn:Int):=by omega
 have zAc:pn<=n:=by rw [<-vO.out];exact HF.out.len (i+1) pl HPD.out HPN.out
 obtain⟨mb,mof,hma, -,m0,m1,m2⟩:=qO.part HMA.out.now r (by rw [<-vC.out];exact hrl)
 have HMB:=qh hma
 subst hma
 obtain⟨x,hx⟩:∃x,x=ms.getD r default:=⟨_,rfl⟩
 rw [<-hx] at m0 m1 m2
 have hnu:=wK.out x (by rw [hx];exact zdq (by rw [<-vC.out];exact hrl))
 clear hx
 obtain⟨U,hU⟩:∃U,U=DO s x:=⟨_,rfl⟩
 obtain⟨bU,hbU⟩:∃b,b=U.bad:=⟨_,rfl⟩
 have zo2:=λy hy sv mv h=>z5d.out y hy sv mv h x
 rw [<-hU] at hnu
 rw [<-hU, <-hbU] at zo2
 clear hU
 obtain⟨xk,xt,xv⟩:=x
 dsimp only at m0 m1 m2 zo2
 have ztr:=qh zo2
 have HNU:=qh hnu
 have HBU:=qh hbU
 clear zo2 hnu hbU
 have HXJ:=qh HSK.out.below
 have CD:Hid (∀y,Below w5.heap.size w5 y->((((y.cell? ⟨gc,0,none⟩=some (.int .i64 vars)/\y.cell? ⟨gc,1,none⟩=some (.int .i64 dom)/\y.cell? ⟨gc,2,none⟩=some (.slice ca cn cc))/\y.cell? ⟨gc+1,0,none⟩=some (.int .i64 mo)/\y.cell? ⟨gc+1,1,none⟩=some (.int .i64 bo))/\y.cell? ⟨gt,0,none⟩=some (.slice ta tn tc)/\y.cell? ⟨gt,1,none⟩=some (.slice tb tk tf)/\y.cell? ⟨gt,2,none⟩=some (.bool bT))/\y.cell? ⟨eb,eo+j*3,none⟩=some (.slice qa qn qc)/\y.cell? ⟨eb,eo+j*3+1,none⟩=some (.slice ra rn rc)/\y.cell? ⟨eb,eo+j*3+2,none⟩=some (.bool bs))/\y.cell? ⟨mb,mof+r*3,none⟩=some (.int .i64 xk)/\y.cell? ⟨mb,mof+r*3+1,none⟩=some (.int .i64 xt)/\y.cell? ⟨mb,mof+r*3+2,none⟩=some (.int .i64 xv)):=λy hy=>⟨CJ.out y (zF HXJ.out hy),zk hy _ _ m0,zk hy _ _ m1,zk hy _ _ m2⟩
 clear m0 m1 m2
 go_upto_region 27 with fail
 go_cut [22,23] (λs22 s23 w'=>∃(g:Nat) (a b:Option Addr) (p e k f:Nat),s22= .pointer (some ⟨g,0,none⟩)/\Hid (w'.heap[g]? =some (.cells #[.slice a p e, .slice b k f, .bool bU] 30 (0,0)))/\Hid (zX (λk=>k<w5.heap.size) w' (λy=>qE y U [.slice a p e, .slice b k f, .bool bU]))/\Hid (Below w5.heap.size w5 w'))
 case first=>
  refine vg (S:=λx=>Below w5.heap.size w5 x) (Below.refl _ _).drew (λ_=> ?_)
  obtain⟨V1,hV1⟩:∃V1,V1=w5.drew:=⟨_,rfl⟩
  have hT0:Hid (Below w5.heap.size w5 V1):=by rw [hV1];exact(Below.refl _ _).drew
  rw [<-hV1]
  clear hV1
  refine zD 0 CD.out (hT0.out) ?_
  refine zD 1 CD.out (hT0.out) ?_
  refine zD 2 zN (hT0.out) ?_
  refine zD 3 zN (hT0.out) ?_
  refine zD 4 zN (hT0.out) ?_
  refine zD 5 CD.out (hT0.out) ?_
  refine zD 6 zN (hT0.out) ?_
  refine zD 7 zN (hT0.out) ?_
  refine zD 8 zN (hT0.out) ?_
  refine zD 9 CD.out (hT0.out) ?_
  refine wpAnyH_ready (rs:= [10,14]) (by kernel_rfl) (by simp) ?_
  refine AllReadyH.cons rfl (λK hK=> ?_) (AllReadyH.cons rfl (λK hK=> ?_) AllReadyH.nil)
  ·skip
   go_simp
   refine(ztr.out V1 (CRJ.out _ (zF HXJ.out (hT0.out))) _ _ (HSJ.out _ (zF HXJ.out (hT0.out)))).mono ?_
   rintro e Ya1 ⟨⟨da,db,dp,de,dk,df,der,rfl,hs⟩,hb⟩
   have z2u:=qh (zju hs (B:=w5.heap.size) (hT0.out).size)
   have zaY:=qh (zF (hT0.out) hb)
   clear hs hb
   refine hK.out _ _ zaY.out (λ_=> ?_)
   clear hK K
   refine zD 11 zN (zaY.out) ?_
   refine zD 12 zN (zaY.out) ?_
   refine zD 13 zN (zaY.out) ?_
   refine yu 14 rfl (λK hK=> ?_)
   go_simp
   have hz:=yh Ya1 (.cells #[.slice none 0 0, .slice none 0 0, .bool false] 30)
   have hb:=(Below.refl Ya1.heap.size Ya1).alloc (Nat.le_refl _) (.cells #[.slice none 0 0, .slice none 0 0, .bool false] 30)
   have HGL:Hid (w5.heap.size<=Ya1.heap.size):=(zaY.out).size
   have zo3:=qh (zo4 z2u.out (.cells #[.slice none 0 0, .slice none 0 0, .bool false] 30))
   have zdX:=qh (zF (zaY.out) hb)
   clear hb
   refine hK.out _ _ zdX.out (λ_=> ?_)
   obtain⟨gs,hgs⟩:∃g,g=Ya1.heap.size:=⟨_,rfl⟩
   rw [<-hgs] at hz HGL zo3 ⊢
   clear hgs
   generalize World.alloc Ya1 _=Ya3 at hz zo3 zdX ⊢
   have wY:=qh hz
   clear hz
   clear hK K
   refine yu 15 rfl (λK hK=> ?_)
   have d0:=ze wY.out 0
   have d1:=ze wY.out 1
   have d2:=ze wY.out 2
   have f0:=zy wY.out 0
   have f1:=zy wY.out 1
   have f2:=zy wY.out 2
   have HZ2:=qh (qI (cs:= [.slice none 0 0, .slice none 0 0, .bool false]) [.slice da dp de, .slice db dk df, .bool bU] rfl wY.out)
   have hsi:=xO (g:=gs) [.slice da dp de, .slice db dk df, .bool bU] Ya3 0
   have HS3:=qh (zh6 zo3.out hsi)
   have HY4:Hid (Below w5.heap.size w5 (yx Ya3 gs 0 [.slice da dp de, .slice db dk df, .bool bU])):=(zdX.out).trans (hsi.below (zdX.out).size (λk hk=>by have:=HGL.out;omega))
   clear hsi
   go_simp
   clear d0 d1 d2 f0 f1 f2
   refine hK.out _ (yx Ya3 gs 0 [.slice da dp de, .slice db dk df, .bool bU]) HY4.out (λ_=> ?_)
   generalize yx Ya3 gs 0 _=Y4 at HZ2 HS3 HY4 ⊢
   clear hK K
   refine zD 16 zN (HY4.out) ?_
   refine xL ?_
   go_wp2_with fail
   go_meet
   case rel=>exact⟨gs,da,db,dp,de,dk,df,rfl,HZ2.out,HS3.out.mono (λk hk=> .inl hk),HY4.out⟩
  skip
  go_simp
  have hz:=yh V1 (.cells #[.slice none 0 0, .slice none 0 0, .bool false] 30)
  have hb:=(Below.refl V1.heap.size V1).alloc (Nat.le_refl _) (.cells #[.slice none 0 0, .slice none 0 0, .bool false] 30)
  have HGL:Hid (w5.heap.size<=V1.heap.size):=(hT0.out).size
  have zco:=qh (zF (hT0.out) hb)
  clear hb
  refine hK.out _ _ zco.out (λ_=> ?_)
  obtain⟨gs,hgs⟩:∃g,g=V1.heap.size:=⟨_,rfl⟩
  rw [<-hgs] at hz HGL ⊢
  clear hgs
  generalize World.alloc V1 _=Ya5 at hz zco ⊢
  have zfK:=qh hz
  clear hz
  clear hK K
  refine yu 10 rfl (λK hK=> ?_)
  go_simp
  refine(ztr.out Ya5 (CRJ.out _ (zF HXJ.out (zco.out))) _ _ (HSJ.out _ (zF HXJ.out (zco.out)))).mono ?_
  rintro e Ya7 ⟨⟨da,db,dp,de,dk,df,der,rfl,hs⟩,hb⟩
  have z2v:=qh (zo5 hs (B:=w5.heap.size) (gs:=gs) (zco.out).size (zx zfK.out))
  have wZ:=qh ((hb.block gs (zx zfK.out)).trans zfK.out)
  have zaZ:=qh (zF (zco.out) hb)
  clear hs hb
  refine hK.out _ _ zaZ.out (λ_=> ?_)
  clear hK K
  refine zD 11 zN (zaZ.out) ?_
  refine zD 12 zN (zaZ.out) ?_
  refine zD 13 zN (zaZ.out) ?_
  refine yu 15 rfl (λK hK=> ?_)
  have d0:=ze wZ.out 0
  have d1:=ze wZ.out 1
  have d2:=ze wZ.out 2
  have f0:=zy wZ.out 0
  have f1:=zy wZ.out 1
  have f2:=zy wZ.out 2
  have HZ2:=qh (qI (cs:= [.slice none 0 0, .slice none 0 0, .bool false]) [.slice da dp de, .slice db dk df, .bool bU] rfl wZ.out)
  have hsi:=xO (g:=gs) [.slice da dp de, .slice db dk df, .bool bU] Ya7 0
  have HS3:=qh (zh6 z2v.out hsi)
  have HY4:Hid (Below w5.heap.size w5 (yx Ya7 gs 0 [.slice da dp de, .slice db dk df, .bool bU])):=(zaZ.out).trans (hsi.below (zaZ.out).size (λk hk=>by have:=HGL.out;omega))
  clear hsi
  go_simp
  clear d0 d1 d2 f0 f1 f2
  refine hK.out _ (yx Ya7 gs 0 [.slice da dp de, .slice db dk df, .bool bU]) HY4.out (λ_=> ?_)
  generalize yx Ya7 gs 0 _=Y4 at HZ2 HS3 HY4 ⊢
  clear hK K
  refine zD 16 zN (HY4.out) ?_
  refine xL ?_
  go_wp2_with fail
  go_meet
  case rel=>exact⟨gs,da,db,dp,de,dk,df,rfl,HZ2.out,HS3.out.mono (λk hk=> .inl hk),HY4.out⟩
 case rest=>
 obtain⟨gs,da,db,dp,de,dk,df,rfl,HZU,HAU,zts⟩:=hcut
 obtain⟨w6,rfl⟩:∃X:World,X=wc:=⟨_,rfl⟩
 clear CD ztr
 have z5g:=qh (HSK.out.call zts.out)
 have z5h:=qh (zdY HMA.out zts.out)
 have HOL:Hid (∀k,(Value.slice pa pn pc).ownBlock=some k->k<w5.heap.size):=HSK.out.lt
 clear HSK HMA HXJ zts
 go_wp2_with fail
 go_loopg [24,25] pn (λgg s24 s25 wr=>∃(q:Nat) (hd:Bool),q<=pn/\Hid (gg=pn - q)/\s24= .bool hd/\s25= .int .i64 q/\Hid (Below w6.heap.size w6 wr)/\Hid (hd=true↔U∈pl.take q))
 case atStart=>exact⟨0,false,Nat.zero_le _,rfl,rfl,rfl,Below.refl _ _,by simp [Hid]⟩
 case round=>
 obtain⟨q,hd,hq,jK,rfl,rfl,HQR,HHD⟩:=hrel
 obtain⟨w7,rfl⟩:∃X:World,X=wr:=⟨_,rfl⟩
 have ziQ:=qh (z5g.out.call HQR.out)
 have ztt:=qh (zdY z5h.out HQR.out)
 cases hd with
 |true=>
  have hin:U∈pl:=List.mem_of_mem_take (HHD.out.1 rfl)
  by_cases hql:q<pn
  ·have hqI:(q:Int)<(pn:Int):=by omega
   go_wp2_with fail
   go_roundg (mn - (r+1))
   case measure=>rw [vS.out];omega
   case rel=>exact⟨r+1,_,pc,pa,pl,pcs,by omega,rfl,rfl,by simp,ziQ.out,ztt.out,vO.out,HPD.out,HPN.out⟩
  obtain rfl:q=pn:=by omega
  go_wp2_with fail
  go_roundg (mn - (r+1))
  case measure=>rw [vS.out];omega
  case rel=>exact⟨r+1,_,pc,pa,pl,pcs,by omega,rfl,rfl,by simp,ziQ.out,ztt.out,vO.out,HPD.out,HPN.out⟩
 |false=>
 by_cases hql:q<pn
 rotate_left
 ·obtain rfl:q=pn:=by omega
  have hno:U ∉ pl:=λe=>by
   have h2:=HHD.out.2 (by rw [List.take_of_length_le (Nat.le_of_eq vO.out)];exact e)
   cases h2
  have hnd:=zo6 HPD.out hno
  have hnr:∀s∈pl++ [U],NR (i+1) s:=λs hs=>by
   rcases List.mem_append.1 hs with h|h
   ·exact HPN.out s h
   obtain rfl:s=U:=by simpa using h
   exact HNU.out
  have z5i:=qh hnd
  have z5j:=qh hnr
  have z5k:=qh (zdY HAU.out HQR.out)
  have hrow:=ziQ.out.st.row
  rw [vO.out] at hrow
  have jo:=qh hrow
  clear hno hnd hnr hrow
  have hzk:=(HQR.out.block _ (zx HZU.out)).trans HZU.out
  have d0:=ze hzk 0
  have d1:=ze hzk 1
  have d2:=ze hzk 2
  clear hzk
  go_wp2_with(at_builtin;go_must(refine zO _ rfl _ _ 67 rfl 30 (.agg #[.slice none 0 0, .slice none 0 0, .bool false]) 3 56 Tryz.underlying67 bS rfl (by decide) wo.heap.size (.slice pa q pc) q (pcs.flatten) rfl ((jo.out).alloc _) ⟨w7.heap.size,0,none⟩ 1 1 [.slice da dp de, .slice db dk df, .bool bU] rfl rfl (jf _ [.slice da dp de, .slice db dk df, .bool bU] _) (by simp [Value.oneCell']) (by unfold maxLen;omega) (by omega) (by have:=ziQ.out.below.size;simp;omega) ?_);intro ja jc X f1 f2 f3 f4 f5 f6;have HP:=qh (ziQ.out.push z5k.out HOL.out rfl (by rw [vO.out];exact f1) f4 f5);have HM8:=qh (zq2 ztt.out f4 f5);clear f1 f2 f3 f4 f5 f6)
  go_roundg (mn - (r+1))
  case measure=>rw [vS.out];omega
  case rel=>exact⟨r+1,q+1,jc,ja,pl++ [U],_,by omega,rfl,rfl,by simp,HP.out,HM8.out,by rw [Hid,List.length_append,vO.out];rfl,z5i.out,z5j.out⟩
 have hqI:(q:Int)<(pn:Int):=by omega
 obtain⟨fb,fo,yv,mv,hfa, -,y0,y1,y2,hst⟩:=jP.part ziQ.out.st.slice q (by rw [vO.out];exact hql)
 subst hfa
 obtain⟨v,hv⟩:∃s,s=pl.getD q default:=⟨_,rfl⟩
 rw [<-hv] at y2 hst
 have hmem:=zkj (l:=pl) (q:=q) (by rw [vO.out];exact hql) U
 rw [<-hv] at hmem
 have hno:U ∉ pl.take q:=λe=>by have:=HHD.out.2 e;cases this
 have zcp:Hid (decide (v=U)=true↔U∈pl.take (q+1)):=by
  rw [Hid,hmem,decide_eq_true_iff]
  exact⟨.inr,λh=>h.resolve_left hno⟩
 obtain⟨bv,hbv⟩:∃b,b=v.bad:=⟨_,rfl⟩
 rw [<-hbv] at y2
 obtain⟨va2,vc2,rfl, -⟩:=zh.slice hst.threads
 obtain⟨vb2,vf2,rfl, -⟩:=zh.slice hst.mem
 obtain⟨vn2,ztu⟩:∃x,x=v.threads.length:=⟨_,rfl⟩
 obtain⟨vk2,ztv⟩:∃x,x=v.mem.length:=⟨_,rfl⟩
 rw [<-ztu, <-ztv] at hst
 rw [<-ztu] at y0
 rw [<-ztv] at y1
 have HVS:=qh hst
 have HBV:=qh hbv
 have CQ:Hid (∀y,Below w7.heap.size w7 y->(y.cell? ⟨fb,fo+q*3,none⟩=some (.slice va2 vn2 vc2)/\y.cell? ⟨fb,fo+q*3+1,none⟩=some (.slice vb2 vk2 vf2)/\y.cell? ⟨fb,fo+q*3+2,none⟩=some (.bool bv))/\y.cell? ⟨gs,0,none⟩=some (.slice da dp de)/\y.cell? ⟨gs,1,none⟩=some (.slice db dk df)/\y.cell? ⟨gs,2,none⟩=some (.bool bU)):=λy hy=>⟨⟨zk hy _ _ y0,zk hy _ _ y1,zk hy _ _ y2⟩,zk (zF HQR.out hy) _ _ (ze HZU.out 0),zk (zF HQR.out hy) _ _ (ze HZU.out 1),zk (zF HQR.out hy) _ _ (ze HZU.out 2)⟩
 clear hst hbv ztu ztv hv hmem hno y0 y1 y2
 go_upto_region 32 with fail
 refine vg (S:=λx=>Below w7.heap.size w7 x) ((Below.refl _ _).drew) (λhP=> ?_)
 refine zq 0 CQ.out ?_
 refine zq 1 CQ.out ?_
 refine zq 2 CQ.out ?_
 refine zq 3 CQ.out ?_
 refine zq 4 CQ.out ?_
 refine yu 5 rfl (λK hK=> ?_)
 go_simp
 refine(zfg w7.drew v U bv bU HBV.out HBU.out _ _ _ _ _ _ _ _ _ _ _ _ (HVS.out.below hP) (zq3 (HAU.out _ (xZ _ (zF HQR.out hP))))).mono ?_
 rintro e pw5 ⟨rfl,hb⟩
 have ztw:Below w7.heap.size w7 pw5:=zF hP hb
 refine hK.out _ _ ztw (λ_=> ?_)
 clear hK K hb hP
 refine zq 6 CQ.out ?_
 refine xL ?_
 have z5l:=qh ztw
 clear ztw
 go_wp2_with fail
 go_roundg (pn - (q+1))
 case measure=>rw [jK.out];omega
 case rel=>exact⟨q+1,decide (v=U),by omega,rfl,rfl,by simp,zF HQR.out z5l.out,zcp.out⟩
