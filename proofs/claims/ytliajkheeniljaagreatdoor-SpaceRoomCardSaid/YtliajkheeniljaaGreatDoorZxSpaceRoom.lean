/- Steps. -/
import Derived.Test.YtliajkheeniljaaGreatDoorZxPBad
set_option linter.all false
namespace Go.Proofs.YtliajkheeniljaaGreatDoor
open Go.RowKit
set_option maxRecDepth 100000
set_option maxHeartbeats 16000000
theorem zk1 (w:World) (sv:Value) (l0:List Int) (hn:jw w .u8 sv l0) (hcap:∀a n c,sv= .slice a n c->n<=c) (q:Int) (q0:0<=q) (q1:q<=255):
  Calls Tryz.prog 13 #[sv, .int .u8 q] w λe w'=>e= .returned (.bool true)/\Below w.heap.size w w':=by
 have HSM:Hid (∀y,Below w.heap.size w y->Calls Tryz.prog 27 #[sv] y (zek y)):=λy hy=>zgt y sv l0 (hn.below hy) hcap
 obtain⟨sa,sc,rfl, -⟩:∃a c,sv= .slice a l0.length c/\True:=by obtain⟨a,c,h, -⟩:=hn;exact⟨a,c,h,trivial⟩
 generalize l0.length=ln at HSM ⊢
 clear hn hcap
 have zaS:=λy=>zgz y q q0 q1
 have hmay:=λc (h:codeOk c=true)=>zkh h q
 unfold xu at zaS
 obtain⟨M,hM⟩:∃M,M=zfQ q:=⟨_,rfl⟩
 rw [<-hM] at zaS hmay
 clear hM
 obtain⟨mo,bo⟩:=M
 dsimp only at zaS
 have zpN:=qh zaS
 have gY:=qh hmay
 clear zaS hmay q0 q1
 go_enter Tryz.func13,Tryz.ntmps13
 go_upto_region 4 with(go_at_call 33;go_must(refine(zgE _).mono ?_);rintro e W0 ⟨rfl,hb⟩;(have HB0:=qh hb);clear hb)
 have zmj:=qh (HSM.out W0 HB0.out)
 go_upto_region 5 with(first|(go_at_call 27;go_must(refine(zmj.out).mono ?_);rintro en W1 ⟨⟨c,tv,rfl,hc,hok,hct⟩,hb⟩;(have HB1:=qh hb);(have HC1:=qh hc);(have vD:=qh hok);(obtain⟨ca,cc,rfl, -⟩:=zh.slice hc);clear hb hc hok hct;unfold yC)|(go_at_call 22;go_must(refine(zpN.out _).mono ?_);rintro en W2 ⟨rfl,hb⟩;(have HB2:=qh hb);clear hb))
 have gK:=λy hy r=>bF y c (.slice ca c.threads.length cc) 3 hy ⟨mo,bo⟩ r
 have zdr:=λy hy r=>bF y c (.slice ca c.threads.length cc) 3 hy bO r
 have hcl:=zdG (c:=c) (m:=⟨mo,bo⟩) (d:=3) (R:=400) (gY.out c vD.out) (by omega) (by omega)
 have hrs:∀S,yQ c ⟨mo,bo⟩ 400 3=(S,0)->yQ c ⟨mo,bo⟩ S.states.length 3=(S,0)/\1<=S.states.length/\S.states.length<=400:=λS h=>zjX (gY.out c vD.out) h
 have hrl:∀S,yQ c ⟨mo,bo⟩ 400 3=(S,0)->1<S.states.length->(yQ c ⟨mo,bo⟩ ((S.states.length:Int) - 1) 3).2=40:=λS h h1=>by
  have:=zrL (gY.out c vD.out) h h1
  rw [show((S.states.length - 1:Nat):Int)=(S.states.length:Int) - 1 by omega] at this
  exact this
 have hrc:∀S,Closed c ⟨mo,bo⟩ 3 S->S.states.length<=400->∃u:yM,yQ c bO S.states.length 3=(u,0)/\u.states.length<=S.states.length:=λS h h4=>zyd (gY.out c vD.out) h h4
 obtain⟨EX,hEX⟩:∃EX,EX=λr=>yQ c ⟨mo,bo⟩ r 3:=⟨_,rfl⟩
 obtain⟨ES,hES⟩:∃ES,ES=λr=>yQ c bO r 3:=⟨_,rfl⟩
 have z0m:∀r,yQ c ⟨mo,bo⟩ r 3=EX r:=λr=>by rw [hEX]
 have z0n:∀r,yQ c bO r 3=ES r:=λr=>by rw [hES]
 obtain⟨CL,hCL⟩:∃CL,CL=Closed c ⟨mo,bo⟩ 3:=⟨_,rfl⟩
 rw [<-hCL] at hcl hrc
 clear hCL
 simp only [z0m] at gK hcl hrs hrl
 simp only [z0n] at zdr hrc
 clear hEX hES z0m z0n
 unfold yC xu at gK zdr
 unfold bO at zdr
 dsimp only at gK zdr
 generalize c.vars=vars at gK zdr ⊢
 generalize c.domain=dom at gK zdr ⊢
 generalize c.threads=cs at HC1 gK zdr ⊢
 generalize cs.length=cn at HC1 gK zdr ⊢
 clear vD
 clear gY
 obtain⟨SX,hSX⟩:∃SX,SX=EX 400:=⟨_,rfl⟩
 rw [<-hSX] at hcl
 obtain⟨S,er⟩:=SX
 dsimp only at hcl
 have zuN:=λy hy=>gK y hy 400
 rw [<-hSX] at zuN
 have HSX:=qh hSX
 have HCL:=qh hcl
 have HRS:=qh hrs
 have HRL:=qh hrl
 have HRC:=qh hrc
 have z0o:=qh gK
 have z6g:=qh zdr
 clear hSX hcl hrs hrl hrc gK zdr
 clear c
 obtain⟨n1,hn1⟩:∃n,n=S.states.length:=⟨_,rfl⟩
 obtain⟨n2,hn2⟩:∃n,n=S.moves.length:=⟨_,rfl⟩
 obtain⟨n3,hn3⟩:∃n,n=S.next.length:=⟨_,rfl⟩
 have HX1:Hid (∀y,yE 3 y (.slice ca cn cc) cs->Calls Tryz.prog 28 #[.agg #[.int .i64 vars, .int .i64 dom, .slice ca cn cc], .agg #[.int .i64 mo, .int .i64 bo], .int .i64 400] y (zji S er n1 n2 n3 y)):=λy hy=>(zuN y hy).mono λ_ _ h=>zdL rfl hn1 hn2 hn3 h
 have gI:=qh hn1
 have HN2:=qh hn2
 have HN3:=qh hn3
 clear zuN hn1 hn2 hn3
 have ha:=yU W2 (.cells #[.int .i64 vars, .int .i64 dom, .slice ca cn cc] 24) (.cells #[.int .i64 mo, .int .i64 bo] 26)
 have hw1:=HB2.out.trans (ha.mono HB2.out.size)
 have hw0:=HB1.out.trans (hw1.mono HB1.out.size)
 have HBV:=qh (HB0.out.trans (hw0.mono HB0.out.size))
 have HCV:=qh (zh.below (qx.stays 3) HC1.out hw1)
 have k1:((W2.alloc (.cells #[.int .i64 vars, .int .i64 dom, .slice ca cn cc] 24)).alloc (.cells #[.int .i64 mo, .int .i64 bo] 26)).heap[W2.heap.size]? =some (.cells #[.int .i64 vars, .int .i64 dom, .slice ca cn cc] 24 (0,0)):=(Below.heap_alloc _ _ _ (by simp)).trans (yt W2 _)
 have k2:((W2.alloc (.cells #[.int .i64 vars, .int .i64 dom, .slice ca cn cc] 24)).alloc (.cells #[.int .i64 mo, .int .i64 bo] 26)).heap[W2.heap.size+1]? =some (.cells #[.int .i64 mo, .int .i64 bo] 26 (0,0)):=by
  have:=yt (W2.alloc (.cells #[.int .i64 vars, .int .i64 dom, .slice ca cn cc] 24)) (.cells #[.int .i64 mo, .int .i64 bo] 26)
  rwa [World.size_alloc] at this
 have K1:=qh k1
 have K2:=qh k2
 clear ha hw1 hw0 k1 k2 HB0 HB1 HB2 HC1 HSM zmj
 generalize World.alloc (World.alloc W2 _) _=V at HBV HCV K1 K2 ⊢
 generalize W2.heap.size=gc at K1 K2 ⊢
 have CX:Hid (∀y,Below V.heap.size V y->y.cell? ⟨gc,0,none⟩=some (.int .i64 vars)/\y.cell? ⟨gc,1,none⟩=some (.int .i64 dom)/\y.cell? ⟨gc,2,none⟩=some (.slice ca cn cc)/\y.cell? ⟨gc+1,0,none⟩=some (.int .i64 mo)/\y.cell? ⟨gc+1,1,none⟩=some (.int .i64 bo)/\yE 3 y (.slice ca cn cc) cs):=λy hy=>
  ⟨zi hy _ _ (ze K1.out 0),zi hy _ _ (ze K1.out 1),zi hy _ _ (ze K1.out 2),zi hy _ _ (ze K2.out 0),zi hy _ _ (ze K2.out 1),zh.below (qx.stays 3) HCV.out hy⟩
 clear K1 K2 HCV
 have HV4:Hid (Below V.heap.size V V):=Below.refl _ _
 obtain⟨z0,z1,z2,x0,x1,hx⟩:=CX.out V HV4.out
 have HRW:=qh hx
 clear hx
 go_upto_region 6 with(go_at_call 28;go_must(refine(HX1.out _ HRW.out).mono ?_);rintro e W5 ⟨⟨a1p,a2p,a3p,c1p,c2p,c3p,rfl,hs⟩,hb⟩;(have uX:=qh hs);(have yj:=qh hb);clear hs hb)
 have hz:=yt W5 (.cells #[.slice a1p n1 c1p, .slice a2p n2 c2p, .slice a3p n3 c3p] 71)
 have ha:=(Below.refl W5.heap.size W5).alloc (Nat.le_refl _) (.cells #[.slice a1p n1 c1p, .slice a2p n2 c2p, .slice a3p n3 c3p] 71)
 have hs:=uX.out.below ha
 have hd:=yj.out.trans (ha.mono yj.out.size)
 have HV5:=qh (zB HV4.out hd)
 clear HV4
 have HZ:=qh hz
 have HS:=qh hs
 clear hz ha hs hd yj uX z0 z1 z2 x0 x1 HRW
 generalize World.alloc W5 _=X5 at HZ HS HV5 ⊢
 generalize W5.heap.size=g5 at HZ ⊢
 have CSp:Hid (∀y,Below X5.heap.size X5 y->y.cell? ⟨g5,0,none⟩=some (.slice a1p n1 c1p)/\y.cell? ⟨g5,1,none⟩=some (.slice a2p n2 c2p)/\y.cell? ⟨g5,2,none⟩=some (.slice a3p n3 c3p)/\qK y S (.slice a1p n1 c1p) (.slice a2p n2 c2p) (.slice a3p n3 c3p)):=λy hy=>⟨zi hy _ _ (ze HZ.out 0),zi hy _ _ (ze HZ.out 1),zi hy _ _ (ze HZ.out 2),HS.out.below hy⟩
 have z0q:Hid (Below X5.heap.size X5 X5):=Below.refl _ _
 clear HZ HS
 rcases HCL.out with⟨h0,hc⟩|h40
 rotate_left
 ·subst h40
  go_wp2_with fail
  go_ret
  exact⟨rfl,HBV.out.trans (HV5.out.mono HBV.out.size)⟩
 subst h0
 obtain⟨r1,r2,r3⟩:=HRS.out S HSX.out.symm
 obtain⟨U,u1,u2⟩:=HRC.out S hc r3
 have hl:=HRL.out S HSX.out.symm
 rw [<-gI.out] at r1 r2 r3 u1 u2 hl
 obtain⟨k1,hk1⟩:∃n,n=U.states.length:=⟨_,rfl⟩
 obtain⟨k2,hk2⟩:∃n,n=U.moves.length:=⟨_,rfl⟩
 obtain⟨k3,hk3⟩:∃n,n=U.next.length:=⟨_,rfl⟩
 rw [<-hk1] at u2
 have hx2:=λy hy=>z0o.out y hy n1
 have hx3:=λy hy=>z6g.out y hy n1
 rw [r1] at hx2
 rw [u1] at hx3
 have HX2:Hid (∀y,yE 3 y (.slice ca cn cc) cs->Calls Tryz.prog 28 #[.agg #[.int .i64 vars, .int .i64 dom, .slice ca cn cc], .agg #[.int .i64 mo, .int .i64 bo], .int .i64 (n1:Int)] y (zji S 0 n1 n2 n3 y)):=λy hy=>(hx2 y hy).mono λ_ _ h=>zdL rfl gI.out HN2.out HN3.out h
 have HX3:Hid (∀y,yE 3 y (.slice ca cn cc) cs->Calls Tryz.prog 28 #[.agg #[.int .i64 vars, .int .i64 dom, .slice ca cn cc], .agg #[.int .i64 0, .int .i64 1], .int .i64 (n1:Int)] y (zji U 0 k1 k2 k3 y)):=λy hy=>(hx3 y hy).mono λ_ _ h=>zdL rfl hk1 hk2 hk3 h
 have HL:=qh hl
 have HHC:=qh hc
 clear r1 u1 hk1 hk2 hk3 hx2 hx3 hc hl HX1 HRS HRC HRL
 have z6h:(1:Int)<=(n1:Int):=by omega
 have zAE:(n1:Int)<=400:=by omega
 have hkI:(k1:Int)<=(n1:Int):=by omega
 have hd0:((n1:Int)==0)=false:=beq_eq_false_iff_ne.2 (by omega)
 have hd1:decide ((n1:Int)=0)=false:=decide_eq_false (by omega)
 have hd2:(n1==0)=false:=beq_eq_false_iff_ne.2 (by omega)
 have hd3:decide (n1=0)=false:=decide_eq_false (by omega)
 obtain⟨p0,p1,p2, -⟩:=CSp.out X5 z0q.out
 go_upto_region 9 with fail
 clear p0 p1 p2
 have HV8:=HV5
 have z0s:=z0q
 obtain⟨z0,z1,z2,x0,x1,hx⟩:=CX.out X5 HV8.out
 have HRW:=qh hx
 clear hx
 go_upto_region 10 with(go_at_call 28;go_must(refine(HX2.out _ HRW.out).mono ?_);rintro e W9 ⟨⟨a1q,a2q,a3q,c1q,c2q,c3q,rfl,hs⟩,hb⟩;(have uX:=qh hs);(have yj:=qh hb);clear hs hb)
 have hz:=yt W9 (.cells #[.slice a1q n1 c1q, .slice a2q n2 c2q, .slice a3q n3 c3q] 71)
 have ha:=(Below.refl W9.heap.size W9).alloc (Nat.le_refl _) (.cells #[.slice a1q n1 c1q, .slice a2q n2 c2q, .slice a3q n3 c3q] 71)
 have hs:=uX.out.below ha
 have hd:=yj.out.trans (ha.mono yj.out.size)
 have HV9:=qh (zB HV8.out hd)
 have zuO:=qh (zB z0s.out hd)
 clear HV8 z0s
 have HZ:=qh hz
 have HS:=qh hs
 clear hz ha hs hd yj uX z0 z1 z2 x0 x1 HRW
 generalize World.alloc W9 _=X9 at HZ HS HV9 zuO ⊢
 generalize W9.heap.size=g9 at HZ ⊢
 have CSq:Hid (∀y,Below X9.heap.size X9 y->y.cell? ⟨g9,0,none⟩=some (.slice a1q n1 c1q)/\y.cell? ⟨g9,1,none⟩=some (.slice a2q n2 c2q)/\y.cell? ⟨g9,2,none⟩=some (.slice a3q n3 c3q)/\qK y S (.slice a1q n1 c1q) (.slice a2q n2 c2q) (.slice a3q n3 c3q)):=λy hy=>⟨zi hy _ _ (ze HZ.out 0),zi hy _ _ (ze HZ.out 1),zi hy _ _ (ze HZ.out 2),HS.out.below hy⟩
 have z0t:Hid (Below X9.heap.size X9 X9):=Below.refl _ _
 clear HZ HS
 obtain⟨z0,z1,z2,x0,x1,hx⟩:=CX.out X9 HV9.out
 have HRW:=qh hx
 clear hx
 go_upto_region 11 with(go_at_call 28;go_must(refine(HX3.out _ HRW.out).mono ?_);rintro e W10 ⟨⟨a1r,a2r,a3r,c1r,c2r,c3r,rfl,hs⟩,hb⟩;(have uX:=qh hs);(have yj:=qh hb);clear hs hb)
 have hz:=yt W10 (.cells #[.slice a1r k1 c1r, .slice a2r k2 c2r, .slice a3r k3 c3r] 71)
 have ha:=(Below.refl W10.heap.size W10).alloc (Nat.le_refl _) (.cells #[.slice a1r k1 c1r, .slice a2r k2 c2r, .slice a3r k3 c3r] 71)
 have hs:=uX.out.below ha
 have hd:=yj.out.trans (ha.mono yj.out.size)
 have zuP:=qh (zB HV9.out hd)
 have zxf:=qh (zB zuO.out hd)
 have zxg:=qh (zB z0t.out hd)
 clear HV9 zuO z0t
 have HZ:=qh hz
 have HS:=qh hs
 clear hz ha hs hd yj uX z0 z1 z2 x0 x1 HRW
 generalize World.alloc W10 _=X10 at HZ HS zuP zxf zxg ⊢
 generalize W10.heap.size=g10 at HZ ⊢
 have CSr:Hid (∀y,Below X10.heap.size X10 y->y.cell? ⟨g10,0,none⟩=some (.slice a1r k1 c1r)/\y.cell? ⟨g10,1,none⟩=some (.slice a2r k2 c2r)/\y.cell? ⟨g10,2,none⟩=some (.slice a3r k3 c3r)/\qK y U (.slice a1r k1 c1r) (.slice a2r k2 c2r) (.slice a3r k3 c3r)):=λy hy=>⟨zi hy _ _ (ze HZ.out 0),zi hy _ _ (ze HZ.out 1),zi hy _ _ (ze HZ.out 2),HS.out.below hy⟩
 have zxh:Hid (Below X10.heap.size X10 X10):=Below.refl _ _
 clear HZ HS
 have hd4:decide ((1:Int)<(n1:Int))=decide (1<n1):=by by_cases h:1<n1<;>simp [h] <;>omega
 go_cut [61] (λs61 w'=>s61= .bool (decide (1<n1))/\w'=X10)
 case first=>
  go_wp2_with fail
  go_meet
  case rel=>exact⟨by first|rfl|(congr 1;simp;omega)|simp,rfl⟩
 case rest=>
 obtain⟨rfl,hwv⟩:=hcut
 obtain rfl:X10=wc:=hwv.symm
 clear hd4
 go_upto_if 61 with fail
 go_cut [5] (λs5 w'=>s5= .bool true/\Hid (Below X10.heap.size X10 w'))
 case first=>
  by_cases h1:1<n1
  rotate_left
  ·rw [decide_eq_false h1]
   go_wp2_with fail
   go_meet
   case rel=>exact⟨rfl,Below.refl _ _⟩
  rw [decide_eq_true h1]
  have hx4:=λy hy=>z0o.out y hy ((n1:Int) - 1)
  obtain⟨SL,hSL⟩:∃SL,SL=EX ((n1:Int) - 1):=⟨_,rfl⟩
  have hl:=HL.out h1
  rw [<-hSL] at hx4 hl
  obtain⟨SLs,SLe⟩:=SL
  dsimp only at hl
  subst hl
  have HX4:Hid (∀y,yE 3 y (.slice ca cn cc) cs->Calls Tryz.prog 28 #[.agg #[.int .i64 vars, .int .i64 dom, .slice ca cn cc], .agg #[.int .i64 mo, .int .i64 bo], .int .i64 ((n1:Int) - 1)] y (zji SLs 40 SLs.states.length SLs.moves.length SLs.next.length y)):=λy hy=>(hx4 y hy).mono λ_ _ h=>zdL rfl rfl rfl rfl h
  clear hx4 hSL
  obtain⟨z0,z1,z2,x0,x1,hx⟩:=CX.out X10 zuP.out
  have HRW:=qh hx
  clear hx
  have h1I:(1:Int)<(n1:Int):=by omega
  have hwr:=IntWalk.i64_in ((n1:Int) - 1) (by omega)
  go_wp2_with(go_at_call 28;go_must(refine(HX4.out _ HRW.out).mono ?_);rintro e W12 ⟨⟨b1,b2,b3,d1,d2,d3,rfl, -⟩,hb⟩;(have yj:=qh hb);clear hb)
  go_meet
  case rel=>exact⟨rfl,yj.out.trans (((Below.refl W12.heap.size W12).alloc (Nat.le_refl _) _).mono yj.out.size)⟩
 case rest=>
 obtain⟨rfl,zaT⟩:=hcut
 obtain⟨X11,rfl⟩:∃X:World,X=wc:=⟨_,rfl⟩
 obtain⟨p0,p1,p2,hp⟩:=CSp.out X11 (zB zxf.out zaT.out)
 obtain⟨q0,q1,q2,hq⟩:=CSq.out X11 (zB zxg.out zaT.out)
 obtain⟨t0,t1,t2, -⟩:=CSr.out X11 (zB zxh.out zaT.out)
 have z6i:=qh hp
 have z6j:=qh hq
 clear hp hq
 have hd5:decide ((k1:Int)<=(n1:Int))=true:=decide_eq_true (by omega)
 have hd6:decide (k1<=n1)=true:=decide_eq_true (by omega)
 go_wp2_with(go_at_call 30;go_must(refine(zss _ S _ _ _ _ _ _ _ _ _ _ _ _ _ _ _ _ _ _ z6i.out z6j.out).mono ?_);rintro e X14 ⟨rfl,hb⟩;(have z6k:=qh hb);(obtain⟨t3,t4,t5, -⟩:=CSr.out X14 (zB (zB zxh.out zaT.out) hb));clear hb p0 p1 p2 q0 q1 q2 t0 t1 t2)
 go_ret
 exact⟨rfl,HBV.out.trans ((zB zuP.out (zB zaT.out z6k.out)).mono HBV.out.size)⟩
