/- Steps. -/
import Derived.Test.YtliajkheeniljaaGreatDoorZxPBad
set_option linter.all false
namespace Go.Proofs.YtliajkheeniljaaGreatDoor
open Go.RowKit
set_option maxRecDepth 100000
set_option maxHeartbeats 16000000
theorem zi4 (w:World) (sv:Value) (l0:List Int) (hn:jw w .u8 sv l0) (hcap:∀a n c,sv= .slice a n c->n<=c) (q:Int) (q0:0<=q) (q1:q<=255) (which:Int) (r0:0<=which) (r1:which<=65535):
  Calls Tryz.prog 11 #[sv, .int .u8 q, .int .u16 which] w λe w'=>e= .returned (.bool true)/\Below w.heap.size w w':=by
 have HSM:Hid (∀y,Below w.heap.size w y->Calls Tryz.prog 27 #[sv] y (zek y)):=λy hy=>zgt y sv l0 (hn.below hy) hcap
 obtain⟨sa,sc,rfl, -⟩:∃a c,sv= .slice a l0.length c/\True:=by obtain⟨a,c,h, -⟩:=hn;exact⟨a,c,h,trivial⟩
 generalize l0.length=ln at HSM ⊢
 clear hn hcap
 have zaS:=λy=>zgz y q q0 q1
 have hmay:=λc (h:codeOk c=true)=>zkh h q
 unfold xu at zaS
 obtain⟨M,hM⟩:∃M,M=zfQ q:=⟨_,rfl⟩
 rw [<-hM] at zaS hmay
 clear hM
 obtain⟨mo,bo⟩:=M
 dsimp only at zaS
 have zpN:=qh zaS
 have gY:=qh hmay
 clear zaS hmay q0 q1
 go_enter Tryz.func11,Tryz.ntmps11
 go_upto_region 4 with(go_at_call 33;go_must(refine(zgE _).mono ?_);rintro e W0 ⟨rfl,hb⟩;(have HB0:=qh hb);clear hb)
 have zmj:=qh (HSM.out W0 HB0.out)
 go_upto_region 5 with(first|(go_at_call 27;go_must(refine(zmj.out).mono ?_);rintro en W1 ⟨⟨c,tv,rfl,hc,hok,hct⟩,hb⟩;(have HB1:=qh hb);(have HC1:=qh hc);(have vD:=qh hok);(obtain⟨ca,cc,rfl, -⟩:=zh.slice hc);clear hb hc hok hct;unfold yC)|(go_at_call 22;go_must(refine(zpN.out _).mono ?_);rintro en W2 ⟨rfl,hb⟩;(have HB2:=qh hb);clear hb))
 have gK:=λy hy=>bF y c (.slice ca c.threads.length cc) 3 hy ⟨mo,bo⟩ 400
 have hst:=λy hy=>zyq y c (.slice ca c.threads.length cc) hy
 have hdo:=λy hy s hb sv mv hs x=>z6O y c (.slice ca c.threads.length cc) hy ⟨mo,bo⟩ s hb sv mv hs x
 have hmv:=λy hy s hb sv mv hs=>zyr y c (.slice ca c.threads.length cc) hy ⟨mo,bo⟩ s hb sv mv hs
 have hcl:=zdG (c:=c) (m:=⟨mo,bo⟩) (d:=3) (R:=400) (gY.out c vD.out) (by omega) (by omega)
 have hbf:=zlS (c:=c) (m:=⟨mo,bo⟩) (R:=400) (d:=3)
 have zm7:=znk (c:=c) (m:=⟨mo,bo⟩) (R:=400) (d:=3)
 rw [show((400:Nat):Int)=400 from rfl] at hbf zm7
 obtain⟨SX,hSX⟩:∃SX,SX=yQ c ⟨mo,bo⟩ 400 3:=⟨_,rfl⟩
 rw [<-hSX] at gK hcl hbf zm7
 clear hSX
 obtain⟨S,er⟩:=SX
 dsimp only at hcl hbf zm7
 obtain⟨MV,hMV⟩:∃MV:zk->List zu,MV=λs=>yY c ⟨mo,bo⟩ s 3:=⟨_,rfl⟩
 obtain⟨DO,hDO⟩:∃DO:zk->zu->zk,DO=λs x=>(qz c ⟨mo,bo⟩ s x 3).1:=⟨_,rfl⟩
 have zv1:∀s,yY c ⟨mo,bo⟩ s 3=MV s:=λs=>by rw [hMV]
 have zv2:∀s x,(qz c ⟨mo,bo⟩ s x 3).1=DO s x:=λs x=>by rw [hDO]
 have zv3:(er=0/\S.moves.length=S.states.length/\S.next.length=S.states.length/\0<S.states.length/\S.states.getD 0 default=xM c/\S.states.Nodup/\∀i,i<S.states.length->S.moves.getD i [] =MV (S.states.getD i default)/\(S.next.getD i []).length=(S.moves.getD i []).length/\∀j,j<(S.moves.getD i []).length->∃t:Nat,t<S.states.length/\(S.next.getD i []).getD j 0=t/\S.states.getD t default=DO (S.states.getD i default) ((S.moves.getD i []).getD j default))\/er=40:=by
  rcases hcl with⟨h0,h⟩|h
  ·refine .inl ⟨h0,h.moves,h.next,h.pos,h.first,h.apart,λi hi=> ?_⟩
   obtain⟨h1,h2⟩:=h.lead i hi
   refine⟨by rw [<-zv1];exact h1,h2.len,λj hj=> ?_⟩
   obtain⟨t,g1,g2,g3⟩:=h2.land j hj
   exact⟨t,g1,g2,by rw [<-zv2];exact g3⟩
  exact .inr h
 simp only [zv1,zv2] at hdo hmv
 obtain⟨S0,hS0⟩:∃s,s=xM c:=⟨_,rfl⟩
 rw [<-hS0] at hst zv3
 clear hcl hS0 hMV zv1 hDO zv2
 unfold yC xu yF zdR at hdo
 unfold yC xu yF at hmv
 unfold yC at hst
 unfold yC xu at gK
 dsimp only at gK hst hdo hmv
 generalize c.vars=vars at gK hst hdo hmv ⊢
 generalize c.domain=dom at gK hst hdo hmv ⊢
 generalize c.threads=cs at HC1 gK hst hdo hmv ⊢
 generalize cs.length=cn at HC1 gK hst hdo hmv ⊢
 clear vD
 clear gY
 clear c
 obtain⟨n1,hn1⟩:∃n,n=S.states.length:=⟨_,rfl⟩
 obtain⟨n2,hn2⟩:∃n,n=S.moves.length:=⟨_,rfl⟩
 obtain⟨n3,hn3⟩:∃n,n=S.next.length:=⟨_,rfl⟩
 have HX1:Hid (∀y,yE 3 y (.slice ca cn cc) cs->Calls Tryz.prog 28 #[.agg #[.int .i64 vars, .int .i64 dom, .slice ca cn cc], .agg #[.int .i64 mo, .int .i64 bo], .int .i64 400] y (zji S er n1 n2 n3 y)):=λy hy=>(gK y hy).mono λ_ _ h=>zdL rfl hn1 hn2 hn3 h
 have HST:=qh hst
 have HDO:=qh hdo
 have HMV:=qh hmv
 have HCL:=qh zv3
 have HBF:=qh hbf
 have z1N:=qh zm7
 have gI:=qh hn1
 have HN2:=qh hn2
 have HN3:=qh hn3
 clear gK hst hdo hmv zv3 hbf zm7 hn1 hn2 hn3
 have ha:=yU W2 (.cells #[.int .i64 vars, .int .i64 dom, .slice ca cn cc] 24) (.cells #[.int .i64 mo, .int .i64 bo] 26)
 have hw1:=HB2.out.trans (ha.mono HB2.out.size)
 have hw0:=HB1.out.trans (hw1.mono HB1.out.size)
 have HBV:=qh (HB0.out.trans (hw0.mono HB0.out.size))
 have HCV:=qh (zh.below (qx.stays 3) HC1.out hw1)
 have k1:((W2.alloc (.cells #[.int .i64 vars, .int .i64 dom, .slice ca cn cc] 24)).alloc (.cells #[.int .i64 mo, .int .i64 bo] 26)).heap[W2.heap.size]? =some (.cells #[.int .i64 vars, .int .i64 dom, .slice ca cn cc] 24 (0,0)):=(Below.heap_alloc _ _ _ (by simp)).trans (yt W2 _)
 have k2:((W2.alloc (.cells #[.int .i64 vars, .int .i64 dom, .slice ca cn cc] 24)).alloc (.cells #[.int .i64 mo, .int .i64 bo] 26)).heap[W2.heap.size+1]? =some (.cells #[.int .i64 mo, .int .i64 bo] 26 (0,0)):=by
  have:=yt (W2.alloc (.cells #[.int .i64 vars, .int .i64 dom, .slice ca cn cc] 24)) (.cells #[.int .i64 mo, .int .i64 bo] 26)
  rwa [World.size_alloc] at this
 have K1:=qh k1
 have K2:=qh k2
 clear ha hw1 hw0 k1 k2 HB0 HB1 HB2 HC1 HSM zmj
 generalize World.alloc (World.alloc W2 _) _=V at HBV HCV K1 K2 ⊢
 generalize W2.heap.size=gc at K1 K2 ⊢
 have CX:Hid (∀y,Below V.heap.size V y->(y.cell? ⟨gc,0,none⟩=some (.int .i64 vars)/\y.cell? ⟨gc,1,none⟩=some (.int .i64 dom)/\y.cell? ⟨gc,2,none⟩=some (.slice ca cn cc))/\y.cell? ⟨gc+1,0,none⟩=some (.int .i64 mo)/\y.cell? ⟨gc+1,1,none⟩=some (.int .i64 bo)):=λy hy=>
  ⟨⟨zi hy _ _ (ze K1.out 0),zi hy _ _ (ze K1.out 1),zi hy _ _ (ze K1.out 2)⟩,zi hy _ _ (ze K2.out 0),zi hy _ _ (ze K2.out 1)⟩
 have CR:Hid (∀y,Below V.heap.size V y->yE 3 y (.slice ca cn cc) cs):=λy hy=>zh.below (qx.stays 3) HCV.out hy
 clear K1 K2 HCV
 obtain⟨⟨z0,z1,z2⟩,x0,x1⟩:=CX.out V (Below.refl _ _)
 go_upto_region 6 with(go_at_call 28;go_must(refine(HX1.out V (CR.out V (Below.refl _ _))).mono ?_);rintro e W5 ⟨⟨a1,a2,a3,c1,c2,c3,rfl,hs⟩,hb⟩;(have uX:=qh hs);(have yj:=qh hb);clear hs hb)
 have hz:=yt W5 (.cells #[.slice a1 n1 c1, .slice a2 n2 c2, .slice a3 n3 c3] 71)
 have ha:=(Below.refl W5.heap.size W5).alloc (Nat.le_refl _) (.cells #[.slice a1 n1 c1, .slice a2 n2 c2, .slice a3 n3 c3] 71)
 have HS:=qh (uX.out.below ha)
 have HVX:=qh (yj.out.trans (ha.mono yj.out.size))
 have HZ:=qh hz
 clear hz ha yj uX z0 z1 z2 x0 x1 HX1
 generalize World.alloc W5 _=X5 at HZ HS HVX ⊢
 generalize W5.heap.size=g5 at HZ ⊢
 rcases HCL.out with⟨h0,hm,hx,hp,hf,hap,hld⟩|h40
 rotate_left
 ·subst h40
  go_wp2_with fail
  go_ret
  exact⟨rfl,HBV.out.trans (HVX.out.mono HBV.out.size)⟩
 subst h0
 obtain rfl:n2=n1:=by rw [HN2.out,gI.out];exact hm
 obtain rfl:n3=n2:=by rw [HN3.out,gI.out];exact hx
 obtain⟨n,rfl⟩:∃n,n=n3:=⟨_,rfl⟩
 have hpn:0<n:=by rw [gI.out];exact hp
 have zAj:n<=400:=by rw [gI.out];exact z1N.out
 obtain⟨sb,so,rfl,hps⟩:=z1O HS.out.1 hp
 obtain⟨mb,mof,rfl,hpm⟩:=z1P HS.out.2.1 (by omega)
 obtain⟨nb,nof,rfl,hpx⟩:=z1Q HS.out.2.2 (by omega)
 rw [hm, <-gI.out] at hpm
 rw [hx, <-gI.out] at hpx
 rw [<-gI.out] at hps hld
 have HPS:=qh hps
 have HPM:=qh hpm
 have HPX:=qh hpx
 have HLD:=qh hld
 have HF:=qh hf
 have HAP:=qh hap
 clear hm hx hp hf hap hld hps hpm hpx HCL HN2 HN3 z1N HS
 have z6h:(1:Int)<=(n:Int):=by omega
 have hd1:decide ((n:Int)<1)=false:=decide_eq_false (by omega)
 have CP:Hid (∀y,Below X5.heap.size X5 y->y.cell? ⟨g5,0,none⟩=some (.slice (some ⟨sb,so,none⟩) n c1)/\y.cell? ⟨g5,1,none⟩=some (.slice (some ⟨mb,mof,none⟩) n c2)/\y.cell? ⟨g5,2,none⟩=some (.slice (some ⟨nb,nof,none⟩) n c3)):=λy hy=>⟨zi hy _ _ (ze HZ.out 0),zi hy _ _ (ze HZ.out 1),zi hy _ _ (ze HZ.out 2)⟩
 clear HZ
 have C0:Hid (∀y,Below X5.heap.size X5 y->((y.cell? ⟨gc,0,none⟩=some (.int .i64 vars)/\y.cell? ⟨gc,1,none⟩=some (.int .i64 dom)/\y.cell? ⟨gc,2,none⟩=some (.slice ca cn cc))/\y.cell? ⟨gc+1,0,none⟩=some (.int .i64 mo)/\y.cell? ⟨gc+1,1,none⟩=some (.int .i64 bo))/\y.cell? ⟨g5,0,none⟩=some (.slice (some ⟨sb,so,none⟩) n c1)/\y.cell? ⟨g5,1,none⟩=some (.slice (some ⟨mb,mof,none⟩) n c2)/\y.cell? ⟨g5,2,none⟩=some (.slice (some ⟨nb,nof,none⟩) n c3)):=λy hy=>⟨CX.out y (zB HVX.out hy),CP.out y hy⟩
 have CR5:Hid (∀y,Below X5.heap.size X5 y->yE 3 y (.slice ca cn cc) cs):=λy hy=>CR.out y (zB HVX.out hy)
 clear CX CR CP
 go_upto_region 8 with fail
 go_cut [70] (λs70 w'=>s70= .bool false/\Hid (Below X5.heap.size X5 w'))
 case first=>
  obtain⟨ua,ub,un,uc,uk,uf,hu⟩:=HPS.out 0 hpn
  rw [HF.out] at hu
  obtain⟨bd,hbd⟩:∃b,b=S0.bad:=⟨_,rfl⟩
  have hst:=HST.out
  rw [<-hbd] at hu hst
  simp only [Nat.zero_mul,Nat.add_zero] at hu
  have HU:=qh hu
  have qD:=qh hst
  have uS:=qh hbd
  clear hu hst hbd
  have CC:Hid (∀y,Below X5.heap.size X5 y->(((y.cell? ⟨gc,0,none⟩=some (.int .i64 vars)/\y.cell? ⟨gc,1,none⟩=some (.int .i64 dom)/\y.cell? ⟨gc,2,none⟩=some (.slice ca cn cc))/\y.cell? ⟨gc+1,0,none⟩=some (.int .i64 mo)/\y.cell? ⟨gc+1,1,none⟩=some (.int .i64 bo))/\y.cell? ⟨g5,0,none⟩=some (.slice (some ⟨sb,so,none⟩) n c1)/\y.cell? ⟨g5,1,none⟩=some (.slice (some ⟨mb,mof,none⟩) n c2)/\y.cell? ⟨g5,2,none⟩=some (.slice (some ⟨nb,nof,none⟩) n c3))/\y.cell? ⟨sb,so,none⟩=some (.slice ua un uc)/\y.cell? ⟨sb,so+1,none⟩=some (.slice ub uk uf)/\y.cell? ⟨sb,so+2,none⟩=some (.bool bd)):=λy hy=>⟨C0.out y hy,(HU.out y hy).1,(HU.out y hy).2.1,(HU.out y hy).2.2.1⟩
  refine qM (S:=λx=>Below X5.heap.size X5 x) ((Below.refl _ _).drew) (λhH=> ?_)
  refine zl 0 CC.out ?_
  refine zl 1 CC.out ?_
  refine zl 2 CC.out ?_
  refine zl 3 CC.out ?_
  refine zl 4 CC.out ?_
  refine zl 5 CC.out ?_
  refine zl 6 CC.out ?_
  refine zl 7 CC.out ?_
  refine zl 8 CC.out ?_
  refine zl 9 CC.out ?_
  refine zl 10 CC.out ?_
  refine zl 11 CC.out ?_
  refine zl 12 CC.out ?_
  refine zl 13 CC.out ?_
  refine zl 14 CC.out ?_
  refine zl 15 CC.out ?_
  refine zl 16 CC.out ?_
  refine zl 17 CC.out ?_
  refine zl 18 CC.out ?_
  refine zl 19 CC.out ?_
  refine zl 20 CC.out ?_
  refine zl 21 CC.out ?_
  refine zl 22 CC.out ?_
  refine zl 23 CC.out ?_
  refine zl 24 CC.out ?_
  refine zl 25 CC.out ?_
  refine zl 26 CC.out ?_
  refine zl 27 CC.out ?_
  refine yx 28 rfl (λK hK=> ?_)
  go_simp
  refine(qD.out X5.drew (CR5.out _ hH)).mono ?_
  rintro e zjo ⟨⟨va,vb,vn,vc,vk,vf,rfl,hv⟩,hb⟩
  have HV8:=qh hv
  clear hv
  have zkG:Below X5.heap.size X5 zjo:=zB hH hb
  refine hK.out _ _ zkG (λ_=> ?_)
  clear hK K hb hH
  refine yx 29 rfl (λK hK=> ?_)
  go_simp
  refine(zfD zjo S0 S0 bd bd uS.out uS.out _ _ _ _ _ _ _ _ _ _ _ _ (HU.out _ zkG).2.2.2 HV8.out).mono ?_
  rintro e zm1 ⟨rfl,hb⟩
  simp only [decide_true]
  have zx2:Below X5.heap.size X5 zm1:=zB zkG hb
  refine hK.out _ _ zx2 (λ_=> ?_)
  clear hK K hb zkG
  refine zl 30 CC.out ?_
  refine zl 31 CC.out ?_
  refine xE ?_
  go_wp2_with fail
  go_meet
  case rel=>exact⟨rfl,zx2⟩
 case rest=>
 obtain⟨rfl,HR8⟩:=hcut
 obtain⟨X8,rfl⟩:∃X:World,X=wc:=⟨_,rfl⟩
 obtain⟨⟨⟨z0,z1,z2⟩,x0,x1⟩,p0,p1,p2⟩:=C0.out X8 HR8.out
 go_upto_region 10 with fail
 go_cut [12] (λs12 w'=>(∃v:Int,s12= .int .i64 v/\0<=v/\v<n)/\w'=X8)
 case first=>
  have hnz:(n:Int)≠0:=by omega
  go_wp2_with fail
  go_meet
  case rel=>
  refine⟨⟨_,rfl, ?_, ?_⟩,rfl⟩
  ·first|exact Int.emod_nonneg _ (by omega)|exact Int.tmod_nonneg _ (by omega)
  first|exact Int.emod_lt_of_pos _ (by omega)|exact Int.tmod_lt_of_pos _ (by omega)
 case rest=>
 obtain⟨⟨v,rfl,hv0,gy⟩,hwv⟩:=hcut
 obtain rfl:X8=wc:=hwv.symm
 clear r0 r1 z0 z1 z2 x0 x1 p0 p1 p2
 obtain⟨i,rfl⟩:∃i:Nat,v=i:=⟨v.toNat,by omega⟩
 have hin:i<n:=by omega
 obtain⟨si,hsi⟩:∃s,s=S.states.getD i default:=⟨_,rfl⟩
 have hld:=HLD.out i hin
 have zv4:=HPS.out i hin
 have zv5:=HPM.out i hin
 have zv6:=HPX.out i hin
 have hbf:=HBF.out _ (qy (x:=default) (show i<S.states.length by rw [<-gI.out];exact hin))
 rw [<-hsi] at hld zv4 hbf
 obtain⟨ms,hms⟩:∃x,x=S.moves.getD i [] :=⟨_,rfl⟩
 obtain⟨nx,hnx⟩:∃x,x=S.next.getD i [] :=⟨_,rfl⟩
 rw [<-hms, <-hnx] at hld
 rw [<-hms] at zv5
 rw [<-hnx] at zv6
 clear hms hnx
 obtain⟨hl1,hl2,hl3⟩:=hld
 obtain⟨bi,hbi⟩:∃b,b=si.bad:=⟨_,rfl⟩
 rw [<-hbi] at zv4
 obtain⟨mn,hmn⟩:∃k,k=ms.length:=⟨_,rfl⟩
 rw [hl2, <-hmn] at zv6
 rw [<-hmn] at zv5 hl3
 obtain⟨ua,ub,un,uc,uk,uf,hu⟩:=zv4
 obtain⟨ka,kc,hk⟩:=zv5
 obtain⟨la,lc,hl⟩:=zv6
 have HU:=qh hu
 have HK:=qh hk
 have HL:=qh hl
 have HL3:=qh hl3
 have HLX:=qh (hl2.trans hmn.symm)
 have HBI:=qh hbi
 have vL:=qh hmn
 have zpw:=qh hbf
 have HSI:=qh hsi
 have zv7:=λy hy sv mv hs=>HMV.out y hy si hbf sv mv hs
 rw [<-hbi, <-hl1, <-hmn] at zv7
 have z6P:=qh zv7
 clear hu hk hl hl1 hl2 hl3 hbi hmn hbf hsi zv7 hv0
 have CU:Hid (∀y,Below X5.heap.size X5 y->(((y.cell? ⟨gc,0,none⟩=some (.int .i64 vars)/\y.cell? ⟨gc,1,none⟩=some (.int .i64 dom)/\y.cell? ⟨gc,2,none⟩=some (.slice ca cn cc))/\y.cell? ⟨gc+1,0,none⟩=some (.int .i64 mo)/\y.cell? ⟨gc+1,1,none⟩=some (.int .i64 bo))/\y.cell? ⟨g5,0,none⟩=some (.slice (some ⟨sb,so,none⟩) n c1)/\y.cell? ⟨g5,1,none⟩=some (.slice (some ⟨mb,mof,none⟩) n c2)/\y.cell? ⟨g5,2,none⟩=some (.slice (some ⟨nb,nof,none⟩) n c3))/\y.cell? ⟨sb,so+i*3,none⟩=some (.slice ua un uc)/\y.cell? ⟨sb,so+i*3+1,none⟩=some (.slice ub uk uf)/\y.cell? ⟨sb,so+i*3+2,none⟩=some (.bool bi)):=λy hy=>⟨C0.out y hy,(HU.out y hy).1,(HU.out y hy).2.1,(HU.out y hy).2.2.1⟩
 go_upto_region 11 with fail
 go_cut [13] (λs13 w'=>∃(va:Option Addr) (vc:Nat),s13= .slice va mn vc/\Hid (qV w' (.slice va mn vc) ms)/\Hid (Below X5.heap.size X5 w'))
 case first=>
  have CV:=qh (λy hy=>CU.out y (zB HR8.out hy))
  refine qM (S:=λx=>Below X8.heap.size X8 x) ((Below.refl _ _).drew) (λhI=> ?_)
  refine zl 0 CV.out ?_
  refine zl 1 CV.out ?_
  refine zl 2 CV.out ?_
  refine zl 3 CV.out ?_
  refine zl 4 CV.out ?_
  refine zl 5 CV.out ?_
  refine zl 6 CV.out ?_
  refine yx 7 rfl (λK hK=> ?_)
  go_simp
  refine(z6P.out X8.drew (CR5.out _ (zB HR8.out hI)) _ _ (HU.out _ (zB HR8.out hI)).2.2.2).mono ?_
  rintro e iw7 ⟨⟨va,vc,rfl,hv⟩,hb⟩
  have z6Q:=qh hv
  clear hv
  have z1R:Below X8.heap.size X8 iw7:=zB hI hb
  refine hK.out _ _ z1R (λ_=> ?_)
  clear hK K hb hI
  refine zl 8 CV.out ?_
  refine xE ?_
  go_wp2_with fail
  go_meet
  case rel=>exact⟨va,vc,rfl,z6Q.out,zB HR8.out z1R⟩
 case rest=>
 obtain⟨va,vc,rfl,HMS,zaT⟩:=hcut
 obtain⟨X11,rfl⟩:∃X:World,X=wc:=⟨_,rfl⟩
 clear HR8
 obtain⟨⟨-,p0,p1,p2⟩, -⟩:=CU.out X11 zaT.out
 obtain⟨k0,hk1⟩:=HK.out X11 zaT.out
 obtain⟨l0', -⟩:=HL.out X11 zaT.out
 have HKM:=qh hk1
 clear hk1
 go_upto_region 14 with(go_at_call 38;go_must(refine(zgK X11 _ _ ms HMS.out HKM.out).mono ?_);rintro e X12 ⟨rfl,hb⟩;(have zv8:=qh hb);clear p0 p1 p2 k0 l0';(obtain⟨⟨-,p0,p1,p2⟩, -⟩:=CU.out X12 (zB zaT.out hb));(obtain⟨k0, -⟩:=HK.out X12 (zB zaT.out hb));(obtain⟨l0', -⟩:=HL.out X12 (zB zaT.out hb));clear hb)
 have zv9:=qh (zB zaT.out zv8.out)
 have zvA:=qh (zh.below zaD.stays HMS.out zv8.out)
 clear p0 p1 p2 k0 l0' HKM HMS zaT zv8
 obtain⟨_,_, -,hm63⟩:=zh.slice zvA.out
 rw [<-vL.out] at hm63
 go_wp2_with fail
 go_loopg [14] mn (λgg s14 wr=>∃j:Nat,j<=mn/\Hid (gg=mn - j)/\s14= .int .i64 j/\Hid (Below X12.heap.size X12 wr))
 case atStart=>exact⟨0,Nat.zero_le _,rfl,rfl,Below.refl _ _⟩
 case round=>
 obtain⟨j,hj,HG,rfl,HJR⟩:=hrel
 obtain⟨X14,rfl⟩:∃X:World,X=wr:=⟨_,rfl⟩
 by_cases hlt:j<mn
 rotate_left
 ·obtain rfl:j=mn:=by omega
  have z1T:=qh (zB zv9.out HJR.out)
  clear zvA HL3 zv9 HJR
  obtain⟨⟨⟨z0,z1,z2⟩,x0,x1⟩,p0,p1,p2⟩:=C0.out X14 z1T.out
  go_wp2_with fail
  clear z0 z1 z2 x0 x1 p0 p1 p2
  go_loopg [18] n (λgg s18 wr=>∃j2:Nat,j2<=n/\Hid (gg=n - j2)/\s18= .int .i64 j2/\Hid (Below X14.heap.size X14 wr))
  case atStart=>exact⟨0,Nat.zero_le _,rfl,rfl,Below.refl _ _⟩
  case round=>
  obtain⟨j2,hj2,HG2,rfl,HQR⟩:=hrel
  obtain⟨X22,rfl⟩:∃X:World,X=wr:=⟨_,rfl⟩
  have zc7:=qh (zB z1T.out HQR.out)
  obtain⟨⟨⟨z0,z1,z2⟩,x0,x1⟩,p0,p1,p2⟩:=C0.out X22 zc7.out
  by_cases hlt2:j2<n
  rotate_left
  ·obtain rfl:j2=n:=by omega
   go_wp2_with fail
   go_ret
   exact⟨rfl,HBV.out.trans ((zB HVX.out zc7.out).mono HBV.out.size)⟩
  have zAk:(j2:Int)<(n:Int):=by omega
  obtain⟨wa,wb,wn,wc2,wk,wf,hu2⟩:=HPS.out j2 hlt2
  obtain⟨sj,hsj⟩:∃s,s=S.states.getD j2 default:=⟨_,rfl⟩
  rw [<-hsj] at hu2
  obtain⟨bj,hbj⟩:∃b,b=sj.bad:=⟨_,rfl⟩
  rw [<-hbj] at hu2
  have HU2:=qh hu2
  have HBJ:=qh hbj
  have HSJ:=qh hsj
  clear hu2 hbj hsj
  have CF:Hid (∀y,Below X22.heap.size X22 y->((((y.cell? ⟨gc,0,none⟩=some (.int .i64 vars)/\y.cell? ⟨gc,1,none⟩=some (.int .i64 dom)/\y.cell? ⟨gc,2,none⟩=some (.slice ca cn cc))/\y.cell? ⟨gc+1,0,none⟩=some (.int .i64 mo)/\y.cell? ⟨gc+1,1,none⟩=some (.int .i64 bo))/\y.cell? ⟨g5,0,none⟩=some (.slice (some ⟨sb,so,none⟩) n c1)/\y.cell? ⟨g5,1,none⟩=some (.slice (some ⟨mb,mof,none⟩) n c2)/\y.cell? ⟨g5,2,none⟩=some (.slice (some ⟨nb,nof,none⟩) n c3))/\y.cell? ⟨sb,so+j2*3,none⟩=some (.slice wa wn wc2)/\y.cell? ⟨sb,so+j2*3+1,none⟩=some (.slice wb wk wf)/\y.cell? ⟨sb,so+j2*3+2,none⟩=some (.bool bj))/\y.cell? ⟨sb,so+i*3,none⟩=some (.slice ua un uc)/\y.cell? ⟨sb,so+i*3+1,none⟩=some (.slice ub uk uf)/\y.cell? ⟨sb,so+i*3+2,none⟩=some (.bool bi)):=λy hy=>⟨⟨C0.out y (zB zc7.out hy),(HU2.out y (zB zc7.out hy)).1,(HU2.out y (zB zc7.out hy)).2.1,(HU2.out y (zB zc7.out hy)).2.2.1⟩,(HU.out y (zB zc7.out hy)).1,(HU.out y (zB zc7.out hy)).2.1,(HU.out y (zB zc7.out hy)).2.2.1⟩
  go_upto_region 24 with fail
  clear z0 z1 z2 x0 x1 p0 p1 p2
  go_cut [174] (λz6R w'=>z6R= .bool false/\Hid (Below X22.heap.size X22 w'))
  case first=>
   by_cases hji:j2=i
   ·subst hji
    have hjI:((j2:Int)==(j2:Int))=true:=by simp
    refine qM (S:=λx=>Below X22.heap.size X22 x) ((Below.refl _ _).drew) (λhM=> ?_)
    refine zl 0 CF.out ?_
    refine zl 1 CF.out ?_
    refine zl 2 CF.out ?_
    refine zl 3 CF.out ?_
    refine vR 4 (by assumption) ?_
    refine vR 5 (by assumption) ?_
    refine vR 6 (by assumption) ?_
    refine vR 7 (by assumption) ?_
    refine vR 8 (by assumption) ?_
    refine vR 9 (by assumption) ?_
    refine vR 10 (by assumption) ?_
    refine vR 11 (by assumption) ?_
    refine vR 12 (by assumption) ?_
    refine vR 13 (by assumption) ?_
    refine vR 14 (by assumption) ?_
    refine zl 15 CF.out ?_
    refine xE ?_
    go_wp2_with fail
    go_meet
    case rel=>exact⟨rfl,hM⟩
   have hjI:((j2:Int)==(i:Int))=false:=beq_eq_false_iff_ne.2 (by omega)
   have hjK:(j2==i)=false:=beq_eq_false_iff_ne.2 hji
   have hjL:decide (j2=i)=false:=decide_eq_false hji
   have hjM:decide ((j2:Int)=(i:Int))=false:=decide_eq_false (by omega)
   have hjN:(j2 !=i)=true:=bne_iff_ne.2 hji
   have hjO:((j2:Int) !=(i:Int))=true:=bne_iff_ne.2 (by omega)
   have hne:si≠sj:=λe=>hji (by
    have h1:=HSI.out
    have h2:=HSJ.out
    rw [h1,h2] at e
    have g1:j2<S.states.length:=by rw [<-gI.out];exact hlt2
    have g2:i<S.states.length:=by rw [<-gI.out];exact hin
    rw [List.getD_eq_getElem?_getD,List.getD_eq_getElem?_getD,List.getElem?_eq_getElem g1,List.getElem?_eq_getElem g2] at e
    exact((List.getElem_inj HAP.out).1 (by simpa using e)).symm)
   have wO:=qh hne
   clear hne
   refine qM (S:=λx=>Below X22.heap.size X22 x) ((Below.refl _ _).drew) (λhP=> ?_)
   refine zl 0 CF.out ?_
   refine zl 1 CF.out ?_
   refine zl 2 CF.out ?_
   refine zl 3 CF.out ?_
   refine zl 4 CF.out ?_
   refine zl 5 CF.out ?_
   refine zl 6 CF.out ?_
   refine zl 7 CF.out ?_
   refine zl 8 CF.out ?_
   refine zl 9 CF.out ?_
   refine zl 10 CF.out ?_
   refine zl 11 CF.out ?_
   refine zl 12 CF.out ?_
   refine zl 13 CF.out ?_
   refine yx 14 rfl (λK hK=> ?_)
   go_simp
   refine(zfD X22.drew si sj bi bj HBI.out HBJ.out _ _ _ _ _ _ _ _ _ _ _ _ (HU.out _ (zB zc7.out hP)).2.2.2 (HU2.out _ (zB zc7.out hP)).2.2.2).mono ?_
   rintro e z6S ⟨rfl,hb⟩
   rw [decide_eq_false wO.out]
   have zx3:Below X22.heap.size X22 z6S:=zB hP hb
   refine hK.out _ _ zx3 (λ_=> ?_)
   clear hK K hb hP
   refine zl 15 CF.out ?_
   refine xE ?_
   go_wp2_with fail
   go_meet
   case rel=>exact⟨rfl,zx3⟩
  case rest=>
  obtain⟨rfl,z6T⟩:=hcut
  obtain⟨X24,rfl⟩:∃X:World,X=wc:=⟨_,rfl⟩
  go_wp2_with fail
  go_roundg (n - (j2+1))
  case measure=>rw [HG2.out];omega
  case rel=>exact⟨j2+1,by omega,rfl,by simp,zB HQR.out z6T.out⟩
 have qG:(j:Int)<(mn:Int):=by omega
 obtain⟨eb,eo,zZ, -,f0,f1,f2⟩:=qV.part zvA.out j (by rw [<-vL.out];exact hlt)
 subst zZ
 obtain⟨t,ht,htx,hts⟩:=HL3.out j hlt
 obtain⟨x,hx⟩:∃x,x=ms.getD j default:=⟨_,rfl⟩
 rw [<-hx] at f0 f1 f2 hts
 obtain⟨T,hT⟩:∃T,T=DO si x:=⟨_,rfl⟩
 rw [<-hT] at hts
 obtain⟨bt,hbt⟩:∃b,b=T.bad:=⟨_,rfl⟩
 obtain⟨xk,xt,xv⟩:=x
 simp only [] at f0 f1 f2
 have hdo:=λy hy sv mv hs=>HDO.out y hy si zpw.out sv mv hs ⟨xk,xt,xv⟩
 rw [<-hT, <-HBI.out, <-hbt] at hdo
 dsimp only at hdo
 have z1V:=qh hdo
 have HTS:=qh hts
 have HTX:=qh htx
 have HBT:=qh hbt
 have HXJ:=qh (zB zv9.out HJR.out)
 clear hdo hts htx hbt hT hx
 have CD:Hid (∀y,Below X14.heap.size X14 y->((((y.cell? ⟨gc,0,none⟩=some (.int .i64 vars)/\y.cell? ⟨gc,1,none⟩=some (.int .i64 dom)/\y.cell? ⟨gc,2,none⟩=some (.slice ca cn cc))/\y.cell? ⟨gc+1,0,none⟩=some (.int .i64 mo)/\y.cell? ⟨gc+1,1,none⟩=some (.int .i64 bo))/\y.cell? ⟨g5,0,none⟩=some (.slice (some ⟨sb,so,none⟩) n c1)/\y.cell? ⟨g5,1,none⟩=some (.slice (some ⟨mb,mof,none⟩) n c2)/\y.cell? ⟨g5,2,none⟩=some (.slice (some ⟨nb,nof,none⟩) n c3))/\y.cell? ⟨sb,so+i*3,none⟩=some (.slice ua un uc)/\y.cell? ⟨sb,so+i*3+1,none⟩=some (.slice ub uk uf)/\y.cell? ⟨sb,so+i*3+2,none⟩=some (.bool bi))/\y.cell? ⟨eb,eo+j*3,none⟩=some (.int .i64 xk)/\y.cell? ⟨eb,eo+j*3+1,none⟩=some (.int .i64 xt)/\y.cell? ⟨eb,eo+j*3+2,none⟩=some (.int .i64 xv)):=λy hy=>⟨CU.out y (zB HXJ.out hy),zi (zB HJR.out hy) _ _ f0,zi (zB HJR.out hy) _ _ f1,zi (zB HJR.out hy) _ _ f2⟩
 clear f0 f1 f2
 go_upto_region 17 with fail
 go_cut [15,16] (λs15 s16 w'=>∃(g:Nat) (a b:Option Addr) (p e k f:Nat),s15= .pointer (some ⟨g,0,none⟩)/\Hid (w'.heap[g]? =some (.cells #[.slice a p e, .slice b k f, .bool bt] 30 (0,0)))/\Hid (zY w' T (.slice a p e) (.slice b k f))/\Hid (Below X14.heap.size X14 w'))
 case first=>
  refine qM (S:=λx=>Below X14.heap.size X14 x) (Below.refl _ _).drew (λ_=> ?_)
  obtain⟨V1,hV1⟩:∃V1,V1=X14.drew:=⟨_,rfl⟩
  have hT0:Hid (Below X14.heap.size X14 V1):=by rw [hV1];exact(Below.refl _ _).drew
  rw [<-hV1]
  clear hV1
  refine zH 0 CD.out (hT0.out) ?_
  refine zH 1 CD.out (hT0.out) ?_
  refine zH 2 zP (hT0.out) ?_
  refine zH 3 CD.out (hT0.out) ?_
  refine zH 4 zP (hT0.out) ?_
  refine zH 5 zP (hT0.out) ?_
  refine zH 6 CD.out (hT0.out) ?_
  refine zH 7 zP (hT0.out) ?_
  refine zH 8 zP (hT0.out) ?_
  refine zH 9 zP (hT0.out) ?_
  refine zH 10 CD.out (hT0.out) ?_
  refine wpAnyH_ready (rs:= [11,15]) (by kernel_rfl) (by simp) ?_
  refine AllReadyH.cons rfl (λK hK=> ?_) (AllReadyH.cons rfl (λK hK=> ?_) AllReadyH.nil)
  ·skip
   go_simp
   refine(z1V.out V1 (CR5.out _ (zB HXJ.out hT0.out)) _ _ (HU.out _ (zB HXJ.out hT0.out)).2.2.2).mono ?_
   rintro e Ya1 ⟨⟨da,db,dp,de,dk,df,der,rfl,hs⟩,hb⟩
   have z2W:=qh hs
   have zjr:=qh (zB hT0.out hb)
   clear hs hb
   refine hK.out _ _ zjr.out (λ_=> ?_)
   clear hK K
   refine zH 12 zP (zjr.out) ?_
   refine zH 13 zP (zjr.out) ?_
   refine zH 14 zP (zjr.out) ?_
   refine yx 15 rfl (λK hK=> ?_)
   go_simp
   have hz:=yt Ya1 (.cells #[.slice none 0 0, .slice none 0 0, .bool false] 30)
   have hb:=(Below.refl Ya1.heap.size Ya1).alloc (Nat.le_refl _) (.cells #[.slice none 0 0, .slice none 0 0, .bool false] 30)
   have HGL:Hid (X14.heap.size<=Ya1.heap.size):=(zjr.out).size
   have zx4:=qh (z2W.out.below hb)
   have zqd:=qh (zB zjr.out hb)
   clear hb
   refine hK.out _ _ zqd.out (λ_=> ?_)
   obtain⟨gs,hgs⟩:∃g,g=Ya1.heap.size:=⟨_,rfl⟩
   rw [<-hgs] at hz HGL ⊢
   clear hgs
   generalize World.alloc Ya1 _=Ya3 at hz zx4 zqd ⊢
   have zdb:=qh hz
   clear hz
   clear hK K
   refine yx 16 rfl (λK hK=> ?_)
   have d0:=ze zdb.out 0
   have d1:=ze zdb.out 1
   have d2:=ze zdb.out 2
   have f0:=zD zdb.out 0
   have f1:=zD zdb.out 1
   have f2:=zD zdb.out 2
   have HZ2:=qh (vo (cs:= [.slice none 0 0, .slice none 0 0, .bool false]) [.slice da dp de, .slice db dk df, .bool bt] rfl zdb.out)
   have hsi:=qg (g:=gs) [.slice da dp de, .slice db dk df, .bool bt] Ya3 0
   have HS3:=qh (zcA zx4.out zdb.out hsi)
   have bG:Hid (Below X14.heap.size X14 (yG Ya3 gs 0 [.slice da dp de, .slice db dk df, .bool bt])):=(zqd.out).trans (hsi.below (zqd.out).size (λk hk=>by have:=HGL.out;omega))
   clear hsi
   go_simp
   clear d0 d1 d2 f0 f1 f2
   refine hK.out _ (yG Ya3 gs 0 [.slice da dp de, .slice db dk df, .bool bt]) bG.out (λ_=> ?_)
   generalize yG Ya3 gs 0 _=Y4 at HZ2 HS3 bG ⊢
   clear hK K
   refine zH 17 zP (bG.out) ?_
   refine xE ?_
   go_wp2_with fail
   go_meet
   case rel=>exact⟨gs,da,db,dp,de,dk,df,rfl,HZ2.out,HS3.out,bG.out⟩
  skip
  go_simp
  have hz:=yt V1 (.cells #[.slice none 0 0, .slice none 0 0, .bool false] 30)
  have hb:=(Below.refl V1.heap.size V1).alloc (Nat.le_refl _) (.cells #[.slice none 0 0, .slice none 0 0, .bool false] 30)
  have HGL:Hid (X14.heap.size<=V1.heap.size):=(hT0.out).size
  have zm9:=qh (zB hT0.out hb)
  clear hb
  refine hK.out _ _ zm9.out (λ_=> ?_)
  obtain⟨gs,hgs⟩:∃g,g=V1.heap.size:=⟨_,rfl⟩
  rw [<-hgs] at hz HGL ⊢
  clear hgs
  generalize World.alloc V1 _=Ya5 at hz zm9 ⊢
  have zx6:=qh hz
  clear hz
  clear hK K
  refine yx 11 rfl (λK hK=> ?_)
  go_simp
  refine(z1V.out Ya5 (CR5.out _ (zB HXJ.out zm9.out)) _ _ (HU.out _ (zB HXJ.out zm9.out)).2.2.2).mono ?_
  rintro e Ya7 ⟨⟨da,db,dp,de,dk,df,der,rfl,hs⟩,hb⟩
  have zdc:=qh ((hb.block gs (zx zx6.out)).trans zx6.out)
  have z2X:=qh hs
  have zjs:=qh (zB zm9.out hb)
  clear hs hb
  refine hK.out _ _ zjs.out (λ_=> ?_)
  clear hK K
  refine zH 12 zP (zjs.out) ?_
  refine zH 13 zP (zjs.out) ?_
  refine zH 14 zP (zjs.out) ?_
  refine yx 16 rfl (λK hK=> ?_)
  have d0:=ze zdc.out 0
  have d1:=ze zdc.out 1
  have d2:=ze zdc.out 2
  have f0:=zD zdc.out 0
  have f1:=zD zdc.out 1
  have f2:=zD zdc.out 2
  have HZ2:=qh (vo (cs:= [.slice none 0 0, .slice none 0 0, .bool false]) [.slice da dp de, .slice db dk df, .bool bt] rfl zdc.out)
  have hsi:=qg (g:=gs) [.slice da dp de, .slice db dk df, .bool bt] Ya7 0
  have HS3:=qh (zcA z2X.out zdc.out hsi)
  have bG:Hid (Below X14.heap.size X14 (yG Ya7 gs 0 [.slice da dp de, .slice db dk df, .bool bt])):=(zjs.out).trans (hsi.below (zjs.out).size (λk hk=>by have:=HGL.out;omega))
  clear hsi
  go_simp
  clear d0 d1 d2 f0 f1 f2
  refine hK.out _ (yG Ya7 gs 0 [.slice da dp de, .slice db dk df, .bool bt]) bG.out (λ_=> ?_)
  generalize yG Ya7 gs 0 _=Y4 at HZ2 HS3 bG ⊢
  clear hK K
  refine zH 17 zP (bG.out) ?_
  refine xE ?_
  go_wp2_with fail
  go_meet
  case rel=>exact⟨gs,da,db,dp,de,dk,df,rfl,HZ2.out,HS3.out,bG.out⟩
 case rest=>
 obtain⟨gs,da,db,dp,de,dk,df,rfl,HZ2,HS3,bG⟩:=hcut
 obtain⟨X17,rfl⟩:∃X:World,X=wc:=⟨_,rfl⟩
 have zhw:=qh (zB HXJ.out bG.out)
 obtain⟨⟨-,p0,p1,p2⟩, -⟩:=CU.out X17 zhw.out
 obtain⟨l1,hl4⟩:=HL.out X17 zhw.out
 obtain⟨ib,io,hia, -,i0⟩:=xC.part hl4 j (by rw [HLX.out];exact hlt)
 subst hia
 rw [HTX.out] at i0
 clear hl4
 go_upto_region 19 with fail
 clear p0 p1 p2 l1 i0
 obtain⟨wa,wb,wn,wc2,wk,wf,hu2⟩:=HPS.out t ht
 rw [HTS.out, <-HBT.out] at hu2
 have HU2:=qh hu2
 clear hu2
 have htn:(t:Int)<(n:Int):=by omega
 have ht0:(0:Int)<=(t:Int):=by omega
 have hd2:decide ((t:Int)<0)=false:=decide_eq_false (by omega)
 have hd3:decide ((n:Int)<=(t:Int))=false:=decide_eq_false (by omega)
 have hd4:decide (n<=t)=false:=decide_eq_false (by omega)
 have CE:Hid (∀y,Below X17.heap.size X17 y->((((y.cell? ⟨gc,0,none⟩=some (.int .i64 vars)/\y.cell? ⟨gc,1,none⟩=some (.int .i64 dom)/\y.cell? ⟨gc,2,none⟩=some (.slice ca cn cc))/\y.cell? ⟨gc+1,0,none⟩=some (.int .i64 mo)/\y.cell? ⟨gc+1,1,none⟩=some (.int .i64 bo))/\y.cell? ⟨g5,0,none⟩=some (.slice (some ⟨sb,so,none⟩) n c1)/\y.cell? ⟨g5,1,none⟩=some (.slice (some ⟨mb,mof,none⟩) n c2)/\y.cell? ⟨g5,2,none⟩=some (.slice (some ⟨nb,nof,none⟩) n c3))/\y.cell? ⟨sb,so+t*3,none⟩=some (.slice wa wn wc2)/\y.cell? ⟨sb,so+t*3+1,none⟩=some (.slice wb wk wf)/\y.cell? ⟨sb,so+t*3+2,none⟩=some (.bool bt))/\y.cell? ⟨gs,0,none⟩=some (.slice da dp de)/\y.cell? ⟨gs,1,none⟩=some (.slice db dk df)/\y.cell? ⟨gs,2,none⟩=some (.bool bt)):=λy hy=>⟨⟨C0.out y (zB zhw.out hy),(HU2.out y (zB zhw.out hy)).1,(HU2.out y (zB zhw.out hy)).2.1,(HU2.out y (zB zhw.out hy)).2.2.1⟩,zi hy _ _ (ze HZ2.out 0),zi hy _ _ (ze HZ2.out 1),zi hy _ _ (ze HZ2.out 2)⟩
 go_cut [151] (λz6U w'=>z6U= .bool false/\Hid (Below X17.heap.size X17 w'))
 case first=>
  refine qM (S:=λx=>Below X17.heap.size X17 x) ((Below.refl _ _).drew) (λhL=> ?_)
  refine zl 0 CE.out ?_
  refine zl 1 CE.out ?_
  refine zl 2 CE.out ?_
  refine zl 3 CE.out ?_
  refine zl 4 CE.out ?_
  refine zl 5 CE.out ?_
  refine zl 6 CE.out ?_
  refine zl 7 CE.out ?_
  refine zl 8 CE.out ?_
  refine zl 9 CE.out ?_
  refine zl 10 CE.out ?_
  refine zl 11 CE.out ?_
  refine zl 12 CE.out ?_
  refine zl 13 CE.out ?_
  refine zl 14 CE.out ?_
  refine zl 15 CE.out ?_
  refine yx 16 rfl (λK hK=> ?_)
  go_simp
  refine(zfD X17.drew T T bt bt HBT.out HBT.out _ _ _ _ _ _ _ _ _ _ _ _ (HU2.out _ (zB zhw.out hL)).2.2.2 (HS3.out.below hL)).mono ?_
  rintro e z6V ⟨rfl,hb⟩
  simp only [decide_true]
  have zx8:Below X17.heap.size X17 z6V:=zB hL hb
  refine hK.out _ _ zx8 (λ_=> ?_)
  clear hK K hb hL
  refine zl 17 CE.out ?_
  refine zl 18 CE.out ?_
  refine xE ?_
  go_wp2_with fail
  go_meet
  case rel=>exact⟨rfl,zx8⟩
 case rest=>
 obtain⟨rfl,z6W⟩:=hcut
 obtain⟨X19,rfl⟩:∃X:World,X=wc:=⟨_,rfl⟩
 go_wp2_with fail
 go_roundg (mn - (j+1))
 case measure=>rw [HG.out];omega
 case rel=>exact⟨j+1,by omega,rfl,by simp,zB HJR.out (zB bG.out z6W.out)⟩
