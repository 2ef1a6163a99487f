/- Steps. -/
import Derived.Test.YteggflahafiieaaGreatDoorZgStepFlA
set_option linter.all false
namespace Go.Proofs.YteggflahafiieaaGreatDoor
open Go.RowKit
set_option maxRecDepth 100000
set_option maxHeartbeats 16000000
theorem zs3 (a b:List Int) {i n:Nat} (h:i<=n):qR a b i<=qR a b n:=by
 induction n with
 |zero=>
  obtain rfl:i=0:=by omega
  exact Nat.le_refl _
 |succ n ih=>
 rcases Nat.lt_or_ge i (n+1) with hi|hi
 ·have h1:=ih (by omega)
  have h2:qR a b n<=qR a b (n+1):=by
   show _<=qR a b n+_
   omega
  omega
 obtain rfl:i=n+1:=by omega
 exact Nat.le_refl _
theorem zs4 {a b:List Int} {v:Nat} (h:a.getD v 0=b.getD v 0):qR a b (v+1)=qR a b v:=by
 show qR a b v+(if a.getD v 0=b.getD v 0 then 0 else 1)=_
 rw [if_pos h];rfl
theorem zs5 {a b:List Int} {v:Nat} (h:¬a.getD v 0=b.getD v 0):qR a b (v+1)=qR a b v+1:=by
 show qR a b v+(if a.getD v 0=b.getD v 0 then 0 else 1)=_
 rw [if_neg h]
theorem zg4 (w:World) (sv:Value) (l0:List Int) (hn:vY w .u8 sv l0) (q:Int) (qw:(Lit.int .u8 q).wf=true) (wv:Value) (lw:List Int) (hw:vY w .u8 wv lw):
  Calls Tryz.prog 3 #[sv, .int .u8 q,wv] w λe w'=>e= .returned (.bool true)/\Below w.heap.size w w':=by
 obtain⟨q0,q1⟩:=u8_in qw
 have HN:=qh hn
 have HW:=qh hw
 obtain⟨sa,sc,rfl, -⟩:∃a c,sv= .slice a l0.length c/\True:=by obtain⟨a,c,h, -⟩:=hn;exact⟨a,c,h,trivial⟩
 obtain⟨wa,wc,rfl, -⟩:∃a c,wv= .slice a lw.length c/\True:=by obtain⟨a,c,h, -⟩:=hw;exact⟨a,c,h,trivial⟩
 generalize l0.length=ln0 at HN ⊢
 generalize lw.length=wn at HW ⊢
 clear hn hw qw
 go_enter Tryz.func3,Tryz.ntmps3
 go_upto_region 4 with(go_at_call 8;go_must(refine(zqw w).mono ?_);rintro en W0 ⟨rfl,hb⟩;(have HBA:=qh hb);clear hb)
 have HB0:Hid (Below w.heap.size w W0):=HBA.out
 have HLQ:Hid (0<=q/\q<=255):=⟨q0,q1⟩
 go_upto_region 5 with(first|(go_at_call 11;go_must(refine(zo2 W2 q HLQ.out.1 HLQ.out.2).mono ?_);rintro en W3 ⟨rfl,hb⟩;(have HB3:=qh (zB HB2.out hb));(have HC3:=qh (ze.below (xK.stays 3) HC2.out hb));clear hb;unfold xD)|(go_at_call 9;go_must(refine(HM4.out).mono ?_);rintro en W2 ⟨⟨c,ta,tc,css,rfl,hok,hrow⟩,hb⟩;(have vS:=qh hok);(have HC2:=qh hrow.slice);(have HB2:=qh (zB HB1.out hb));clear hrow hok hb HM4;unfold yT)|(go_at_call 10;go_must(refine(zrs W0).mono ?_);rintro en W1 ⟨⟨kv,rfl,hks⟩,hb⟩;(have HB1:=qh (zB HB0.out hb));(have HM4:=qh (zry W1 _ l0 (HN.out.below (zB HB0.out hb)) kv zda hks (by decide) (by decide) zuh));clear hks hb))
 have hmay:=zuA vS.out q q0
 have zkT:=qA vS.out
 obtain⟨m,hm⟩:∃m,m=zct q:=⟨_,rfl⟩
 have hmV:m.model=q % 3/\m.bound=1+q / 3 % 3:=by rw [hm];exact⟨rfl,rfl⟩
 rw [<-hm] at hmay
 obtain⟨C,hC⟩:∃C,C=c:=⟨_,rfl⟩
 obtain⟨M,hM⟩:∃M,M=m:=⟨_,rfl⟩
 rw [<-hM] at hmay
 rw [<-hC] at hmay zkT HC3
 obtain⟨vars,hvars⟩:∃v,v=C.vars:=⟨_,rfl⟩
 obtain⟨dom,hdom⟩:∃v,v=C.domain:=⟨_,rfl⟩
 obtain⟨mo,hmo⟩:∃v,v=M.model:=⟨_,rfl⟩
 obtain⟨bo,hbo⟩:∃v,v=M.bound:=⟨_,rfl⟩
 obtain⟨cn,hcn⟩:∃n,n=C.threads.length:=⟨_,rfl⟩
 have HCV:Hid (C.vars=vars/\C.domain=dom/\M.model=mo/\M.bound=bo):=⟨hvars.symm,hdom.symm,hmo.symm,hbo.symm⟩
 simp only [<-hC, <-hm, <-hM, <-hvars, <-hdom, <-hmo, <-hbo, <-hcn,show(zct q).model=mo by rw [hmo,hM,hm],show(zct q).bound=bo by rw [hbo,hM,hm]]
 have hc3:=HC3.out
 rw [<-hcn] at hc3 zkT
 have hB:=((Below.refl W3.heap.size W3).alloc (Nat.le_refl _) (.cells #[.int .i64 vars, .int .i64 dom, .slice ta cn tc] 26)).alloc (by simp) (.cells #[.int .i64 mo, .int .i64 bo] 31)
 have H1:=qh (xL W3 (.cells #[.int .i64 vars, .int .i64 dom, .slice ta cn tc] 26) (.cells #[.int .i64 mo, .int .i64 bo] 31))
 have H2:=qh (xE W3 (.cells #[.int .i64 vars, .int .i64 dom, .slice ta cn tc] 26) (.cells #[.int .i64 mo, .int .i64 bo] 31))
 have HC:=qh (ze.below (xK.stays 3) hc3 hB)
 have HB:=qh (zB HB3.out hB)
 have zgY:=qh hmay
 have HCN:=qh hcn
 have HLC:=qh zkT
 clear hB hmay hcn zkT hC hM hm hmV hc3 HC3 HC2 HB3 HB2 HB1 HB0 vS HN HLQ hvars hdom hmo hbo
 generalize World.alloc (World.alloc W3 _) _=V at HB H1 H2 HC ⊢
 generalize W3.heap.size=gx at H1 H2 ⊢
 have HW2:=qh (HW.out.below HB.out)
 clear HW
 have xJ:Hid (∀y,Below V.heap.size V y->y.cell? ⟨gx,0,none⟩=some (.int .i64 vars)/\y.cell? ⟨gx,1,none⟩=some (.int .i64 dom)/\y.cell? ⟨gx,2,none⟩=some (.slice ta cn tc)/\y.cell? ⟨gx+1,0,none⟩=some (.int .i64 mo)/\y.cell? ⟨gx+1,1,none⟩=some (.int .i64 bo)):=λy hy=>⟨zh hy _ _ (za H1.out 0),zh hy _ _ (za H1.out 1),zh hy _ _ (za H1.out 2),zh hy _ _ (za H2.out 0),zh hy _ _ (za H2.out 1)⟩
 have hmv:=λy hy s tv mv hs hb=>zg5 y C (.slice ta cn tc) 3 hy M s tv mv hs hb
 have hdo:=λy hy s tv mv hs hb k t v=>zpq y C (.slice ta cn tc) 3 hy M s tv mv hs hb ⟨k,t,v⟩
 have hwk:=zu6 V C (.slice ta cn tc) 3 HC.out M (.slice wa wn wc) lw HW2.out
 unfold yT xD at hmv hwk
 unfold yT xD zeo at hdo
 simp only [HCV.out.1,HCV.out.2.1,HCV.out.2.2.1,HCV.out.2.2.2] at hmv hdo
 rw [HCV.out.1,HCV.out.2.1,HCV.out.2.2.1,HCV.out.2.2.2] at hwk
 have HMV:=qh hmv
 have HDO:=qh hdo
 have HWK:=qh hwk
 clear hmv hdo hwk
 obtain⟨c0,c1,c2,e0,e1⟩:=xJ.out V (Below.refl _ _)
 go_upto_region 6 with(go_at_call 12;go_must(refine HWK.out.mono ?_);rintro en X1 ⟨⟨s,tv,yv,rfl,zgo,haw⟩,hb⟩;(have zzx:=qh haw.now);(have zwD:=qh zgo);(have HX1:=qh hb);(obtain⟨ra,rc,rfl, -⟩:=ze.slice haw.now.threads);(obtain⟨ma,mc,rfl, -⟩:=ze.slice haw.now.mem);clear hb haw zgo;unfold yR)
 clear c0 c1 c2 e0 e1
 obtain⟨rn,hrn⟩:∃n,n=s.threads.length:=⟨_,rfl⟩
 obtain⟨mn,hmn⟩:∃n,n=s.mem.length:=⟨_,rfl⟩
 obtain⟨bd,hbd⟩:∃b,b=s.bad:=⟨_,rfl⟩
 have zqx:=zzx.out
 rw [<-hrn, <-hmn] at zqx
 rw [<-hrn, <-hmn, <-hbd]
 have jr:=qh hrn
 have vW:=qh hmn
 have wN:=qh hbd
 have zAg:mn<=9223372036854775807:=by obtain⟨a,c,e,h⟩:=ze.slice zqx.mem;rw [hmn];exact h
 have hA:=(Below.refl X1.heap.size X1).alloc (Nat.le_refl _) (.cells #[.slice ra rn rc, .slice ma mn mc, .bool bd] 35)
 have HG:=qh (yE X1 (.cells #[.slice ra rn rc, .slice ma mn mc, .bool bd] 35))
 have HST:=qh (zqx.below hA)
 have HX2:=qh (zB HX1.out hA)
 clear hA zqx zzx HX1 HWK hrn hmn hbd
 generalize World.alloc X1 _=X2 at HG HST HX2 ⊢
 generalize X1.heap.size=gs at HG ⊢
 have hbuf:∀j,j<s.threads.length->(s.threads.getD j default).buf.length<=1000000:=λj hj=>by have:=zwD.out.zpX j hj;omega
 have zqy:=HMV.out X2 (ze.below (xK.stays 3) HC.out HX2.out) s _ _ HST.out hbuf
 unfold yR at zqy
 rw [<-wN.out] at zqy
 have zzy:=qh zqy
 have zau:=qh hbuf
 have uL:Hid (∀y,Below X2.heap.size X2 y->(y.cell? ⟨gx,0,none⟩=some (.int .i64 vars)/\y.cell? ⟨gx,1,none⟩=some (.int .i64 dom)/\y.cell? ⟨gx,2,none⟩=some (.slice ta cn tc)/\y.cell? ⟨gx+1,0,none⟩=some (.int .i64 mo)/\y.cell? ⟨gx+1,1,none⟩=some (.int .i64 bo))/\y.cell? ⟨gs,0,none⟩=some (.slice ra rn rc)/\y.cell? ⟨gs,1,none⟩=some (.slice ma mn mc)/\y.cell? ⟨gs,2,none⟩=some (.bool bd)):=λy hy=>
  ⟨xJ.out y (zB HX2.out hy),zh hy _ _ (za HG.out 0),zh hy _ _ (za HG.out 1),zh hy _ _ (za HG.out 2)⟩
 obtain⟨⟨c0,c1,c2,e0,e1⟩,b0,b1,b2⟩:=uL.out X2 (Below.refl _ _)
 clear zqy hbuf
 go_upto_region 7 with(go_at_call 13;go_must(refine zzy.out.mono ?_);rintro en Y ⟨⟨va,vc,rfl,hro⟩,hb⟩;(have HRO:=qh (zfh hro));(have HY:=qh hb);clear hro hb c0 c1 c2 e0 e1 b0 b1 b2)
 obtain⟨ms,hms⟩:∃ms,ms=qM C M s 3:=⟨_,rfl⟩
 have hro:=HRO.out
 rw [<-hms] at hro ⊢
 obtain⟨mq,hmq⟩:∃n,n=ms.length:=⟨_,rfl⟩
 rw [<-hmq] at hro ⊢
 have zu5:=qh hro
 have HMS:=qh hms
 have HMQ:=qh hmq
 have z5S:mq<=9223372036854775807:=by obtain⟨a,cap,e,h, -⟩:=hro;omega
 have HEB:Hid (∀y,Below Y.heap.size Y y->Below w.heap.size w y):=λy hy=>HB.out.trans ((zB HX2.out (zB HY.out hy)).mono HB.out.size)
 clear hms hro hmq HRO zzy HB xJ H1 H2 HMV
 go_wp2_with fail
 go_loopg [12] mq (λgg s12 wr=>∃i:Nat,i<=mq/\Hid (gg=mq - i)/\s12= .int .i64 i/\Hid (Below Y.heap.size Y wr))
 case atStart=>exact⟨0,Nat.zero_le _,rfl,rfl,Below.refl _ _⟩
 case round=>
 obtain⟨i,hi,HG2,rfl,zX⟩:=hrel
 obtain⟨wo,rfl⟩:∃wo:World,wo=wr:=⟨_,rfl⟩
 by_cases hlt:i<mq
 rotate_left
 ·obtain rfl:mq=i:=by omega
  have yt:=qh (HEB.out wo zX.out)
  go_wp2_with fail
  go_ret
  exact⟨rfl,yt.out⟩
 have qK:(i:Int)<(mq:Int):=by omega
 have yM:=qh (zB HY.out zX.out)
 obtain⟨mb,wW,hva, -,g0,g1,g2⟩:=uY.part (ze.below zgi.stays zu5.out zX.out) i (by rw [<-HMQ.out];exact hlt)
 subst hva
 have hmem:ms.getD i default∈ms:=qP (by rw [<-HMQ.out];exact hlt)
 generalize ms.getD i default=mx at g0 g1 g2 hmem
 rw [HMS.out] at hmem
 obtain⟨ix,zlW⟩:=zu9 hmem
 have zlX:=λy (hy:Below X2.heap.size X2 y)=>HDO.out y (ze.below (xK.stays 3) HC.out (zB HX2.out hy)) s _ _ (HST.out.below hy) zau.out mx.kind mx.thread mx.var
 have hok:=zu7 hmem
 unfold yR at zlX
 rw [<-wN.out] at zlX
 obtain⟨t,ht⟩:∃t,t=(ji C M s mx 3).1:=⟨_,rfl⟩
 have hdr:ji C M s ⟨mx.kind,mx.thread,mx.var⟩ 3=(t,0):=by rw [ht, <-hok]
 rw [hdr] at zlX
 rw [<-ht] at zlW
 have zqz:=qh zlX
 have zd1:=qh zlW
 have zat:=zlW.thread
 have HKD:=qh zlW.kind
 obtain⟨kd,th,vr⟩:=mx
 simp only [] at g0 g1 g2 zat zqz HKD
 subst zat
 have zgZ:Hid (∀y,Below wo.heap.size wo y->y.cell? ⟨gx,0,none⟩=some (.int .i64 vars)/\y.cell? ⟨gx,1,none⟩=some (.int .i64 dom)/\y.cell? ⟨gx,2,none⟩=some (.slice ta cn tc)/\y.cell? ⟨gx+1,0,none⟩=some (.int .i64 mo)/\y.cell? ⟨gx+1,1,none⟩=some (.int .i64 bo)/\y.cell? ⟨gs,0,none⟩=some (.slice ra rn rc)/\y.cell? ⟨gs,1,none⟩=some (.slice ma mn mc)/\y.cell? ⟨gs,2,none⟩=some (.bool bd)/\
   y.cell? ⟨mb,wW+i*3,none⟩=some (.int .i64 kd)/\y.cell? ⟨mb,wW+i*3+1,none⟩=some (.int .i64 (ix:Int))/\y.cell? ⟨mb,wW+i*3+2,none⟩=some (.int .i64 vr)):=λy hy=>by
  obtain⟨⟨p0,p1,p2,p3,p4⟩,p5,p6,p7⟩:=uL.out y (zB yM.out hy)
  exact⟨p0,p1,p2,p3,p4,p5,p6,p7,zh hy _ _ g0,zh hy _ _ g1,zh hy _ _ g2⟩
 clear zlX hmem ht zlW hdr hok g0 g1 g2
 go_upto_region 10 with fail
 go_cut [13,14] (λs13 s14 w'=>∃(g:Nat) (a b:Option Addr) (n c k f:Nat),s13= .pointer (some ⟨g,0,none⟩)/\s14= .int .i64 0/\Hid (w'.heap[g]? =some (.cells #[.slice a n c, .slice b k f, .bool t.bad] 35 (0,0)))/\Hid (yh w' t (.slice a n c) (.slice b k f))/\Hid (Below wo.heap.size wo w'))
 case first=>
  refine wp_region_noPanic ?_
  refine wp_region_held_drew (S:=λx=>Below wo.heap.size wo x) (by as_aux_lemma=>kernel_rfl) (Below.refl _ _).drew (λ_=> ?_)
  obtain⟨V1a,hV1⟩:∃V1,V1=wo.drew:=⟨_,rfl⟩
  have zav:Hid (Below wo.heap.size wo V1a):=by rw [hV1];exact(Below.refl _ _).drew
  rw [<-hV1]
  clear hV1
  refine wpAnyH_take (i:=0) (v:= ?zAE) rfl (by as_aux_lemma=>kernel_rfl) (by as_aux_lemma=>kernel_rfl) (by as_aux_lemma=>kernel_rfl) (λ_ _ _ h=>h) (Or.inl ⟨by rfl, ?z1I⟩) (zav.out) ?_
  case z1I=>(intro x h;have e:=zgZ.out x h;go_simp<;>rfl)
  change wpAnyH _ _ _ _ _ _ _ (Act.put _ (some 44) _) _
  simp only [Act.put,zQ]
  try simp only [zR,zS]
  refine wpAnyH_take (i:=1) (v:= ?zAF) rfl (by as_aux_lemma=>kernel_rfl) (by as_aux_lemma=>kernel_rfl) (by as_aux_lemma=>kernel_rfl) (λ_ _ _ h=>h) (Or.inl ⟨by rfl, ?z1J⟩) (zav.out) ?_
  case z1J=>(intro x h;have e:=zgZ.out x h;go_simp<;>rfl)
  change wpAnyH _ _ _ _ _ _ _ (Act.put _ (some 45) _) _
  simp only [Act.put,zQ]
  try simp only [zR,zS]
  refine wpAnyH_take (i:=2) (v:= ?zAG) rfl (by as_aux_lemma=>kernel_rfl) (by as_aux_lemma=>kernel_rfl) (by as_aux_lemma=>kernel_rfl) (λ_ _ _ h=>h) (Or.inl ⟨by rfl, ?z1K⟩) (zav.out) ?_
  case z1K=>(intro x h;have e:=zgZ.out x h;go_simp<;>rfl)
  change wpAnyH _ _ _ _ _ _ _ (Act.put _ (some 46) _) _
  simp only [Act.put,zQ]
  try simp only [zR,zS]
  refine wpAnyH_take (i:=3) (v:= ?zAH) rfl (by as_aux_lemma=>kernel_rfl) (by as_aux_lemma=>kernel_rfl) (by as_aux_lemma=>kernel_rfl) (λ_ _ _ h=>h) (Or.inl ⟨by rfl, ?z1L⟩) (zav.out) ?_
  case z1L=>(intro _ _;go_simp<;>rfl)
  change wpAnyH _ _ _ _ _ _ _ (Act.put _ (some 47) _) _
  simp only [Act.put,zQ]
  try simp only [zR,zS]
  refine wpAnyH_take (i:=4) (v:= ?zAI) rfl (by as_aux_lemma=>kernel_rfl) (by as_aux_lemma=>kernel_rfl) (by as_aux_lemma=>kernel_rfl) (λ_ _ _ h=>h) (Or.inl ⟨by rfl, ?z1M⟩) (zav.out) ?_
  case z1M=>(intro _ _;go_simp<;>rfl)
  change wpAnyH _ _ _ _ _ _ _ (Act.put _ (some 48) _) _
  simp only [Act.put,zQ]
  try simp only [zR,zS]
  refine wpAnyH_take (i:=5) (v:= ?zAJ) rfl (by as_aux_lemma=>kernel_rfl) (by as_aux_lemma=>kernel_rfl) (by as_aux_lemma=>kernel_rfl) (λ_ _ _ h=>h) (Or.inl ⟨by rfl, ?z1N⟩) (zav.out) ?_
  case z1N=>(intro _ _;go_simp<;>rfl)
  change wpAnyH _ _ _ _ _ _ _ (Act.put _ (some 49) _) _
  simp only [Act.put,zQ]
  try simp only [zR,zS]
  refine wpAnyH_take (i:=6) (v:= ?zAK) rfl (by as_aux_lemma=>kernel_rfl) (by as_aux_lemma=>kernel_rfl) (by as_aux_lemma=>kernel_rfl) (λ_ _ _ h=>h) (Or.inl ⟨by rfl, ?z1O⟩) (zav.out) ?_
  case z1O=>(intro x h;have e:=zgZ.out x h;go_simp<;>rfl)
  change wpAnyH _ _ _ _ _ _ _ (Act.put _ (some 50) _) _
  simp only [Act.put,zQ]
  try simp only [zR,zS]
  refine wpAnyH_ready (rs:= [7,11]) (by as_aux_lemma=>kernel_rfl) (by simp) ?_
  refine AllReadyH.cons rfl (λK hK=> ?_) (AllReadyH.cons rfl (λK hK=> ?_) AllReadyH.nil)
  ·skip
   go_simp
   refine(zqz.out V1a (zB yM.out zav.out)).mono ?_
   rintro e Ya1 ⟨hb,pa1,pn1,pc1,pb1,pm1,pf1,rfl,hfo⟩
   have hs:=hfo.now (HST.out.below (zB yM.out zav.out))
   clear hfo
   have z1P:=qh hs
   have zaw:=qh (zB zav.out hb)
   clear hs hb
   refine hK.out _ _ zaw.out (λ_=> ?_)
   clear hK K
   refine wpAnyH_take (i:=8) (v:= ?zAL) rfl (by as_aux_lemma=>kernel_rfl) (by as_aux_lemma=>kernel_rfl) (by as_aux_lemma=>kernel_rfl) (λ_ _ _ h=>h) (Or.inl ⟨by rfl, ?z1Q⟩) (zaw.out) ?_
   case z1Q=>(intro _ _;go_simp<;>rfl)
   change wpAnyH _ _ _ _ _ _ _ (Act.put _ (some 43) _) _
   simp only [Act.put,zQ]
   try simp only [zR,zS]
   refine wpAnyH_take (i:=9) (v:= ?zAM) rfl (by as_aux_lemma=>kernel_rfl) (by as_aux_lemma=>kernel_rfl) (by as_aux_lemma=>kernel_rfl) (λ_ _ _ h=>h) (Or.inl ⟨by rfl, ?z1R⟩) (zaw.out) ?_
   case z1R=>(intro _ _;go_simp<;>rfl)
   change wpAnyH _ _ _ _ _ _ _ (Act.put _ (some 52) _) _
   simp only [Act.put,zQ]
   try simp only [zR,zS]
   refine wpAnyH_take (i:=10) (v:= ?zAN) rfl (by as_aux_lemma=>kernel_rfl) (by as_aux_lemma=>kernel_rfl) (by as_aux_lemma=>kernel_rfl) (λ_ _ _ h=>h) (Or.inl ⟨by rfl, ?z1S⟩) (zaw.out) ?_
   case z1S=>(intro _ _;go_simp<;>rfl)
   change wpAnyH _ _ _ _ _ _ _ (Act.put _ (some 53) _) _
   simp only [Act.put,zQ]
   try simp only [zR,zS]
   refine wpAnyH_ready (rs:= [11]) (by as_aux_lemma=>kernel_rfl) (by simp) ?_
   refine AllReadyH.cons rfl (λK hK=> ?_) AllReadyH.nil
   go_simp
   have hz:=yE Ya1 (.cells #[.slice none 0 0, .slice none 0 0, .bool false] 35)
   have hb:=(Below.refl Ya1.heap.size Ya1).alloc (Nat.le_refl _) (.cells #[.slice none 0 0, .slice none 0 0, .bool false] 35)
   have pF:Hid (wo.heap.size<=Ya1.heap.size):=(zaw.out).size
   have zwE:=qh (z1P.out.below hb)
   have zbc:=qh (zB zaw.out hb)
   clear hb
   refine hK.out _ _ zbc.out (λ_=> ?_)
   obtain⟨gsa,hgs⟩:∃g,g=Ya1.heap.size:=⟨_,rfl⟩
   rw [<-hgs] at hz pF ⊢
   clear hgs
   generalize World.alloc Ya1 _=Ya3 at hz zwE zbc ⊢
   have zb3:=qh hz
   clear hz
   clear hK K
   refine wpAnyH_ready (rs:= [12]) (by as_aux_lemma=>kernel_rfl) (by simp) ?_
   refine AllReadyH.cons rfl (λK hK=> ?_) AllReadyH.nil
   have d0:=za zb3.out 0
   have d1:=za zb3.out 1
   have d2:=za zb3.out 2
   have f0:=zw zb3.out 0
   have f1:=zw zb3.out 1
   have f2:=zw zb3.out 2
   have zlY:=qh (xS (cs:= [.slice none 0 0, .slice none 0 0, .bool false]) [.slice pa1 pn1 pc1, .slice pb1 pm1 pf1, .bool t.bad] rfl zb3.out)
   have hsi:=yX (g:=gsa) [.slice pa1 pn1 pc1, .slice pb1 pm1 pf1, .bool t.bad] Ya3 0
   have zlZ:=qh (zal zwE.out zb3.out hsi)
   have zc8:Hid (Below wo.heap.size wo (zY Ya3 gsa 0 [.slice pa1 pn1 pc1, .slice pb1 pm1 pf1, .bool t.bad])):=(zbc.out).trans (hsi.below (zbc.out).size (λk hk=>by have:=pF.out;omega))
   clear hsi pF
   go_simp
   clear d0 d1 d2 f0 f1 f2
   refine hK.out _ (zY Ya3 gsa 0 [.slice pa1 pn1 pc1, .slice pb1 pm1 pf1, .bool t.bad]) zc8.out (λ_=> ?_)
   generalize zY Ya3 gsa 0 _=Y9a at zlY zlZ zc8 ⊢
   clear hK K
   refine wpAnyH_take (i:=13) (v:= ?zAO) rfl (by as_aux_lemma=>kernel_rfl) (by as_aux_lemma=>kernel_rfl) (by as_aux_lemma=>kernel_rfl) (λ_ _ _ h=>h) (Or.inl ⟨by rfl, ?z1T⟩) (zc8.out) ?_
   case z1T=>(intro _ _;go_simp<;>rfl)
   change wpAnyH _ _ _ _ _ _ _ (Act.put _ (some 14) _) _
   simp only [Act.put,zQ]
   try simp only [zR,zS]
   refine wpAnyH_done (by as_aux_lemma=>kernel_rfl) ?_ _
   refine NoPanic.normal ?_
   go_wp2_with fail
   go_meet
   case rel=>exact⟨gsa,pa1,pb1,pn1,pc1,pm1,pf1,rfl,rfl,zlY.out,zlZ.out,zc8.out⟩
  skip
  go_simp
  have hz:=yE V1a (.cells #[.slice none 0 0, .slice none 0 0, .bool false] 35)
  have hb:=(Below.refl V1a.heap.size V1a).alloc (Nat.le_refl _) (.cells #[.slice none 0 0, .slice none 0 0, .bool false] 35)
  have pF:Hid (wo.heap.size<=V1a.heap.size):=(zav.out).size
  have zbH:=qh (zB zav.out hb)
  clear hb
  refine hK.out _ _ zbH.out (λ_=> ?_)
  obtain⟨gsa,hgs⟩:∃g,g=V1a.heap.size:=⟨_,rfl⟩
  rw [<-hgs] at hz pF ⊢
  clear hgs
  generalize World.alloc V1a _=Ya5 at hz zbH ⊢
  have bQ:=qh hz
  clear hz
  clear hK K
  refine wpAnyH_ready (rs:= [7]) (by as_aux_lemma=>kernel_rfl) (by simp) ?_
  refine AllReadyH.cons rfl (λK hK=> ?_) AllReadyH.nil
  go_simp
  refine(zqz.out Ya5 (zB yM.out zbH.out)).mono ?_
  rintro e Ya7 ⟨hb,pa1,pn1,pc1,pb1,pm1,pf1,rfl,hfo⟩
  have hs:=hfo.now (HST.out.below (zB yM.out zbH.out))
  clear hfo
  have bR:=qh ((hb.block gsa (zq bQ.out)).trans bQ.out)
  have z1U:=qh hs
  have zbd:=qh (zB zbH.out hb)
  clear hs hb
  refine hK.out _ _ zbd.out (λ_=> ?_)
  clear hK K
  refine wpAnyH_take (i:=8) (v:= ?zAP) rfl (by as_aux_lemma=>kernel_rfl) (by as_aux_lemma=>kernel_rfl) (by as_aux_lemma=>kernel_rfl) (λ_ _ _ h=>h) (Or.inl ⟨by rfl, ?z1V⟩) (zbd.out) ?_
  case z1V=>(intro _ _;go_simp<;>rfl)
  change wpAnyH _ _ _ _ _ _ _ (Act.put _ (some 43) _) _
  simp only [Act.put,zQ]
  try simp only [zR,zS]
  refine wpAnyH_take (i:=9) (v:= ?zAQ) rfl (by as_aux_lemma=>kernel_rfl) (by as_aux_lemma=>kernel_rfl) (by as_aux_lemma=>kernel_rfl) (λ_ _ _ h=>h) (Or.inl ⟨by rfl, ?z1W⟩) (zbd.out) ?_
  case z1W=>(intro _ _;go_simp<;>rfl)
  change wpAnyH _ _ _ _ _ _ _ (Act.put _ (some 52) _) _
  simp only [Act.put,zQ]
  try simp only [zR,zS]
  refine wpAnyH_take (i:=10) (v:= ?zAR) rfl (by as_aux_lemma=>kernel_rfl) (by as_aux_lemma=>kernel_rfl) (by as_aux_lemma=>kernel_rfl) (λ_ _ _ h=>h) (Or.inl ⟨by rfl, ?z1X⟩) (zbd.out) ?_
  case z1X=>(intro _ _;go_simp<;>rfl)
  change wpAnyH _ _ _ _ _ _ _ (Act.put _ (some 53) _) _
  simp only [Act.put,zQ]
  try simp only [zR,zS]
  refine wpAnyH_ready (rs:= [12]) (by as_aux_lemma=>kernel_rfl) (by simp) ?_
  refine AllReadyH.cons rfl (λK hK=> ?_) AllReadyH.nil
  have d0:=za bR.out 0
  have d1:=za bR.out 1
  have d2:=za bR.out 2
  have f0:=zw bR.out 0
  have f1:=zw bR.out 1
  have f2:=zw bR.out 2
  have zlY:=qh (xS (cs:= [.slice none 0 0, .slice none 0 0, .bool false]) [.slice pa1 pn1 pc1, .slice pb1 pm1 pf1, .bool t.bad] rfl bR.out)
  have hsi:=yX (g:=gsa) [.slice pa1 pn1 pc1, .slice pb1 pm1 pf1, .bool t.bad] Ya7 0
  have zlZ:=qh (zal z1U.out bR.out hsi)
  have zc8:Hid (Below wo.heap.size wo (zY Ya7 gsa 0 [.slice pa1 pn1 pc1, .slice pb1 pm1 pf1, .bool t.bad])):=(zbd.out).trans (hsi.below (zbd.out).size (λk hk=>by have:=pF.out;omega))
  clear hsi pF
  go_simp
  clear d0 d1 d2 f0 f1 f2
  refine hK.out _ (zY Ya7 gsa 0 [.slice pa1 pn1 pc1, .slice pb1 pm1 pf1, .bool t.bad]) zc8.out (λ_=> ?_)
  generalize zY Ya7 gsa 0 _=Y9a at zlY zlZ zc8 ⊢
  clear hK K
  refine wpAnyH_take (i:=13) (v:= ?zAS) rfl (by as_aux_lemma=>kernel_rfl) (by as_aux_lemma=>kernel_rfl) (by as_aux_lemma=>kernel_rfl) (λ_ _ _ h=>h) (Or.inl ⟨by rfl, ?z1Y⟩) (zc8.out) ?_
  case z1Y=>(intro _ _;go_simp<;>rfl)
  change wpAnyH _ _ _ _ _ _ _ (Act.put _ (some 14) _) _
  simp only [Act.put,zQ]
  try simp only [zR,zS]
  refine wpAnyH_done (by as_aux_lemma=>kernel_rfl) ?_ _
  refine NoPanic.normal ?_
  go_wp2_with fail
  go_meet
  case rel=>exact⟨gsa,pa1,pb1,pn1,pc1,pm1,pf1,rfl,rfl,zlY.out,zlZ.out,zc8.out⟩
 case rest=>
 obtain⟨gt,xa,ya,xn,xc,yn,yc,rfl,rfl,HGT,HTS,bE⟩:=hcut
 obtain⟨U,rfl⟩:∃Y:World,Y=wc:=⟨_,rfl⟩
 obtain⟨tb,htb⟩:∃b,b=t.bad:=⟨_,rfl⟩
 rw [<-htb] at HGT
 have HTB:=qh htb
 have hxn:t.threads.length=xn:=by obtain⟨a,c,e, -⟩:=ze.slice HTS.out.threads;cases e;rfl
 have hyn:t.mem.length=yn:=by obtain⟨a,c,e, -⟩:=ze.slice HTS.out.mem;cases e;rfl
 have hxl:rn=xn:=by rw [<-hxn,zd1.out.len];exact jr.out
 have hyl:mn=yn:=by rw [<-hyn,zd1.out.zyP];exact vW.out
 subst hxl
 subst hyl
 have HXN:=qh hxn
 have HYN:=qh hyn
 have vN:Hid (∀y,Below U.heap.size U y->y.cell? ⟨gx,2,none⟩=some (.slice ta cn tc)/\y.cell? ⟨gx+1,0,none⟩=some (.int .i64 mo)/\y.cell? ⟨gs,0,none⟩=some (.slice ra rn rc)/\y.cell? ⟨gs,1,none⟩=some (.slice ma mn mc)/\y.cell? ⟨gs,2,none⟩=some (.bool bd)/\
   y.cell? ⟨mb,wW+i*3,none⟩=some (.int .i64 kd)/\y.cell? ⟨mb,wW+i*3+1,none⟩=some (.int .i64 (ix:Int))/\y.cell? ⟨gt,0,none⟩=some (.slice xa rn xc)/\y.cell? ⟨gt,1,none⟩=some (.slice ya mn yc)/\y.cell? ⟨gt,2,none⟩=some (.bool tb)):=λy hy=>by
  obtain⟨-, -,p2,p3, -,p5,p6,p7,p8,p9, -⟩:=zgZ.out y (zB bE.out hy)
  exact⟨p2,p3,p5,p6,p7,p8,p9,zh hy _ _ (za HGT.out 0),zh hy _ _ (za HGT.out 1),zh hy _ _ (za HGT.out 2)⟩
 clear htb hxn hyn zgZ zqz HGT
 have hix:ix<rn:=by have:=zd1.out.lt;rw [<-jr.out] at this;exact this
 have zz0:(ix:Int)<(rn:Int):=by omega
 have z0:decide ((ix:Int)<0)=false:=decide_eq_false (by omega)
 have z1:decide ((rn:Int)<=(ix:Int))=false:=decide_eq_false (by omega)
 have z2:decide (rn<=ix)=false:=decide_eq_false (by omega)
 have ne1:((rn:Int) !=rn)=false:=by simp
 have ne2:((mn:Int) !=mn)=false:=by simp
 go_upto_region 11 with fail
 refine wp_region_noPanic ?_
 refine wp_region_held_drew (S:=λx=>Below U.heap.size U x) (by as_aux_lemma=>kernel_rfl) ((Below.refl _ _).drew) (λhkH=> ?_)
 refine wpAnyH_take (i:=0) (v:= ?vk1) rfl (by as_aux_lemma=>kernel_rfl) (by as_aux_lemma=>kernel_rfl) (by as_aux_lemma=>kernel_rfl) (λ_ _ _ h=>h) (Or.inl ⟨by rfl, ?z6i⟩) (by assumption) ?_
 case z6i=>(intro x h;have e:=vN.out x h;go_simp<;>rfl)
 change wpAnyH _ _ _ _ _ _ _ (Act.put _ (some 54) _) _
 simp only [Act.put,zQ,zR,zS]
 refine wpAnyH_take (i:=1) (v:= ?vk2) rfl (by as_aux_lemma=>kernel_rfl) (by as_aux_lemma=>kernel_rfl) (by as_aux_lemma=>kernel_rfl) (λ_ _ _ h=>h) (Or.inl ⟨by rfl, ?z6j⟩) (by assumption) ?_
 case z6j=>(intro x h;have e:=vN.out x h;go_simp<;>rfl)
 change wpAnyH _ _ _ _ _ _ _ (Act.put _ (some 55) _) _
 simp only [Act.put,zQ,zR,zS]
 refine wpAnyH_take (i:=2) (v:= ?vk3) rfl (by as_aux_lemma=>kernel_rfl) (by as_aux_lemma=>kernel_rfl) (by as_aux_lemma=>kernel_rfl) (λ_ _ _ h=>h) (Or.inl ⟨by rfl, ?z6k⟩) (by assumption) ?_
 case z6k=>(intro x h;have e:=vN.out x h;go_simp<;>rfl)
 change wpAnyH _ _ _ _ _ _ _ (Act.put _ (some 56) _) _
 simp only [Act.put,zQ,zR,zS]
 refine wpAnyH_take (i:=3) (v:= ?vk4) rfl (by as_aux_lemma=>kernel_rfl) (by as_aux_lemma=>kernel_rfl) (by as_aux_lemma=>kernel_rfl) (λ_ _ _ h=>h) (Or.inl ⟨by rfl, ?z6l⟩) (by assumption) ?_
 case z6l=>(intro x h;have e:=vN.out x h;go_simp<;>rfl)
 change wpAnyH _ _ _ _ _ _ _ (Act.put _ (some 57) _) _
 simp only [Act.put,zQ,zR,zS]
 refine wpAnyH_take (i:=4) (v:= ?vk5) rfl (by as_aux_lemma=>kernel_rfl) (by as_aux_lemma=>kernel_rfl) (by as_aux_lemma=>kernel_rfl) (λ_ _ _ h=>h) (Or.inl ⟨by rfl, ?z6m⟩) (by assumption) ?_
 case z6m=>(intro x h;have e:=vN.out x h;go_simp<;>rfl)
 change wpAnyH _ _ _ _ _ _ _ (Act.put _ (some 58) _) _
 simp only [Act.put,zQ,zR,zS]
 refine wpAnyH_take (i:=5) (v:= ?vk6) rfl (by as_aux_lemma=>kernel_rfl) (by as_aux_lemma=>kernel_rfl) (by as_aux_lemma=>kernel_rfl) (λ_ _ _ h=>h) (Or.inl ⟨by rfl, ?z6n⟩) (by assumption) ?_
 case z6n=>(intro x h;have e:=vN.out x h;go_simp<;>rfl)
 change wpAnyH _ _ _ _ _ _ _ (Act.put _ (some 59) _) _
 simp only [Act.put,zQ,zR,zS]
 refine wpAnyH_take (i:=6) (v:= ?vk7) rfl (by as_aux_lemma=>kernel_rfl) (by as_aux_lemma=>kernel_rfl) (by as_aux_lemma=>kernel_rfl) (λ_ _ _ h=>h) (Or.inl ⟨by rfl, ?z6o⟩) (by assumption) ?_
 case z6o=>(intro x h;have e:=vN.out x h;go_simp<;>rfl)
 change wpAnyH _ _ _ _ _ _ _ (Act.put _ (some 60) _) _
 simp only [Act.put,zQ,zR,zS]
 refine wpAnyH_take (i:=7) (v:= ?vk8) rfl (by as_aux_lemma=>kernel_rfl) (by as_aux_lemma=>kernel_rfl) (by as_aux_lemma=>kernel_rfl) (λ_ _ _ h=>h) (Or.inl ⟨by rfl, ?z6p⟩) (by assumption) ?_
 case z6p=>(intro x h;have e:=vN.out x h;go_simp<;>rfl)
 change wpAnyH _ _ _ _ _ _ _ (Act.put _ (some 61) _) _
 simp only [Act.put,zQ,zR,zS]
 refine wpAnyH_take (i:=8) (v:= ?vk9) rfl (by as_aux_lemma=>kernel_rfl) (by as_aux_lemma=>kernel_rfl) (by as_aux_lemma=>kernel_rfl) (λ_ _ _ h=>h) (Or.inl ⟨by rfl, ?z6q⟩) (by assumption) ?_
 case z6q=>(intro x h;have e:=vN.out x h;go_simp<;>rfl)
 change wpAnyH _ _ _ _ _ _ _ (Act.put _ (some 62) _) _
 simp only [Act.put,zQ,zR,zS]
 refine wpAnyH_take (i:=9) (v:= ?zAT) rfl (by as_aux_lemma=>kernel_rfl) (by as_aux_lemma=>kernel_rfl) (by as_aux_lemma=>kernel_rfl) (λ_ _ _ h=>h) (Or.inl ⟨by rfl, ?z1Z⟩) (by assumption) ?_
 case z1Z=>(intro x h;have e:=vN.out x h;go_simp<;>rfl)
 change wpAnyH _ _ _ _ _ _ _ (Act.put _ (some 63) _) _
 simp only [Act.put,zQ,zR,zS]
 refine wpAnyH_take (i:=10) (v:= ?zAU) rfl (by as_aux_lemma=>kernel_rfl) (by as_aux_lemma=>kernel_rfl) (by as_aux_lemma=>kernel_rfl) (λ_ _ _ h=>h) (Or.inl ⟨by rfl, ?z2a⟩) (by assumption) ?_
 case z2a=>(intro x h;have e:=vN.out x h;go_simp<;>rfl)
 change wpAnyH _ _ _ _ _ _ _ (Act.put _ (some 64) _) _
 simp only [Act.put,zQ,zR,zS]
 refine wpAnyH_take (i:=11) (v:= ?zAV) rfl (by as_aux_lemma=>kernel_rfl) (by as_aux_lemma=>kernel_rfl) (by as_aux_lemma=>kernel_rfl) (λ_ _ _ h=>h) (Or.inl ⟨by rfl, ?z2c⟩) (by assumption) ?_
 case z2c=>(intro x h;have e:=vN.out x h;go_simp<;>rfl)
 change wpAnyH _ _ _ _ _ _ _ (Act.put _ (some 65) _) _
 simp only [Act.put,zQ,zR,zS]
 refine wpAnyH_take (i:=12) (v:= ?zAW) rfl (by as_aux_lemma=>kernel_rfl) (by as_aux_lemma=>kernel_rfl) (by as_aux_lemma=>kernel_rfl) (λ_ _ _ h=>h) (Or.inl ⟨by rfl, ?z2d⟩) (by assumption) ?_
 case z2d=>(intro x h;have e:=vN.out x h;go_simp<;>rfl)
 change wpAnyH _ _ _ _ _ _ _ (Act.put _ (some 66) _) _
 simp only [Act.put,zQ,zR,zS]
 refine wpAnyH_take (i:=13) (v:= ?zAX) rfl (by as_aux_lemma=>kernel_rfl) (by as_aux_lemma=>kernel_rfl) (by as_aux_lemma=>kernel_rfl) (λ_ _ _ h=>h) (Or.inl ⟨by rfl, ?z2e⟩) (by assumption) ?_
 case z2e=>(intro x h;have e:=vN.out x h;go_simp<;>rfl)
 change wpAnyH _ _ _ _ _ _ _ (Act.put _ (some 67) _) _
 simp only [Act.put,zQ,zR,zS]
 refine wpAnyH_take (i:=14) (v:= ?zAY) rfl (by as_aux_lemma=>kernel_rfl) (by as_aux_lemma=>kernel_rfl) (by as_aux_lemma=>kernel_rfl) (λ_ _ _ h=>h) (Or.inl ⟨by rfl, ?z2f⟩) (by assumption) ?_
 case z2f=>(intro x h;have e:=vN.out x h;go_simp<;>rfl)
 change wpAnyH _ _ _ _ _ _ _ (Act.put _ (some 68) _) _
 simp only [Act.put,zQ,zR,zS]
 refine wpAnyH_take (i:=15) (v:= ?zAZ) rfl (by as_aux_lemma=>kernel_rfl) (by as_aux_lemma=>kernel_rfl) (by as_aux_lemma=>kernel_rfl) (λ_ _ _ h=>h) (Or.inl ⟨by rfl, ?z2g⟩) (by assumption) ?_
 case z2g=>(intro x h;have e:=vN.out x h;go_simp<;>rfl)
 change wpAnyH _ _ _ _ _ _ _ (Act.put _ (some 69) _) _
 simp only [Act.put,zQ,zR,zS]
 refine wpAnyH_take (i:=16) (v:= ?zBa) rfl (by as_aux_lemma=>kernel_rfl) (by as_aux_lemma=>kernel_rfl) (by as_aux_lemma=>kernel_rfl) (λ_ _ _ h=>h) (Or.inl ⟨by rfl, ?z2h⟩) (by assumption) ?_
 case z2h=>(intro x h;have e:=vN.out x h;go_simp<;>rfl)
 change wpAnyH _ _ _ _ _ _ _ (Act.put _ (some 70) _) _
 simp only [Act.put,zQ,zR,zS]
 refine wpAnyH_take (i:=17) (v:= ?zBb) rfl (by as_aux_lemma=>kernel_rfl) (by as_aux_lemma=>kernel_rfl) (by as_aux_lemma=>kernel_rfl) (λ_ _ _ h=>h) (Or.inl ⟨by rfl, ?z2i⟩) (by assumption) ?_
 case z2i=>(intro x h;have e:=vN.out x h;go_simp<;>rfl)
 change wpAnyH _ _ _ _ _ _ _ (Act.put _ (some 71) _) _
 simp only [Act.put,zQ,zR,zS]
 refine wpAnyH_take (i:=18) (v:= ?zBc) rfl (by as_aux_lemma=>kernel_rfl) (by as_aux_lemma=>kernel_rfl) (by as_aux_lemma=>kernel_rfl) (λ_ _ _ h=>h) (Or.inl ⟨by rfl, ?z2j⟩) (by assumption) ?_
 case z2j=>(intro x h;have e:=vN.out x h;go_simp<;>rfl)
 change wpAnyH _ _ _ _ _ _ _ (Act.put _ (some 72) _) _
 simp only [Act.put,zQ,zR,zS]
 refine wpAnyH_take (i:=19) (v:= ?zBd) rfl (by as_aux_lemma=>kernel_rfl) (by as_aux_lemma=>kernel_rfl) (by as_aux_lemma=>kernel_rfl) (λ_ _ _ h=>h) (Or.inl ⟨by rfl, ?z2k⟩) (by assumption) ?_
 case z2k=>(intro x h;have e:=vN.out x h;go_simp<;>rfl)
 change wpAnyH _ _ _ _ _ _ _ (Act.put _ (some 73) _) _
 simp only [Act.put,zQ,zR,zS]
 refine wpAnyH_take (i:=20) (v:= ?zBe) rfl (by as_aux_lemma=>kernel_rfl) (by as_aux_lemma=>kernel_rfl) (by as_aux_lemma=>kernel_rfl) (λ_ _ _ h=>h) (Or.inl ⟨by rfl, ?z2l⟩) (by assumption) ?_
 case z2l=>(intro x h;have e:=vN.out x h;go_simp<;>rfl)
 change wpAnyH _ _ _ _ _ _ _ (Act.put _ (some 74) _) _
 simp only [Act.put,zQ,zR,zS]
 refine wpAnyH_take (i:=21) (v:= ?zBf) rfl (by as_aux_lemma=>kernel_rfl) (by as_aux_lemma=>kernel_rfl) (by as_aux_lemma=>kernel_rfl) (λ_ _ _ h=>h) (Or.inl ⟨by rfl, ?z2m⟩) (by assumption) ?_
 case z2m=>(intro x h;have e:=vN.out x h;go_simp<;>rfl)
 change wpAnyH _ _ _ _ _ _ _ (Act.put _ (some 75) _) _
 simp only [Act.put,zQ,zR,zS]
 refine wpAnyH_take (i:=22) (v:= ?zBg) rfl (by as_aux_lemma=>kernel_rfl) (by as_aux_lemma=>kernel_rfl) (by as_aux_lemma=>kernel_rfl) (λ_ _ _ h=>h) (Or.inl ⟨by rfl, ?z2n⟩) (by assumption) ?_
 case z2n=>(intro x h;have e:=vN.out x h;go_simp<;>rfl)
 change wpAnyH _ _ _ _ _ _ _ (Act.put _ (some 76) _) _
 simp only [Act.put,zQ,zR,zS]
 refine wpAnyH_take (i:=23) (v:= ?zBh) rfl (by as_aux_lemma=>kernel_rfl) (by as_aux_lemma=>kernel_rfl) (by as_aux_lemma=>kernel_rfl) (λ_ _ _ h=>h) (Or.inl ⟨by rfl, ?z2o⟩) (by assumption) ?_
 case z2o=>(intro x h;have e:=vN.out x h;go_simp<;>rfl)
 change wpAnyH _ _ _ _ _ _ _ (Act.put _ (some 77) _) _
 simp only [Act.put,zQ,zR,zS]
 refine wpAnyH_take (i:=24) (v:= ?zBi) rfl (by as_aux_lemma=>kernel_rfl) (by as_aux_lemma=>kernel_rfl) (by as_aux_lemma=>kernel_rfl) (λ_ _ _ h=>h) (Or.inl ⟨by rfl, ?z2p⟩) (by assumption) ?_
 case z2p=>(intro x h;have e:=vN.out x h;go_simp<;>rfl)
 change wpAnyH _ _ _ _ _ _ _ (Act.put _ (some 78) _) _
 simp only [Act.put,zQ,zR,zS]
 refine wpAnyH_take (i:=25) (v:= ?zBj) rfl (by as_aux_lemma=>kernel_rfl) (by as_aux_lemma=>kernel_rfl) (by as_aux_lemma=>kernel_rfl) (λ_ _ _ h=>h) (Or.inl ⟨by rfl, ?z2q⟩) (by assumption) ?_
 case z2q=>(intro x h;have e:=vN.out x h;go_simp<;>rfl)
 change wpAnyH _ _ _ _ _ _ _ (Act.put _ (some 79) _) _
 simp only [Act.put,zQ,zR,zS]
 refine wpAnyH_take (i:=26) (v:= ?zBk) rfl (by as_aux_lemma=>kernel_rfl) (by as_aux_lemma=>kernel_rfl) (by as_aux_lemma=>kernel_rfl) (λ_ _ _ h=>h) (Or.inl ⟨by rfl, ?z2r⟩) (by assumption) ?_
 case z2r=>(intro x h;have e:=vN.out x h;go_simp<;>rfl)
 change wpAnyH _ _ _ _ _ _ _ (Act.put _ (some 80) _) _
 simp only [Act.put,zQ,zR,zS]
 refine wpAnyH_take (i:=27) (v:= ?zBl) rfl (by as_aux_lemma=>kernel_rfl) (by as_aux_lemma=>kernel_rfl) (by as_aux_lemma=>kernel_rfl) (λ_ _ _ h=>h) (Or.inl ⟨by rfl, ?z2s⟩) (by assumption) ?_
 case z2s=>(intro x h;have e:=vN.out x h;go_simp<;>rfl)
 change wpAnyH _ _ _ _ _ _ _ (Act.put _ (some 81) _) _
 simp only [Act.put,zQ,zR,zS]
 refine wpAnyH_take (i:=28) (v:= ?zBm) rfl (by as_aux_lemma=>kernel_rfl) (by as_aux_lemma=>kernel_rfl) (by as_aux_lemma=>kernel_rfl) (λ_ _ _ h=>h) (Or.inl ⟨by rfl, ?z2t⟩) (by assumption) ?_
 case z2t=>(intro x h;have e:=vN.out x h;go_simp<;>rfl)
 change wpAnyH _ _ _ _ _ _ _ (Act.put _ (some 82) _) _
 simp only [Act.put,zQ,zR,zS]
 refine wpAnyH_take (i:=29) (v:= ?zBn) rfl (by as_aux_lemma=>kernel_rfl) (by as_aux_lemma=>kernel_rfl) (by as_aux_lemma=>kernel_rfl) (λ_ _ _ h=>h) (Or.inl ⟨by rfl, ?z2u⟩) (by assumption) ?_
 case z2u=>(intro x h;have e:=vN.out x h;go_simp<;>rfl)
 change wpAnyH _ _ _ _ _ _ _ (Act.put _ (some 83) _) _
 simp only [Act.put,zQ,zR,zS]
 refine wpAnyH_take (i:=30) (v:= ?zBo) rfl (by as_aux_lemma=>kernel_rfl) (by as_aux_lemma=>kernel_rfl) (by as_aux_lemma=>kernel_rfl) (λ_ _ _ h=>h) (Or.inl ⟨by rfl, ?z2v⟩) (by assumption) ?_
 case z2v=>(intro x h;have e:=vN.out x h;go_simp<;>rfl)
 change wpAnyH _ _ _ _ _ _ _ (Act.put _ (some 84) _) _
 simp only [Act.put,zQ,zR,zS]
 refine wpAnyH_take (i:=31) (v:= ?zBp) rfl (by as_aux_lemma=>kernel_rfl) (by as_aux_lemma=>kernel_rfl) (by as_aux_lemma=>kernel_rfl) (λ_ _ _ h=>h) (Or.inl ⟨by rfl, ?z2w⟩) (by assumption) ?_
 case z2w=>(intro x h;have e:=vN.out x h;go_simp<;>rfl)
 change wpAnyH _ _ _ _ _ _ _ (Act.put _ (some 85) _) _
 simp only [Act.put,zQ,zR,zS]
 refine wpAnyH_take (i:=32) (v:= ?zBq) rfl (by as_aux_lemma=>kernel_rfl) (by as_aux_lemma=>kernel_rfl) (by as_aux_lemma=>kernel_rfl) (λ_ _ _ h=>h) (Or.inl ⟨by rfl, ?z2x⟩) (by assumption) ?_
 case z2x=>(intro x h;have e:=vN.out x h;go_simp<;>rfl)
 change wpAnyH _ _ _ _ _ _ _ (Act.put _ (some 86) _) _
 simp only [Act.put,zQ,zR,zS]
 refine wpAnyH_take (i:=33) (v:= ?zBr) rfl (by as_aux_lemma=>kernel_rfl) (by as_aux_lemma=>kernel_rfl) (by as_aux_lemma=>kernel_rfl) (λ_ _ _ h=>h) (Or.inl ⟨by rfl, ?z2y⟩) (by assumption) ?_
 case z2y=>(intro x h;have e:=vN.out x h;go_simp<;>rfl)
 change wpAnyH _ _ _ _ _ _ _ (Act.put _ (some 87) _) _
 simp only [Act.put,zQ,zR,zS]
 refine wpAnyH_take (i:=34) (v:= ?zBs) rfl (by as_aux_lemma=>kernel_rfl) (by as_aux_lemma=>kernel_rfl) (by as_aux_lemma=>kernel_rfl) (λ_ _ _ h=>h) (Or.inl ⟨by rfl, ?z2z⟩) (by assumption) ?_
 case z2z=>(intro x h;have e:=vN.out x h;go_simp<;>rfl)
 change wpAnyH _ _ _ _ _ _ _ (Act.put _ (some 88) _) _
 simp only [Act.put,zQ,zR,zS]
 refine wpAnyH_take (i:=35) (v:= ?zBt) rfl (by as_aux_lemma=>kernel_rfl) (by as_aux_lemma=>kernel_rfl) (by as_aux_lemma=>kernel_rfl) (λ_ _ _ h=>h) (Or.inl ⟨by rfl, ?z2A⟩) (by assumption) ?_
 case z2A=>(intro x h;have e:=vN.out x h;go_simp<;>rfl)
 change wpAnyH _ _ _ _ _ _ _ (Act.put _ (some 89) _) _
 simp only [Act.put,zQ,zR,zS]
 refine wpAnyH_take (i:=36) (v:= ?zBu) rfl (by as_aux_lemma=>kernel_rfl) (by as_aux_lemma=>kernel_rfl) (by as_aux_lemma=>kernel_rfl) (λ_ _ _ h=>h) (Or.inl ⟨by rfl, ?z2B⟩) (by assumption) ?_
 case z2B=>(intro x h;have e:=vN.out x h;go_simp<;>rfl)
 change wpAnyH _ _ _ _ _ _ _ (Act.put _ (some 90) _) _
 simp only [Act.put,zQ,zR,zS]
 refine wpAnyH_take (i:=37) (v:= ?zBv) rfl (by as_aux_lemma=>kernel_rfl) (by as_aux_lemma=>kernel_rfl) (by as_aux_lemma=>kernel_rfl) (λ_ _ _ h=>h) (Or.inl ⟨by rfl, ?z2C⟩) (by assumption) ?_
 case z2C=>(intro x h;have e:=vN.out x h;go_simp<;>rfl)
 change wpAnyH _ _ _ _ _ _ _ (Act.put _ (some 91) _) _
 simp only [Act.put,zQ,zR,zS]
 refine wpAnyH_take (i:=38) (v:= ?zBw) rfl (by as_aux_lemma=>kernel_rfl) (by as_aux_lemma=>kernel_rfl) (by as_aux_lemma=>kernel_rfl) (λ_ _ _ h=>h) (Or.inl ⟨by rfl, ?z2D⟩) (by assumption) ?_
 case z2D=>(intro x h;have e:=vN.out x h;go_simp<;>rfl)
 change wpAnyH _ _ _ _ _ _ _ (Act.put _ (some 92) _) _
 simp only [Act.put,zQ,zR,zS]
 refine wpAnyH_done (by as_aux_lemma=>kernel_rfl) ?_ _
 refine NoPanic.normal ?_
 obtain⟨U1,hdr⟩:∃Y,Y=U.drew:=⟨_,rfl⟩
 rw [<-hdr] at hkH ⊢
 have HU1:=qh hkH
 clear hdr hkH
 clear z0 z1 z2 ne1 ne2
 have hst:=HST.out.below (zB yM.out (zB bE.out HU1.out))
 have hts:=HTS.out.below HU1.out
 obtain⟨ab,ao,aba,abc,hae, -,ar,a0,a1,a2,a3,a4,a5, -⟩:=qj.part hst.threads ix (by rw [<-jr.out];exact hix)
 subst hae
 obtain⟨bb,bo_,bba,bbc,hbe, -,br,d0,d1,d2,d3,d4,d5, -⟩:=qj.part hts.threads ix (by rw [HXN.out];exact hix)
 subst hbe
 have zvh:=zwD.out.zpX ix (by rw [<-jr.out];exact hix)
 have hfl:=zd1.out.flush
 have hsp:=zd1.out.step
 rw [<-HTB.out, <-wN.out] at hfl
 have hmx:M.model=mo:=HCV.out.2.2.1
 rw [hmx] at hsp
 clear hmx
 simp only [] at hfl hsp
 generalize s.threads.getD ix default=A at ar a0 a1 a2 a3 a4 a5 hfl hsp zvh
 generalize t.threads.getD ix default=B at br d0 d1 d2 d3 d4 d5 hfl hsp
 obtain⟨apc,zBx,zz2⟩:=A
 obtain⟨bpc,zBy,zz3⟩:=B
 obtain⟨x0,x1,x2,x3,rfl⟩:=jS ar
 obtain⟨y0,y1,y2,y3,rfl⟩:=jS br
 simp only [List.getD_cons_zero,List.getD_cons_succ] at a0 a1 a2 a3 a4 a5 d0 d1 d2 d3 d4 d5 hfl hsp zvh
 have zq0:kd=2->zz3.length+1=zz2.length/\bpc=apc/\(y0=x0/\y1=x1/\y2=x2/\y3=x3)/\tb=bd:=λe=>by
  obtain⟨h1,h2,h3,h4⟩:=hfl e
  simp only [List.cons.injEq,and_true] at h3
  exact⟨h1,h2,h3,h4⟩
 obtain⟨al,hal⟩:∃n,n=zz2.length:=⟨_,rfl⟩
 obtain⟨bl,hbl⟩:∃n,n=zz3.length:=⟨_,rfl⟩
 rw [<-hal] at a5 zq0 hsp zvh
 rw [<-hbl] at d5 zq0 hsp
 have HFL:=qh zq0
 have HSP:=qh hsp
 have CJ:Hid (∀y,Below U1.heap.size U1 y->y.cell? ⟨gs,0,none⟩=some (.slice (some ⟨ab,ao,none⟩) rn rc)/\y.cell? ⟨gt,0,none⟩=some (.slice (some ⟨bb,bo_,none⟩) rn xc)/\y.cell? ⟨ab,ao+ix*6,none⟩=some (.int .i64 apc)/\y.cell? ⟨ab,ao+ix*6+1,none⟩=some (.int .i64 x0)/\y.cell? ⟨ab,ao+ix*6+2,none⟩=some (.int .i64 x1)/\y.cell? ⟨ab,ao+ix*6+3,none⟩=some (.int .i64 x2)/\y.cell? ⟨ab,ao+ix*6+4,none⟩=some (.int .i64 x3)/\y.cell? ⟨ab,ao+ix*6+5,none⟩=some (.slice aba al abc)/\
   y.cell? ⟨bb,bo_+ix*6,none⟩=some (.int .i64 bpc)/\y.cell? ⟨bb,bo_+ix*6+1,none⟩=some (.int .i64 y0)/\y.cell? ⟨bb,bo_+ix*6+2,none⟩=some (.int .i64 y1)/\y.cell? ⟨bb,bo_+ix*6+3,none⟩=some (.int .i64 y2)/\y.cell? ⟨bb,bo_+ix*6+4,none⟩=some (.int .i64 y3)/\y.cell? ⟨bb,bo_+ix*6+5,none⟩=some (.slice bba bl bbc)/\y.cell? ⟨mb,wW+i*3+1,none⟩=some (.int .i64 (ix:Int))):=λy hy=>by
  obtain⟨-, -,p2, -, -, -,p6,p7, -, -⟩:=vN.out y (zB HU1.out hy)
  exact⟨p2,p7,zh hy _ _ a0,zh hy _ _ a1,zh hy _ _ a2,zh hy _ _ a3,zh hy _ _ a4,zh hy _ _ a5,zh hy _ _ d0,zh hy _ _ d1,zh hy _ _ d2,zh hy _ _ d3,zh hy _ _ d4,zh hy _ _ d5,p6⟩
 clear hst hts a0 a1 a2 a3 a4 a5 d0 d1 d2 d3 d4 d5 ar br hal hbl hfl zq0 hsp
 go_upto_region 13 with fail
 refine z2E (c':=zq1) (by as_aux_lemma=>kernel_rfl) ?_
 refine z6r CJ hlt qK hix zz0 (hK:=λ_ _ h=>h) (HSF:=qh ?_)
 intro g h u93 u94 u95 u96 u97 u98 u99 zz4 zz5 zz6 zz7 zz8 u105 zz9 zzA zzB zzC zzD u1 hga hgb zzE
 have HGA:=qh hga
 have xG:=qh hgb
 have zzF:=qh zzE
 clear hga hgb zzE CJ
 obtain⟨DF,hDF⟩:∃f,f=qR s.mem t.mem:=⟨_,rfl⟩
 have HDF:=qh hDF
 have hD0:DF 0=0:=by rw [hDF];rfl
 clear hDF
 go_upto_block 2 with fail
 go_cut [17] (λs17 w'=>s17= .int .i64 (DF mn:Nat)/\Hid (Below u1.heap.size u1 w'))
 case first=>
  go_wp2_with fail
  go_loopg [17,18] mn (λgg s17 s18 wr=>∃v:Nat,v<=mn/\Hid (gg=mn - v)/\s17= .int .i64 (DF v:Nat)/\s18= .int .i64 v/\Hid (Below u1.heap.size u1 wr))
  case atStart=>exact⟨0,Nat.zero_le _,rfl,by rw [hD0];rfl,rfl,Below.refl _ _⟩
  case round=>
  obtain⟨v,hv,jQ,rfl,rfl,pz⟩:=hrel
  obtain⟨wq,rfl⟩:∃Y:World,Y=wr:=⟨_,rfl⟩
  have HBQ:=qh (zB HU1.out (zB zzF.out pz.out))
  obtain⟨c2,e0,b0,b1,b2,m0,m1,t0,t1,t2⟩:=vN.out wq HBQ.out
  have zer:DF mn<=1:=by rw [HDF.out,vW.out];exact zd1.out.many
  have hdv:DF v<=1:=by have h1:DF v<=DF mn:=(by rw [HDF.out];exact zs3 _ _ hv);omega
  by_cases hvl:v<mn
  rotate_left
  ·obtain rfl:v=mn:=by omega
   go_wp2_with fail
   go_meet
   case rel=>exact⟨rfl,pz.out⟩
  have zBz:(v:Int)<(mn:Int):=by omega
  obtain⟨sb,so,hse, -,k0⟩:=xI.part (HST.out.below (zB yM.out (zB bE.out HBQ.out))).mem v (by rw [<-vW.out];exact hvl)
  subst hse
  obtain⟨tb_,yA,hte, -,k1⟩:=xI.part (HTS.out.below HBQ.out).mem v (by rw [HYN.out];exact hvl)
  subst hte
  have hs1:s.mem.getD v 0=t.mem.getD v 0->DF (v+1)=DF v:=λe=>by rw [HDF.out];exact zs4 e
  have hs2:¬s.mem.getD v 0=t.mem.getD v 0->DF (v+1)=DF v+1:=λe=>by rw [HDF.out];exact zs5 e
  generalize s.mem.getD v 0=xs at k0 hs1 hs2
  generalize t.mem.getD v 0=xt at k1 hs1 hs2
  have HN1:=qh hs1
  have HN2:=qh hs2
  have CV:Hid (∀y,Below wq.heap.size wq y->y.cell? ⟨gs,1,none⟩=some (.slice (some ⟨sb,so,none⟩) mn mc)/\y.cell? ⟨gt,1,none⟩=some (.slice (some ⟨tb_,yA,none⟩) mn yc)/\y.cell? ⟨sb,so+v,none⟩=some (.int .i64 xs)/\y.cell? ⟨tb_,yA+v,none⟩=some (.int .i64 xt)):=λy hy=>⟨zh hy _ _ b1,zh hy _ _ t1,zh hy _ _ k0,zh hy _ _ k1⟩
  clear k0 k1 hs1 hs2
  by_cases hxy:xs=xt
  rotate_left
  ·have hne:((xs:Int) !=xt)=true:=by simpa using hxy
   have hdw:DF (v+1)=DF v+1:=HN2.out hxy
   go_upto_region 18 with fail
   clear c2 e0 b0 b1 b2 m0 m1 t0 t1 t2
   refine wp_region_noPanic ?_
   refine wp_region_held_drew (S:=λx=>Below wq.heap.size wq x) (by as_aux_lemma=>kernel_rfl) ((Below.refl _ _).drew) (λhqH=> ?_)
   refine wpAnyH_take (i:=0) (v:= ?vq1) rfl (by as_aux_lemma=>kernel_rfl) (by as_aux_lemma=>kernel_rfl) (by as_aux_lemma=>kernel_rfl) (λ_ _ _ h=>h) (Or.inl ⟨by rfl, ?z6s⟩) (by assumption) ?_
   case z6s=>(intro x h;have e:=CV.out x h;go_simp<;>rfl)
   change wpAnyH _ _ _ _ _ _ _ (Act.put _ (some 118) _) _
   simp only [Act.put,zQ,zR,zS]
   refine wpAnyH_take (i:=1) (v:= ?vq2) rfl (by as_aux_lemma=>kernel_rfl) (by as_aux_lemma=>kernel_rfl) (by as_aux_lemma=>kernel_rfl) (λ_ _ _ h=>h) (Or.inl ⟨by rfl, ?z6t⟩) (by assumption) ?_
   case z6t=>(intro x h;have e:=CV.out x h;go_simp<;>rfl)
   change wpAnyH _ _ _ _ _ _ _ (Act.put _ (some 119) _) _
   simp only [Act.put,zQ,zR,zS]
   refine wpAnyH_take (i:=2) (v:= ?vq3) rfl (by as_aux_lemma=>kernel_rfl) (by as_aux_lemma=>kernel_rfl) (by as_aux_lemma=>kernel_rfl) (λ_ _ _ h=>h) (Or.inl ⟨by rfl, ?z6u⟩) (by assumption) ?_
   case z6u=>(intro x h;have e:=CV.out x h;go_simp<;>rfl)
   change wpAnyH _ _ _ _ _ _ _ (Act.put _ (some 120) _) _
   simp only [Act.put,zQ,zR,zS]
   refine wpAnyH_take (i:=3) (v:= ?vq4) rfl (by as_aux_lemma=>kernel_rfl) (by as_aux_lemma=>kernel_rfl) (by as_aux_lemma=>kernel_rfl) (λ_ _ _ h=>h) (Or.inl ⟨by rfl, ?z6v⟩) (by assumption) ?_
   case z6v=>(intro x h;have e:=CV.out x h;go_simp<;>rfl)
   change wpAnyH _ _ _ _ _ _ _ (Act.put _ (some 121) _) _
   simp only [Act.put,zQ,zR,zS]
   refine wpAnyH_take (i:=4) (v:= ?vq5) rfl (by as_aux_lemma=>kernel_rfl) (by as_aux_lemma=>kernel_rfl) (by as_aux_lemma=>kernel_rfl) (λ_ _ _ h=>h) (Or.inl ⟨by rfl, ?z6w⟩) (by assumption) ?_
   case z6w=>(intro x h;have e:=CV.out x h;go_simp<;>rfl)
   change wpAnyH _ _ _ _ _ _ _ (Act.put _ (some 122) _) _
   simp only [Act.put,zQ,zR,zS]
   refine wpAnyH_take (i:=5) (v:= ?vq6) rfl (by as_aux_lemma=>kernel_rfl) (by as_aux_lemma=>kernel_rfl) (by as_aux_lemma=>kernel_rfl) (λ_ _ _ h=>h) (Or.inl ⟨by rfl, ?z6x⟩) (by assumption) ?_
   case z6x=>(intro x h;have e:=CV.out x h;go_simp<;>rfl)
   change wpAnyH _ _ _ _ _ _ _ (Act.put _ (some 123) _) _
   simp only [Act.put,zQ,zR,zS]
   refine wpAnyH_take (i:=6) (v:= ?vq7) rfl (by as_aux_lemma=>kernel_rfl) (by as_aux_lemma=>kernel_rfl) (by as_aux_lemma=>kernel_rfl) (λ_ _ _ h=>h) (Or.inl ⟨by rfl, ?z6y⟩) (by assumption) ?_
   case z6y=>(intro x h;have e:=CV.out x h;go_simp<;>rfl)
   change wpAnyH _ _ _ _ _ _ _ (Act.put _ (some 124) _) _
   simp only [Act.put,zQ,zR,zS]
   refine wpAnyH_take (i:=7) (v:= ?vq8) rfl (by as_aux_lemma=>kernel_rfl) (by as_aux_lemma=>kernel_rfl) (by as_aux_lemma=>kernel_rfl) (λ_ _ _ h=>h) (Or.inl ⟨by rfl, ?z6z⟩) (by assumption) ?_
   case z6z=>(intro x h;have e:=CV.out x h;go_simp<;>rfl)
   change wpAnyH _ _ _ _ _ _ _ (Act.put _ (some 125) _) _
   simp only [Act.put,zQ,zR,zS]
   refine wpAnyH_take (i:=8) (v:= ?vq9) rfl (by as_aux_lemma=>kernel_rfl) (by as_aux_lemma=>kernel_rfl) (by as_aux_lemma=>kernel_rfl) (λ_ _ _ h=>h) (Or.inl ⟨by rfl, ?z6A⟩) (by assumption) ?_
   case z6A=>(intro x h;have e:=CV.out x h;go_simp<;>rfl)
   change wpAnyH _ _ _ _ _ _ _ (Act.put _ (some 126) _) _
   simp only [Act.put,zQ,zR,zS]
   refine wpAnyH_take (i:=9) (v:= ?zB0) rfl (by as_aux_lemma=>kernel_rfl) (by as_aux_lemma=>kernel_rfl) (by as_aux_lemma=>kernel_rfl) (λ_ _ _ h=>h) (Or.inl ⟨by rfl, ?z2F⟩) (by assumption) ?_
   case z2F=>(intro x h;have e:=CV.out x h;go_simp<;>rfl)
   change wpAnyH _ _ _ _ _ _ _ (Act.put _ (some 127) _) _
   simp only [Act.put,zQ,zR,zS]
   refine wpAnyH_take (i:=10) (v:= ?zB1) rfl (by as_aux_lemma=>kernel_rfl) (by as_aux_lemma=>kernel_rfl) (by as_aux_lemma=>kernel_rfl) (λ_ _ _ h=>h) (Or.inl ⟨by rfl, ?z2G⟩) (by assumption) ?_
   case z2G=>(intro x h;have e:=CV.out x h;go_simp<;>rfl)
   change wpAnyH _ _ _ _ _ _ _ (Act.put _ (some 128) _) _
   simp only [Act.put,zQ,zR,zS]
   refine wpAnyH_done (by as_aux_lemma=>kernel_rfl) ?_ _
   refine NoPanic.normal ?_
   have HEV:=qh (zB pz.out hqH)
   go_wp2_with fail
   go_roundg (mn - (v+1))
   case measure=>rw [jQ.out];omega
   case rel=>exact⟨v+1,by omega,rfl,by rw [hdw];simp,by simp,HEV.out⟩
  subst hxy
  have hds:DF (v+1)=DF v:=HN1.out rfl
  clear HN1 HN2
  have hne:((xs:Int) !=xs)=false:=by simp
  go_upto_region 18 with fail
  clear c2 e0 b0 b1 b2 m0 m1 t0 t1 t2
  refine wp_region_noPanic ?_
  refine wp_region_held_drew (S:=λx=>Below wq.heap.size wq x) (by as_aux_lemma=>kernel_rfl) ((Below.refl _ _).drew) (λhpH=> ?_)
  refine wpAnyH_take (i:=0) (v:= ?vp1) rfl (by as_aux_lemma=>kernel_rfl) (by as_aux_lemma=>kernel_rfl) (by as_aux_lemma=>kernel_rfl) (λ_ _ _ h=>h) (Or.inl ⟨by rfl, ?hyp1⟩) (by assumption) ?_
  case hyp1=>(intro x h;have e:=CV.out x h;go_simp<;>rfl)
  change wpAnyH _ _ _ _ _ _ _ (Act.put _ (some 118) _) _
  simp only [Act.put,zQ,zR,zS]
  refine wpAnyH_take (i:=1) (v:= ?vp2) rfl (by as_aux_lemma=>kernel_rfl) (by as_aux_lemma=>kernel_rfl) (by as_aux_lemma=>kernel_rfl) (λ_ _ _ h=>h) (Or.inl ⟨by rfl, ?hyp2⟩) (by assumption) ?_
  case hyp2=>(intro x h;have e:=CV.out x h;go_simp<;>rfl)
  change wpAnyH _ _ _ _ _ _ _ (Act.put _ (some 119) _) _
  simp only [Act.put,zQ,zR,zS]
  refine wpAnyH_take (i:=2) (v:= ?vp3) rfl (by as_aux_lemma=>kernel_rfl) (by as_aux_lemma=>kernel_rfl) (by as_aux_lemma=>kernel_rfl) (λ_ _ _ h=>h) (Or.inl ⟨by rfl, ?z6B⟩) (by assumption) ?_
  case z6B=>(intro x h;have e:=CV.out x h;go_simp<;>rfl)
  change wpAnyH _ _ _ _ _ _ _ (Act.put _ (some 120) _) _
  simp only [Act.put,zQ,zR,zS]
  refine wpAnyH_take (i:=3) (v:= ?vp4) rfl (by as_aux_lemma=>kernel_rfl) (by as_aux_lemma=>kernel_rfl) (by as_aux_lemma=>kernel_rfl) (λ_ _ _ h=>h) (Or.inl ⟨by rfl, ?z6C⟩) (by assumption) ?_
  case z6C=>(intro x h;have e:=CV.out x h;go_simp<;>rfl)
  change wpAnyH _ _ _ _ _ _ _ (Act.put _ (some 121) _) _
  simp only [Act.put,zQ,zR,zS]
  refine wpAnyH_take (i:=4) (v:= ?vp5) rfl (by as_aux_lemma=>kernel_rfl) (by as_aux_lemma=>kernel_rfl) (by as_aux_lemma=>kernel_rfl) (λ_ _ _ h=>h) (Or.inl ⟨by rfl, ?z6D⟩) (by assumption) ?_
  case z6D=>(intro x h;have e:=CV.out x h;go_simp<;>rfl)
  change wpAnyH _ _ _ _ _ _ _ (Act.put _ (some 122) _) _
  simp only [Act.put,zQ,zR,zS]
  refine wpAnyH_take (i:=5) (v:= ?vp6) rfl (by as_aux_lemma=>kernel_rfl) (by as_aux_lemma=>kernel_rfl) (by as_aux_lemma=>kernel_rfl) (λ_ _ _ h=>h) (Or.inl ⟨by rfl, ?z6E⟩) (by assumption) ?_
  case z6E=>(intro x h;have e:=CV.out x h;go_simp<;>rfl)
  change wpAnyH _ _ _ _ _ _ _ (Act.put _ (some 123) _) _
  simp only [Act.put,zQ,zR,zS]
  refine wpAnyH_take (i:=6) (v:= ?vp7) rfl (by as_aux_lemma=>kernel_rfl) (by as_aux_lemma=>kernel_rfl) (by as_aux_lemma=>kernel_rfl) (λ_ _ _ h=>h) (Or.inl ⟨by rfl, ?z6F⟩) (by assumption) ?_
  case z6F=>(intro x h;have e:=CV.out x h;go_simp<;>rfl)
  change wpAnyH _ _ _ _ _ _ _ (Act.put _ (some 124) _) _
  simp only [Act.put,zQ,zR,zS]
  refine wpAnyH_take (i:=7) (v:= ?vp8) rfl (by as_aux_lemma=>kernel_rfl) (by as_aux_lemma=>kernel_rfl) (by as_aux_lemma=>kernel_rfl) (λ_ _ _ h=>h) (Or.inl ⟨by rfl, ?z6G⟩) (by assumption) ?_
  case z6G=>(intro x h;have e:=CV.out x h;go_simp<;>rfl)
  change wpAnyH _ _ _ _ _ _ _ (Act.put _ (some 125) _) _
  simp only [Act.put,zQ,zR,zS]
  refine wpAnyH_take (i:=8) (v:= ?vp9) rfl (by as_aux_lemma=>kernel_rfl) (by as_aux_lemma=>kernel_rfl) (by as_aux_lemma=>kernel_rfl) (λ_ _ _ h=>h) (Or.inl ⟨by rfl, ?z6H⟩) (by assumption) ?_
  case z6H=>(intro x h;have e:=CV.out x h;go_simp<;>rfl)
  change wpAnyH _ _ _ _ _ _ _ (Act.put _ (some 126) _) _
  simp only [Act.put,zQ,zR,zS]
  refine wpAnyH_take (i:=9) (v:= ?zB2) rfl (by as_aux_lemma=>kernel_rfl) (by as_aux_lemma=>kernel_rfl) (by as_aux_lemma=>kernel_rfl) (λ_ _ _ h=>h) (Or.inl ⟨by rfl, ?z2H⟩) (by assumption) ?_
  case z2H=>(intro x h;have e:=CV.out x h;go_simp<;>rfl)
  change wpAnyH _ _ _ _ _ _ _ (Act.put _ (some 127) _) _
  simp only [Act.put,zQ,zR,zS]
  refine wpAnyH_take (i:=10) (v:= ?zB3) rfl (by as_aux_lemma=>kernel_rfl) (by as_aux_lemma=>kernel_rfl) (by as_aux_lemma=>kernel_rfl) (λ_ _ _ h=>h) (Or.inl ⟨by rfl, ?z2I⟩) (by assumption) ?_
  case z2I=>(intro x h;have e:=CV.out x h;go_simp<;>rfl)
  change wpAnyH _ _ _ _ _ _ _ (Act.put _ (some 128) _) _
  simp only [Act.put,zQ,zR,zS]
  refine wpAnyH_done (by as_aux_lemma=>kernel_rfl) ?_ _
  refine NoPanic.normal ?_
  have HEV:=qh (zB pz.out hpH)
  go_wp2_with fail
  go_roundg (mn - (v+1))
  case measure=>rw [jQ.out];omega
  case rel=>exact⟨v+1,by omega,rfl,by rw [hds],by simp,HEV.out⟩
 case rest=>
 obtain⟨rfl,pz⟩:=hcut
 obtain⟨wq,rfl⟩:∃Y:World,Y=wc:=⟨_,rfl⟩
 have HBQ:=qh (zB HU1.out (zB zzF.out pz.out))
 have HEW:=qh (zB zX.out (zB bE.out HBQ.out))
 obtain⟨c2,e0,b0,b1,b2,m0,m1,t0,t1,t2⟩:=vN.out wq HBQ.out
 have zer:DF mn<=1:=by rw [HDF.out,vW.out];exact zd1.out.many
 have HKA:=qh ((pz.out.block g (zq HGA.out)).trans HGA.out)
 have HKB:=qh ((pz.out.block h (zq xG.out)).trans xG.out)
 have hsp:=HSP.out
 rw [<-vW.out, <-HDF.out] at hsp
 obtain⟨D,hD⟩:∃n,n=DF mn:=⟨_,rfl⟩
 rw [<-hD] at hsp zer ⊢
 clear hD hD0
 refine zx7 (c':=zg8) (by assumption) (by as_aux_lemma=>kernel_rfl) ?_
 rcases HKD.out with hk|hk
 ·subst hk
  obtain⟨s1,s2,s3,s4,s5⟩:=hsp rfl
  obtain⟨p,rfl⟩:∃p:Nat,apc=(p:Int):=⟨apc.toNat,by omega⟩
  simp only [Int.toNat_natCast] at s3 s5
  have hcl:ix<C.threads.length:=by have h1:=(zaU.1 zd1.out.fits).2.1;have h2:=HXN.out;omega
  have zzH:(ix:Int)<(cn:Int):=by have:=HCN.out;omega
  obtain⟨eb,eo,ka,kc,hta, -,r0,hins⟩:=yZ.part HC.out ix hcl
  subst hta
  obtain⟨ib,io, -, -, -, -,hka, -,⟨i0, -, -⟩, -, -, -, -, -⟩:=jJ.part hins p (by omega)
  subst hka
  generalize ((C.threads.getD ix []).getD p default).op=op at i0 s3 s5
  obtain⟨kn,hkn⟩:∃n,n=(C.threads.getD ix []).length:=⟨_,rfl⟩
  rw [<-hkn] at r0 s2
  have xC:Hid (Below V.heap.size V wq):=zB HX2.out (zB yM.out (zB bE.out HBQ.out))
  have k0:=za HKA.out 0
  have k5:=za HKA.out 5
  have l5:=za HKB.out 5
  refine z2J (CK:=qh λy hy=>⟨zh hy _ _ k0,zh hy _ _ c2,zh hy _ _ m1,zh (zB xC.out hy) _ _ r0,zh (zB xC.out hy) _ _ i0,zh hy _ _ e0,zh hy _ _ k5,zh hy _ _ l5,zh hy _ _ m0⟩) hlt qK zzH (by omega) (qh s3) (qh s5) s4 (by omega) zer (hK:=λ_ _ h=>h) (HSF:=qh ?_)
  intro u19 u20 u131 zmd zme zmf zmg zmh zmi u138 u139 zmj zmk zml zmm zmn zmo zmp zmq zmr zms zmt zmu u152 zmv u154 zmw zmx zmy zmz zm0 zm1 zm2 u162 zm3 u164 zm4 zm5 zm6 zm7 zm8 zm9 zmA zmB zmC zmD zmE zmF zmG zmH zmI zmJ zmK zmL zmM zmN zmO zmP zmQ zmR zmS zmT zmU zmV u193 u194 zmW u196 zmX u198 zmY zmZ u201 zna znb znc znd u206 zne u208 znf u210 zng znh zni znj znk znl znm znn zno znp znq znr zns znt znu znv znw znx zny znz zn0 zn1 zn2 u234 zn3 u236 zn4 zn5 zn6 zn7 zn8 zn9 znA znB znC znD znE znF w5 hb5
  have HEX:=qh (zB HEW.out hb5)
  clear r0 i0 hins hkn s3 s5 hsp k0 k5 l5 c2 e0 b0 b1 b2 m0 m1 t0 t1 t2 hb5 s1 s2 s4
  go_wp2_with fail
  go_roundg (mq - (i+1))
  case measure=>rw [HG2.out];omega
  case rel=>exact⟨i+1,by omega,rfl,by simp,HEX.out⟩
 subst hk
 obtain⟨f1,rfl,⟨rfl,rfl,rfl,rfl⟩,rfl⟩:=HFL.out rfl
 refine z2K m0 b2 t2 HKA HKB hlt qK f1 (by omega) zer (hK:=λ_ _ h=>h) (HSF:=qh ?_)
 intro u19 u20 u131 zmd zme zmf zmg zmh zmi u138 u139 zmj zmk zml zmm zmn zmo zmp zmq zmr zms zmt zmu u152 zmv u154 zmw zmx zmy zmz zm0 zm1 zm2 u162 zm3 u164 zm4 zm5 zm6 zm7 zm8 zm9 zmA zmB zmC zmD zmE zmF zmG zmH zmI zmJ zmK zmL zmM zmN zmO zmP zmQ zmR zmS zmT zmU zmV u193 u194 zmW u196 zmX u198 zmY zmZ u201 zna znb znc znd u206 zne u208 znf u210 zng znh zni znj znk znl znm znn zno znp znq znr zns znt znu znv znw znx zny znz zn0 zn1 zn2 u234 zn3 u236 zn4 zn5 zn6 zn7 zn8 zn9 znA znB znC znD znE znF w5 hb5
 have HEX:=qh (zB HEW.out hb5)
 clear hsp c2 e0 b0 b1 b2 m0 m1 t0 t1 t2 hb5
 go_wp2_with fail
 go_roundg (mq - (i+1))
 case measure=>rw [HG2.out];omega
 case rel=>exact⟨i+1,by omega,rfl,by simp,HEX.out⟩
