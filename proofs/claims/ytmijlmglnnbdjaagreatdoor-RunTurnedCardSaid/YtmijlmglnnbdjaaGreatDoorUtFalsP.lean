/- Steps. -/
import Derived.Test.YtmijlmglnnbdjaaGreatDoorUtFairP
import Derived.Test.YtmijlmglnnbdjaaGreatDoorUtLetterA
set_option linter.all false
namespace Go.Proofs.YtmijlmglnnbdjaaGreatDoor
open Go.RowKit
set_option maxRecDepth 100000
set_option maxHeartbeats 16000000
theorem zgz (w:World) (c:zG) (cv:Value) (d:Nat) (hc:yP d w cv c.threads) (m:zC) (f:Form) (kv:Value) (df:Nat) (hf:xE w df f kv) (all:Bool) (lv:Value) (l:List zw) (hl:qB w lv l) (hwf:∀x∈l,vZ x) (back:Int):Calls Tryz.prog 16 #[yj c cv,yE m,vI f kv, .bool all, .agg #[lv,I4 back]] w (zbX (uw c m d f all l back) w):=by
 obtain⟨ca,cc,rfl, -⟩:=zh.slice hc;obtain⟨la,lc,rfl,hl63⟩:=zh.slice hl;obtain⟨ka,kc,rfl,hkl⟩:=hf.slice;have q:=λW (J:Below w.heap.size w W)=>bP W c (.slice ca c.threads.length cc) d (zh.below (xV.stays d) hc J) m (.slice la l.length lc) l (jT hl J) back;have H:=λW (J:Below w.heap.size w W)=>ze9 W df f _ (hf.below J);have r:=λW (J:Below w.heap.size w W) (v:f.fits=true) s sv mv hs=>zo4 W c (.slice ca c.threads.length cc) d (zh.below (xV.stays d) hc J) f _ df (hf.below J) (zkZ v).1 s sv mv hs;have P:=λW (J:Below w.heap.size w W) lv ls bk (E:jy W lv ls)=>zqU W df f _ lv ls bk (hf.below J) E
 have z:=λW (J:Below w.heap.size w W) lv2 l2 hl2 mv2 m2 hm2 U h2 h3 h4=>zla W c (.slice ca c.threads.length cc) d (zh.below (xV.stays d) hc J) m lv2 l2 hl2 mv2 m2 hm2 U h2 h3 h4;obtain⟨⟨S,er⟩,hS⟩:∃p,p=yM c m l back d:=⟨_,rfl⟩;obtain⟨hno,D⟩:=z0S (f:=f) (all:=all) hS;have hrun:=(zpz hS).1;rw [<-hS] at q;obtain⟨R,hR⟩:=qxE (uw c m d f all l back);rw [<-hR] at hno D ⊢;obtain⟨fit,v⟩:=qxE f.fits;obtain⟨FB,hFB⟩:=qxE (gM c m l back d)
 have zlN:er=0->∃bk:Nat,back=bk/\S.length=l.length/\bk<l.length/\l.length<=100000/\(∀s∈S,kH 33 s)/\FB=zaw c m d (S.drop bk) (l.drop bk):=λh=>by
  obtain⟨bk,hr⟩:=hrun h;exact⟨bk,hr.eq,hr.len,hr.lt,hr.big,λs hs=>ziZ (hr.fits s hs),by rw [hFB,hr.fair]⟩
 rw [<-v, <-hFB] at hno D;rw [<-v] at H;simp only [<-v] at r;obtain⟨FA,hFA⟩:=qxE (zaw c m d);rw [<-hFA] at zlN z;obtain⟨F,hLT⟩:∃A,A=λs=>jZ c f s:=⟨_,rfl⟩;have el:∀s,jZ c f s=F s:=λs=>by rw [hLT]
 have el2:jZ c f=F:=by rw [hLT]
 rw [el2] at D;simp only [el] at r;obtain⟨M,zwY⟩:∃A,A=λls bk=>f.truth f.props ls bk:=⟨_,rfl⟩
 have z4f:∀ls (bk:Int) w e w',zcI f ls bk w e w'->qK f ls bk=true->1<=(M ls bk.toNat).length->∃(sa:Option Addr) (sn sc:Nat),e= .returned (.tuple #[.slice sa sn sc,I4 0])/\(∃b off,sa=some ⟨b,off,none⟩/\1<=sn/\w'.cell? ⟨b,off,none⟩=some (.bool ((M ls bk.toNat).getD 0 false)))/\Below w.heap.size w w':=λls bk w e w' h I U=>by
  obtain⟨j,h|h⟩:=h
  ·obtain⟨-,sv,rfl,ho⟩:=h;have wD:=yx.jB ho;obtain⟨sa,sc,rfl, -⟩:=wD.slice;have e2:f.truth f.props ls bk.toNat=M ls bk.toNat:=by rw [zwY]
   rw [e2] at wD;obtain⟨-,b,off,he, -,hcell⟩:=yx.part wD 0 U;exact⟨sa,_,sc,rfl,⟨b,off,he,by rw [e2];exact U,by simpa using hcell⟩,j⟩
  rw [I] at h;cases h.1
 have zqV:er=0->fit=true->(all=true->FB=true)->R= !((M (S.map F) back.toNat).getD 0 false)/\qK f (S.map F) back=true/\1<=(M (S.map F) back.toNat).length:=by
  rw [zwY];exact D
 have G:=λW (J:Below w.heap.size w W) lv (E:jy W lv (S.map F)) (I:qK f (S.map F) back=true) (U:1<=(M (S.map F) back.toNat).length)=>(P W J lv (S.map F) back E).mono λe w' h=>z4f _ _ _ _ _ h I U;clear D P z4f hrun el el2 hLT zwY hS hR v hFB hc hf hFA;obtain⟨wok,zwZ⟩:=qxE (qK f (S.map F) back);rw [<-zwZ] at zqV;simp only [<-zwZ] at G;clear zwZ;obtain⟨k,⟨p1,p2,p3,p4⟩,kids⟩:=f;unfold yj yB vI at r;unfold vI at H G;unfold yj yE at q z;unfold yj yE vI;simp only [Form.kind,Form.prop,Form.kids] at r H G hkl ⊢;generalize kids.length=kn at r H G hkl ⊢;generalize c.threads.length=cn at q z r ⊢
 generalize c.vars=vars at q z r ⊢;generalize c.domain=dom at q z r ⊢;generalize m.model=mod at q z ⊢;generalize m.bound=bnd at q z ⊢;clear c m kids;obtain⟨ln,hln⟩:=qxE l.length;rw [<-hln] at hl hl63 q zlN ⊢;obtain⟨hB,U,h2,h3,h4⟩:=zqW w (.cells #[I4 vars,I4 dom, .slice ca cn cc] 25) (.cells #[I4 mod,I4 bnd] 30) (.cells #[I4 k,I4 p1,I4 p2,I4 p3,I4 p4, .slice ka kn kc] 38) (.cells #[.slice la ln lc,I4 back] 42);have HST:=qh q;have V:=qh H;have HLE:=qh r;have HTR:=qh G;have HPF:=qh z;have HNO:=qh hno;have pU:=qh zqV;have zec:=qh zlN;have HL:=qh hl;have qP:=qh hln;have HB:=qh hB;have H1:=qh U
 have H2:=qh h2;have H3:=qh h3;have H4:=qh h4;have HWF:=qh hwf;clear q H r G z hno zqV zlN hl hln hB U h2 h3 h4 hwf;go_enter Tryz.func16,Tryz.ntmps16
 go_upto_region 1 with fail
 generalize World.alloc (World.alloc (World.alloc (World.alloc w _) _) _) _=W at HB H1 H2 H3 H4 ⊢;obtain⟨g,hgx⟩:=qxE w.heap.size;rw [<-hgx] at H1 H2 H3 H4 ⊢;clear hgx;have hg2:g+1+1=g+2:=rfl;have hg3:g+2+1=g+3:=rfl
 have CC:J2 (∀y,Below W.heap.size W y->(K3 y g 0 (I4 vars)/\K3 y g 1 (I4 dom)/\K3 y g 2 (.slice ca cn cc))/\(K3 y (g+1) 0 (I4 mod)/\K3 y (g+1) 1 (I4 bnd))/\
   (y.cell? ⟨g+2,0,none⟩=some (I4 k)/\y.cell? ⟨g+2,1,none⟩=some (I4 p1)/\y.cell? ⟨g+2,2,none⟩=some (I4 p2)/\y.cell? ⟨g+2,3,none⟩=some (I4 p3)/\y.cell? ⟨g+2,4,none⟩=some (I4 p4)/\y.cell? ⟨g+2,5,none⟩=some (.slice ka kn kc))/\
   K3 y (g+3) 0 (.slice la ln lc)/\K3 y (g+3) 1 (I4 back)):=λy t=>
  ⟨⟨zl t _ _ (ze H1.o 0),zl t _ _ (ze H1.o 1),zl t _ _ (ze H1.o 2)⟩,⟨zl t _ _ (ze H2.o 0),zl t _ _ (ze H2.o 1)⟩,
   ⟨zl t _ _ (ze H3.o 0),zl t _ _ (ze H3.o 1),zl t _ _ (ze H3.o 2),zl t _ _ (ze H3.o 3),zl t _ _ (ze H3.o 4),zl t _ _ (ze H3.o 5)⟩,zl t _ _ (ze H4.o 0),zl t _ _ (ze H4.o 1)⟩
 obtain⟨⟨c0,c1,c2⟩,⟨c3,c4⟩,⟨f0,f1,f2,f3,f4,f5⟩,c5,c6⟩:=CC.o W (Below.refl _ _);clear H1 H2 H3 H4;go_upto_region 2 with(go_at_call 14;go_must(refine(HST.o W HB.o).mono ?_);rintro e X ⟨⟨a,n,cap,hn,rfl,hs⟩,j⟩;have HX:=qh j;have gu:=qh hs;have HN:=qh hn;clear j hs hn)
 clear c0 c1 c2 c3 c4 c5 c6 f0 f1 f2 f3 f4 f5;try simp only [] at HN gu
 have yh:=qh (zy HB.o HX.o);go_cut [48] (λs48 w'=>∃st:Bool,s48= .bool st/\J2 (st=true->R=false)/\J2 (st=false->er=0/\fit=true/\(all=true->FB=true))/\J2 (Below X.heap.size X w'))
 case first=>
  have CF:J2 (∀y,Below X.heap.size X y->K3 y g 0 (I4 vars)/\K3 y g 1 (I4 dom)/\K3 y g 2 (.slice ca cn cc)/\K3 y (g+1) 0 (I4 mod)/\K3 y (g+1) 1 (I4 bnd)/\
    K3 y (g+2) 0 (I4 k)/\K3 y (g+2) 1 (I4 p1)/\K3 y (g+2) 2 (I4 p2)/\K3 y (g+2) 3 (I4 p3)/\K3 y (g+2) 4 (I4 p4)/\K3 y (g+2) 5 (.slice ka kn kc)/\
    K3 y (g+3) 0 (.slice la ln lc)/\K3 y (g+3) 1 (I4 back)):=λy t=>by
   obtain⟨⟨e0,e1,e2⟩,⟨e3,e4⟩,⟨e5,e6,e7,e8,e9,e10⟩,e11,e12⟩:=CC.o y (zy HX.o t);exact⟨e0,e1,e2,e3,e4,e5,e6,e7,e8,e9,e10,e11,e12⟩
  skip
  by_cases her:er=0
  rotate_left
  ·have hz:(er !=0)=true:=by simpa using her
   refine qz (S:=λx=>Below X.heap.size X x) ((Below.refl _ _).drew) (λhha=> ?_)
   refine zi 0 CF.o ?_
   refine zi 1 CF.o ?_
   refine zi 2 CF.o ?_
   refine zS 3 (by assumption) ?_
   refine zS 4 (by assumption) ?_
   refine zS 5 (by assumption) ?_
   refine zi 6 CF.o ?_
   refine zi 7 CF.o ?_
   refine zS 8 (by assumption) ?_
   refine zS 9 (by assumption) ?_
   refine zS 10 (by assumption) ?_
   refine zS 11 (by assumption) ?_
   refine zS 12 (by assumption) ?_
   refine zS 13 (by assumption) ?_
   refine zS 14 (by assumption) ?_
   refine zS 15 (by assumption) ?_
   refine zS 16 (by assumption) ?_
   refine zS 17 (by assumption) ?_
   refine zS 18 (by assumption) ?_
   refine zS 19 (by assumption) ?_
   refine zS 20 (by assumption) ?_
   refine zS 21 (by assumption) ?_
   refine zS 22 (by assumption) ?_
   refine zS 23 (by assumption) ?_
   refine zi 24 CF.o ?_
   refine xC ?_
   go_wp2_with fail
   go_meet
   case rel=>exact⟨true,rfl,λ_=>HNO.o (.inl her),λh=>(by cases h),hha⟩
  subst her;cases fit with
  |false=>
   refine qz (S:=λx=>Below X.heap.size X x) ((Below.refl _ _).drew) (λhhb=> ?_)
   refine zi 0 CF.o ?_
   refine zi 1 CF.o ?_
   refine zi 2 CF.o ?_
   refine zi 3 CF.o ?_
   refine yA 4 rfl (λK hK=> ?_)
   go_simp
   refine(V.o X.drew (zy yh.o hhb)).mono ?_
   rintro e bw4 ⟨rfl,j⟩;have zzy:Below X.heap.size X bw4:=zy hhb j;refine hK.out _ _ zzy (λ_=> ?_)
   clear hK K j hhb;refine zi 5 CF.o ?_
   refine zi 6 CF.o ?_
   refine zi 7 CF.o ?_
   refine zS 8 (by assumption) ?_
   refine zS 9 (by assumption) ?_
   refine zS 10 (by assumption) ?_
   refine zS 11 (by assumption) ?_
   refine zS 12 (by assumption) ?_
   refine zS 13 (by assumption) ?_
   refine zS 14 (by assumption) ?_
   refine zS 15 (by assumption) ?_
   refine zS 16 (by assumption) ?_
   refine zS 17 (by assumption) ?_
   refine zS 18 (by assumption) ?_
   refine zS 19 (by assumption) ?_
   refine zS 20 (by assumption) ?_
   refine zS 21 (by assumption) ?_
   refine zS 22 (by assumption) ?_
   refine zS 23 (by assumption) ?_
   refine zi 24 CF.o ?_
   refine xC ?_
   go_wp2_with fail
   go_meet
   case rel=>exact⟨true,rfl,λ_=>HNO.o (.inr (.inl (by first|rfl|trivial))),λh=>(by cases h),zzy⟩
  |true=>
  cases all with
  |false=>
   refine qz (S:=λx=>Below X.heap.size X x) ((Below.refl _ _).drew) (λhhc=> ?_)
   refine zi 0 CF.o ?_
   refine zi 1 CF.o ?_
   refine zi 2 CF.o ?_
   refine zi 3 CF.o ?_
   refine yA 4 rfl (λK hK=> ?_)
   go_simp
   refine(V.o X.drew (zy yh.o hhc)).mono ?_
   rintro e cw4 ⟨rfl,j⟩;have zz0:Below X.heap.size X cw4:=zy hhc j;refine hK.out _ _ zz0 (λ_=> ?_)
   clear hK K j hhc;refine zi 5 CF.o ?_
   refine zi 6 CF.o ?_
   refine zi 7 CF.o ?_
   refine zi 8 CF.o ?_
   refine zi 9 CF.o ?_
   refine zS 10 (by assumption) ?_
   refine zS 11 (by assumption) ?_
   refine zS 12 (by assumption) ?_
   refine zS 13 (by assumption) ?_
   refine zS 14 (by assumption) ?_
   refine zS 15 (by assumption) ?_
   refine zS 16 (by assumption) ?_
   refine zS 17 (by assumption) ?_
   refine zS 18 (by assumption) ?_
   refine zS 19 (by assumption) ?_
   refine zS 20 (by assumption) ?_
   refine zS 21 (by assumption) ?_
   refine zS 22 (by assumption) ?_
   refine zi 23 CF.o ?_
   refine zi 24 CF.o ?_
   refine xC ?_
   go_wp2_with fail
   go_meet
   case rel=>exact⟨false,rfl,λh=>(by cases h),λ_=>⟨by first|rfl|trivial,by first|rfl|trivial,λh=>(by cases h)⟩,zz0⟩
  |true=>
  obtain⟨bk,rfl,B,hbl, -,hbu,hfr⟩:=zec.o (by first|rfl|trivial);have hnl:n=ln:=by rw [HN.o,B]
  subst hnl;obtain⟨ab,ao,rfl⟩:=zcJ gu.o (by rw [B];omega)
  obtain⟨lb,lo,rfl⟩:=zcJ HL.o (by rw [<-qP.o];omega)
  have hcap:=(zh.room gu.o);have zji:=(zh.room HL.o);rw [B] at hcap;rw [<-qP.o] at zji;have q1:(bk:Int)<=(n:Int):=by omega
  have q2:(bk:Int)<=(cap:Int):=by omega
  have q3:¬(cap:Int)=(bk:Int):=by omega
  have q4:¬cap=bk:=by omega
  have q5:(bk:Int)<=(lc:Int):=by omega
  have q6:¬(lc:Int)=(bk:Int):=by omega
  have q7:¬lc=bk:=by omega
  have hdl:(S.drop bk).length=n - bk:=by rw [List.length_drop,B]
  have hml:(l.drop bk).length=n - bk:=by rw [List.length_drop, <-qP.o]
  have HFX:J2 (∀y,Below X.heap.size X y->Calls Tryz.prog 38 #[.agg #[I4 vars,I4 dom, .slice ca cn cc], .agg #[I4 mod,I4 bnd], .slice (some ⟨ab,ao+bk*3,none⟩) (n - bk) (cap - bk), .slice (some ⟨lb,lo+bk*3,none⟩) (n - bk) (lc - bk)] y (zbX FB y)):=λy t=>by
   rw [hfr];exact HPF.o y (zy HB.o (zy HX.o t)) _ _ (zh.below qY.stays (zh.rest gu.o bk (by omega)) t) _ _ (zh.below zdC.stays (zh.rest (jT HL.o (zy HB.o HX.o)) bk (by omega)) t) (by rw [hdl];omega) (by rw [hdl,hml];exact Nat.le_refl _) (λs hs=>hbu s (zfk hs)) (λx hx=>HWF.o x (zfk hx))
  clear B hbu hfr hdl hml hcap zji;cases FB with
  |false=>
   refine qz (S:=λx=>Below X.heap.size X x) ((Below.refl _ _).drew) (λhhd=> ?_)
   refine zi 0 CF.o ?_
   refine zi 1 CF.o ?_
   refine zi 2 CF.o ?_
   refine zi 3 CF.o ?_
   refine yA 4 rfl (λK hK=> ?_)
   go_simp
   refine(V.o X.drew (zy yh.o hhd)).mono ?_
   rintro e dw4 ⟨rfl,j⟩;have zlO:Below X.heap.size X dw4:=zy hhd j;refine hK.out _ _ zlO (λ_=> ?_)
   clear hK K j hhd;refine zi 5 CF.o ?_
   refine zi 6 CF.o ?_
   refine zi 7 CF.o ?_
   refine zi 8 CF.o ?_
   refine zi 9 CF.o ?_
   refine zi 10 CF.o ?_
   refine zi 11 CF.o ?_
   refine zi 12 CF.o ?_
   refine zi 13 CF.o ?_
   refine zi 14 CF.o ?_
   refine zi 15 CF.o ?_
   refine zi 16 CF.o ?_
   refine zi 17 CF.o ?_
   refine zi 18 CF.o ?_
   refine zi 19 CF.o ?_
   refine zi 20 CF.o ?_
   refine yA 21 rfl (λK hK=> ?_)
   go_simp
   refine(HFX.o dw4 zlO).mono ?_
   rintro e zA4 ⟨rfl,j⟩;have ztX:Below X.heap.size X zA4:=zy zlO j;refine hK.out _ _ ztX (λ_=> ?_)
   clear hK K j zlO;refine zi 22 CF.o ?_
   refine zi 23 CF.o ?_
   refine zi 24 CF.o ?_
   refine xC ?_
   go_wp2_with fail
   go_meet
   case rel=>exact⟨true,rfl,λ_=>HNO.o (.inr (.inr ⟨by first|rfl|trivial,by first|rfl|trivial⟩)),λh=>(by cases h),ztX⟩
  |true=>
  refine qz (S:=λx=>Below X.heap.size X x) ((Below.refl _ _).drew) (λhhe=> ?_)
  refine zi 0 CF.o ?_
  refine zi 1 CF.o ?_
  refine zi 2 CF.o ?_
  refine zi 3 CF.o ?_
  refine yA 4 rfl (λK hK=> ?_)
  go_simp
  refine(V.o X.drew (zy yh.o hhe)).mono ?_
  rintro e ew4 ⟨rfl,j⟩;have zlP:Below X.heap.size X ew4:=zy hhe j;refine hK.out _ _ zlP (λ_=> ?_)
  clear hK K j hhe;refine zi 5 CF.o ?_
  refine zi 6 CF.o ?_
  refine zi 7 CF.o ?_
  refine zi 8 CF.o ?_
  refine zi 9 CF.o ?_
  refine zi 10 CF.o ?_
  refine zi 11 CF.o ?_
  refine zi 12 CF.o ?_
  refine zi 13 CF.o ?_
  refine zi 14 CF.o ?_
  refine zi 15 CF.o ?_
  refine zi 16 CF.o ?_
  refine zi 17 CF.o ?_
  refine zi 18 CF.o ?_
  refine zi 19 CF.o ?_
  refine zi 20 CF.o ?_
  refine yA 21 rfl (λK hK=> ?_)
  go_simp
  refine(HFX.o ew4 zlP).mono ?_
  rintro e zA5 ⟨rfl,j⟩;have ztY:Below X.heap.size X zA5:=zy zlP j;refine hK.out _ _ ztY (λ_=> ?_)
  clear hK K j zlP;refine zi 22 CF.o ?_
  refine zi 23 CF.o ?_
  refine zi 24 CF.o ?_
  refine xC ?_
  go_wp2_with fail
  go_meet
  case rel=>exact⟨false,rfl,λh=>(by cases h),λ_=>⟨by first|rfl|trivial,by first|rfl|trivial,λ_=>by first|rfl|trivial⟩,ztY⟩
 case rest=>
 obtain⟨st,rfl,qV,HS2,HBC⟩:=hcut;obtain⟨L,rfl⟩:=qxE (wc:World);have zga:=qh (zy yh.o HBC.o);cases st with
 |true=>
  have hr:=qV.o (by first|rfl|trivial);have HRR:=qh hr;clear hr;go_wp2_with fail
  go_ret;rw [HRR.o];exact⟨rfl,zga.o⟩
 |false=>
 obtain⟨rfl,rfl,hall⟩:=HS2.o (by first|rfl|trivial);obtain⟨hR,I,h1t⟩:=pU.o (by first|rfl|trivial) (by first|rfl|trivial) hall;obtain⟨bk,rfl,B,hbl,hbig, -, -⟩:=zec.o (by first|rfl|trivial);have HRE:=qh hR;have vP:=qh I;have HT1:=qh h1t;have hnl:n=ln:=by rw [HN.o,B]
 subst hnl;have HSL:=qh B;have z4g:=qh hbig;clear hbig;have hn63:=hl63;clear hR I h1t hall qV HS2 HNO pU zec B HST V HPF;obtain⟨⟨c0,c1,c2⟩,⟨c3,c4⟩,⟨f0,f1,f2,f3,f4,f5⟩,c5,c6⟩:=CC.o L (zy HX.o HBC.o);go_upto_region 5 with fail
 have HLG:J2 (zbL L (L.alloc (.cells #[N7,I4 bk] 87)) L.heap.size (N7) [] [] bk):=zbL.start (Below.refl _ _);generalize World.alloc L _=X3 at HLG ⊢;have HGW:J2 (L.heap.size<=L.heap.size):=Nat.le_refl _;obtain⟨gw,hgw⟩:=qxE L.heap.size;rw [<-hgw] at HLG ⊢;clear hgw HGW c0 c1 c2 c3 c4 f0 f1 f2 f3 f4 f5 c5 c6;go_wp2_with fail
 go_loopg [54] n (λgg s14 wr=>∃(i:Nat) (va:Option Addr) (vc:Nat) (css:List (List Value)),i<=n/\J2 (gg=n - i)/\s14=I4 i/\J2 (zbL L wr gw (.slice va i vc) ((S.take i).map F) css bk))
 case atStart=>exact⟨0,none,0, [],Nat.zero_le _,rfl,rfl,HLG.o⟩
 case round=>
 obtain⟨i,va,vc,css,hi,HG,rfl,C⟩:=hrel;obtain⟨N,rfl⟩:=qxE (wr:World);clear HLG;by_cases hlt:i<n
 rotate_left
 ·obtain rfl:n=i:=by omega
  have E:=C.o.letters;rw [List.take_of_length_le (by rw [HSL.o];exact Nat.le_refl _)] at E;have wD:=zy zga.o C.o.below;have P:=HTR.o N wD _ E vP.o HT1.o;have zA6:=qh P;have hbx:=C.o.box;have g0:=ze hbx 0;have g1:=ze hbx 1;have uM:=qh wD;clear E P hbx wD;obtain⟨-, -,⟨f0,f1,f2,f3,f4,f5⟩, -⟩:=CC.o N (zy HX.o (zy HBC.o C.o.below));go_upto_region 11 with(go_at_call 41;go_must(refine(zA6.o).mono ?_);rintro e Y ⟨sa,sn,sc,rfl,⟨tb,tf,rfl,hsn,htc⟩,j⟩;have vT:=qh j;have HTC:=qh htc;clear j htc)
  have htc:=HTC.o;have hsI:(0:Int)<(sn:Int):=by omega
  have hsN:0<sn:=by omega
  clear g0 g1 f0 f1 f2 f3 f4 f5;go_wp2_with fail
  go_ret;rw [HRE.o];exact⟨by first|rfl|simp,zy uM.o vT.o⟩
 have vC:(i:Int)<(n:Int):=by omega
 have hiS:i<S.length:=by rw [HSL.o];exact hlt
 obtain⟨sb,so,tv,uv,hse, -,y0,y1,y2,q⟩:=jY.part (zdp gu.o (zy HBC.o C.o.below)) i hiS;obtain⟨ta,tc,rfl, -⟩:=zh.slice q.threads;obtain⟨ua,uc,rfl, -⟩:=zh.slice q.mem;have HSE:=qh hse;subst hse;have hmx:=zxa (f:=F) hiS;obtain⟨s,hsd⟩:=qxE (S.getD i default);rw [<-hsd] at y0 y1 y2 q hmx;have r:=λy (t:Below N.heap.size N y)=>HLE.o y (zy zga.o (zy C.o.below t)) (by first|rfl|trivial) s _ _ (q.below t);obtain⟨tn,htn⟩:=qxE s.threads.length;obtain⟨un,hun⟩:=qxE s.mem.length;obtain⟨bd,hbd⟩:=qxE s.bad;rw [<-htn, <-hun, <-hbd] at r;rw [<-htn] at y0;rw [<-hun] at y1;rw [<-hbd] at y2
 obtain⟨lt,hlt2⟩:=qxE (F s);rw [<-hlt2] at r hmx;have HMX:=qh hmx;have HLX:=qh r;have hi2:((S.take i).map F).length=i:=by rw [List.length_map,List.length_take];omega
 have HI2:=qh hi2;have T:=C.o.rows.row;rw [hi2] at T;have vW:=qh T;have yK:=qh (zy HX.o (zy HBC.o C.o.below));clear hmx r q hsd htn hun hbd hlt2 hi2 T hiS;go_upto_region 8 with fail
 have HA:J2 (Below N.heap.size N (N.alloc (.cells #[.slice ta tn tc, .slice ua un uc, .bool bd] 61))):=(Below.refl N.heap.size N).alloc (Nat.le_refl _) _;have Z:=qh (zQ N (.cells #[.slice ta tn tc, .slice ua un uc, .bool bd] 61));clear y0 y1 y2;generalize World.alloc N _=W3 at HA Z ⊢;obtain⟨gm,hgm⟩:=qxE N.heap.size;rw [<-hgm] at Z ⊢;clear hgm;have Q:=qh (C.o.call HA.o);have hb3:=Q.o.box
 have CI:J2 (∀y,Below W3.heap.size W3 y->K3 y g 0 (I4 vars)/\K3 y g 1 (I4 dom)/\K3 y g 2 (.slice ca cn cc)/\K3 y (g+2) 0 (I4 k)/\K3 y (g+2) 1 (I4 p1)/\K3 y (g+2) 2 (I4 p2)/\K3 y (g+2) 3 (I4 p3)/\K3 y (g+2) 4 (I4 p4)/\K3 y (g+2) 5 (.slice ka kn kc)/\K3 y gm 0 (.slice ta tn tc)/\K3 y gm 1 (.slice ua un uc)/\K3 y gm 2 (.bool bd)/\K3 y gw 0 (.slice va i vc)):=λy t=>by
  obtain⟨⟨e0,e1,e2⟩, -,⟨e5,e6,e7,e8,e9,e10⟩, -⟩:=CC.o y (zy yK.o (zy HA.o t));exact⟨e0,e1,e2,e5,e6,e7,e8,e9,e10,zl t _ _ (ze Z.o 0),zl t _ _ (ze Z.o 1),zl t _ _ (ze Z.o 2),zl t _ _ (ze hb3 0)⟩
 clear hb3;refine wp_region_noPanic ?_
 refine xg (n0:=7) (S:=λx=>Below W3.heap.size W3 x) (by kernel_rfl) ((Below.refl _ _).drew) (λO=> ?_)
 refine zU 0 (λ_=>O) ?_
 refine vX [7,8,9] 1 CI.o O ?_
 refine vX [5,6,7,8,9] 2 CI.o O ?_
 refine vX [5,6,7,8,9] 3 CI.o O ?_
 refine vX [5,6,7,8,9] 4 CI.o O ?_
 refine kg 5 rfl (λK hK=> ?_)
 go_simp
 refine(HLX.o W3.drew (zy HA.o O)).mono ?_
 rintro e u ⟨⟨ba,bn,bc,hbn,rfl,wD⟩,j⟩;have vB:=qh (Q.o.call (zy O j));have uM:=qh wD;have HBN:=qh hbn;have qo:J2 (gw<W3.drew.heap.size/\∀k,(Value.slice va i vc).ownBlock=some k->k<W3.drew.heap.size):=⟨zA (Q.o.call O).box,λk hk=>((Q.o.call O).rows.row.lt k hk).2⟩;have wN:J2 (L.heap.size<=W3.drew.heap.size):=(Q.o.call O).below.size;clear wD hbn;have hT5:Below W3.heap.size W3 u:=zy O j;refine hK.out _ _ (λ_ _=>hT5) ?_
 clear hK K j O;refine kg 6 rfl (λK hK=> ?_)
 go_simp
 have j:Below u.heap.size u (u.alloc (.cells #[.slice ba bn bc] 57)):=(Below.refl _ _).alloc (Nat.le_refl _) _;have jS:=qh (j4 u [.slice ba bn bc] 57);have HRO:=qh (vB.o.rows.row.alloc (.cells #[.slice ba bn bc] 57));rw [HI2.o] at HRO
 have kT:=qh (λ(X1:World) (v':Value) (U:X1.ownsRow L.heap.size 57 1 v' (i+1) (css.flatten++ [.slice ba bn bc])) (h4:Since (λk=>(Value.slice va i vc).ownBlock=some k) (u.alloc (.cells #[.slice ba bn bc] 57)) X1) (h5:∀k,v'.ownBlock=some k->(Value.slice va i vc).ownBlock=some k\/k=(u.alloc (.cells #[.slice ba bn bc] 57)).heap.size)=>vB.o.put (o:=(.cells #[.slice ba bn bc] 57)) (by rw [<-HBN.o];exact uM.o) qo.o (by rw [HI2.o];exact U) h4 h5);have qV:J2 (L.heap.size<=(u.alloc (.cells #[.slice ba bn bc] 57)).heap.size):=Nat.le_trans vB.o.below.size j.size;obtain⟨gq,hgq⟩:=qxE u.heap.size
 rw [<-hgq] at jS ⊢;clear hgq;generalize World.alloc u _=tw6 at j jS HRO kT qV ⊢;have hT6:Below W3.heap.size W3 tw6:=zy hT5 j;refine hK.out _ _ (λ_ _=>hT6) ?_
 clear hK K j hT5;refine kg 7 rfl (λK hK=> ?_)
 refine zY tw6 (by rfl) (.tmp 59) (.tmp 64) 85 rfl 57 (N7) 1 24 Tryz.underlying85 zqX rfl (by decide) L.heap.size (.slice va i vc) i css.flatten (by rfl) HRO.o ⟨gq,0,none⟩ 1 1 [.slice ba bn bc] (by rfl) rfl jS.o (by simp [Value.oneCell']) (by have:=HSL.o;have:=z4g.o;unfold maxLen;omega) (by have:=z4g.o;omega) qV.o ?_
 intro ja jc tw7 e1 e2 e3 e4 e5;have hpu:=kT.o tw7 (.slice ja (i+1) jc) e1 e4 e5;have HPU:=qh hpu;clear e1 e2 e3 e4 e5 hpu;refine hK.out _ _ (λh=>absurd rfl h) ?_
 clear hK K;change vw _ _ _ _ _ _ _ _ (Act.put _ (some 65) _) _;simp only [Act.put,jJ,jK,jL];refine zU 8 (λh=>absurd h (by decide+kernel)) ?_
 refine kg 9 rfl (λK hK=> ?_)
 have q0:=ze HPU.o.2 0;have q1:=zH HPU.o.2 0;go_simp
 refine hK.out _ _ (λ_ h=>absurd h (by decide+kernel)) ?_
 clear hK K;refine xZ (by kernel_rfl) ?_ _
 refine NoPanic.normal ?_
 have z4j:=qh HPU.o.1;rw [HMX.o] at z4j;clear HPU q0 q1;go_wp2_with fail
 go_roundg (n - (i+1))
 case measure=>rw [HG.o];omega
 case rel=>exact⟨i+1,ja,jc,_,by omega,rfl,by simp,z4j.o⟩
