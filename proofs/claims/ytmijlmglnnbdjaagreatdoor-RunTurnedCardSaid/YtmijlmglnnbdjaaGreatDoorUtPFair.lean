/- Steps. -/
import Derived.Test.YtmijlmglnnbdjaaGreatDoorUtPMoves
set_option linter.all false
namespace Go.Proofs.YtmijlmglnnbdjaaGreatDoor
open Go.RowKit
set_option maxRecDepth 100000
set_option maxHeartbeats 16000000
theorem zdp {w b:World} {v:Value} {l:List zo} (h:jY w v l) (c:Below w.heap.size w b):jY b v l:=zh.below qY.stays h c
theorem jT {w b:World} {v:Value} {l:List zw} (h:qB w v l) (c:Below w.heap.size w b):qB b v l:=zh.below zdC.stays h c
theorem zrA {w c:World} {l:List zw} {e:Ending} (h:zpC w l e c):(∃b,e= .returned (.map (some b))/\∃n,jr c b n (λx=>x∈l)/\n<=1000/\w.heap.size<=b)/\Below w.heap.size w c:=by
 obtain⟨⟨b,n,j,i,g,f⟩,d⟩:=h;exact⟨⟨b,j,n,i,f,g⟩,d⟩
theorem zla (w:World) (c:zG) (cv:Value) (d:Nat) (hc:yP d w cv c.threads) (m:zC) (lv:Value) (l:List zo) (hl:jY w lv l) (mv:Value) (H:List zw) (hm:qB w mv H) (h1:1<=l.length) (h2:l.length<=H.length) (F:∀s∈l,kH 33 s) (hwf:∀x∈H,vZ x):
  Calls Tryz.prog 38 #[yj c cv,yE m,lv,mv] w λe w'=>e= .returned (.bool (zaw c m d l H))/\Below w.heap.size w w':=by
 obtain⟨ca,cc,rfl, -⟩:=zh.slice hc;obtain⟨la,lc,rfl,hl63⟩:=zh.slice hl;obtain⟨ma,mc,rfl,hm63⟩:=zh.slice hm;have b:=λW (hW:Below w.heap.size w W) s sv mv hs F=>(zuQ W c (.slice ca c.threads.length cc) d (zh.below (xV.stays d) hc hW) m s sv mv hs F).mono λe w' h=>zrA h;have G:=λW x=>zlp W m x;have r:=λp n=>znF (c:=c) (m:=m) (d:=d) (l:=l) (moves:=H) (p:=p) (n:=n);have z:∀p,zae c m d l H p 0=true:=λp=>rfl;have g:=λW h=>zuR (c:=c) (m:=m) (d:=d) (l:=l) (moves:=H) W h;have Z:∀s p,p∈zcd c m d s->vZ p:=λs p h=>z1j h;obtain⟨R,hR⟩:=qxE (zaw c m d l H);rw [<-hR] at g ⊢;obtain⟨AB,hAB⟩:=qxE (zcd c m d)
 rw [<-hAB] at b g r Z;obtain⟨ST,hST⟩:=qxE (zae c m d l H);rw [<-hST] at g r z;obtain⟨f,hf⟩:=qxE (wY m);have hpf:∀x,wY m x=f x:=λx=>by rw [hf]
 have hpw:∀x,vZ x->vZ (f x):=λx h=>by rw [hf];exact zkA h
 simp only [hpf] at G r
 have zzU:R=true↔∀x,vZ x->¬(x∈AB (l.getD 0 default)/\ST x l.length=true):=by
  rw [g ((AB (l.getD 0 default)).filter (λp=>ST p l.length)) (λp=>by simp [List.mem_filter]),decide_eq_true_eq,List.length_eq_zero_iff,List.filter_eq_nil_iff];exact⟨λh x _ hx=>h x hx.1 hx.2,λh x hx hs=>h x (Z _ x hx) ⟨hx,hs⟩⟩
 have g:=zzU;clear zzU;have hws:∀i,i<l.length->kH 33 (l.getD i default):=λi hi=>F _ (by rw [List.getD_eq_getElem?_getD,List.getElem?_eq_getElem hi];exact List.getElem_mem hi);have hwm:∀i,i<H.length->vZ (H.getD i default):=λi hi=>hwf _ (by rw [List.getD_eq_getElem?_getD,List.getElem?_eq_getElem hi];exact List.getElem_mem hi);clear hf hpf hR hAB hST F hwf;unfold yj yE yB at b;unfold yE at G;unfold yj yE;generalize c.threads.length=cn at b ⊢;generalize c.vars=vars at b ⊢;generalize c.domain=dom at b ⊢;generalize m.model=mod at b G ⊢;generalize m.bound=bnd at b G ⊢;obtain⟨U,hln⟩:=qxE l.length
 obtain⟨mn,hmn⟩:=qxE H.length;rw [<-hln] at hl hl63 h1 h2 hws g ⊢;rw [<-hmn] at hm hm63 h2 hwm ⊢;clear hc;clear c m;have hB:=xK w (.cells #[I4 vars,I4 dom, .slice ca cn cc] 25) (.cells #[I4 mod,I4 bnd] 30);have hx1:=xA w (.cells #[I4 vars,I4 dom, .slice ca cn cc] 25) (.cells #[I4 mod,I4 bnd] 30);have hx2:=xq w (.cells #[I4 vars,I4 dom, .slice ca cn cc] 25) (.cells #[I4 mod,I4 bnd] 30);have HB:=qh hB;have H1:=qh hx1;have H2:=qh hx2;have HAB:=qh b;have HPR:=qh G;have HSU:=qh r;have HZ:=qh z;have HFI:=qh g;have bZ:=qh Z;have HPW:=qh hpw;have HWS:=qh hws;have HWM:=qh hwm;have HL:=qh hl
 have HM:=qh hm;have qP:=qh hln;have jE:=qh hmn;clear hB hx1 hx2 b G r z g Z hpw hws hwm hl hm hln hmn;go_enter Tryz.func38,Tryz.ntmps38
 go_upto_region 1 with fail
 generalize World.alloc (World.alloc w _) _=W at HB H1 H2 ⊢;obtain⟨N,hgx⟩:=qxE w.heap.size;rw [<-hgx] at H1 H2 ⊢;have xG:=qh hgx;clear hgx;have h0I:(0:Int)<(U:Int):=by omega
 have h0N:0<U:=by omega
 obtain⟨b0,o0,tv0,mv0,yI, -,y0,y1,y2,C⟩:=jY.part (zdp HL.o HB.o) 0 (by rw [<-qP.o];omega)
 obtain⟨tp,tq,rfl, -⟩:=zh.slice C.threads;obtain⟨up,uq,rfl, -⟩:=zh.slice C.mem;have HEA:=qh yI;subst yI;obtain⟨s0,v⟩:=qxE (l.getD 0 default);rw [<-v] at y0 y1 y2 C;have HSE:=qh v;obtain⟨tn0,B⟩:=qxE s0.threads.length;obtain⟨un0,A⟩:=qxE s0.mem.length;obtain⟨bd0,D⟩:=qxE s0.bad;rw [<-B, <-A] at C;rw [<-B] at y0;rw [<-A] at y1;rw [<-D] at y2;have wN:=qh C;have zyc:=λy (j:Below W.heap.size W y)=>HAB.o y (zy HB.o j) s0 _ _ (C.below j) (by rw [v];exact HWS.o 0 (by omega));rw [<-D] at zyc;have HA0:=qh zyc
 have CC:J2 (∀y,Below W.heap.size W y->K3 y N 0 (I4 vars)/\K3 y N 1 (I4 dom)/\K3 y N 2 (.slice ca cn cc)/\K3 y (N+1) 0 (I4 mod)/\K3 y (N+1) 1 (I4 bnd)/\
   K3 y b0 o0 (.slice tp tn0 tq)/\K3 y b0 (o0+1) (.slice up un0 uq)/\K3 y b0 (o0+2) (.bool bd0)):=λy j=>
  ⟨zl j _ _ (ze H1.o 0),zl j _ _ (ze H1.o 1),zl j _ _ (ze H1.o 2),zl j _ _ (ze H2.o 0),zl j _ _ (ze H2.o 1),by simpa using zl j _ _ y0,by simpa using zl j _ _ y1,by simpa using zl j _ _ y2⟩
 clear y0 y1 y2 C B A D v zyc;refine qz (S:=λx=>Below W.heap.size W x) ((Below.refl _ _).drew) (λV=> ?_)
 refine zi 0 CC.o ?_
 refine zi 1 CC.o ?_
 refine zi 2 CC.o ?_
 refine zi 3 CC.o ?_
 refine zi 4 CC.o ?_
 refine yA 5 rfl (λK hK=> ?_)
 go_simp
 refine(HA0.o W.drew V).mono ?_
 rintro e aw5 ⟨⟨wb,rfl,t⟩,F⟩;have zyd:Below W.heap.size W aw5:=zy V F;refine hK.out _ _ zyd (λ_=> ?_)
 clear hK K F V;refine zi 6 CC.o ?_
 refine xC ?_
 obtain⟨wn,t,hwn,hwb⟩:=t;have HWB:J2 (W.heap.size<=wb):=hwb;have qV:J2 (jr aw5 wb wn (λp=>p∈AB s0/\ST p 0=true)):=t.to (λp _=>by rw [HZ.o];simp)
 have yh:=qh zyd;have zBg:J2 (R=true↔∀x,vZ x->¬(x∈AB s0/\ST x U=true)):=by rw [HSE.o];exact HFI.o
 clear zyd t hwn hwb HFI HA0 HZ;generalize aw5=X at qV yh ⊢;go_wp2_with fail
 go_loopg [21] U (λgg s21 wr=>∃(i:Nat),i<=U/\J2 (gg=U - i)/\s21=I4 i/\J2 (jr wr wb wn (λp=>p∈AB s0/\ST p i=true))/\J2 (Since (λk=>k=wb) X wr))
 case atStart=>exact⟨0,Nat.zero_le _,rfl,rfl,qV.o,Since.refl _ _⟩
 case round=>
 obtain⟨i,hi,HG,rfl,HSI,HSX⟩:=hrel;obtain⟨u,rfl⟩:=qxE (wr:World);clear qV;have zBh:J2 (X.heap.size<=u.heap.size):=HSX.o.size;have uM:J2 (Below W.heap.size W u):=yh.o.trans (HSX.o.below yh.o.size (λk a=>by rw [a];exact HWB.o));by_cases hlt:i<U
 rotate_left
 ·obtain rfl:U=i:=by omega
  have yG:=qh (zy HB.o uM.o);go_wp2_with(at_len;refine zk7 _ rfl _ rfl wb wn _ rfl HSI.o ?_;intro kk hkk;have HKK:=qh hkk;clear hkk);go_ret;refine⟨?_,yG.o⟩
  have h1:=zBg.o;have h2:=HKK.o
  have e:R=((kk:Int)==0):=by
   rw [Bool.eq_iff_iff,h1, <-h2,beq_iff_eq];omega
  rw [e];rfl
 have vC:(i:Int)<(U:Int):=by omega
 obtain⟨bi,oi,tvi,mvi,hei, -,y0,y1,y2,J⟩:=jY.part (zdp HL.o (zy HB.o uM.o)) i (by rw [<-qP.o];exact hlt);obtain⟨ti,tqi,rfl, -⟩:=zh.slice J.threads;obtain⟨ui,uqi,rfl, -⟩:=zh.slice J.mem;have z5A:=hei;simp only [Option.some.injEq,Addr.mk.injEq,and_true] at z5A;obtain⟨rfl,rfl⟩:=z5A;have zye:=HWS.o i hlt;have P:=λp=>HSU.o p i;obtain⟨s,v⟩:=qxE (l.getD i default);rw [<-v] at y0 y1 y2 J zye;simp only [<-v] at P;obtain⟨tn,B⟩:=qxE s.threads.length;obtain⟨un,A⟩:=qxE s.mem.length;obtain⟨bd,D⟩:=qxE s.bad;rw [<-B, <-A] at J;rw [<-B] at y0;rw [<-A] at y1;rw [<-D] at y2
 have hab:=λy (j:Below u.heap.size u y)=>HAB.o y (zy HB.o (zy uM.o j)) s _ _ (J.below j) zye;rw [<-D] at hab;have HAI:=qh hab;obtain⟨bm,om,hem, -,z0,z1,z2⟩:=qB.part (jT HM.o (zy HB.o uM.o)) i (by rw [<-jE.o];omega)
 have HEM:=qh hem;subst hem;have Q:=HPW.o _ (HWM.o i (by omega));obtain⟨x,hxe⟩:=qxE (H.getD i default);rw [<-hxe] at z0 z1 z2 Q;simp only [<-hxe] at P;obtain⟨q,hq⟩:=qxE (f x);rw [<-hq] at Q;have T:=λW=>HPR.o W x;rw [<-hq] at T;simp only [<-hq] at P;have zBi:=qh P;have HWQ:=qh Q;obtain⟨xk,xt,xv⟩:=x;unfold vF at T;simp only [] at z0 z1 z2 T;have HPX:=qh T;obtain⟨qk,qt,qv⟩:=q;simp only [] at HPX
 have CW:J2 (∀y,Below u.heap.size u y->K3 y N 0 (I4 vars)/\K3 y N 1 (I4 dom)/\K3 y N 2 (.slice ca cn cc)/\K3 y (N+1) 0 (I4 mod)/\K3 y (N+1) 1 (I4 bnd)/\
   K3 y bm (om+i*3) (I4 xk)/\K3 y bm (om+i*3+1) (I4 xt)/\K3 y bm (om+i*3+2) (I4 xv)):=λy j=>by
  obtain⟨k0,k1,k2,k3,k4, -⟩:=CC.o y (zy uM.o j);exact⟨k0,k1,k2,k3,k4,zl j _ _ z0,zl j _ _ z1,zl j _ _ z2⟩
 clear J zye v B A D hab Q hxe hq T P z0 z1 z2;go_upto_region 5 with fail
 have V:Below u.heap.size u (u.alloc (.cells #[.slice ti tn tqi, .slice ui un uqi, .bool bd] 61)):=(Below.refl _ _).alloc (Nat.le_refl _) _;have L:=zQ u (.cells #[.slice ti tn tqi, .slice ui un uqi, .bool bd] 61);have HA:=qh V;clear y0 y1 y2 V;generalize World.alloc u _=W4 at HA L ⊢;generalize u.heap.size=gs at L ⊢;obtain⟨c0,c1,c2,c3,c4, -⟩:=CW.o W4 HA.o;have m0:=ze L 0;have m1:=ze L 1;have m2:=ze L 2;clear L;go_upto_region 6 with(go_at_call 66;go_must(refine(HAI.o W4 HA.o).mono ?_);rintro e Y ⟨⟨mb,rfl,I⟩,F⟩;have HST:=qh I;have vT:=qh F;clear I F)
 obtain⟨nm,I,hnm,hmb⟩:=HST.o;have V:Below Y.heap.size Y (Y.alloc (.cells #[.map (some mb)] 123)):=(Below.refl _ _).alloc (Nat.le_refl _) _;have M:=qh (zQ Y (.cells #[.map (some mb)] 123));have z5B:=qh (I.below V);have HMY:J2 (mb<Y.heap.size):=I.lt;have zyf:J2 (wb<W4.heap.size):=Nat.lt_of_lt_of_le HSI.o.lt HA.o.size;have HMB:J2 (W4.heap.size<=mb):=hmb;have HB6:=qh (zy HA.o (zy vT.o V));have HSO:J2 (u.heap.size<=W4.heap.size):=HA.o.size;clear I hnm hmb V HST vT HA HAI c0 c1 c2 c3 c4 m0 m1 m2;generalize World.alloc Y _=X6 at M z5B HB6 ⊢;obtain⟨gq,hgq⟩:=qxE Y.heap.size;rw [<-hgq] at M HMY ⊢
 clear hgq;have hS7:∀y,Since (λk=>k=mb) X6 y->Since (λk=>u.heap.size<=k) u y:=λy j=>(xW (λk=>u.heap.size<=k) HB6.o).trans j (λk a=> .inl (by rw [a];exact Nat.le_trans HSO.o HMB.o));have HS7:=qh hS7
 have CQ:J2 (∀y,Since (λk=>k=mb) X6 y->K3 y gq 0 (.map (some mb))/\K3 y (N+1) 0 (I4 mod)/\K3 y (N+1) 1 (I4 bnd)/\
   K3 y bm (om+i*3) (I4 xk)/\K3 y bm (om+i*3+1) (I4 xt)/\K3 y bm (om+i*3+2) (I4 xv)):=λy j=>by
  have hbl:Below u.heap.size u y:=(HS7.o y j).below (Nat.le_refl _) (λk a=>a);obtain⟨-, -, -,k3,k4,k5,k6,k7⟩:=CW.o y hbl;refine⟨ze ((j.block _ (zA M.o) (by have:=HMY.o;omega)).trans M.o) 0,k3,k4,k5,k6,k7⟩
 clear hS7 CW;have zFL:(i:Int)<(mn:Int):=by omega
 have zFM:i<mn:=by omega
 refine qz (S:=λx=>Since (λk=>k=mb) X6 x) (xW (λk=>k=mb) (Below.refl _ _).drew) (λhB6=> ?_)
 refine zi 0 CQ.o ?_
 refine zi 1 CQ.o ?_
 refine zi 2 CQ.o ?_
 refine zi 3 CQ.o ?_
 refine zi 4 CQ.o ?_
 refine zi 5 CQ.o ?_
 refine yA 6 rfl (λK hK=> ?_)
 go_simp
 refine(HPX.o X6.drew).mono ?_
 rintro e bw6 ⟨rfl,F⟩;have zBj:=qh (z5B.o.below ((Below.refl X6.heap.size X6).drew.trans F));have zrC:(λx=>Since (λk=>k=mb) X6 x) bw6:=Since.trans hB6 (xW (λk=>k=mb) F) (λ_ e=> .inl e);refine hK.out _ _ zrC (λ_=> ?_)
 clear hK K F hB6;refine yA 7 rfl (λK hK=> ?_)
 go_simp
 obtain⟨bw7,E,hs7,hn7⟩:=zBj.o.drop HWQ.o 0;unfold vF at E;simp only [] at E;rw [E];have HDS:=qh hs7;have zrD:(λx=>Since (λk=>k=mb) X6 x) bw7:=Since.trans zrC hn7 (λ_ e=> .inl e);clear E hs7 hn7;go_simp
 refine hK.out _ _ zrD (λ_=> ?_)
 clear hK K zrC;refine xC ?_
 have O:Since (λk=>k=mb) X6 bw7:=zrD;clear zrD;generalize bw7=X7 at O HDS ⊢;have hq7:=(O.block _ (zA M.o) (by have:=HMY.o;omega)).trans M.o
 have z5D:jr X7 wb wn (λp=>p∈AB s0/\ST p i=true):=(HSI.o.below HB6.o).since O (by have:=HMB.o;have:=zyf.o;omega)
 have hdel:=zk8 X7 wb wn _ z5D gq mb nm _ (ze hq7 0) HDS.o (by have:=HMY.o;have:=HMB.o;have:=zyf.o;omega) (by have:=HMB.o;have:=zyf.o;omega)
 have zBk:=qh hdel;have HX7:=qh (HS7.o X7 O);clear hdel hq7 z5D O;go_wp2_with(go_at_call 68;go_must(refine(zBk.o).mono ?_);rintro e X8 ⟨rfl,t,hsn⟩;have HS8:=qh t;have HN8:=qh hsn;clear t hsn);go_roundg (U - (i+1))
 case measure=>rw [HG.o];omega
 case rel=>exact⟨i+1,by omega,rfl,by simp,HS8.o.to (λp _=>by
   rw [zBi.o p,Bool.and_eq_true,Bool.and_eq_true,decide_eq_true_eq,decide_eq_true_eq];exact⟨λh=>⟨h.1.1,h.1.2,h.2.1,λe=>h.2.2 e.symm⟩,λh=>⟨⟨h.1,h.2.1⟩,h.2.2.1,λe=>h.2.2.2 e.symm⟩⟩),
  (HSX.o.trans HX7.o (λk a=> .inr (Nat.le_trans zBh.o a))).trans HN8.o (λk a=> .inl a)⟩
