/- Steps. -/
import Derived.Test.YtmijlmglnnbdjaaGreatDoorUtPTry
set_option linter.all false
namespace Go.Proofs.YtmijlmglnnbdjaaGreatDoor
open Go.RowKit
set_option maxRecDepth 100000
set_option maxHeartbeats 16000000
theorem zva (w:World) (c:zG) (cv:Value) (d:Nat) (hc:yP d w cv c.threads) (m:zC) (s:zo) (sv mv:Value) (hs:yD w s sv mv) (hb:∀j,j<s.threads.length->(s.threads.getD j default).buf.length<=1000000) (hf:yJ c m s=true)
  (F0:Nat->Prop) (hF0:∀k,F0 k->k<w.heap.size) (ha:yL F0 w (λy=>yD y s sv mv)):Calls Tryz.prog 63 #[yj c cv,yE m,yB s sv mv] w (zmF F0 w (xL c m s d) (zlJ c m s d)):=by
 have pF:s.threads.length<=4:=by
  obtain⟨h1, -,h2,h3, -⟩:=zam hf;have h4:=xY h1;omega
 have hR:xL c m s d=(List.range s.threads.length).flatMap (wE c m s d):=by unfold xL;rw [if_pos hf]
 rw [hR,zwA hf];obtain⟨AT,hAT⟩:=qxE (allT m s);obtain⟨TM,hTM⟩:=qxE (zfa c m s d);obtain⟨MT,hMT⟩:=qxE (wE c m s d);obtain⟨NT,hNT⟩:=qxE (zlI c m s d);have hall:∀i,i<s.threads.length->(AT i).filter (λx=>(TM i x).isSome)=MT i/\(AT i).filterMap (TM i)=NT i:=λi hi=>by rw [hAT,hTM,hMT,hNT];exact zt8 hf hi
 have zy0:∀i,AT i=⟨1,(i:Int),0⟩::(yX (s.threads.getD i default).buf m.model).map λv=>(⟨2,(i:Int),v⟩:zw):=λi=>by rw [hAT];rfl
 have wV:∀W (i:Nat) (x:zw),Below w.heap.size w W->i<s.threads.length->x.thread=(i:Int)->Calls Tryz.prog 64 #[yj c cv,yE m,yB s sv mv, .agg #[I4 x.kind,I4 (i:Int),I4 x.var]] W (ziR W (Follows W s sv mv) (TM i x)):=λW i x hW hi hx=>by
  rw [hTM];exact zn1 W c cv d (zh.below (xV.stays d) hc hW) m s sv mv (hs.below hW) hb hf i hi x.kind x.var
 have zy1:∀W W2 t (tv yv u1 u2:Value),Below w.heap.size w W->Follows W s sv mv W2 t tv yv->(∀k,u1.ownBlock=some k->w.heap.size<=k/\k<W.heap.size)->(∀k,u2.ownBlock=some k->w.heap.size<=k/\k<W.heap.size)->yL (NF F0 u1 u2) W2 (λy=>qY y t [tv,yv, .bool t.bad]):=by
  intro W W2 t tv yv u1 u2 hW hfo h1 h2
  have h3:=hfo (NF F0 u1 u2) (λk hk=>by
   rcases hk with e|e|e
   ·exact Nat.lt_of_lt_of_le (hF0 k e) hW.size
   ·exact(h1 k e).2
   ·exact(h2 k e).2) (ha.step (Since.of_below hW) (λk hk=> .inr hk) (λk hk=>by
   rcases hk with e|e|e
   ·exact .inl e
   ·exact .inr (h1 k e).1
   exact .inr (h2 k e).1))
  exact λy hy=>⟨tv,yv,rfl,h3 y hy⟩
 rw [<-hMT, <-hNT];clear hR hMT hNT hAT hTM ha hf;obtain⟨ca,cc,rfl, -⟩:=zh.slice hc;obtain⟨ta,j6,rfl, -⟩:=zh.slice hs.threads;obtain⟨ma,vU,rfl, -⟩:=zh.slice hs.mem;have hT:=hs.threads;obtain⟨FO,hFO⟩:∃FO:World->World->zo->Value->Value->Prop,FO=λW=>Follows W s (.slice ta s.threads.length j6) (.slice ma s.mem.length vU):=⟨_,rfl⟩;have zn5:∀W,Follows W s (.slice ta s.threads.length j6) (.slice ma s.mem.length vU)=FO W:=λW=>by rw [hFO]
 simp only [zn5] at wV zy1;clear hFO zn5 hs hc;unfold yj yE yB at wV ⊢;obtain⟨vars,dom,cs⟩:=c;obtain⟨mod,bnd⟩:=m;obtain⟨ts,mem,bad⟩:=s;simp only [] at hb pF hall zy0 wV hT ⊢;obtain⟨n,p⟩:=qxE ts.length;obtain⟨cn,hcn⟩:=qxE cs.length;obtain⟨mn,hmn⟩:=qxE mem.length;rw [<-p] at hb pF hall wV hT ⊢;rw [<-hmn] at wV ⊢;rw [<-hcn] at wV ⊢;obtain⟨hB,h1,h2,h3⟩:=jX w (.cells #[I4 vars,I4 dom, .slice ca cn cc] 25) (.cells #[I4 mod,I4 bnd] 30) (.cells #[.slice ta n j6, .slice ma mn vU, .bool bad] 61);have HB:=qh hB;have H1:=qh h1;have H2:=qh h2;have H3:=qh h3;have HT:=qh hT;have HN:=qh p;have HBU:=qh hb
 have zhO:=qh hall;have HAT:=qh zy0;have zxU:=qh wV;have zB3:=qh zy1;obtain⟨R1,hR1⟩:∃R:List zw,R=(List.range n).flatMap MT:=⟨_,rfl⟩;obtain⟨R2,hR2⟩:∃R:List zo,R=(List.range n).flatMap NT:=⟨_,rfl⟩;rw [<-hR1, <-hR2];have HR1:=qh hR1;have HR2:=qh hR2;clear p hcn hmn hb hB h1 h2 h3 hT hall zy0 wV zy1 hF0 hR1 hR2;go_enter Tryz.func63,Tryz.ntmps63
 go_upto_region 1 with fail
 generalize World.alloc (World.alloc (World.alloc w _) _) _=W at HB H1 H2 H3 ⊢;obtain⟨gx,hgx⟩:=qxE w.heap.size;rw [<-hgx] at H1 H2 H3 ⊢;have xG:J2 (w.heap.size<=W.heap.size):=HB.o.size;clear hgx
 have qy:J2 (∀y,Below W.heap.size W y->K3 y gx 0 (I4 vars)/\K3 y gx 1 (I4 dom)/\K3 y gx 2 (.slice ca cn cc)/\
   K3 y (gx+1) 0 (I4 mod)/\K3 y (gx+1) 1 (I4 bnd)/\K3 y (gx+2) 0 (.slice ta n j6)/\K3 y (gx+2) 1 (.slice ma mn vU)/\K3 y (gx+2) 2 (.bool bad)):=λy hx=>
  ⟨zl hx _ _ (ze H1.o 0),zl hx _ _ (ze H1.o 1),zl hx _ _ (ze H1.o 2),zl hx _ _ (ze H2.o 0),zl hx _ _ (ze H2.o 1),zl hx _ _ (ze H3.o 0),zl hx _ _ (ze H3.o 1),zl hx _ _ (ze H3.o 2)⟩
 have yK:J2 (∀y,Below W.heap.size W y->Below w.heap.size w y):=λy hy=>HB.o.trans (hy.mono HB.o.size);have HN0:J2 (jO F0 W W (N7) (N7) [] [] []):=jO.begin (Below.refl _ _);obtain⟨c0,c1,c2,c3,c4,c5,c6,c7⟩:=qy.o W (Below.refl _ _);clear H1 H2 H3;go_wp2_with fail
 clear c0 c1 c2 c3 c4 c5 c6 c7;go_loopg [6,7,20] n (λgg s6 s7 s20 wr=>∃(i:Nat) (oa:Option Addr) (on oc:Nat) (ml:List zw) (na:Option Addr) (nc:Nat) (nl:List zo) (css:List (List Value)),i<=n/\J2 (gg=n - i)/\s6= .slice oa on oc/\s7= .slice na on nc/\s20=I4 i/\on<=1000001*i/\J2 (jO F0 W wr (.slice oa on oc) (.slice na on nc) ml nl css)/\J2 (ml.length=on/\nl.length=on)/\J2 (ml=(List.range i).flatMap MT/\nl=(List.range i).flatMap NT))
 case atStart=>exact⟨0,none,0,0, [],none,0, [], [],Nat.zero_le _,rfl,rfl,rfl,rfl,by omega,HN0.o,⟨rfl,rfl⟩,⟨rfl,rfl⟩⟩
 case round=>
 obtain⟨i,oa,on,oc,ml,na,nc,nl,css,hi,HG,rfl,rfl,rfl,hon,HL,wJ,HML⟩:=hrel;obtain⟨wo,rfl⟩:=qxE (wr:World);clear HN0;by_cases hlt:i<n
 rotate_left
 ·obtain rfl:n=i:=by omega
  have yG:=qh (HL.o.fin HB.o wJ.o.1 wJ.o.2);have hr1:R1=ml:=by rw [HR1.o,HML.o.1]
  have hr2:R2=nl:=by rw [HR2.o,HML.o.2]
  have HQ1:=qh hr1;have HQ2:=qh hr2;clear hr1 hr2;go_wp2_with fail
  go_ret2
  rw [HQ1.o,HQ2.o];exact yG.o
 have vC:(i:Int)<(n:Int):=by omega
 obtain⟨tb,yT,ba,bc,hta, -,hrl,x0,x1,x2,x3,x4,x5,hbuf⟩:=qR.part HT.o i (by rw [<-HN.o];exact hlt);subst hta;have hbl:=HBU.o i hlt;have hat:=HAT.o i;have hal:=zhO.o i hlt;generalize ts.getD i default=t at x0 x1 x2 x3 x4 x5 hbuf hbl hat hrl;obtain⟨pc,regs,buf⟩:=t;obtain⟨q0,q1,q2,q3,rfl⟩:=wM hrl;simp only [List.getD_cons_zero,List.getD_cons_succ] at x0 x1 x2 x3 x4 x5 hbuf hbl hat;obtain⟨hh,hhh⟩:=qxE (yX buf mod);rw [<-hhh] at hat;have hhl:hh.length<=1000000:=by have:=zcF buf mod;rw [hhh];omega
 obtain⟨bl,wz⟩:=qxE buf.length;rw [<-wz] at x5 hbuf
 have zaG:J2 (∀y,Below w.heap.size w y->Calls Tryz.prog 95 #[.slice ba bl bc,I4 mod] y λe w'=>(∃va vc,e= .returned (.slice va hh.length vc)/\w'.ownsRow y.heap.size 3 1 (.slice va hh.length vc) hh.length (zx xI hh))/\Below y.heap.size y w'):=λy hy=>
  (zjU y (.slice ba bl bc) buf (zX.below hbuf hy) (by omega) mod).mono λe w' ⟨⟨sv,he,ho⟩,hb⟩=>by
   rw [<-hhh] at ho;obtain⟨a,cp,rfl, -⟩:=xS ho;exact⟨⟨a,cp,he,ho⟩,hb⟩
 obtain⟨ai,hai⟩:=qxE (AT i);rw [<-hai] at hat hal;obtain⟨p,hhn⟩:=qxE hh.length;rw [<-hhn] at zaG hhl;have HHN:=qh hhn;have zy2:=qh hat;have z6i:=qh hal;have hwo:=yK.o wo HL.o.below;have y0:=zl hwo _ _ x0;have y1:=zl hwo _ _ x1;have y2:=zl hwo _ _ x2;have y3:=zl hwo _ _ x3;have y4:=zl hwo _ _ x4;have y5:=zl hwo _ _ x5;obtain⟨-, -, -, -, -,c5,c6,c7⟩:=qy.o wo HL.o.below;have HA:=qh ((Below.refl wo.heap.size wo).alloc (Nat.le_refl _) (.cells #[I4 pc,I4 q0,I4 q1,I4 q2,I4 q3, .slice ba bl bc] 75));have HY:=qh (zQ wo (.cells #[I4 pc,I4 q0,I4 q1,I4 q2,I4 q3, .slice ba bl bc] 75))
 clear x0 x1 x2 x3 x4 x5 hbuf hbl hhh wz hat hal hhn hwo hrl hai;go_upto_region 4 with fail
 clear y0 y1 y2 y3 y4 y5 c5 c6 c7;generalize World.alloc wo _=X at HA HY ⊢;obtain⟨gl,hgl⟩:=qxE wo.heap.size;rw [<-hgl] at HY ⊢;clear hgl;have HLX:=qh (HL.o.later HA.o);have HA2:=qh ((Below.refl X.heap.size X).alloc (Nat.le_refl _) (.cells #[I4 1,I4 (i:Int),I4 0] 46));have HY2:=qh (zQ X (.cells #[I4 1,I4 (i:Int),I4 0] 46));clear HL HA;go_upto_region 5 with fail
 generalize World.alloc X _=X2 at HA2 HY2 ⊢;obtain⟨ga,hga⟩:=qxE X.heap.size;rw [<-hga] at HY2 ⊢;have HGA:J2 (ga=X.heap.size):=hga;clear hga;have HWX:J2 (W.heap.size<=X.heap.size):=HLX.o.below.size;have z6k:=qh ((HLX.o.less (F1:=λk=>F0 k\/X.heap.size<=k) (λ_ hk=>hk)).later HA2.o);have zy3:=qh (HLX.o.later HA2.o);have HRA:J2 (X2.ownsRow X.heap.size 46 3 (.slice (some ⟨ga,0,none⟩) 1 1) 1 (zx zw.cells [⟨1,(i:Int),0⟩])):=gB (n:=1) (cs:=zx zw.cells [⟨1,(i:Int),0⟩]) HY2.o (by rw [HGA.o];exact Nat.le_refl _) rfl (by decide)
 have z6l:J2 (∀k,(Value.slice oa on oc).ownBlock=some k->(Value.slice (some ⟨ga,0,none⟩) 1 1).ownBlock≠some k):=λk hk e=>by
  have h1:=(HLX.o.row.lt k hk).2;have h2:ga=k:=by cases e;rfl
  have:=HGA.o
  omega
 have d5:X2.cell? ⟨gl,5,none⟩=some (.slice ba bl bc):=zl HA2.o _ _ (ze HY.o 5);obtain⟨-, -, -,c3, -, -, -, -⟩:=qy.o X2 zy3.o.below;clear HLX HA2 HY HY2;go_wp2_with(go_at_call 95;go_must(refine(zaG.o X2 (yK.o X2 zy3.o.below)).mono ?_);rintro e W2 ⟨⟨va,vc,rfl,hhr⟩,hb2⟩;(have HHR:=qh hhr);(have HL2:=qh (z6k.o.later hb2));(have z6m:=qh (xD HRA.o hb2));(have HG2:J2 (X.heap.size<=W2.heap.size/\X2.heap.size<=W2.heap.size):=⟨Nat.le_trans (by have:=(HRA.o.lt ga rfl).2;have:=HGA.o;omega) hb2.size,hb2.size⟩);clear hb2 hhr);clear d5 c3
 have z6n:J2 (∀k,(Value.slice (some ⟨ga,0,none⟩) 1 1).ownBlock=some k->(Value.slice va p vc).ownBlock≠some k):=λk hk e=>by
  have h1:=(HRA.o.lt k hk).2;have h2:=(HHR.o.lt k e).1;omega
 clear zy3 z6k HRA zaG
 go_loopg [10,34] p (λgg s10 s34 wr=>∃(k:Nat) (aa:Option Addr) (ac:Nat) (r:List zw),k<=p/\J2 (gg=p - k)/\s10= .slice aa (k+1) ac/\s34=I4 k/\J2 (wr.ownsRow X.heap.size 46 3 (.slice aa (k+1) ac) (k+1) (zx zw.cells r))/\J2 (r=⟨1,(i:Int),0⟩::(hh.take k).map (λv=>⟨2,(i:Int),v⟩))/\J2 (∃B,wr.ownsRow B 3 1 (.slice va p vc) p (zx xI hh))/\J2 (∀k',(Value.slice aa (k+1) ac).ownBlock=some k'->(Value.slice va p vc).ownBlock≠some k')/\
  J2 (∀k',(Value.slice oa on oc).ownBlock=some k'->(Value.slice aa (k+1) ac).ownBlock≠some k')/\J2 (jO (λk=>F0 k\/X.heap.size<=k) W wr (.slice oa on oc) (.slice na on nc) ml nl css)/\J2 (X.heap.size<=wr.heap.size))
 case atStart=>exact⟨0,some ⟨ga,0,none⟩,1, [⟨1,(i:Int),0⟩],Nat.zero_le _,rfl,rfl,rfl,z6m.o,by simp [J2],⟨_,HHR.o⟩,z6n.o,z6l.o,HL2.o,HG2.o.1⟩
 case round=>
 obtain⟨k,aa,ac,r,hk,zB4,rfl,rfl,HRW,HAL,HHB,HNV,HNA,HLW,HXS⟩:=hrel;clear z6m HHR z6n z6l HL2 HG2;by_cases hkl:k<p
 ·have z3e:(k:Int)<(p:Int):=by omega
  obtain⟨BH,hhr⟩:=HHB.o;have hrw:=hhr;rw [HHN.o] at hrw;obtain⟨b9,o9,yI, -,q⟩:=qx.part (zal hrw) k (by rw [<-HHN.o];exact hkl);subst yI;have HRB:=qh hhr;clear hhr hrw;have gF:J2 (hh.take (k+1)=hh.take k++ [hh.getD k 0]):=by rw [J2,List.take_succ_eq_append_getElem (by rw [<-HHN.o];exact hkl),List.getD_eq_getElem?_getD,List.getElem?_eq_getElem (by rw [<-HHN.o];exact hkl)];rfl
  generalize hh.getD k 0=v at q gF
  have z7A:J2 (∀(X':World) (a':Option Addr) (c':Nat) (o:Obj),X'.ownsRow X.heap.size 46 3 (.slice a' (k+1+1) c') (k+1+1) (zx zw.cells r++zw.cells ⟨2,(i:Int),v⟩)->Since (λx=>(Value.slice aa (k+1) ac).ownBlock=some x) (wr.alloc o) X'->(∀x,(Value.slice a' (k+1+1) c').ownBlock=some x->(Value.slice aa (k+1) ac).ownBlock=some x\/x=(wr.alloc o).heap.size)->
    X'.ownsRow X.heap.size 46 3 (.slice a' (k+1+1) c') (k+1+1) (zx zw.cells (r++ [⟨2,(i:Int),v⟩]))/\(∃B,X'.ownsRow B 3 1 (.slice (some ⟨b9,o9,none⟩) p vc) p (zx xI hh))/\(∀x,(Value.slice a' (k+1+1) c').ownBlock=some x->(Value.slice (some ⟨b9,o9,none⟩) p vc).ownBlock≠some x)/\
    (∀x,(Value.slice oa on oc).ownBlock=some x->(Value.slice a' (k+1+1) c').ownBlock≠some x)/\jO (λk=>F0 k\/X.heap.size<=k) W X' (.slice oa on oc) (.slice na on nc) ml nl css/\X.heap.size<=X'.heap.size):=λX' a' c' o f1 f4 f5=>by
   obtain⟨g1,g2⟩:=zhs HRB.o HNV.o f4 f5;have hso:=HLW.o.side (o:=o) HRW.o (λ_ h=> .inr h) HWX.o HNA.o f4;refine⟨by rw [zgp];exact f1,⟨_,g1⟩,g2,λx hx e=> ?_,hso,Nat.le_trans HXS.o (Nat.le_trans (by simp) f4.size)⟩;rcases f5 x e with e'|e'
   ·exact HNA.o x hx e'
   have h1:=(HLW.o.row.lt x hx).2;simp at e';omega
  go_wp2_with(at_builtin;go_must(refine zO _ rfl _ _ 40 rfl 46 (.agg #[I4 0,I4 0,I4 0]) 3 24 Tryz.underlying40 uT rfl (by decide) X.heap.size (.slice aa (k+1) ac) (k+1) (zx zw.cells r) rfl ((HRW.o).alloc _) ⟨wr.heap.size,0,none⟩ 1 1 (zw.cells ⟨2,i,v⟩) rfl rfl (j4 _ (zw.cells ⟨2,i,v⟩) _) (by simp [zw.cells,Value.oneCell']) (by unfold maxLen;omega) (by omega) (by have:=HXS.o;simp;omega) ?_);intro ja jc Y f1 f2 f3 f4 f5 f6;have HE:=qh (z7A.o Y ja jc _ f1 f4 f5);clear f1 f2 f3 f4 f5 f6);go_roundg (p - (k+1))
  case measure=>rw [zB4.o];omega
  case rel=>exact⟨k+1,ja,jc,r++ [(⟨2,(i:Int),v⟩:zw)],by omega,rfl,rfl,by simp,HE.o.1,by rw [J2,HAL.o,gF.o];simp,HE.o.2.1,HE.o.2.2.1,HE.o.2.2.2.1,HE.o.2.2.2.2.1,HE.o.2.2.2.2.2⟩
 obtain rfl:p=k:=by omega
 have z0m:J2 (r=ai):=by rw [J2,HAL.o,zy2.o,HHN.o,List.take_length]
 have zB5:=z0m.o;subst zB5
 have zkf:J2 (∀k,k<r.length->(r.getD k default).thread=(i:Int)):=λk hk=>by
  have hm:r.getD k default∈r:=jF hk;generalize r.getD k default=y at hm;rw [zy2.o] at hm;rcases List.mem_cons.1 hm with rfl|hm
  ·rfl
  obtain⟨v, -,rfl⟩:=List.mem_map.1 hm;rfl
 clear z0m HAL HHB HNV zy2
 have hlen:r.length=p+1:=by
  have:=HRW.o.1
  rw [wK zm7] at this;omega
 have L:=qh hlen;clear hlen;go_wp2_with fail
 go_loopg [6,7,47] (p+1) (λgg s6 s7 s47 wr=>∃(k:Nat) (P:Option Addr) (f g:Nat) (pl:List zw) (U:Option Addr) (T:Nat) (rl:List zo) (z:List (List Value)),k<=p+1/\J2 (gg=p+1 - k)/\s6= .slice P f g/\s7= .slice U f T/\s47=I4 k/\f<=on+k/\J2 (jO F0 W wr (.slice P f g) (.slice U f T) pl rl z)/\J2 (pl.length=f/\rl.length=f)/\J2 (pl=ml++(r.take k).filter (λx=>(TM i x).isSome)/\rl=nl++(r.take k).filterMap (TM i))/\
  J2 (wr.ownsRow X.heap.size 46 3 (.slice aa (p+1) ac) (p+1) (zx zw.cells r))/\J2 (∀x,(Value.slice P f g).ownBlock=some x->(Value.slice aa (p+1) ac).ownBlock≠some x))
 case atStart=>exact⟨0,oa,on,oc,ml,na,nc,nl,css,Nat.zero_le _,rfl,rfl,rfl,rfl,by omega,HLW.o.less (λ_ h=> .inl (.inl h)),wJ.o,by simp [J2],HRW.o,HNA.o⟩
 case round=>
 obtain⟨k,P,f,g,pl,U,T,rl,z,hk,kZ,rfl,rfl,rfl,hpn,HLP,HPN,kP,HRA,HNP⟩:=hrel;clear HLW HRW HNA;by_cases hkl:k<p+1
 rotate_left
 ·obtain rfl:k=p+1:=by omega
  have hst:pl=(List.range (i+1)).flatMap MT/\rl=(List.range (i+1)).flatMap NT:=by
   have e:r.take (p+1)=r:=by rw [<-L.o,List.take_length]
   rw [zb1,zb1, <-HML.o.1, <-HML.o.2,kP.o.1,kP.o.2,e,z6i.o.1,z6i.o.2];exact⟨rfl,rfl⟩
  have HST:=qh hst;clear hst;go_wp2_with fail
  go_roundg (n - (i+1))
  case measure=>rw [HG.o];omega
  case rel=>exact⟨i+1,P,f,g,pl,U,T,rl,z,by omega,rfl,rfl,rfl,by simp,by omega,HLP.o,HPN.o,HST.o⟩
 have z3e:(k:Int)<((p:Int)+1):=by omega
 have hra:=HRA.o;have z6p:wr.ownsRow X.heap.size 46 3 (.slice aa (p+1) ac) r.length (zx zw.cells r):=by rw [L.o];exact hra
 obtain⟨b9,o9,yI, -,q,e2,e3⟩:=qB.part (by have:=zeY z6p;exact this) k (by rw [L.o];exact hkl);subst yI;have htk:=zov (l:=r) (k:=k) (by rw [L.o];exact hkl) (λx=>(TM i x).isSome);have zrT:=zkq (l:=r) (k:=k) (by rw [L.o];exact hkl) (TM i);have hth:(r.getD k default).thread=(i:Int):=zkf.o k (by rw [L.o];exact hkl);obtain⟨x,hx⟩:=qxE (r.getD k default);rw [<-hx] at q e2 e3 htk zrT hth;rw [hth] at e2;have htr:=λy hy=>zxU.o y i x hy hlt hth;have hxe:zw.cells x= [I4 x.kind,I4 (i:Int),I4 x.var] :=by unfold zw.cells;rw [hth]
 obtain⟨tr,z6q⟩:=qxE (TM i x);rw [<-z6q] at htk zrT htr;obtain⟨xk,hxk⟩:=qxE x.kind;obtain⟨xv,hxv⟩:=qxE x.var;rw [<-hxk] at q htr;rw [<-hxv] at e3 htr;rw [<-hxk, <-hxv] at hxe;have HTR:=qh htr;have gF:=qh htk;have zrU:=qh zrT;have HCX:=qh hxe;have HA:=qh ((Below.refl wr.heap.size wr).alloc (Nat.le_refl _) (.cells #[I4 xk,I4 (i:Int),I4 xv] 46));have HY:=qh (zQ wr (.cells #[I4 xk,I4 (i:Int),I4 xv] 46));clear hra z6p htk zrT hth hx htr hxe z6q hxk hxv;go_upto_region 13 with fail
 clear q e2 e3;generalize World.alloc wr _=Y at HA HY ⊢;obtain⟨Q,hgm⟩:=qxE wr.heap.size;rw [<-hgm] at HY ⊢;have HGM:=qh hgm;clear hgm
 have HNM:J2 (∀x,(Value.slice P f g).ownBlock=some x\/(Value.slice U f T).ownBlock=some x->x<Q):=λx hx=>by
  rw [HGM.o];rcases hx with e|e
  ·exact(HLP.o.row.lt x e).2
  exact(HLP.o.st.row.lt x e).2
 have vB:=qh (HLP.o.later HA.o);have HRY:=qh (xD HRA.o HA.o);obtain⟨c0,c1,c2,c3,c4,c5,c6,c7⟩:=qy.o Y vB.o.below;have d0:Y.cell? ⟨Q,0,none⟩=some (I4 xk):=ze HY.o 0;have d1:Y.cell? ⟨Q,1,none⟩=some (I4 (i:Int)):=ze HY.o 1;have d2:Y.cell? ⟨Q,2,none⟩=some (I4 xv):=ze HY.o 2;clear HLP HRA;go_upto_if 59 with(go_at_call 64;go_must(refine(HTR.o Y (yK.o Y vB.o.below)).mono ?_);rintro e Z zy4;(obtain⟨J,H,I,F,D,E,A,isv,rfl,zfp⟩:=zy4.told);(have HZ:=qh zy4.1);(have HTE:=qh zfp);clear zy4 zfp c0 c1 c2 c3 c4 c5 c6 c7 d0 d1 d2)
 have HLZ:=qh (vB.o.later HZ.o);have HRZ:=qh (xD HRY.o HZ.o);have HGZ:J2 (Z.heap[Q]? =some (.cells #[I4 xk,I4 (i:Int),I4 xv] 46 (0,0))):=(HZ.o.block Q (zA HY.o)).trans HY.o;have HA4:=qh ((Below.refl Z.heap.size Z).alloc (Nat.le_refl _) (.cells #[.slice J H I, .slice F D E, .bool A] 61));have HY4:=qh (zQ Z (.cells #[.slice J H I, .slice F D E, .bool A] 61))
 have HU1:J2 (∀x,(Value.slice P f g).ownBlock=some x->w.heap.size<=x/\x<Y.heap.size):=λx hx=>by
  have:=vB.o.row.lt x hx
  have:=xG.o
  omega
 have HU2:J2 (∀x,(Value.slice U f T).ownBlock=some x->w.heap.size<=x/\x<Y.heap.size):=λx hx=>by
  have:=vB.o.st.row.lt x hx
  have:=xG.o
  omega
 have bZ:J2 (∀t,tr=some t->A=t.bad/\yL (NF F0 (.slice P f g) (.slice U f T)) Z (λy=>qY y t [.slice J H I, .slice F D E, .bool A])):=λt ht=>by
  obtain⟨q,e2⟩:=HTE.o.2 t ht;subst q;exact⟨rfl,zB3.o Y Z t _ _ _ _ (yK.o Y vB.o.below) e2 HU1.o HU2.o⟩
 have HIS:=qh HTE.o.1;clear HTE HU1 HU2 vB HRY HY HA;generalize World.alloc Z _=V at HA4 HY4 ⊢;obtain⟨gt,hgt⟩:=qxE Z.heap.size;rw [<-hgt] at HY4 ⊢;have hgg:Q<gt:=by rw [hgt];exact zA HGZ.o
 have z6t:J2 (¬((Value.slice P f g).ownBlock=some Q\/(Value.slice U f T).ownBlock=some Q)/\¬((Value.slice P f g).ownBlock=some gt\/(Value.slice U f T).ownBlock=some gt)):=⟨λe=>by have:=HNM.o Q e;omega,λe=>by have:=HNM.o gt e;omega⟩
 clear hgt hgg HNM;have C:=qh (HLZ.o.later HA4.o);have HRV:=qh (xD HRZ.o HA4.o);have HGV:J2 (V.heap[Q]? =some (.cells #[I4 xk,I4 (i:Int),I4 xv] 46 (0,0))):=(HA4.o.block Q (zA HGZ.o)).trans HGZ.o;have zB6:J2 (∀t,tr=some t->yL (NF F0 (.slice P f g) (.slice U f T)) V (λy=>qY y t [.slice J H I, .slice F D E, .bool A])):=λt ht=>(bZ.o t ht).2.step (G:=λ_=>False) (xW _ HA4.o) (λ_ h=>h.elim) (λ_ hk=> .inl hk);clear bZ HLZ HRZ HGZ HA4 HZ;cases tr with
 |none=>
  have his:=HIS.o;simp only [Option.isSome_none] at his;subst his;go_wp2_with fail
  go_roundg (p+1 - (k+1))
  case measure=>rw [kZ.o];omega
  case rel=>exact⟨k+1,P,f,g,pl,U,T,rl,z,by omega,rfl,rfl,rfl,by simp,by omega,C.o,HPN.o,⟨by rw [kP.o.1,gF.o];simp,by rw [kP.o.2,zrU.o];simp⟩,HRV.o,HNP.o⟩
 |some t=>
 have his:=HIS.o;simp only [Option.isSome_some] at his;subst his;have haw:=zB6.o t rfl;have zy5:=qh haw;clear haw;have zi0:=HPN.o.1;have zi1:=HPN.o.2;go_wp2_with fail
 have CC:J2 (∀y,Since (λx=>(Value.slice P f g).ownBlock=some x\/(Value.slice U f T).ownBlock=some x) V y->K3 y Q 0 (I4 xk)/\K3 y Q 1 (I4 (i:Int))/\K3 y Q 2 (I4 xv)/\K3 y gt 0 (.slice J H I)/\K3 y gt 1 (.slice F D E)/\K3 y gt 2 (.bool A)):=λy hy=>by
  have hm:¬((Value.slice P f g).ownBlock=some Q\/(Value.slice U f T).ownBlock=some Q):=z6t.o.1;have ht:¬((Value.slice P f g).ownBlock=some gt\/(Value.slice U f T).ownBlock=some gt):=z6t.o.2;have h1:=(hy.block Q (zA HGV.o) hm).trans HGV.o;have h2:=(hy.block gt (zA HY4.o) ht).trans HY4.o;exact⟨ze h1 0,ze h1 1,ze h1 2,ze h2 0,ze h2 1,ze h2 2⟩
 refine qz (S:=λy=>Since (λx=>(Value.slice P f g).ownBlock=some x\/(Value.slice U f T).ownBlock=some x) V y) (Since.refl _ _).drew (λ_=> ?_)
 have hT0:=qh (za7.start (B:=W.heap.size) (by have:=C.o.row;rw [zi0] at this;exact this) (by have:=C.o.st.row;rw [zi1] at this;exact this) C.o.below.size);obtain⟨V1,hV1⟩:=qxE V.drew;rw [<-hV1] at hT0 ⊢;clear hV1;refine zB 0 zM (hT0.o.since) ?_
 refine zB 1 CC.o (hT0.o.since) ?_
 refine zB 4 zM (hT0.o.since) ?_
 refine zB 5 CC.o (hT0.o.since) ?_
 refine wpAnyH_ready (rs:= [2,6]) (by kernel_rfl) (by simp) ?_
 refine AllReadyH.cons rfl (λK hK=> ?_) (AllReadyH.cons rfl (λK hK=> ?_) AllReadyH.nil)
 ·skip
  go_simp
  have u:=hT0.o.alloc 46 [I4 xk,I4 (i:Int),I4 xv];refine hK.out _ _ u.since (λ_=> ?_)
  obtain⟨nb1,znY⟩:=qxE V1.heap.size;rw [<-znY] at u ⊢;clear znY;generalize World.alloc V1 _=Xn2 at u ⊢;replace u:=qh u;clear hK K;refine wpAnyH_ready (rs:= [3,6]) (by kernel_rfl) (by simp) ?_
  refine AllReadyH.cons rfl (λK hK=> ?_) (AllReadyH.cons rfl (λK hK=> ?_) AllReadyH.nil)
  ·skip
   refine zY Xn2 (by rfl) (.tmp 60) (.tmp 62) 40 rfl 46 (.agg #[I4 0,I4 0,I4 0]) 3 24 Tryz.underlying40 uT rfl (by decide) W.heap.size (.slice P f g) f (zx zw.cells pl) (by rfl) u.o.r1 ⟨nb1,0,none⟩ 1 1 [I4 xk,I4 (i:Int),I4 xv] (by rfl) rfl (u.o.cell (b:=nb1) (t:=46) (cs:= [I4 xk,I4 (i:Int),I4 xv]) (by simp)) (by simp [Value.oneCell']) (by unfold maxLen;omega) (by omega) u.o.base ?_
   intro ma' mc' Xn4 q e2 e3 e4 e5;have z6v:=qh (u.o.app1 (by decide) q e4 e5);clear q e2 e3 e4 e5;refine hK.out _ _ z6v.o.since (λ_=> ?_)
   change wpAnyH _ _ _ _ _ _ _ (Act.put _ (some 63) _) _;simp only [Act.put,jJ];try simp only [jK,jL]
   clear hK K;refine yA 6 rfl (λK hK=> ?_)
   go_simp
   have N:=z6v.o.alloc 61 [.slice J H I, .slice F D E, .bool A];refine hK.out _ _ N.since (λ_=> ?_)
   obtain⟨nb2,zgE⟩:=qxE Xn4.heap.size;rw [<-zgE] at N ⊢;clear zgE;generalize World.alloc Xn4 _=Xn6 at N ⊢;replace N:=qh N;clear hK K;refine yA 7 rfl (λK hK=> ?_)
   refine zY Xn6 (by rfl) (.tmp 64) (.tmp 66) 48 rfl 61 (.agg #[N7,N7, .bool false]) 3 56 Tryz.underlying48 zby rfl (by decide) W.heap.size (.slice U f T) f z.flatten (by rfl) N.o.r2 ⟨nb2,0,none⟩ 1 1 [.slice J H I, .slice F D E, .bool A] (by rfl) rfl (N.o.cell (b:=nb2) (t:=61) (cs:= [.slice J H I, .slice F D E, .bool A]) (by simp)) (by simp [Value.oneCell']) (by unfold maxLen;omega) (by omega) N.o.base ?_
   intro ra' rc' Xn8 q e2 e3 e4 e5;have znZ:=qh (N.o.zw9 (by decide) q e4 e5);clear q e2 e3 e4 e5;refine hK.out _ _ znZ.o.since (λ_=> ?_)
   change wpAnyH _ _ _ _ _ _ _ (Act.put _ (some 67) _) _;simp only [Act.put,jJ];try simp only [jK,jL]
   clear hK K;refine zB 8 zM (znZ.o.since) ?_
   refine zB 9 zM (znZ.o.since) ?_
   refine xC ?_
   have HE:=qh (C.o.push (x:=x) (t:=t) (cs:= [.slice J H I, .slice F D E, .bool A]) (by rw [zi0,zi1,HCX.o];exact znZ.o) zy5.o rfl);have HE2:=qh (C.o.beside HRV.o HNP.o znZ.o);go_wp2_with fail
   go_roundg (p+1 - (k+1))
   case measure=>rw [kZ.o];omega
   case rel=>exact⟨k+1,ma',f+1,mc',pl++ [x],ra',rc',rl++ [t],z++ [[Value.slice J H I,Value.slice F D E,Value.bool A]],by omega,rfl,rfl,rfl,by simp,by omega,HE.o,⟨by rw [List.length_append,zi0];rfl,by rw [List.length_append,zi1];rfl⟩,⟨by rw [kP.o.1,gF.o,List.append_assoc];rfl,by rw [kP.o.2,zrU.o,List.append_assoc]⟩,HE2.o.1,HE2.o.2⟩
  skip
  go_simp
  have M:=u.o.alloc 61 [.slice J H I, .slice F D E, .bool A];refine hK.out _ _ M.since (λ_=> ?_)
  obtain⟨nb2,zgE⟩:=qxE Xn2.heap.size;rw [<-zgE] at M ⊢;clear zgE;generalize World.alloc Xn2 _=zB7 at M ⊢;replace M:=qh M;clear hK K;refine yA 3 rfl (λK hK=> ?_)
  refine zY zB7 (by rfl) (.tmp 60) (.tmp 62) 40 rfl 46 (.agg #[I4 0,I4 0,I4 0]) 3 24 Tryz.underlying40 uT rfl (by decide) W.heap.size (.slice P f g) f (zx zw.cells pl) (by rfl) M.o.r1 ⟨nb1,0,none⟩ 1 1 [I4 xk,I4 (i:Int),I4 xv] (by rfl) rfl (M.o.cell (b:=nb1) (t:=46) (cs:= [I4 xk,I4 (i:Int),I4 xv]) (by simp)) (by simp [Value.oneCell']) (by unfold maxLen;omega) (by omega) M.o.base ?_
  intro ma' mc' zB8 q e2 e3 e4 e5;have zjV:=qh (M.o.app1 (by decide) q e4 e5);clear q e2 e3 e4 e5;refine hK.out _ _ zjV.o.since (λ_=> ?_)
  change wpAnyH _ _ _ _ _ _ _ (Act.put _ (some 63) _) _;simp only [Act.put,jJ];try simp only [jK,jL]
  clear hK K;refine yA 7 rfl (λK hK=> ?_)
  refine zY zB8 (by rfl) (.tmp 64) (.tmp 66) 48 rfl 61 (.agg #[N7,N7, .bool false]) 3 56 Tryz.underlying48 zby rfl (by decide) W.heap.size (.slice U f T) f z.flatten (by rfl) zjV.o.r2 ⟨nb2,0,none⟩ 1 1 [.slice J H I, .slice F D E, .bool A] (by rfl) rfl (zjV.o.cell (b:=nb2) (t:=61) (cs:= [.slice J H I, .slice F D E, .bool A]) (by simp)) (by simp [Value.oneCell']) (by unfold maxLen;omega) (by omega) zjV.o.base ?_
  intro ra' rc' zFX q e2 e3 e4 e5;have zjW:=qh (zjV.o.zw9 (by decide) q e4 e5);clear q e2 e3 e4 e5;refine hK.out _ _ zjW.o.since (λ_=> ?_)
  change wpAnyH _ _ _ _ _ _ _ (Act.put _ (some 67) _) _;simp only [Act.put,jJ];try simp only [jK,jL]
  clear hK K;refine zB 8 zM (zjW.o.since) ?_
  refine zB 9 zM (zjW.o.since) ?_
  refine xC ?_
  have HE:=qh (C.o.push (x:=x) (t:=t) (cs:= [.slice J H I, .slice F D E, .bool A]) (by rw [zi0,zi1,HCX.o];exact zjW.o) zy5.o rfl);have HE2:=qh (C.o.beside HRV.o HNP.o zjW.o);go_wp2_with fail
  go_roundg (p+1 - (k+1))
  case measure=>rw [kZ.o];omega
  case rel=>exact⟨k+1,ma',f+1,mc',pl++ [x],ra',rc',rl++ [t],z++ [[Value.slice J H I,Value.slice F D E,Value.bool A]],by omega,rfl,rfl,rfl,by simp,by omega,HE.o,⟨by rw [List.length_append,zi0];rfl,by rw [List.length_append,zi1];rfl⟩,⟨by rw [kP.o.1,gF.o,List.append_assoc];rfl,by rw [kP.o.2,zrU.o,List.append_assoc]⟩,HE2.o.1,HE2.o.2⟩
 skip
 go_simp
 have zgZ:=hT0.o.alloc 61 [.slice J H I, .slice F D E, .bool A];refine hK.out _ _ zgZ.since (λ_=> ?_)
 obtain⟨nb2,zgE⟩:=qxE V1.heap.size;rw [<-zgE] at zgZ ⊢;clear zgE;generalize World.alloc V1 _=z6w at zgZ ⊢;replace zgZ:=qh zgZ;clear hK K;refine yA 2 rfl (λK hK=> ?_)
 go_simp
 have O:=zgZ.o.alloc 46 [I4 xk,I4 (i:Int),I4 xv];refine hK.out _ _ O.since (λ_=> ?_)
 obtain⟨nb1,znY⟩:=qxE z6w.heap.size;rw [<-znY] at O ⊢;clear znY;generalize World.alloc z6w _=zB9 at O ⊢;replace O:=qh O;clear hK K;refine yA 3 rfl (λK hK=> ?_)
 refine zY zB9 (by rfl) (.tmp 60) (.tmp 62) 40 rfl 46 (.agg #[I4 0,I4 0,I4 0]) 3 24 Tryz.underlying40 uT rfl (by decide) W.heap.size (.slice P f g) f (zx zw.cells pl) (by rfl) O.o.r1 ⟨nb1,0,none⟩ 1 1 [I4 xk,I4 (i:Int),I4 xv] (by rfl) rfl (O.o.cell (b:=nb1) (t:=46) (cs:= [I4 xk,I4 (i:Int),I4 xv]) (by simp)) (by simp [Value.oneCell']) (by unfold maxLen;omega) (by omega) O.o.base ?_
 intro ma' mc' zBA q e2 e3 e4 e5;have zjX:=qh (O.o.app1 (by decide) q e4 e5);clear q e2 e3 e4 e5;refine hK.out _ _ zjX.o.since (λ_=> ?_)
 change wpAnyH _ _ _ _ _ _ _ (Act.put _ (some 63) _) _;simp only [Act.put,jJ];try simp only [jK,jL]
 clear hK K;refine yA 7 rfl (λK hK=> ?_)
 refine zY zBA (by rfl) (.tmp 64) (.tmp 66) 48 rfl 61 (.agg #[N7,N7, .bool false]) 3 56 Tryz.underlying48 zby rfl (by decide) W.heap.size (.slice U f T) f z.flatten (by rfl) zjX.o.r2 ⟨nb2,0,none⟩ 1 1 [.slice J H I, .slice F D E, .bool A] (by rfl) rfl (zjX.o.cell (b:=nb2) (t:=61) (cs:= [.slice J H I, .slice F D E, .bool A]) (by simp)) (by simp [Value.oneCell']) (by unfold maxLen;omega) (by omega) zjX.o.base ?_
 intro ra' rc' zFY q e2 e3 e4 e5;have zjY:=qh (zjX.o.zw9 (by decide) q e4 e5);clear q e2 e3 e4 e5;refine hK.out _ _ zjY.o.since (λ_=> ?_)
 change wpAnyH _ _ _ _ _ _ _ (Act.put _ (some 67) _) _;simp only [Act.put,jJ];try simp only [jK,jL]
 clear hK K;refine zB 8 zM (zjY.o.since) ?_
 refine zB 9 zM (zjY.o.since) ?_
 refine xC ?_
 have HE:=qh (C.o.push (x:=x) (t:=t) (cs:= [.slice J H I, .slice F D E, .bool A]) (by rw [zi0,zi1,HCX.o];exact zjY.o) zy5.o rfl);have HE2:=qh (C.o.beside HRV.o HNP.o zjY.o);go_wp2_with fail
 go_roundg (p+1 - (k+1))
 case measure=>rw [kZ.o];omega
 case rel=>exact⟨k+1,ma',f+1,mc',pl++ [x],ra',rc',rl++ [t],z++ [[Value.slice J H I,Value.slice F D E,Value.bool A]],by omega,rfl,rfl,rfl,by simp,by omega,HE.o,⟨by rw [List.length_append,zi0];rfl,by rw [List.length_append,zi1];rfl⟩,⟨by rw [kP.o.1,gF.o,List.append_assoc];rfl,by rw [kP.o.2,zrU.o,List.append_assoc]⟩,HE2.o.1,HE2.o.2⟩
