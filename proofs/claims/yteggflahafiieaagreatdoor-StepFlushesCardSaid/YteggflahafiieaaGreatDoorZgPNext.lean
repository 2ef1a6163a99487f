/- Steps. -/
import Derived.Test.YteggflahafiieaaGreatDoorZgPTry
set_option linter.all false
namespace Go.Proofs.YteggflahafiieaaGreatDoor
open Go.RowKit
set_option maxRecDepth 100000
set_option maxHeartbeats 16000000
theorem zr1 (w:World) (c:zK) (cv:Value) (d:Nat) (hc:yZ d w cv c.threads) (m:zF) (s:zm) (sv mv:Value) (hs:yh w s sv mv) (hb:∀j,j<s.threads.length->(s.threads.getD j default).buf.length<=1000000) (hf:xR c m s=true)
  (F0:Nat->Prop) (hF0:∀k,F0 k->k<w.heap.size) (ha:yK F0 w (λy=>yh y s sv mv)):Calls Tryz.prog 32 #[yT c cv,xD m,yR s sv mv] w (zlm F0 w (qM c m s d) (zkO c m s d)):=by
 have gD:s.threads.length<=4:=by
  obtain⟨h1, -,h2,h3, -⟩:=bD hf
  have h4:=qA h1
  omega
 have hR:qM c m s d=(List.range s.threads.length).flatMap (wK c m s d):=by unfold qM;rw [if_pos hf]
 rw [hR,zuk hf]
 obtain⟨AT,hAT⟩:∃AT,AT=allT m s:=⟨_,rfl⟩
 obtain⟨TM,hTM⟩:∃TM,TM=zcv c m s d:=⟨_,rfl⟩
 obtain⟨MT,hMT⟩:∃MT,MT=wK c m s d:=⟨_,rfl⟩
 obtain⟨NT,hNT⟩:∃NT,NT=zkP c m s d:=⟨_,rfl⟩
 have hall:∀i,i<s.threads.length->(AT i).filter (λx=>(TM i x).isSome)=MT i/\(AT i).filterMap (TM i)=NT i:=λi hi=>by rw [hAT,hTM,hMT,hNT];exact zr2 hf hi
 have zul:∀i,AT i=⟨1,(i:Int),0⟩::(yD (s.threads.getD i default).buf m.model).map λv=>(⟨2,(i:Int),v⟩:zN):=λi=>by rw [hAT];rfl
 have jI:∀W (i:Nat) (x:zN),Below w.heap.size w W->i<s.threads.length->x.thread=(i:Int)->Calls Tryz.prog 33 #[yT c cv,xD m,yR s sv mv, .agg #[.int .i64 x.kind, .int .i64 (i:Int), .int .i64 x.var]] W (zgb W (Follows W s sv mv) (TM i x)):=λW i x hW hi hx=>by
  rw [hTM]
  exact zln W c cv d (ze.below (xK.stays d) hc hW) m s sv mv (hs.below hW) hb hf i hi x.kind x.var
 have zum:∀W W2 t (tv yv u1 u2:Value),Below w.heap.size w W->Follows W s sv mv W2 t tv yv->(∀k,u1.ownBlock=some k->w.heap.size<=k/\k<W.heap.size)->(∀k,u2.ownBlock=some k->w.heap.size<=k/\k<W.heap.size)->yK (NF F0 u1 u2) W2 (λy=>zaO y t [tv,yv, .bool t.bad]):=by
  intro W W2 t tv yv u1 u2 hW hfo h1 h2
  have h3:=hfo (NF F0 u1 u2) (λk hk=>by
   rcases hk with e|e|e
   ·exact Nat.lt_of_lt_of_le (hF0 k e) hW.size
   ·exact(h1 k e).2
   ·exact(h2 k e).2) (ha.step (Since.of_below hW) (λk hk=> .inr hk) (λk hk=>by
   rcases hk with e|e|e
   ·exact .inl e
   ·exact .inr (h1 k e).1
   exact .inr (h2 k e).1))
  exact λy hy=>⟨tv,yv,rfl,h3 y hy⟩
 rw [<-hMT, <-hNT]
 clear hR hMT hNT hAT hTM ha hf
 obtain⟨ca,cc,rfl, -⟩:=ze.slice hc
 obtain⟨ta,vE,rfl, -⟩:=ze.slice hs.threads
 obtain⟨ma,qN,rfl, -⟩:=ze.slice hs.mem
 have hT:=hs.threads
 obtain⟨FO,hFO⟩:∃FO:World->World->zm->Value->Value->Prop,FO=λW=>Follows W s (.slice ta s.threads.length vE) (.slice ma s.mem.length qN):=⟨_,rfl⟩
 have zlo:∀W,Follows W s (.slice ta s.threads.length vE) (.slice ma s.mem.length qN)=FO W:=λW=>by rw [hFO]
 simp only [zlo] at jI zum
 clear hFO zlo hs hc
 unfold yT xD yR at jI ⊢
 obtain⟨vars,dom,cs⟩:=c
 obtain⟨mod,bnd⟩:=m
 obtain⟨ts,mem,bad⟩:=s
 simp only [] at hb gD hall zul jI hT ⊢
 obtain⟨n,hn⟩:∃n,n=ts.length:=⟨_,rfl⟩
 obtain⟨cn,hcn⟩:∃cn,cn=cs.length:=⟨_,rfl⟩
 obtain⟨mn,hmn⟩:∃mn,mn=mem.length:=⟨_,rfl⟩
 rw [<-hn] at hb gD hall jI hT ⊢
 rw [<-hmn] at jI ⊢
 rw [<-hcn] at jI ⊢
 obtain⟨hB,h1,h2,h3⟩:=za8 w (.cells #[.int .i64 vars, .int .i64 dom, .slice ca cn cc] 26) (.cells #[.int .i64 mod, .int .i64 bnd] 31) (.cells #[.slice ta n vE, .slice ma mn qN, .bool bad] 35)
 have HB:=qh hB
 have H1:=qh h1
 have H2:=qh h2
 have H3:=qh h3
 have HT:=qh hT
 have HN:=qh hn
 have bE:=qh hb
 have zun:=qh hall
 have HAT:=qh zul
 have zuo:=qh jI
 have z5y:=qh zum
 obtain⟨R1,hR1⟩:∃R:List zN,R=(List.range n).flatMap MT:=⟨_,rfl⟩
 obtain⟨R2,hR2⟩:∃R:List zm,R=(List.range n).flatMap NT:=⟨_,rfl⟩
 rw [<-hR1, <-hR2]
 have HR1:=qh hR1
 have HR2:=qh hR2
 clear hn hcn hmn hb hB h1 h2 h3 hT hall zul jI zum hF0 hR1 hR2
 go_enter Tryz.func32,Tryz.ntmps32
 go_upto_region 1 with fail
 generalize World.alloc (World.alloc (World.alloc w _) _) _=W at HB H1 H2 H3 ⊢
 obtain⟨gx,hgx⟩:∃gx,gx=w.heap.size:=⟨_,rfl⟩
 rw [<-hgx] at H1 H2 H3 ⊢
 have yV:Hid (w.heap.size<=W.heap.size):=HB.out.size
 clear hgx
 have xJ:Hid (∀y,Below W.heap.size W y->y.cell? ⟨gx,0,none⟩=some (.int .i64 vars)/\y.cell? ⟨gx,1,none⟩=some (.int .i64 dom)/\y.cell? ⟨gx,2,none⟩=some (.slice ca cn cc)/\
   y.cell? ⟨gx+1,0,none⟩=some (.int .i64 mod)/\y.cell? ⟨gx+1,1,none⟩=some (.int .i64 bnd)/\y.cell? ⟨gx+2,0,none⟩=some (.slice ta n vE)/\y.cell? ⟨gx+2,1,none⟩=some (.slice ma mn qN)/\y.cell? ⟨gx+2,2,none⟩=some (.bool bad)):=λy hx=>
  ⟨zh hx _ _ (za H1.out 0),zh hx _ _ (za H1.out 1),zh hx _ _ (za H1.out 2),zh hx _ _ (za H2.out 0),zh hx _ _ (za H2.out 1),zh hx _ _ (za H3.out 0),zh hx _ _ (za H3.out 1),zh hx _ _ (za H3.out 2)⟩
 have yM:Hid (∀y,Below W.heap.size W y->Below w.heap.size w y):=λy hy=>HB.out.trans (hy.mono HB.out.size)
 have HN0:Hid (vR F0 W W (.slice none 0 0) (.slice none 0 0) [] [] []):=vR.begin (Below.refl _ _)
 obtain⟨c0,c1,c2,c3,c4,c5,c6,c7⟩:=xJ.out W (Below.refl _ _)
 clear H1 H2 H3
 go_wp2_with fail
 clear c0 c1 c2 c3 c4 c5 c6 c7
 go_loopg [6,7,20] n (λgg s6 s7 s20 wr=>∃(i:Nat) (oa:Option Addr) (on oc:Nat) (ml:List zN) (na:Option Addr) (nc:Nat) (nl:List zm) (css:List (List Value)),i<=n/\Hid (gg=n - i)/\s6= .slice oa on oc/\s7= .slice na on nc/\s20= .int .i64 i/\on<=1000001*i/\Hid (vR F0 W wr (.slice oa on oc) (.slice na on nc) ml nl css)/\Hid (ml.length=on/\nl.length=on)/\Hid (ml=(List.range i).flatMap MT/\nl=(List.range i).flatMap NT))
 case atStart=>exact⟨0,none,0,0, [],none,0, [], [],Nat.zero_le _,rfl,rfl,rfl,rfl,by omega,HN0.out,⟨rfl,rfl⟩,⟨rfl,rfl⟩⟩
 case round=>
 obtain⟨i,oa,on,oc,ml,na,nc,nl,css,hi,HG,rfl,rfl,rfl,hon,HL,uj,HML⟩:=hrel
 obtain⟨wo,rfl⟩:∃wo:World,wo=wr:=⟨_,rfl⟩
 clear HN0
 by_cases hlt:i<n
 rotate_left
 ·obtain rfl:n=i:=by omega
  have yt:=qh (HL.out.fin HB.out uj.out.1 uj.out.2)
  have hr1:R1=ml:=by rw [HR1.out,HML.out.1]
  have hr2:R2=nl:=by rw [HR2.out,HML.out.2]
  have HQ1:=qh hr1
  have HQ2:=qh hr2
  clear hr1 hr2
  go_wp2_with fail
  go_ret2
  rw [HQ1.out,HQ2.out]
  exact yt.out
 have qK:(i:Int)<(n:Int):=by omega
 obtain⟨tb,yA,ba,bc,hta, -,hrl,x0,x1,x2,x3,x4,x5,hbuf⟩:=qj.part HT.out i (by rw [<-HN.out];exact hlt)
 subst hta
 have hbl:=bE.out i hlt
 have hat:=HAT.out i
 have hal:=zun.out i hlt
 generalize ts.getD i default=t at x0 x1 x2 x3 x4 x5 hbuf hbl hat hrl
 obtain⟨pc,regs,buf⟩:=t
 obtain⟨q0,q1,q2,q3,rfl⟩:=jS hrl
 simp only [List.getD_cons_zero,List.getD_cons_succ] at x0 x1 x2 x3 x4 x5 hbuf hbl hat
 obtain⟨hh,hhh⟩:∃hh,hh=yD buf mod:=⟨_,rfl⟩
 rw [<-hhh] at hat
 have hhl:hh.length<=1000000:=by have:=zcw buf mod;rw [hhh];omega
 obtain⟨bl,jw⟩:∃bl,bl=buf.length:=⟨_,rfl⟩
 rw [<-jw] at x5 hbuf
 have uG:Hid (∀y,Below w.heap.size w y->Calls Tryz.prog 63 #[.slice ba bl bc, .int .i64 mod] y λe w'=>(∃va vc,e= .returned (.slice va hh.length vc)/\w'.ownsRow y.heap.size 3 1 (.slice va hh.length vc) hh.length (zl yO hh))/\Below y.heap.size y w'):=λy hy=>
  (zfK y (.slice ba bl bc) buf (zW.below hbuf hy) (by omega) mod).mono λe w' ⟨⟨sv,he,ho⟩,hb⟩=>by
   rw [<-hhh] at ho
   obtain⟨a,cp,rfl, -⟩:=qO ho
   exact⟨⟨a,cp,he,ho⟩,hb⟩
 obtain⟨ai,hai⟩:∃ai,ai=AT i:=⟨_,rfl⟩
 rw [<-hai] at hat hal
 obtain⟨hn,hhn⟩:∃hn,hn=hh.length:=⟨_,rfl⟩
 rw [<-hhn] at uG hhl
 have HHN:=qh hhn
 have zup:=qh hat
 have zyk:=qh hal
 have hwo:=yM.out wo HL.out.below
 have y0:=zh hwo _ _ x0
 have y1:=zh hwo _ _ x1
 have y2:=zh hwo _ _ x2
 have y3:=zh hwo _ _ x3
 have y4:=zh hwo _ _ x4
 have y5:=zh hwo _ _ x5
 obtain⟨-, -, -, -, -,c5,c6,c7⟩:=xJ.out wo HL.out.below
 have HA:=qh ((Below.refl wo.heap.size wo).alloc (Nat.le_refl _) (.cells #[.int .i64 pc, .int .i64 q0, .int .i64 q1, .int .i64 q2, .int .i64 q3, .slice ba bl bc] 47))
 have HY:=qh (yE wo (.cells #[.int .i64 pc, .int .i64 q0, .int .i64 q1, .int .i64 q2, .int .i64 q3, .slice ba bl bc] 47))
 clear x0 x1 x2 x3 x4 x5 hbuf hbl hhh jw hat hal hhn hwo hrl hai
 go_upto_region 4 with fail
 clear y0 y1 y2 y3 y4 y5 c5 c6 c7
 generalize World.alloc wo _=X at HA HY ⊢
 obtain⟨gl,hgl⟩:∃g,g=wo.heap.size:=⟨_,rfl⟩
 rw [<-hgl] at HY ⊢
 clear hgl
 have HLX:=qh (HL.out.later HA.out)
 have HA2:=qh ((Below.refl X.heap.size X).alloc (Nat.le_refl _) (.cells #[.int .i64 1, .int .i64 (i:Int), .int .i64 0] 43))
 have HY2:=qh (yE X (.cells #[.int .i64 1, .int .i64 (i:Int), .int .i64 0] 43))
 clear HL HA
 go_upto_region 5 with fail
 generalize World.alloc X _=X2 at HA2 HY2 ⊢
 obtain⟨ga,hga⟩:∃g,g=X.heap.size:=⟨_,rfl⟩
 rw [<-hga] at HY2 ⊢
 have HGA:Hid (ga=X.heap.size):=hga
 clear hga
 have pq:Hid (W.heap.size<=X.heap.size):=HLX.out.below.size
 have zyl:=qh ((HLX.out.less (F1:=λk=>F0 k\/X.heap.size<=k) (λ_ hk=>hk)).later HA2.out)
 have zuq:=qh (HLX.out.later HA2.out)
 have HRA:Hid (X2.ownsRow X.heap.size 43 3 (.slice (some ⟨ga,0,none⟩) 1 1) 1 (zl zN.cells [⟨1,(i:Int),0⟩])):=jT (n:=1) (cs:=zl zN.cells [⟨1,(i:Int),0⟩]) HY2.out (by rw [HGA.out];exact Nat.le_refl _) rfl (by decide)
 have zym:Hid (∀k,(Value.slice oa on oc).ownBlock=some k->(Value.slice (some ⟨ga,0,none⟩) 1 1).ownBlock≠some k):=λk hk e=>by
  have h1:=(HLX.out.row.lt k hk).2
  have h2:ga=k:=by cases e;rfl
  have:=HGA.out
  omega
 have d5:X2.cell? ⟨gl,5,none⟩=some (.slice ba bl bc):=zh HA2.out _ _ (za HY.out 5)
 obtain⟨-, -, -,c3, -, -, -, -⟩:=xJ.out X2 zuq.out.below
 clear HLX HA2 HY HY2
 go_wp2_with(go_at_call 63;go_must(refine(uG.out X2 (yM.out X2 zuq.out.below)).mono ?_);rintro e W2 ⟨⟨va,vc,rfl,hhr⟩,hb2⟩;(have HHR:=qh hhr);(have HL2:=qh (zyl.out.later hb2));(have zyn:=qh (xX HRA.out hb2));(have HG2:Hid (X.heap.size<=W2.heap.size/\X2.heap.size<=W2.heap.size):=⟨Nat.le_trans (by have:=(HRA.out.lt ga rfl).2;have:=HGA.out;omega) hb2.size,hb2.size⟩);clear hb2 hhr)
 clear d5 c3
 have zyo:Hid (∀k,(Value.slice (some ⟨ga,0,none⟩) 1 1).ownBlock=some k->(Value.slice va hn vc).ownBlock≠some k):=λk hk e=>by
  have h1:=(HRA.out.lt k hk).2
  have h2:=(HHR.out.lt k e).1
  omega
 clear zuq zyl HRA uG
 go_loopg [10,34] hn (λgg s10 s34 wr=>∃(k:Nat) (aa:Option Addr) (ac:Nat) (al:List zN),k<=hn/\Hid (gg=hn - k)/\s10= .slice aa (k+1) ac/\s34= .int .i64 k/\Hid (wr.ownsRow X.heap.size 43 3 (.slice aa (k+1) ac) (k+1) (zl zN.cells al))/\Hid (al=⟨1,(i:Int),0⟩::(hh.take k).map (λv=>⟨2,(i:Int),v⟩))/\Hid (∃B,wr.ownsRow B 3 1 (.slice va hn vc) hn (zl yO hh))/\Hid (∀k',(Value.slice aa (k+1) ac).ownBlock=some k'->(Value.slice va hn vc).ownBlock≠some k')/\
  Hid (∀k',(Value.slice oa on oc).ownBlock=some k'->(Value.slice aa (k+1) ac).ownBlock≠some k')/\Hid (vR (λk=>F0 k\/X.heap.size<=k) W wr (.slice oa on oc) (.slice na on nc) ml nl css)/\Hid (X.heap.size<=wr.heap.size))
 case atStart=>exact⟨0,some ⟨ga,0,none⟩,1, [⟨1,(i:Int),0⟩],Nat.zero_le _,rfl,rfl,rfl,zyn.out,by simp [Hid],⟨_,HHR.out⟩,zyo.out,zym.out,HL2.out,HG2.out.1⟩
 case round=>
 obtain⟨k,aa,ac,al,hk,z5z,rfl,rfl,HRW,HAL,HHB,HNV,HNA,HLW,HXS⟩:=hrel
 clear zyn HHR zyo zym HL2 HG2
 by_cases hkl:k<hn
 ·have zyq:(k:Int)<(hn:Int):=by omega
  obtain⟨BH,hhr⟩:=HHB.out
  have hrw:=hhr
  rw [HHN.out] at hrw
  obtain⟨b9,o9,yG, -,e1⟩:=xI.part (gQ hrw) k (by rw [<-HHN.out];exact hkl)
  subst yG
  have HRB:=qh hhr
  clear hhr hrw
  have jX:Hid (hh.take (k+1)=hh.take k++ [hh.getD k 0]):=by rw [Hid,List.take_succ_eq_append_getElem (by rw [<-HHN.out];exact hkl),List.getD_eq_getElem?_getD,List.getElem?_eq_getElem (by rw [<-HHN.out];exact hkl)];rfl
  generalize hh.getD k 0=v at e1 jX
  have z1A:Hid (∀(X':World) (a':Option Addr) (c':Nat) (o:Obj),X'.ownsRow X.heap.size 43 3 (.slice a' (k+1+1) c') (k+1+1) (zl zN.cells al++zN.cells ⟨2,(i:Int),v⟩)->Since (λx=>(Value.slice aa (k+1) ac).ownBlock=some x) (wr.alloc o) X'->(∀x,(Value.slice a' (k+1+1) c').ownBlock=some x->(Value.slice aa (k+1) ac).ownBlock=some x\/x=(wr.alloc o).heap.size)->
    X'.ownsRow X.heap.size 43 3 (.slice a' (k+1+1) c') (k+1+1) (zl zN.cells (al++ [⟨2,(i:Int),v⟩]))/\(∃B,X'.ownsRow B 3 1 (.slice (some ⟨b9,o9,none⟩) hn vc) hn (zl yO hh))/\(∀x,(Value.slice a' (k+1+1) c').ownBlock=some x->(Value.slice (some ⟨b9,o9,none⟩) hn vc).ownBlock≠some x)/\
    (∀x,(Value.slice oa on oc).ownBlock=some x->(Value.slice a' (k+1+1) c').ownBlock≠some x)/\vR (λk=>F0 k\/X.heap.size<=k) W X' (.slice oa on oc) (.slice na on nc) ml nl css/\X.heap.size<=X'.heap.size):=λX' a' c' o f1 f4 f5=>by
   obtain⟨g1,g2⟩:=ze9 HRB.out HNV.out f4 f5
   have hso:=HLW.out.side (o:=o) HRW.out (λ_ h=> .inr h) pq.out HNA.out f4
   refine⟨by rw [zde];exact f1,⟨_,g1⟩,g2,λx hx e=> ?_,hso,Nat.le_trans HXS.out (Nat.le_trans (by simp) f4.size)⟩
   rcases f5 x e with e'|e'
   ·exact HNA.out x hx e'
   have h1:=(HLW.out.row.lt x hx).2
   simp at e'
   omega
  go_wp2_with(at_builtin;go_must(refine yx _ rfl _ _ 37 rfl 43 (.agg #[.int .i64 0, .int .i64 0, .int .i64 0]) 3 24 Tryz.underlying37 uX rfl (by decide) X.heap.size (.slice aa (k+1) ac) (k+1) (zl zN.cells al) rfl ((HRW.out).alloc _) ⟨wr.heap.size,0,none⟩ 1 1 (zN.cells ⟨2,i,v⟩) rfl rfl (gT _ (zN.cells ⟨2,i,v⟩) _) (by simp [zN.cells,Value.oneCell']) (by unfold maxLen;omega) (by omega) (by have:=HXS.out;simp;omega) ?_);intro ja jc Y f1 f2 f3 f4 f5 f6;have HE:=qh (z1A.out Y ja jc _ f1 f4 f5);clear f1 f2 f3 f4 f5 f6)
  go_roundg (hn - (k+1))
  case measure=>rw [z5z.out];omega
  case rel=>exact⟨k+1,ja,jc,al++ [(⟨2,(i:Int),v⟩:zN)],by omega,rfl,rfl,by simp,HE.out.1,by rw [Hid,HAL.out,jX.out];simp,HE.out.2.1,HE.out.2.2.1,HE.out.2.2.2.1,HE.out.2.2.2.2.1,HE.out.2.2.2.2.2⟩
 obtain rfl:hn=k:=by omega
 have zwl:Hid (al=ai):=by rw [Hid,HAL.out,zup.out,HHN.out,List.take_length]
 have z5A:=zwl.out
 subst z5A
 have zgS:Hid (∀k,k<al.length->(al.getD k default).thread=(i:Int)):=λk hk=>by
  have hm:al.getD k default∈al:=qP hk
  generalize al.getD k default=y at hm
  rw [zup.out] at hm
  rcases List.mem_cons.1 hm with rfl|hm
  ·rfl
  obtain⟨v, -,rfl⟩:=List.mem_map.1 hm
  rfl
 clear zwl HAL HHB HNV zup
 have hlen:al.length=hn+1:=by
  have:=HRW.out.1
  rw [jA zls] at this
  omega
 have HLEN:=qh hlen
 clear hlen
 go_wp2_with fail
 go_loopg [6,7,47] (hn+1) (λgg s6 s7 s47 wr=>∃(k:Nat) (pa:Option Addr) (pn pc':Nat) (pl:List zN) (ra:Option Addr) (rc:Nat) (rl:List zm) (rss:List (List Value)),k<=hn+1/\Hid (gg=hn+1 - k)/\s6= .slice pa pn pc'/\s7= .slice ra pn rc/\s47= .int .i64 k/\pn<=on+k/\Hid (vR F0 W wr (.slice pa pn pc') (.slice ra pn rc) pl rl rss)/\Hid (pl.length=pn/\rl.length=pn)/\Hid (pl=ml++(al.take k).filter (λx=>(TM i x).isSome)/\rl=nl++(al.take k).filterMap (TM i))/\
  Hid (wr.ownsRow X.heap.size 43 3 (.slice aa (hn+1) ac) (hn+1) (zl zN.cells al))/\Hid (∀x,(Value.slice pa pn pc').ownBlock=some x->(Value.slice aa (hn+1) ac).ownBlock≠some x))
 case atStart=>exact⟨0,oa,on,oc,ml,na,nc,nl,css,Nat.zero_le _,rfl,rfl,rfl,rfl,by omega,HLW.out.less (λ_ h=> .inl (.inl h)),uj.out,by simp [Hid],HRW.out,HNA.out⟩
 case round=>
 obtain⟨k,pa,pn,pc',pl,ra,rc,rl,rss,hk,jQ,rfl,rfl,rfl,hpn,HLP,HPN,gF,HRA,HNP⟩:=hrel
 clear HLW HRW HNA
 by_cases hkl:k<hn+1
 rotate_left
 ·obtain rfl:k=hn+1:=by omega
  have hst:pl=(List.range (i+1)).flatMap MT/\rl=(List.range (i+1)).flatMap NT:=by
   have e:al.take (hn+1)=al:=by rw [<-HLEN.out,List.take_length]
   rw [za9,za9, <-HML.out.1, <-HML.out.2,gF.out.1,gF.out.2,e,zyk.out.1,zyk.out.2]
   exact⟨rfl,rfl⟩
  have HST:=qh hst
  clear hst
  go_wp2_with fail
  go_roundg (n - (i+1))
  case measure=>rw [HG.out];omega
  case rel=>exact⟨i+1,pa,pn,pc',pl,ra,rc,rl,rss,by omega,rfl,rfl,rfl,by simp,by omega,HLP.out,HPN.out,HST.out⟩
 have zyq:(k:Int)<((hn:Int)+1):=by omega
 have hra:=HRA.out
 have zyr:wr.ownsRow X.heap.size 43 3 (.slice aa (hn+1) ac) al.length (zl zN.cells al):=by rw [HLEN.out];exact hra
 obtain⟨b9,o9,yG, -,e1,e2,e3⟩:=uY.part (by have:=zfh zyr;exact this) k (by rw [HLEN.out];exact hkl)
 subst yG
 have htk:=zo3 (l:=al) (k:=k) (by rw [HLEN.out];exact hkl) (λx=>(TM i x).isSome)
 have zpQ:=zgT (l:=al) (k:=k) (by rw [HLEN.out];exact hkl) (TM i)
 have hth:(al.getD k default).thread=(i:Int):=zgS.out k (by rw [HLEN.out];exact hkl)
 obtain⟨x,hx⟩:∃x,x=al.getD k default:=⟨_,rfl⟩
 rw [<-hx] at e1 e2 e3 htk zpQ hth
 rw [hth] at e2
 have htr:=λy hy=>zuo.out y i x hy hlt hth
 have hxe:zN.cells x= [.int .i64 x.kind, .int .i64 (i:Int), .int .i64 x.var] :=by unfold zN.cells;rw [hth]
 obtain⟨tr,zys⟩:∃r,r=TM i x:=⟨_,rfl⟩
 rw [<-zys] at htk zpQ htr
 obtain⟨xk,hxk⟩:∃q,q=x.kind:=⟨_,rfl⟩
 obtain⟨xv,hxv⟩:∃q,q=x.var:=⟨_,rfl⟩
 rw [<-hxk] at e1 htr
 rw [<-hxv] at e3 htr
 rw [<-hxk, <-hxv] at hxe
 have HTR:=qh htr
 have jX:=qh htk
 have zpR:=qh zpQ
 have HCX:=qh hxe
 have HA:=qh ((Below.refl wr.heap.size wr).alloc (Nat.le_refl _) (.cells #[.int .i64 xk, .int .i64 (i:Int), .int .i64 xv] 43))
 have HY:=qh (yE wr (.cells #[.int .i64 xk, .int .i64 (i:Int), .int .i64 xv] 43))
 clear hra zyr htk zpQ hth hx htr hxe zys hxk hxv
 go_upto_region 13 with fail
 clear e1 e2 e3
 generalize World.alloc wr _=Y at HA HY ⊢
 obtain⟨gm,hgm⟩:∃g,g=wr.heap.size:=⟨_,rfl⟩
 rw [<-hgm] at HY ⊢
 have HGM:=qh hgm
 clear hgm
 have HNM:Hid (∀x,(Value.slice pa pn pc').ownBlock=some x\/(Value.slice ra pn rc).ownBlock=some x->x<gm):=λx hx=>by
  rw [HGM.out]
  rcases hx with e|e
  ·exact(HLP.out.row.lt x e).2
  exact(HLP.out.st.row.lt x e).2
 have qH:=qh (HLP.out.later HA.out)
 have um:=qh (xX HRA.out HA.out)
 obtain⟨c0,c1,c2,c3,c4,c5,c6,c7⟩:=xJ.out Y qH.out.below
 have d0:Y.cell? ⟨gm,0,none⟩=some (.int .i64 xk):=za HY.out 0
 have d1:Y.cell? ⟨gm,1,none⟩=some (.int .i64 (i:Int)):=za HY.out 1
 have d2:Y.cell? ⟨gm,2,none⟩=some (.int .i64 xv):=za HY.out 2
 clear HLP HRA
 go_upto_if 59 with(go_at_call 33;go_must(refine(HTR.out Y (yM.out Y qH.out.below)).mono ?_);rintro e Z zur;(obtain⟨xa,xn,xc,ya,yn,yc,bd,isv,rfl,zyv⟩:=zur.told);(have HZ:=qh zur.1);(have HTE:=qh zyv);clear zur zyv c0 c1 c2 c3 c4 c5 c6 c7 d0 d1 d2)
 have HLZ:=qh (qH.out.later HZ.out)
 have HRZ:=qh (xX um.out HZ.out)
 have HGZ:Hid (Z.heap[gm]? =some (.cells #[.int .i64 xk, .int .i64 (i:Int), .int .i64 xv] 43 (0,0))):=(HZ.out.block gm (zq HY.out)).trans HY.out
 have HA4:=qh ((Below.refl Z.heap.size Z).alloc (Nat.le_refl _) (.cells #[.slice xa xn xc, .slice ya yn yc, .bool bd] 35))
 have wL:=qh (yE Z (.cells #[.slice xa xn xc, .slice ya yn yc, .bool bd] 35))
 have HU1:Hid (∀x,(Value.slice pa pn pc').ownBlock=some x->w.heap.size<=x/\x<Y.heap.size):=λx hx=>by
  have:=qH.out.row.lt x hx
  have:=yV.out
  omega
 have HU2:Hid (∀x,(Value.slice ra pn rc).ownBlock=some x->w.heap.size<=x/\x<Y.heap.size):=λx hx=>by
  have:=qH.out.st.row.lt x hx
  have:=yV.out
  omega
 have HAW:Hid (∀t,tr=some t->bd=t.bad/\yK (NF F0 (.slice pa pn pc') (.slice ra pn rc)) Z (λy=>zaO y t [.slice xa xn xc, .slice ya yn yc, .bool bd])):=λt ht=>by
  obtain⟨e1,e2⟩:=HTE.out.2 t ht
  subst e1
  exact⟨rfl,z5y.out Y Z t _ _ _ _ (yM.out Y qH.out.below) e2 HU1.out HU2.out⟩
 have HIS:=qh HTE.out.1
 clear HTE HU1 HU2 qH um HY HA
 generalize World.alloc Z _=V at HA4 wL ⊢
 obtain⟨gt,hgt⟩:∃g,g=Z.heap.size:=⟨_,rfl⟩
 rw [<-hgt] at wL ⊢
 have hgg:gm<gt:=by rw [hgt];exact zq HGZ.out
 have zyx:Hid (¬((Value.slice pa pn pc').ownBlock=some gm\/(Value.slice ra pn rc).ownBlock=some gm)/\¬((Value.slice pa pn pc').ownBlock=some gt\/(Value.slice ra pn rc).ownBlock=some gt)):=⟨λe=>by have:=HNM.out gm e;omega,λe=>by have:=HNM.out gt e;omega⟩
 clear hgt hgg HNM
 have HLV:=qh (HLZ.out.later HA4.out)
 have HRV:=qh (xX HRZ.out HA4.out)
 have HGV:Hid (V.heap[gm]? =some (.cells #[.int .i64 xk, .int .i64 (i:Int), .int .i64 xv] 43 (0,0))):=(HA4.out.block gm (zq HGZ.out)).trans HGZ.out
 have z5B:Hid (∀t,tr=some t->yK (NF F0 (.slice pa pn pc') (.slice ra pn rc)) V (λy=>zaO y t [.slice xa xn xc, .slice ya yn yc, .bool bd])):=λt ht=>(HAW.out t ht).2.step (G:=λ_=>False) (wm _ HA4.out) (λ_ h=>h.elim) (λ_ hk=> .inl hk)
 clear HAW HLZ HRZ HGZ HA4 HZ
 cases tr with
 |none=>
  have his:=HIS.out
  simp only [Option.isSome_none] at his
  subst his
  go_wp2_with fail
  go_roundg (hn+1 - (k+1))
  case measure=>rw [jQ.out];omega
  case rel=>exact⟨k+1,pa,pn,pc',pl,ra,rc,rl,rss,by omega,rfl,rfl,rfl,by simp,by omega,HLV.out,HPN.out,⟨by rw [gF.out.1,jX.out];simp,by rw [gF.out.2,zpR.out];simp⟩,HRV.out,HNP.out⟩
 |some t=>
 have his:=HIS.out
 simp only [Option.isSome_some] at his
 subst his
 have haw:=z5B.out t rfl
 have zus:=qh haw
 clear haw
 have zfi:=HPN.out.1
 have zfj:=HPN.out.2
 go_wp2_with fail
 have CC:Hid (∀y,Since (λx=>(Value.slice pa pn pc').ownBlock=some x\/(Value.slice ra pn rc).ownBlock=some x) V y->y.cell? ⟨gm,0,none⟩=some (.int .i64 xk)/\y.cell? ⟨gm,1,none⟩=some (.int .i64 (i:Int))/\y.cell? ⟨gm,2,none⟩=some (.int .i64 xv)/\y.cell? ⟨gt,0,none⟩=some (.slice xa xn xc)/\y.cell? ⟨gt,1,none⟩=some (.slice ya yn yc)/\y.cell? ⟨gt,2,none⟩=some (.bool bd)):=λy hy=>by
  have hm:¬((Value.slice pa pn pc').ownBlock=some gm\/(Value.slice ra pn rc).ownBlock=some gm):=zyx.out.1
  have ht:¬((Value.slice pa pn pc').ownBlock=some gt\/(Value.slice ra pn rc).ownBlock=some gt):=zyx.out.2
  have h1:=(hy.block gm (zq HGV.out) hm).trans HGV.out
  have h2:=(hy.block gt (zq wL.out) ht).trans wL.out
  exact⟨za h1 0,za h1 1,za h1 2,za h2 0,za h2 1,za h2 2⟩
 refine vJ (S:=λy=>Since (λx=>(Value.slice pa pn pc').ownBlock=some x\/(Value.slice ra pn rc).ownBlock=some x) V y) (Since.refl _ _).drew (λ_=> ?_)
 have hT0:=qh (uy.start (B:=W.heap.size) (by have:=HLV.out.row;rw [zfi] at this;exact this) (by have:=HLV.out.st.row;rw [zfj] at this;exact this) HLV.out.below.size)
 obtain⟨V1,hV1⟩:∃V1,V1=V.drew:=⟨_,rfl⟩
 rw [<-hV1] at hT0 ⊢
 clear hV1
 refine zA 0 zM (hT0.out.since) ?_
 refine zA 1 CC.out (hT0.out.since) ?_
 refine zA 4 zM (hT0.out.since) ?_
 refine zA 5 CC.out (hT0.out.since) ?_
 refine wpAnyH_ready (rs:= [2,6]) (by kernel_rfl) (by simp) ?_
 refine AllReadyH.cons rfl (λK hK=> ?_) (AllReadyH.cons rfl (λK hK=> ?_) AllReadyH.nil)
 ·skip
  go_simp
  have zbF:=hT0.out.alloc 43 [.int .i64 xk, .int .i64 (i:Int), .int .i64 xv]
  refine hK.out _ _ zbF.since (λ_=> ?_)
  obtain⟨nb1,zlu⟩:∃n,n=V1.heap.size:=⟨_,rfl⟩
  rw [<-zlu] at zbF ⊢
  clear zlu
  generalize World.alloc V1 _=Xn2 at zbF ⊢
  replace zbF:=qh zbF
  clear hK K
  refine wpAnyH_ready (rs:= [3,6]) (by kernel_rfl) (by simp) ?_
  refine AllReadyH.cons rfl (λK hK=> ?_) (AllReadyH.cons rfl (λK hK=> ?_) AllReadyH.nil)
  ·skip
   refine zV Xn2 (by rfl) (.tmp 60) (.tmp 62) 37 rfl 43 (.agg #[.int .i64 0, .int .i64 0, .int .i64 0]) 3 24 Tryz.underlying37 uX rfl (by decide) W.heap.size (.slice pa pn pc') pn (zl zN.cells pl) (by rfl) zbF.out.r1 ⟨nb1,0,none⟩ 1 1 [.int .i64 xk, .int .i64 (i:Int), .int .i64 xv] (by rfl) rfl (zbF.out.cell (b:=nb1) (t:=43) (cs:= [.int .i64 xk, .int .i64 (i:Int), .int .i64 xv]) (by simp)) (by simp [Value.oneCell']) (by unfold maxLen;omega) (by omega) zbF.out.base ?_
   intro ma' mc' Xn4 e1 e2 e3 e4 e5
   have zyz:=qh (zbF.out.app1 (by decide) e1 e4 e5)
   clear e1 e2 e3 e4 e5
   refine hK.out _ _ zyz.out.since (λ_=> ?_)
   change wpAnyH _ _ _ _ _ _ _ (Act.put _ (some 63) _) _
   simp only [Act.put,zQ]
   try simp only [zR,zS]
   clear hK K
   refine yw 6 rfl (λK hK=> ?_)
   go_simp
   have zcx:=zyz.out.alloc 35 [.slice xa xn xc, .slice ya yn yc, .bool bd]
   refine hK.out _ _ zcx.since (λ_=> ?_)
   obtain⟨nb2,zdf⟩:∃n,n=Xn4.heap.size:=⟨_,rfl⟩
   rw [<-zdf] at zcx ⊢
   clear zdf
   generalize World.alloc Xn4 _=Xn6 at zcx ⊢
   replace zcx:=qh zcx
   clear hK K
   refine yw 7 rfl (λK hK=> ?_)
   refine zV Xn6 (by rfl) (.tmp 64) (.tmp 66) 80 rfl 35 (.agg #[.slice none 0 0, .slice none 0 0, .bool false]) 3 56 Tryz.underlying80 zcy rfl (by decide) W.heap.size (.slice ra pn rc) pn rss.flatten (by rfl) zcx.out.r2 ⟨nb2,0,none⟩ 1 1 [.slice xa xn xc, .slice ya yn yc, .bool bd] (by rfl) rfl (zcx.out.cell (b:=nb2) (t:=35) (cs:= [.slice xa xn xc, .slice ya yn yc, .bool bd]) (by simp)) (by simp [Value.oneCell']) (by unfold maxLen;omega) (by omega) zcx.out.base ?_
   intro ra' rc' Xn8 e1 e2 e3 e4 e5
   have zlv:=qh (zcx.out.zut (by decide) e1 e4 e5)
   clear e1 e2 e3 e4 e5
   refine hK.out _ _ zlv.out.since (λ_=> ?_)
   change wpAnyH _ _ _ _ _ _ _ (Act.put _ (some 67) _) _
   simp only [Act.put,zQ]
   try simp only [zR,zS]
   clear hK K
   refine zA 8 zM (zlv.out.since) ?_
   refine zA 9 zM (zlv.out.since) ?_
   refine xM ?_
   have HE:=qh (HLV.out.push (x:=x) (t:=t) (cs:= [.slice xa xn xc, .slice ya yn yc, .bool bd]) (by rw [zfi,zfj,HCX.out];exact zlv.out) zus.out rfl)
   have HE2:=qh (HLV.out.beside HRV.out HNP.out zlv.out)
   go_wp2_with fail
   go_roundg (hn+1 - (k+1))
   case measure=>rw [jQ.out];omega
   case rel=>exact⟨k+1,ma',pn+1,mc',pl++ [x],ra',rc',rl++ [t],rss++ [[Value.slice xa xn xc,Value.slice ya yn yc,Value.bool bd]],by omega,rfl,rfl,rfl,by simp,by omega,HE.out,⟨by rw [List.length_append,zfi];rfl,by rw [List.length_append,zfj];rfl⟩,⟨by rw [gF.out.1,jX.out,List.append_assoc];rfl,by rw [gF.out.2,zpR.out,List.append_assoc]⟩,HE2.out.1,HE2.out.2⟩
  skip
  go_simp
  have zcz:=zbF.out.alloc 35 [.slice xa xn xc, .slice ya yn yc, .bool bd]
  refine hK.out _ _ zcz.since (λ_=> ?_)
  obtain⟨nb2,zdf⟩:∃n,n=Xn2.heap.size:=⟨_,rfl⟩
  rw [<-zdf] at zcz ⊢
  clear zdf
  generalize World.alloc Xn2 _=z5C at zcz ⊢
  replace zcz:=qh zcz
  clear hK K
  refine yw 3 rfl (λK hK=> ?_)
  refine zV z5C (by rfl) (.tmp 60) (.tmp 62) 37 rfl 43 (.agg #[.int .i64 0, .int .i64 0, .int .i64 0]) 3 24 Tryz.underlying37 uX rfl (by decide) W.heap.size (.slice pa pn pc') pn (zl zN.cells pl) (by rfl) zcz.out.r1 ⟨nb1,0,none⟩ 1 1 [.int .i64 xk, .int .i64 (i:Int), .int .i64 xv] (by rfl) rfl (zcz.out.cell (b:=nb1) (t:=43) (cs:= [.int .i64 xk, .int .i64 (i:Int), .int .i64 xv]) (by simp)) (by simp [Value.oneCell']) (by unfold maxLen;omega) (by omega) zcz.out.base ?_
  intro ma' mc' z5D e1 e2 e3 e4 e5
  have zge:=qh (zcz.out.app1 (by decide) e1 e4 e5)
  clear e1 e2 e3 e4 e5
  refine hK.out _ _ zge.out.since (λ_=> ?_)
  change wpAnyH _ _ _ _ _ _ _ (Act.put _ (some 63) _) _
  simp only [Act.put,zQ]
  try simp only [zR,zS]
  clear hK K
  refine yw 7 rfl (λK hK=> ?_)
  refine zV z5D (by rfl) (.tmp 64) (.tmp 66) 80 rfl 35 (.agg #[.slice none 0 0, .slice none 0 0, .bool false]) 3 56 Tryz.underlying80 zcy rfl (by decide) W.heap.size (.slice ra pn rc) pn rss.flatten (by rfl) zge.out.r2 ⟨nb2,0,none⟩ 1 1 [.slice xa xn xc, .slice ya yn yc, .bool bd] (by rfl) rfl (zge.out.cell (b:=nb2) (t:=35) (cs:= [.slice xa xn xc, .slice ya yn yc, .bool bd]) (by simp)) (by simp [Value.oneCell']) (by unfold maxLen;omega) (by omega) zge.out.base ?_
  intro ra' rc' zAs e1 e2 e3 e4 e5
  have zgf:=qh (zge.out.zut (by decide) e1 e4 e5)
  clear e1 e2 e3 e4 e5
  refine hK.out _ _ zgf.out.since (λ_=> ?_)
  change wpAnyH _ _ _ _ _ _ _ (Act.put _ (some 67) _) _
  simp only [Act.put,zQ]
  try simp only [zR,zS]
  clear hK K
  refine zA 8 zM (zgf.out.since) ?_
  refine zA 9 zM (zgf.out.since) ?_
  refine xM ?_
  have HE:=qh (HLV.out.push (x:=x) (t:=t) (cs:= [.slice xa xn xc, .slice ya yn yc, .bool bd]) (by rw [zfi,zfj,HCX.out];exact zgf.out) zus.out rfl)
  have HE2:=qh (HLV.out.beside HRV.out HNP.out zgf.out)
  go_wp2_with fail
  go_roundg (hn+1 - (k+1))
  case measure=>rw [jQ.out];omega
  case rel=>exact⟨k+1,ma',pn+1,mc',pl++ [x],ra',rc',rl++ [t],rss++ [[Value.slice xa xn xc,Value.slice ya yn yc,Value.bool bd]],by omega,rfl,rfl,rfl,by simp,by omega,HE.out,⟨by rw [List.length_append,zfi];rfl,by rw [List.length_append,zfj];rfl⟩,⟨by rw [gF.out.1,jX.out,List.append_assoc];rfl,by rw [gF.out.2,zpR.out,List.append_assoc]⟩,HE2.out.1,HE2.out.2⟩
 skip
 go_simp
 have zei:=hT0.out.alloc 35 [.slice xa xn xc, .slice ya yn yc, .bool bd]
 refine hK.out _ _ zei.since (λ_=> ?_)
 obtain⟨nb2,zdf⟩:∃n,n=V1.heap.size:=⟨_,rfl⟩
 rw [<-zdf] at zei ⊢
 clear zdf
 generalize World.alloc V1 _=zy0 at zei ⊢
 replace zei:=qh zei
 clear hK K
 refine yw 2 rfl (λK hK=> ?_)
 go_simp
 have zaA:=zei.out.alloc 43 [.int .i64 xk, .int .i64 (i:Int), .int .i64 xv]
 refine hK.out _ _ zaA.since (λ_=> ?_)
 obtain⟨nb1,zlu⟩:∃n,n=zy0.heap.size:=⟨_,rfl⟩
 rw [<-zlu] at zaA ⊢
 clear zlu
 generalize World.alloc zy0 _=z5E at zaA ⊢
 replace zaA:=qh zaA
 clear hK K
 refine yw 3 rfl (λK hK=> ?_)
 refine zV z5E (by rfl) (.tmp 60) (.tmp 62) 37 rfl 43 (.agg #[.int .i64 0, .int .i64 0, .int .i64 0]) 3 24 Tryz.underlying37 uX rfl (by decide) W.heap.size (.slice pa pn pc') pn (zl zN.cells pl) (by rfl) zaA.out.r1 ⟨nb1,0,none⟩ 1 1 [.int .i64 xk, .int .i64 (i:Int), .int .i64 xv] (by rfl) rfl (zaA.out.cell (b:=nb1) (t:=43) (cs:= [.int .i64 xk, .int .i64 (i:Int), .int .i64 xv]) (by simp)) (by simp [Value.oneCell']) (by unfold maxLen;omega) (by omega) zaA.out.base ?_
 intro ma' mc' z5F e1 e2 e3 e4 e5
 have zgg:=qh (zaA.out.app1 (by decide) e1 e4 e5)
 clear e1 e2 e3 e4 e5
 refine hK.out _ _ zgg.out.since (λ_=> ?_)
 change wpAnyH _ _ _ _ _ _ _ (Act.put _ (some 63) _) _
 simp only [Act.put,zQ]
 try simp only [zR,zS]
 clear hK K
 refine yw 7 rfl (λK hK=> ?_)
 refine zV z5F (by rfl) (.tmp 64) (.tmp 66) 80 rfl 35 (.agg #[.slice none 0 0, .slice none 0 0, .bool false]) 3 56 Tryz.underlying80 zcy rfl (by decide) W.heap.size (.slice ra pn rc) pn rss.flatten (by rfl) zgg.out.r2 ⟨nb2,0,none⟩ 1 1 [.slice xa xn xc, .slice ya yn yc, .bool bd] (by rfl) rfl (zgg.out.cell (b:=nb2) (t:=35) (cs:= [.slice xa xn xc, .slice ya yn yc, .bool bd]) (by simp)) (by simp [Value.oneCell']) (by unfold maxLen;omega) (by omega) zgg.out.base ?_
 intro ra' rc' zAt e1 e2 e3 e4 e5
 have zgh:=qh (zgg.out.zut (by decide) e1 e4 e5)
 clear e1 e2 e3 e4 e5
 refine hK.out _ _ zgh.out.since (λ_=> ?_)
 change wpAnyH _ _ _ _ _ _ _ (Act.put _ (some 67) _) _
 simp only [Act.put,zQ]
 try simp only [zR,zS]
 clear hK K
 refine zA 8 zM (zgh.out.since) ?_
 refine zA 9 zM (zgh.out.since) ?_
 refine xM ?_
 have HE:=qh (HLV.out.push (x:=x) (t:=t) (cs:= [.slice xa xn xc, .slice ya yn yc, .bool bd]) (by rw [zfi,zfj,HCX.out];exact zgh.out) zus.out rfl)
 have HE2:=qh (HLV.out.beside HRV.out HNP.out zgh.out)
 go_wp2_with fail
 go_roundg (hn+1 - (k+1))
 case measure=>rw [jQ.out];omega
 case rel=>exact⟨k+1,ma',pn+1,mc',pl++ [x],ra',rc',rl++ [t],rss++ [[Value.slice xa xn xc,Value.slice ya yn yc,Value.bool bd]],by omega,rfl,rfl,rfl,by simp,by omega,HE.out,⟨by rw [List.length_append,zfi];rfl,by rw [List.length_append,zfj];rfl⟩,⟨by rw [gF.out.1,jX.out,List.append_assoc];rfl,by rw [gF.out.2,zpR.out,List.append_assoc]⟩,HE2.out.1,HE2.out.2⟩
