/- Steps. -/
import Derived.Test.YtnhahkiojbanfaaGreatDoorRqPNextP
import Derived.Test.YtnhahkiojbanfaaGreatDoorRqPTry
set_option linter.all false
namespace Go.Proofs.YtnhahkiojbanfaaGreatDoor
open Go.RowKit
set_option maxRecDepth 100000
set_option maxHeartbeats 16000000
theorem zmF (w:World) (c:zx) (cv:Value) (d:Nat) (hc:yS d w cv c.threads) (m:zu) (s:zi) (sv mv:Value) (hs:yG w s sv mv) (hb:∀j,j<s.threads.length->(s.threads.getD j default).buf.length<=1000000) (hf:zP c m s=true)
  (F0:Nat->Prop) (hF0:∀k,F0 k->k<w.heap.size) (ha:zO F0 w (λy=>yG y s sv mv)):Calls Tryz.prog 39 #[xW c cv,vZ m,vI s sv mv] w (zbF F0 w (yF c m s d) (zfa c m s d)):=by
 have hn4:s.threads.length<=4:=by
  obtain⟨h1, -,h2,h3, -⟩:=zb0 hf
  have h4:=yQ h1
  omega
 have hR:yF c m s d=(List.range s.threads.length).flatMap (wU c m s d):=by unfold yF;rw [if_pos hf]
 rw [hR,zpT hf]
 obtain⟨AT,hAT⟩:∃AT,AT=allT m s:=⟨_,rfl⟩
 obtain⟨TM,hTM⟩:∃TM,TM=zbT c m s d:=⟨_,rfl⟩
 obtain⟨MT,hMT⟩:∃MT,MT=wU c m s d:=⟨_,rfl⟩
 obtain⟨NT,hNT⟩:∃NT,NT=zhr c m s d:=⟨_,rfl⟩
 have hall:∀i,i<s.threads.length->(AT i).filter (λx=>(TM i x).isSome)=MT i/\(AT i).filterMap (TM i)=NT i:=λi hi=>by rw [hAT,hTM,hMT,hNT];exact znK hf hi
 have zpU:∀i,AT i=⟨1,(i:Int),0⟩::(yE (s.threads.getD i default).buf m.model).map λv=>(⟨2,(i:Int),v⟩:zo):=λi=>by rw [hAT];rfl
 have zdb:∀W (i:Nat) (x:zo),Below w.heap.size w W->i<s.threads.length->x.thread=(i:Int)->Calls Tryz.prog 63 #[xW c cv,vZ m,vI s sv mv, .agg #[.int .i64 x.kind, .int .i64 (i:Int), .int .i64 x.var]] W (zeG W (Follows W s sv mv) (TM i x)):=λW i x hW hi hx=>by
  rw [hTM]
  exact zoA W c cv d (zh.below (qU.stays d) hc hW) m s sv mv (hs.below hW) hb hf i hi x.kind x.var
 have zpV:∀W W2 t (tv yv u1 u2:Value),Below w.heap.size w W->Follows W s sv mv W2 t tv yv->(∀k,u1.ownBlock=some k->w.heap.size<=k/\k<W.heap.size)->(∀k,u2.ownBlock=some k->w.heap.size<=k/\k<W.heap.size)->zO (NF F0 u1 u2) W2 (λy=>qO y t [tv,yv, .bool t.bad]):=by
  intro W W2 t tv yv u1 u2 hW hfo h1 h2
  have h3:=hfo (NF F0 u1 u2) (λk hk=>by
   rcases hk with e|e|e
   ·exact Nat.lt_of_lt_of_le (hF0 k e) hW.size
   ·exact(h1 k e).2
   ·exact(h2 k e).2) (ha.step (Since.of_below hW) (λk hk=> .inr hk) (λk hk=>by
   rcases hk with e|e|e
   ·exact .inl e
   ·exact .inr (h1 k e).1
   exact .inr (h2 k e).1))
  exact λy hy=>⟨tv,yv,rfl,h3 y hy⟩
 rw [<-hMT, <-hNT]
 clear hR hMT hNT hAT hTM ha hf
 obtain⟨ca,cc,rfl, -⟩:=zh.slice hc
 obtain⟨ta,bZ,rfl, -⟩:=zh.slice hs.threads
 obtain⟨ma,wT,rfl, -⟩:=zh.slice hs.mem
 have hT:=hs.threads
 obtain⟨FO,hFO⟩:∃FO:World->World->zi->Value->Value->Prop,FO=λW=>Follows W s (.slice ta s.threads.length bZ) (.slice ma s.mem.length wT):=⟨_,rfl⟩
 have zuL:∀W,Follows W s (.slice ta s.threads.length bZ) (.slice ma s.mem.length wT)=FO W:=λW=>by rw [hFO]
 simp only [zuL] at zdb zpV
 clear hFO zuL hs hc
 unfold xW vZ vI at zdb ⊢
 obtain⟨vars,dom,cs⟩:=c
 obtain⟨mod,bnd⟩:=m
 obtain⟨ts,mem,bad⟩:=s
 simp only [] at hb hn4 hall zpU zdb hT ⊢
 obtain⟨n,hn⟩:∃n,n=ts.length:=⟨_,rfl⟩
 obtain⟨cn,hcn⟩:∃cn,cn=cs.length:=⟨_,rfl⟩
 obtain⟨mn,hmn⟩:∃mn,mn=mem.length:=⟨_,rfl⟩
 rw [<-hn] at hb hn4 hall zdb hT ⊢
 rw [<-hmn] at zdb ⊢
 rw [<-hcn] at zdb ⊢
 obtain⟨hB,h1,h2,h3⟩:=zl6 w (.cells #[.int .i64 vars, .int .i64 dom, .slice ca cn cc] 26) (.cells #[.int .i64 mod, .int .i64 bnd] 29) (.cells #[.slice ta n bZ, .slice ma mn wT, .bool bad] 42)
 have HB:=qh hB
 have H1:=qh h1
 have H2:=qh h2
 have H3:=qh h3
 have HT:=qh hT
 have HN:=qh hn
 have HBU:=qh hb
 have zpE:=qh hall
 have HAT:=qh zpU
 have zya:=qh zdb
 have zyb:=qh zpV
 obtain⟨R1,hR1⟩:∃R:List zo,R=(List.range n).flatMap MT:=⟨_,rfl⟩
 obtain⟨R2,hR2⟩:∃R:List zi,R=(List.range n).flatMap NT:=⟨_,rfl⟩
 rw [<-hR1, <-hR2]
 have HR1:=qh hR1
 have HR2:=qh hR2
 clear hn hcn hmn hb hB h1 h2 h3 hT hall zpU zdb zpV hF0 hR1 hR2
 go_enter Tryz.func39,Tryz.ntmps39
 go_upto_region 1 with fail
 generalize World.alloc (World.alloc (World.alloc w _) _) _=W at HB H1 H2 H3 ⊢
 obtain⟨gx,hgx⟩:∃gx,gx=w.heap.size:=⟨_,rfl⟩
 rw [<-hgx] at H1 H2 H3 ⊢
 have xO:Hid (w.heap.size<=W.heap.size):=HB.out.size
 clear hgx
 have jE:Hid (∀y,Below W.heap.size W y->y.cell? ⟨gx,0,none⟩=some (.int .i64 vars)/\y.cell? ⟨gx,1,none⟩=some (.int .i64 dom)/\y.cell? ⟨gx,2,none⟩=some (.slice ca cn cc)/\
   y.cell? ⟨gx+1,0,none⟩=some (.int .i64 mod)/\y.cell? ⟨gx+1,1,none⟩=some (.int .i64 bnd)/\y.cell? ⟨gx+2,0,none⟩=some (.slice ta n bZ)/\y.cell? ⟨gx+2,1,none⟩=some (.slice ma mn wT)/\y.cell? ⟨gx+2,2,none⟩=some (.bool bad)):=λy hx=>
  ⟨zk hx _ _ (ze H1.out 0),zk hx _ _ (ze H1.out 1),zk hx _ _ (ze H1.out 2),zk hx _ _ (ze H2.out 0),zk hx _ _ (ze H2.out 1),zk hx _ _ (ze H3.out 0),zk hx _ _ (ze H3.out 1),zk hx _ _ (ze H3.out 2)⟩
 have yH:Hid (∀y,Below W.heap.size W y->Below w.heap.size w y):=λy hy=>HB.out.trans (hy.mono HB.out.size)
 have HN0:Hid (qR F0 W W (.slice none 0 0) (.slice none 0 0) [] [] []):=qR.begin (Below.refl _ _)
 obtain⟨c0,c1,c2,c3,c4,c5,c6,c7⟩:=jE.out W (Below.refl _ _)
 clear H1 H2 H3
 go_wp2_with fail
 clear c0 c1 c2 c3 c4 c5 c6 c7
 go_loopg [6,7,20] n (λgg s6 s7 s20 wr=>∃(i:Nat) (oa:Option Addr) (on oc:Nat) (ml:List zo) (na:Option Addr) (nc:Nat) (nl:List zi) (css:List (List Value)),i<=n/\Hid (gg=n - i)/\s6= .slice oa on oc/\s7= .slice na on nc/\s20= .int .i64 i/\on<=1000001*i/\Hid (qR F0 W wr (.slice oa on oc) (.slice na on nc) ml nl css)/\Hid (ml.length=on/\nl.length=on)/\Hid (ml=(List.range i).flatMap MT/\nl=(List.range i).flatMap NT))
 case atStart=>exact⟨0,none,0,0, [],none,0, [], [],Nat.zero_le _,rfl,rfl,rfl,rfl,by omega,HN0.out,⟨rfl,rfl⟩,⟨rfl,rfl⟩⟩
 case round=>
 obtain⟨i,oa,on,oc,ml,na,nc,nl,css,hi,HG,rfl,rfl,rfl,hon,HL,uL,bV⟩:=hrel
 obtain⟨wo,rfl⟩:∃wo:World,wo=wr:=⟨_,rfl⟩
 clear HN0
 by_cases hlt:i<n
 rotate_left
 ·obtain rfl:n=i:=by omega
  have zL:=qh (HL.out.fin HB.out uL.out.1 uL.out.2)
  have hr1:R1=ml:=by rw [HR1.out,bV.out.1]
  have hr2:R2=nl:=by rw [HR2.out,bV.out.2]
  have HQ1:=qh hr1
  have HQ2:=qh hr2
  clear hr1 hr2
  go_wp2_with fail
  go_ret2
  rw [HQ1.out,HQ2.out]
  exact zL.out
 have vY:(i:Int)<(n:Int):=by omega
 obtain⟨tb,yt,ba,bc,hta, -,hrl,x0,x1,x2,x3,x4,x5,hbuf⟩:=qY.part HT.out i (by rw [<-HN.out];exact hlt)
 subst hta
 have hbl:=HBU.out i hlt
 have hat:=HAT.out i
 have hal:=zpE.out i hlt
 generalize ts.getD i default=t at x0 x1 x2 x3 x4 x5 hbuf hbl hat hrl
 obtain⟨pc,regs,buf⟩:=t
 obtain⟨q0,q1,q2,q3,rfl⟩:=zaa hrl
 simp only [List.getD_cons_zero,List.getD_cons_succ] at x0 x1 x2 x3 x4 x5 hbuf hbl hat
 obtain⟨hh,hhh⟩:∃hh,hh=yE buf mod:=⟨_,rfl⟩
 rw [<-hhh] at hat
 have hhl:hh.length<=1000000:=by have:=zfh buf mod;rw [hhh];omega
 obtain⟨bl,ziE⟩:∃bl,bl=buf.length:=⟨_,rfl⟩
 rw [<-ziE] at x5 hbuf
 have zbu:Hid (∀y,Below w.heap.size w y->Calls Tryz.prog 62 #[.slice ba bl bc, .int .i64 mod] y λe w'=>(∃va vc,e= .returned (.slice va hh.length vc)/\w'.ownsRow y.heap.size 3 1 (.slice va hh.length vc) hh.length (zq yU hh))/\Below y.heap.size y w'):=λy hy=>
  (zf0 y (.slice ba bl bc) buf (yu.below hbuf hy) (by omega) mod).mono λe w' ⟨⟨sv,he,ho⟩,hb⟩=>by
   rw [<-hhh] at ho
   obtain⟨a,cp,rfl, -⟩:=xB ho
   exact⟨⟨a,cp,he,ho⟩,hb⟩
 obtain⟨ai,hai⟩:∃ai,ai=AT i:=⟨_,rfl⟩
 rw [<-hai] at hat hal
 obtain⟨hn,hhn⟩:∃hn,hn=hh.length:=⟨_,rfl⟩
 rw [<-hhn] at zbu hhl
 have HHN:=qh hhn
 have zpW:=qh hat
 have zuO:=qh hal
 have hwo:=yH.out wo HL.out.below
 have y0:=zk hwo _ _ x0
 have y1:=zk hwo _ _ x1
 have y2:=zk hwo _ _ x2
 have y3:=zk hwo _ _ x3
 have y4:=zk hwo _ _ x4
 have y5:=zk hwo _ _ x5
 obtain⟨-, -, -, -, -,c5,c6,c7⟩:=jE.out wo HL.out.below
 have HA:=qh ((Below.refl wo.heap.size wo).alloc (Nat.le_refl _) (.cells #[.int .i64 pc, .int .i64 q0, .int .i64 q1, .int .i64 q2, .int .i64 q3, .slice ba bl bc] 80))
 have HY:=qh (zS wo (.cells #[.int .i64 pc, .int .i64 q0, .int .i64 q1, .int .i64 q2, .int .i64 q3, .slice ba bl bc] 80))
 clear x0 x1 x2 x3 x4 x5 hbuf hbl hhh ziE hat hal hhn hwo hrl hai
 go_upto_region 4 with fail
 clear y0 y1 y2 y3 y4 y5 c5 c6 c7
 generalize World.alloc wo _=X at HA HY ⊢
 obtain⟨gl,hgl⟩:∃g,g=wo.heap.size:=⟨_,rfl⟩
 rw [<-hgl] at HY ⊢
 clear hgl
 have HLX:=qh (HL.out.later HA.out)
 have HA2:=qh ((Below.refl X.heap.size X).alloc (Nat.le_refl _) (.cells #[.int .i64 1, .int .i64 (i:Int), .int .i64 0] 70))
 have HY2:=qh (zS X (.cells #[.int .i64 1, .int .i64 (i:Int), .int .i64 0] 70))
 clear HL HA
 go_upto_region 5 with fail
 generalize World.alloc X _=X2 at HA2 HY2 ⊢
 obtain⟨ga,hga⟩:∃g,g=X.heap.size:=⟨_,rfl⟩
 rw [<-hga] at HY2 ⊢
 have HGA:Hid (ga=X.heap.size):=hga
 clear hga
 have bN:Hid (W.heap.size<=X.heap.size):=HLX.out.below.size
 have zuQ:=qh ((HLX.out.less (F1:=λk=>F0 k\/X.heap.size<=k) (λ_ hk=>hk)).later HA2.out)
 have zpX:=qh (HLX.out.later HA2.out)
 have HRA:Hid (X2.ownsRow X.heap.size 70 3 (.slice (some ⟨ga,0,none⟩) 1 1) 1 (zq zo.cells [⟨1,(i:Int),0⟩])):=jq (n:=1) (cs:=zq zo.cells [⟨1,(i:Int),0⟩]) HY2.out (by rw [HGA.out];exact Nat.le_refl _) rfl (by decide)
 have zuR:Hid (∀k,(Value.slice oa on oc).ownBlock=some k->(Value.slice (some ⟨ga,0,none⟩) 1 1).ownBlock≠some k):=λk hk e=>by
  have h1:=(HLX.out.row.lt k hk).2
  have h2:ga=k:=by cases e;rfl
  have:=HGA.out
  omega
 have d5:X2.cell? ⟨gl,5,none⟩=some (.slice ba bl bc):=zk HA2.out _ _ (ze HY.out 5)
 obtain⟨-, -, -,c3, -, -, -, -⟩:=jE.out X2 zpX.out.below
 clear HLX HA2 HY HY2
 go_wp2_with(go_at_call 62;go_must(refine(zbu.out X2 (yH.out X2 zpX.out.below)).mono ?_);rintro e W2 ⟨⟨va,vc,rfl,hhr⟩,hb2⟩;(have HHR:=qh hhr);(have HL2:=qh (zuQ.out.later hb2));(have zuT:=qh (qC HRA.out hb2));(have HG2:Hid (X.heap.size<=W2.heap.size/\X2.heap.size<=W2.heap.size):=⟨Nat.le_trans (by have:=(HRA.out.lt ga rfl).2;have:=HGA.out;omega) hb2.size,hb2.size⟩);clear hb2 hhr)
 clear d5 c3
 have zuU:Hid (∀k,(Value.slice (some ⟨ga,0,none⟩) 1 1).ownBlock=some k->(Value.slice va hn vc).ownBlock≠some k):=λk hk e=>by
  have h1:=(HRA.out.lt k hk).2
  have h2:=(HHR.out.lt k e).1
  omega
 clear zpX zuQ HRA zbu
 go_loopg [10,34] hn (λgg s10 s34 wr=>∃(k:Nat) (aa:Option Addr) (ac:Nat) (al:List zo),k<=hn/\Hid (gg=hn - k)/\s10= .slice aa (k+1) ac/\s34= .int .i64 k/\Hid (wr.ownsRow X.heap.size 70 3 (.slice aa (k+1) ac) (k+1) (zq zo.cells al))/\Hid (al=⟨1,(i:Int),0⟩::(hh.take k).map (λv=>⟨2,(i:Int),v⟩))/\Hid (∃B,wr.ownsRow B 3 1 (.slice va hn vc) hn (zq yU hh))/\Hid (∀k',(Value.slice aa (k+1) ac).ownBlock=some k'->(Value.slice va hn vc).ownBlock≠some k')/\
  Hid (∀k',(Value.slice oa on oc).ownBlock=some k'->(Value.slice aa (k+1) ac).ownBlock≠some k')/\Hid (qR (λk=>F0 k\/X.heap.size<=k) W wr (.slice oa on oc) (.slice na on nc) ml nl css)/\Hid (X.heap.size<=wr.heap.size))
 case atStart=>exact⟨0,some ⟨ga,0,none⟩,1, [⟨1,(i:Int),0⟩],Nat.zero_le _,rfl,rfl,rfl,zuT.out,by simp [Hid],⟨_,HHR.out⟩,zuU.out,zuR.out,HL2.out,HG2.out.1⟩
 case round=>
 obtain⟨k,aa,ac,al,hk,zyc,rfl,rfl,HRW,HAL,HHB,HNV,HNA,HLW,HXS⟩:=hrel
 clear zuT HHR zuU zuR HL2 HG2
 by_cases hkl:k<hn
 ·have ztq:(k:Int)<(hn:Int):=by omega
  obtain⟨BH,hhr⟩:=HHB.out
  have hrw:=hhr
  rw [HHN.out] at hrw
  obtain⟨b9,o9,zZ, -,e1⟩:=qI.part (zad hrw) k (by rw [<-HHN.out];exact hkl)
  subst zZ
  have HRB:=qh hhr
  clear hhr hrw
  have jm:Hid (hh.take (k+1)=hh.take k++ [hh.getD k 0]):=by rw [Hid,List.take_succ_eq_append_getElem (by rw [<-HHN.out];exact hkl),List.getD_eq_getElem?_getD,List.getElem?_eq_getElem (by rw [<-HHN.out];exact hkl)];rfl
  generalize hh.getD k 0=v at e1 jm
  have zvU:Hid (∀(X':World) (a':Option Addr) (c':Nat) (o:Obj),X'.ownsRow X.heap.size 70 3 (.slice a' (k+1+1) c') (k+1+1) (zq zo.cells al++zo.cells ⟨2,(i:Int),v⟩)->Since (λx=>(Value.slice aa (k+1) ac).ownBlock=some x) (wr.alloc o) X'->(∀x,(Value.slice a' (k+1+1) c').ownBlock=some x->(Value.slice aa (k+1) ac).ownBlock=some x\/x=(wr.alloc o).heap.size)->
    X'.ownsRow X.heap.size 70 3 (.slice a' (k+1+1) c') (k+1+1) (zq zo.cells (al++ [⟨2,(i:Int),v⟩]))/\(∃B,X'.ownsRow B 3 1 (.slice (some ⟨b9,o9,none⟩) hn vc) hn (zq yU hh))/\(∀x,(Value.slice a' (k+1+1) c').ownBlock=some x->(Value.slice (some ⟨b9,o9,none⟩) hn vc).ownBlock≠some x)/\
    (∀x,(Value.slice oa on oc).ownBlock=some x->(Value.slice a' (k+1+1) c').ownBlock≠some x)/\qR (λk=>F0 k\/X.heap.size<=k) W X' (.slice oa on oc) (.slice na on nc) ml nl css/\X.heap.size<=X'.heap.size):=λX' a' c' o f1 f4 f5=>by
   obtain⟨g1,g2⟩:=zj2 HRB.out HNV.out f4 f5
   have hso:=HLW.out.side (o:=o) HRW.out (λ_ h=> .inr h) bN.out HNA.out f4
   refine⟨by rw [zcP];exact f1,⟨_,g1⟩,g2,λx hx e=> ?_,hso,Nat.le_trans HXS.out (Nat.le_trans (by simp) f4.size)⟩
   rcases f5 x e with e'|e'
   ·exact HNA.out x hx e'
   have h1:=(HLW.out.row.lt x hx).2
   simp at e'
   omega
  go_wp2_with(at_builtin;go_must(refine zX _ rfl _ _ 32 rfl 70 (.agg #[.int .i64 0, .int .i64 0, .int .i64 0]) 3 24 Tryz.underlying32 bG rfl (by decide) X.heap.size (.slice aa (k+1) ac) (k+1) (zq zo.cells al) rfl ((HRW.out).alloc _) ⟨wr.heap.size,0,none⟩ 1 1 (zo.cells ⟨2,i,v⟩) rfl rfl (vP _ (zo.cells ⟨2,i,v⟩) _) (by simp [zo.cells,Value.oneCell']) (by unfold maxLen;omega) (by omega) (by have:=HXS.out;simp;omega) ?_);intro ja jc Y f1 f2 f3 f4 f5 f6;have HE:=qh (zvU.out Y ja jc _ f1 f4 f5);clear f1 f2 f3 f4 f5 f6)
  go_roundg (hn - (k+1))
  case measure=>rw [zyc.out];omega
  case rel=>exact⟨k+1,ja,jc,al++ [(⟨2,(i:Int),v⟩:zo)],by omega,rfl,rfl,by simp,HE.out.1,by rw [Hid,HAL.out,jm.out];simp,HE.out.2.1,HE.out.2.2.1,HE.out.2.2.2.1,HE.out.2.2.2.2.1,HE.out.2.2.2.2.2⟩
 obtain rfl:hn=k:=by omega
 have zr3:Hid (al=ai):=by rw [Hid,HAL.out,zpW.out,HHN.out,List.take_length]
 have zyd:=zr3.out
 subst zyd
 have zfZ:Hid (∀k,k<al.length->(al.getD k default).thread=(i:Int)):=λk hk=>by
  have hm:al.getD k default∈al:=yC hk
  generalize al.getD k default=y at hm
  rw [zpW.out] at hm
  rcases List.mem_cons.1 hm with rfl|hm
  ·rfl
  obtain⟨v, -,rfl⟩:=List.mem_map.1 hm
  rfl
 clear zr3 HAL HHB HNV zpW
 have hlen:al.length=hn+1:=by
  have:=HRW.out.1
  rw [jO wh] at this
  omega
 have HLEN:=qh hlen
 clear hlen
 go_wp2_with fail
 go_loopg [6,7,47] (hn+1) (λgg s6 s7 s47 wr=>∃(k:Nat) (pa:Option Addr) (pn pc':Nat) (pl:List zo) (ra:Option Addr) (rc:Nat) (rl:List zi) (rss:List (List Value)),k<=hn+1/\Hid (gg=hn+1 - k)/\s6= .slice pa pn pc'/\s7= .slice ra pn rc/\s47= .int .i64 k/\pn<=on+k/\Hid (qR F0 W wr (.slice pa pn pc') (.slice ra pn rc) pl rl rss)/\Hid (pl.length=pn/\rl.length=pn)/\Hid (pl=ml++(al.take k).filter (λx=>(TM i x).isSome)/\rl=nl++(al.take k).filterMap (TM i))/\
  Hid (wr.ownsRow X.heap.size 70 3 (.slice aa (hn+1) ac) (hn+1) (zq zo.cells al))/\Hid (∀x,(Value.slice pa pn pc').ownBlock=some x->(Value.slice aa (hn+1) ac).ownBlock≠some x))
 case atStart=>exact⟨0,oa,on,oc,ml,na,nc,nl,css,Nat.zero_le _,rfl,rfl,rfl,rfl,by omega,HLW.out.less (λ_ h=> .inl (.inl h)),uL.out,by simp [Hid],HRW.out,HNA.out⟩
 case round=>
 obtain⟨k,pa,pn,pc',pl,ra,rc,rl,rss,hk,vk,rfl,rfl,rfl,hpn,HLP,HPN,jZ,HRA,HNP⟩:=hrel
 clear HLW HRW HNA
 by_cases hkl:k<hn+1
 rotate_left
 ·obtain rfl:k=hn+1:=by omega
  have hst:pl=(List.range (i+1)).flatMap MT/\rl=(List.range (i+1)).flatMap NT:=by
   have e:al.take (hn+1)=al:=by rw [<-HLEN.out,List.take_length]
   rw [zbL,zbL, <-bV.out.1, <-bV.out.2,jZ.out.1,jZ.out.2,e,zuO.out.1,zuO.out.2]
   exact⟨rfl,rfl⟩
  have HST:=qh hst
  clear hst
  go_wp2_with fail
  go_roundg (n - (i+1))
  case measure=>rw [HG.out];omega
  case rel=>exact⟨i+1,pa,pn,pc',pl,ra,rc,rl,rss,by omega,rfl,rfl,rfl,by simp,by omega,HLP.out,HPN.out,HST.out⟩
 have ztq:(k:Int)<((hn:Int)+1):=by omega
 have hra:=HRA.out
 have zuV:wr.ownsRow X.heap.size 70 3 (.slice aa (hn+1) ac) al.length (zq zo.cells al):=by rw [HLEN.out];exact hra
 obtain⟨b9,o9,zZ, -,e1,e2,e3⟩:=gU.part (by have:=zaq zuV;exact this) k (by rw [HLEN.out];exact hkl)
 subst zZ
 have htk:=zj8 (l:=al) (k:=k) (by rw [HLEN.out];exact hkl) (λx=>(TM i x).isSome)
 have zlL:=zgc (l:=al) (k:=k) (by rw [HLEN.out];exact hkl) (TM i)
 have hth:(al.getD k default).thread=(i:Int):=zfZ.out k (by rw [HLEN.out];exact hkl)
 obtain⟨x,hx⟩:∃x,x=al.getD k default:=⟨_,rfl⟩
 rw [<-hx] at e1 e2 e3 htk zlL hth
 rw [hth] at e2
 have htr:=λy hy=>zya.out y i x hy hlt hth
 have hxe:zo.cells x= [.int .i64 x.kind, .int .i64 (i:Int), .int .i64 x.var] :=by unfold zo.cells;rw [hth]
 obtain⟨tr,zuW⟩:∃r,r=TM i x:=⟨_,rfl⟩
 rw [<-zuW] at htk zlL htr
 obtain⟨xk,hxk⟩:∃q,q=x.kind:=⟨_,rfl⟩
 obtain⟨xv,hxv⟩:∃q,q=x.var:=⟨_,rfl⟩
 rw [<-hxk] at e1 htr
 rw [<-hxv] at e3 htr
 rw [<-hxk, <-hxv] at hxe
 have HTR:=qh htr
 have jm:=qh htk
 have zlM:=qh zlL
 have HCX:=qh hxe
 have HA:=qh ((Below.refl wr.heap.size wr).alloc (Nat.le_refl _) (.cells #[.int .i64 xk, .int .i64 (i:Int), .int .i64 xv] 70))
 have HY:=qh (zS wr (.cells #[.int .i64 xk, .int .i64 (i:Int), .int .i64 xv] 70))
 clear hra zuV htk zlL hth hx htr hxe zuW hxk hxv
 go_upto_region 13 with fail
 clear e1 e2 e3
 generalize World.alloc wr _=Y at HA HY ⊢
 obtain⟨gm,hgm⟩:∃g,g=wr.heap.size:=⟨_,rfl⟩
 rw [<-hgm] at HY ⊢
 have HGM:=qh hgm
 clear hgm
 have HNM:Hid (∀x,(Value.slice pa pn pc').ownBlock=some x\/(Value.slice ra pn rc).ownBlock=some x->x<gm):=λx hx=>by
  rw [HGM.out]
  rcases hx with e|e
  ·exact(HLP.out.row.lt x e).2
  exact(HLP.out.st.row.lt x e).2
 have qg:=qh (HLP.out.later HA.out)
 have HRY:=qh (qC HRA.out HA.out)
 obtain⟨c0,c1,c2,c3,c4,c5,c6,c7⟩:=jE.out Y qg.out.below
 have d0:Y.cell? ⟨gm,0,none⟩=some (.int .i64 xk):=ze HY.out 0
 have d1:Y.cell? ⟨gm,1,none⟩=some (.int .i64 (i:Int)):=ze HY.out 1
 have d2:Y.cell? ⟨gm,2,none⟩=some (.int .i64 xv):=ze HY.out 2
 clear HLP HRA
 go_upto_if 59 with(go_at_call 63;go_must(refine(HTR.out Y (yH.out Y qg.out.below)).mono ?_);rintro e Z zpY;(obtain⟨xa,xn,xc,ya,yn,yc,bd,isv,rfl,zuZ⟩:=zpY.told);(have HZ:=qh zpY.1);(have HTE:=qh zuZ);clear zpY zuZ c0 c1 c2 c3 c4 c5 c6 c7 d0 d1 d2)
 have HLZ:=qh (qg.out.later HZ.out)
 have HRZ:=qh (qC HRY.out HZ.out)
 have HGZ:Hid (Z.heap[gm]? =some (.cells #[.int .i64 xk, .int .i64 (i:Int), .int .i64 xv] 70 (0,0))):=(HZ.out.block gm (zy HY.out)).trans HY.out
 have HA4:=qh ((Below.refl Z.heap.size Z).alloc (Nat.le_refl _) (.cells #[.slice xa xn xc, .slice ya yn yc, .bool bd] 42))
 have HY4:=qh (zS Z (.cells #[.slice xa xn xc, .slice ya yn yc, .bool bd] 42))
 have HU1:Hid (∀x,(Value.slice pa pn pc').ownBlock=some x->w.heap.size<=x/\x<Y.heap.size):=λx hx=>by
  have:=qg.out.row.lt x hx
  have:=xO.out
  omega
 have HU2:Hid (∀x,(Value.slice ra pn rc).ownBlock=some x->w.heap.size<=x/\x<Y.heap.size):=λx hx=>by
  have:=qg.out.st.row.lt x hx
  have:=xO.out
  omega
 have HAW:Hid (∀t,tr=some t->bd=t.bad/\zO (NF F0 (.slice pa pn pc') (.slice ra pn rc)) Z (λy=>qO y t [.slice xa xn xc, .slice ya yn yc, .bool bd])):=λt ht=>by
  obtain⟨e1,e2⟩:=HTE.out.2 t ht
  subst e1
  exact⟨rfl,zyb.out Y Z t _ _ _ _ (yH.out Y qg.out.below) e2 HU1.out HU2.out⟩
 have HIS:=qh HTE.out.1
 clear HTE HU1 HU2 qg HRY HY HA
 generalize World.alloc Z _=V at HA4 HY4 ⊢
 obtain⟨gt,hgt⟩:∃g,g=Z.heap.size:=⟨_,rfl⟩
 rw [<-hgt] at HY4 ⊢
 have hgg:gm<gt:=by rw [hgt];exact zy HGZ.out
 have zvb:Hid (¬((Value.slice pa pn pc').ownBlock=some gm\/(Value.slice ra pn rc).ownBlock=some gm)/\¬((Value.slice pa pn pc').ownBlock=some gt\/(Value.slice ra pn rc).ownBlock=some gt)):=⟨λe=>by have:=HNM.out gm e;omega,λe=>by have:=HNM.out gt e;omega⟩
 clear hgt hgg HNM
 have HLV:=qh (HLZ.out.later HA4.out)
 have HRV:=qh (qC HRZ.out HA4.out)
 have HGV:Hid (V.heap[gm]? =some (.cells #[.int .i64 xk, .int .i64 (i:Int), .int .i64 xv] 70 (0,0))):=(HA4.out.block gm (zy HGZ.out)).trans HGZ.out
 have zye:Hid (∀t,tr=some t->zO (NF F0 (.slice pa pn pc') (.slice ra pn rc)) V (λy=>qO y t [.slice xa xn xc, .slice ya yn yc, .bool bd])):=λt ht=>(HAW.out t ht).2.step (G:=λ_=>False) (qA _ HA4.out) (λ_ h=>h.elim) (λ_ hk=> .inl hk)
 clear HAW HLZ HRZ HGZ HA4 HZ
 cases tr with
 |none=>
  have his:=HIS.out
  simp only [Option.isSome_none] at his
  subst his
  go_wp2_with fail
  go_roundg (hn+1 - (k+1))
  case measure=>rw [vk.out];omega
  case rel=>exact⟨k+1,pa,pn,pc',pl,ra,rc,rl,rss,by omega,rfl,rfl,rfl,by simp,by omega,HLV.out,HPN.out,⟨by rw [jZ.out.1,jm.out];simp,by rw [jZ.out.2,zlM.out];simp⟩,HRV.out,HNP.out⟩
 |some t=>
 have his:=HIS.out
 simp only [Option.isSome_some] at his
 subst his
 have haw:=zye.out t rfl
 have zpZ:=qh haw
 clear haw
 have ze7:=HPN.out.1
 have ze8:=HPN.out.2
 go_wp2_with fail
 have CC:Hid (∀y,Since (λx=>(Value.slice pa pn pc').ownBlock=some x\/(Value.slice ra pn rc).ownBlock=some x) V y->y.cell? ⟨gm,0,none⟩=some (.int .i64 xk)/\y.cell? ⟨gm,1,none⟩=some (.int .i64 (i:Int))/\y.cell? ⟨gm,2,none⟩=some (.int .i64 xv)/\y.cell? ⟨gt,0,none⟩=some (.slice xa xn xc)/\y.cell? ⟨gt,1,none⟩=some (.slice ya yn yc)/\y.cell? ⟨gt,2,none⟩=some (.bool bd)):=λy hy=>by
  have hm:¬((Value.slice pa pn pc').ownBlock=some gm\/(Value.slice ra pn rc).ownBlock=some gm):=zvb.out.1
  have ht:¬((Value.slice pa pn pc').ownBlock=some gt\/(Value.slice ra pn rc).ownBlock=some gt):=zvb.out.2
  have h1:=(hy.block gm (zy HGV.out) hm).trans HGV.out
  have h2:=(hy.block gt (zy HY4.out) ht).trans HY4.out
  exact⟨ze h1 0,ze h1 1,ze h1 2,ze h2 0,ze h2 1,ze h2 2⟩
 refine gX (S:=λy=>Since (λx=>(Value.slice pa pn pc').ownBlock=some x\/(Value.slice ra pn rc).ownBlock=some x) V y) (Since.refl _ _).drew (λ_=> ?_)
 have hT0:=qh (kX.start (B:=W.heap.size) (by have:=HLV.out.row;rw [ze7] at this;exact this) (by have:=HLV.out.st.row;rw [ze8] at this;exact this) HLV.out.below.size)
 obtain⟨V1,hV1⟩:∃V1,V1=V.drew:=⟨_,rfl⟩
 rw [<-hV1] at hT0 ⊢
 clear hV1
 refine xu 0 xJ (hT0.out.since) ?_
 refine xu 1 CC.out (hT0.out.since) ?_
 refine xu 4 xJ (hT0.out.since) ?_
 refine xu 5 CC.out (hT0.out.since) ?_
 refine wpAnyH_ready (rs:= [2,6]) (by kernel_rfl) (by simp) ?_
 refine AllReadyH.cons rfl (λK hK=> ?_) (AllReadyH.cons rfl (λK hK=> ?_) AllReadyH.nil)
 ·skip
  go_simp
  have zaT:=hT0.out.alloc 70 [.int .i64 xk, .int .i64 (i:Int), .int .i64 xv]
  refine hK.out _ _ zaT.since (λ_=> ?_)
  obtain⟨nb1,zao⟩:∃n,n=V1.heap.size:=⟨_,rfl⟩
  rw [<-zao] at zaT ⊢
  clear zao
  generalize World.alloc V1 _=Xn2 at zaT ⊢
  replace zaT:=qh zaT
  clear hK K
  refine wpAnyH_ready (rs:= [3,6]) (by kernel_rfl) (by simp) ?_
  refine AllReadyH.cons rfl (λK hK=> ?_) (AllReadyH.cons rfl (λK hK=> ?_) AllReadyH.nil)
  ·skip
   refine zY Xn2 (by rfl) (.tmp 60) (.tmp 62) 32 rfl 70 (.agg #[.int .i64 0, .int .i64 0, .int .i64 0]) 3 24 Tryz.underlying32 bG rfl (by decide) W.heap.size (.slice pa pn pc') pn (zq zo.cells pl) (by rfl) zaT.out.r1 ⟨nb1,0,none⟩ 1 1 [.int .i64 xk, .int .i64 (i:Int), .int .i64 xv] (by rfl) rfl (zaT.out.cell (b:=nb1) (t:=70) (cs:= [.int .i64 xk, .int .i64 (i:Int), .int .i64 xv]) (by simp)) (by simp [Value.oneCell']) (by unfold maxLen;omega) (by omega) zaT.out.base ?_
   intro ma' mc' Xn4 e1 e2 e3 e4 e5
   have zve:=qh (zaT.out.app1 (by decide) e1 e4 e5)
   clear e1 e2 e3 e4 e5
   refine hK.out _ _ zve.out.since (λ_=> ?_)
   change wpAnyH _ _ _ _ _ _ _ (Act.put _ (some 63) _) _
   simp only [Act.put,kT]
   try simp only [kU,kV]
   clear hK K
   refine yZ 6 rfl (λK hK=> ?_)
   go_simp
   have zbU:=zve.out.alloc 42 [.slice xa xn xc, .slice ya yn yc, .bool bd]
   refine hK.out _ _ zbU.since (λ_=> ?_)
   obtain⟨bK,kY⟩:∃n,n=Xn4.heap.size:=⟨_,rfl⟩
   rw [<-kY] at zbU ⊢
   clear kY
   generalize World.alloc Xn4 _=Xn6 at zbU ⊢
   replace zbU:=qh zbU
   clear hK K
   refine yZ 7 rfl (λK hK=> ?_)
   refine zY Xn6 (by rfl) (.tmp 64) (.tmp 66) 45 rfl 42 (.agg #[.slice none 0 0, .slice none 0 0, .bool false]) 3 56 Tryz.underlying45 uz rfl (by decide) W.heap.size (.slice ra pn rc) pn rss.flatten (by rfl) zbU.out.r2 ⟨bK,0,none⟩ 1 1 [.slice xa xn xc, .slice ya yn yc, .bool bd] (by rfl) rfl (zbU.out.cell (b:=bK) (t:=42) (cs:= [.slice xa xn xc, .slice ya yn yc, .bool bd]) (by simp)) (by simp [Value.oneCell']) (by unfold maxLen;omega) (by omega) zbU.out.base ?_
   intro ra' rc' Xn8 e1 e2 e3 e4 e5
   have ziH:=qh (zbU.out.zfS (by decide) e1 e4 e5)
   clear e1 e2 e3 e4 e5
   refine hK.out _ _ ziH.out.since (λ_=> ?_)
   change wpAnyH _ _ _ _ _ _ _ (Act.put _ (some 67) _) _
   simp only [Act.put,kT]
   try simp only [kU,kV]
   clear hK K
   refine xu 8 xJ (ziH.out.since) ?_
   refine xu 9 xJ (ziH.out.since) ?_
   refine vN ?_
   have HE:=qh (HLV.out.push (x:=x) (t:=t) (cs:= [.slice xa xn xc, .slice ya yn yc, .bool bd]) (by rw [ze7,ze8,HCX.out];exact ziH.out) zpZ.out rfl)
   have HE2:=qh (HLV.out.beside HRV.out HNP.out ziH.out)
   go_wp2_with fail
   go_roundg (hn+1 - (k+1))
   case measure=>rw [vk.out];omega
   case rel=>exact⟨k+1,ma',pn+1,mc',pl++ [x],ra',rc',rl++ [t],rss++ [[Value.slice xa xn xc,Value.slice ya yn yc,Value.bool bd]],by omega,rfl,rfl,rfl,by simp,by omega,HE.out,⟨by rw [List.length_append,ze7];rfl,by rw [List.length_append,ze8];rfl⟩,⟨by rw [jZ.out.1,jm.out,List.append_assoc];rfl,by rw [jZ.out.2,zlM.out,List.append_assoc]⟩,HE2.out.1,HE2.out.2⟩
  skip
  go_simp
  have zbV:=zaT.out.alloc 42 [.slice xa xn xc, .slice ya yn yc, .bool bd]
  refine hK.out _ _ zbV.since (λ_=> ?_)
  obtain⟨bK,kY⟩:∃n,n=Xn2.heap.size:=⟨_,rfl⟩
  rw [<-kY] at zbV ⊢
  clear kY
  generalize World.alloc Xn2 _=zyf at zbV ⊢
  replace zbV:=qh zbV
  clear hK K
  refine yZ 3 rfl (λK hK=> ?_)
  refine zY zyf (by rfl) (.tmp 60) (.tmp 62) 32 rfl 70 (.agg #[.int .i64 0, .int .i64 0, .int .i64 0]) 3 24 Tryz.underlying32 bG rfl (by decide) W.heap.size (.slice pa pn pc') pn (zq zo.cells pl) (by rfl) zbV.out.r1 ⟨nb1,0,none⟩ 1 1 [.int .i64 xk, .int .i64 (i:Int), .int .i64 xv] (by rfl) rfl (zbV.out.cell (b:=nb1) (t:=70) (cs:= [.int .i64 xk, .int .i64 (i:Int), .int .i64 xv]) (by simp)) (by simp [Value.oneCell']) (by unfold maxLen;omega) (by omega) zbV.out.base ?_
  intro ma' mc' zyg e1 e2 e3 e4 e5
  have zf1:=qh (zbV.out.app1 (by decide) e1 e4 e5)
  clear e1 e2 e3 e4 e5
  refine hK.out _ _ zf1.out.since (λ_=> ?_)
  change wpAnyH _ _ _ _ _ _ _ (Act.put _ (some 63) _) _
  simp only [Act.put,kT]
  try simp only [kU,kV]
  clear hK K
  refine yZ 7 rfl (λK hK=> ?_)
  refine zY zyg (by rfl) (.tmp 64) (.tmp 66) 45 rfl 42 (.agg #[.slice none 0 0, .slice none 0 0, .bool false]) 3 56 Tryz.underlying45 uz rfl (by decide) W.heap.size (.slice ra pn rc) pn rss.flatten (by rfl) zf1.out.r2 ⟨bK,0,none⟩ 1 1 [.slice xa xn xc, .slice ya yn yc, .bool bd] (by rfl) rfl (zf1.out.cell (b:=bK) (t:=42) (cs:= [.slice xa xn xc, .slice ya yn yc, .bool bd]) (by simp)) (by simp [Value.oneCell']) (by unfold maxLen;omega) (by omega) zf1.out.base ?_
  intro ra' rc' z0T e1 e2 e3 e4 e5
  have zf2:=qh (zf1.out.zfS (by decide) e1 e4 e5)
  clear e1 e2 e3 e4 e5
  refine hK.out _ _ zf2.out.since (λ_=> ?_)
  change wpAnyH _ _ _ _ _ _ _ (Act.put _ (some 67) _) _
  simp only [Act.put,kT]
  try simp only [kU,kV]
  clear hK K
  refine xu 8 xJ (zf2.out.since) ?_
  refine xu 9 xJ (zf2.out.since) ?_
  refine vN ?_
  have HE:=qh (HLV.out.push (x:=x) (t:=t) (cs:= [.slice xa xn xc, .slice ya yn yc, .bool bd]) (by rw [ze7,ze8,HCX.out];exact zf2.out) zpZ.out rfl)
  have HE2:=qh (HLV.out.beside HRV.out HNP.out zf2.out)
  go_wp2_with fail
  go_roundg (hn+1 - (k+1))
  case measure=>rw [vk.out];omega
  case rel=>exact⟨k+1,ma',pn+1,mc',pl++ [x],ra',rc',rl++ [t],rss++ [[Value.slice xa xn xc,Value.slice ya yn yc,Value.bool bd]],by omega,rfl,rfl,rfl,by simp,by omega,HE.out,⟨by rw [List.length_append,ze7];rfl,by rw [List.length_append,ze8];rfl⟩,⟨by rw [jZ.out.1,jm.out,List.append_assoc];rfl,by rw [jZ.out.2,zlM.out,List.append_assoc]⟩,HE2.out.1,HE2.out.2⟩
 skip
 go_simp
 have zd1:=hT0.out.alloc 42 [.slice xa xn xc, .slice ya yn yc, .bool bd]
 refine hK.out _ _ zd1.since (λ_=> ?_)
 obtain⟨bK,kY⟩:∃n,n=V1.heap.size:=⟨_,rfl⟩
 rw [<-kY] at zd1 ⊢
 clear kY
 generalize World.alloc V1 _=zvf at zd1 ⊢
 replace zd1:=qh zd1
 clear hK K
 refine yZ 2 rfl (λK hK=> ?_)
 go_simp
 have pW:=zd1.out.alloc 70 [.int .i64 xk, .int .i64 (i:Int), .int .i64 xv]
 refine hK.out _ _ pW.since (λ_=> ?_)
 obtain⟨nb1,zao⟩:∃n,n=zvf.heap.size:=⟨_,rfl⟩
 rw [<-zao] at pW ⊢
 clear zao
 generalize World.alloc zvf _=zyh at pW ⊢
 replace pW:=qh pW
 clear hK K
 refine yZ 3 rfl (λK hK=> ?_)
 refine zY zyh (by rfl) (.tmp 60) (.tmp 62) 32 rfl 70 (.agg #[.int .i64 0, .int .i64 0, .int .i64 0]) 3 24 Tryz.underlying32 bG rfl (by decide) W.heap.size (.slice pa pn pc') pn (zq zo.cells pl) (by rfl) pW.out.r1 ⟨nb1,0,none⟩ 1 1 [.int .i64 xk, .int .i64 (i:Int), .int .i64 xv] (by rfl) rfl (pW.out.cell (b:=nb1) (t:=70) (cs:= [.int .i64 xk, .int .i64 (i:Int), .int .i64 xv]) (by simp)) (by simp [Value.oneCell']) (by unfold maxLen;omega) (by omega) pW.out.base ?_
 intro ma' mc' zyi e1 e2 e3 e4 e5
 have zf3:=qh (pW.out.app1 (by decide) e1 e4 e5)
 clear e1 e2 e3 e4 e5
 refine hK.out _ _ zf3.out.since (λ_=> ?_)
 change wpAnyH _ _ _ _ _ _ _ (Act.put _ (some 63) _) _
 simp only [Act.put,kT]
 try simp only [kU,kV]
 clear hK K
 refine yZ 7 rfl (λK hK=> ?_)
 refine zY zyi (by rfl) (.tmp 64) (.tmp 66) 45 rfl 42 (.agg #[.slice none 0 0, .slice none 0 0, .bool false]) 3 56 Tryz.underlying45 uz rfl (by decide) W.heap.size (.slice ra pn rc) pn rss.flatten (by rfl) zf3.out.r2 ⟨bK,0,none⟩ 1 1 [.slice xa xn xc, .slice ya yn yc, .bool bd] (by rfl) rfl (zf3.out.cell (b:=bK) (t:=42) (cs:= [.slice xa xn xc, .slice ya yn yc, .bool bd]) (by simp)) (by simp [Value.oneCell']) (by unfold maxLen;omega) (by omega) zf3.out.base ?_
 intro ra' rc' z0U e1 e2 e3 e4 e5
 have zf4:=qh (zf3.out.zfS (by decide) e1 e4 e5)
 clear e1 e2 e3 e4 e5
 refine hK.out _ _ zf4.out.since (λ_=> ?_)
 change wpAnyH _ _ _ _ _ _ _ (Act.put _ (some 67) _) _
 simp only [Act.put,kT]
 try simp only [kU,kV]
 clear hK K
 refine xu 8 xJ (zf4.out.since) ?_
 refine xu 9 xJ (zf4.out.since) ?_
 refine vN ?_
 have HE:=qh (HLV.out.push (x:=x) (t:=t) (cs:= [.slice xa xn xc, .slice ya yn yc, .bool bd]) (by rw [ze7,ze8,HCX.out];exact zf4.out) zpZ.out rfl)
 have HE2:=qh (HLV.out.beside HRV.out HNP.out zf4.out)
 go_wp2_with fail
 go_roundg (hn+1 - (k+1))
 case measure=>rw [vk.out];omega
 case rel=>exact⟨k+1,ma',pn+1,mc',pl++ [x],ra',rc',rl++ [t],rss++ [[Value.slice xa xn xc,Value.slice ya yn yc,Value.bool bd]],by omega,rfl,rfl,rfl,by simp,by omega,HE.out,⟨by rw [List.length_append,ze7];rfl,by rw [List.length_append,ze8];rfl⟩,⟨by rw [jZ.out.1,jm.out,List.append_assoc];rfl,by rw [jZ.out.2,zlM.out,List.append_assoc]⟩,HE2.out.1,HE2.out.2⟩
