/- The moves that may be, and the states behind them: the program's answer: the walk. -/
import Derived.Test.YtliajkheeniljaaGreatDoorZaPHeads
import Derived.Test.YtliajkheeniljaaGreatDoorZaPTry
import Derived.Test.YtliajkheeniljaaGreatDoorZaPTryQ
import Derived.Test.YtliajkheeniljaaGreatDoorZaShort
set_option linter.all false
namespace Go.Proofs.YtliajkheeniljaaGreatDoor
open Go.RowKit
set_option maxRecDepth 100000
set_option maxHeartbeats 16000000
theorem zkT (w:World) (c:zS) (cv:Value) (d:Nat) (hc:yF d w cv c.threads) (m:zM) (s:zu) (sv mv:Value) (hs:zN w s sv mv) (hb:∀j,j<s.threads.length->(s.threads.getD j default).buf.length<=1000000) (hf:xX c m s=true)
  (F0:Nat->Prop) (hF0:∀k,F0 k->k<w.heap.size) (ha:vB F0 w (fun y=>zN y s sv mv)):Calls Tryz.prog 49 #[yD c cv,yR m,zW s sv mv] w (zgf F0 w (qL c m s d) (zfy c m s d)):=by
 have hn4:s.threads.length<=4:=by
  obtain⟨h1, -,h2,h3, -⟩:=gM hf
  have h4:=qP h1
  omega
 have hR:qL c m s d=(List.range s.threads.length).flatMap (jN c m s d):=by unfold qL;rw [if_pos hf]
 rw [hR,znT hf]
 obtain⟨AT,hAT⟩:∃AT,AT=allT m s:=⟨_,rfl⟩
 obtain⟨TM,hTM⟩:∃TM,TM=zaZ c m s d:=⟨_,rfl⟩
 obtain⟨MT,hMT⟩:∃MT,MT=jN c m s d:=⟨_,rfl⟩
 obtain⟨NT,hNT⟩:∃NT,NT=zf1 c m s d:=⟨_,rfl⟩
 have hall:∀i,i<s.threads.length->(AT i).filter (fun x=>(TM i x).isSome)=MT i/\(AT i).filterMap (TM i)=NT i:=fun i hi=>by rw [hAT,hTM,hMT,hNT];exact zlo hf hi
 have znU:∀i,AT i=⟨1,(i:Int),0⟩::(yh (s.threads.getD i default).buf m.model).map fun v=>(⟨2,(i:Int),v⟩:zG):=fun i=>by rw [hAT];rfl
 have vM:∀W (i:Nat) (x:zG),Below w.heap.size w W->i<s.threads.length->x.thread=(i:Int)->Calls Tryz.prog 50 #[yD c cv,yR m,zW s sv mv, .agg #[.int .i64 x.kind, .int .i64 (i:Int), .int .i64 x.var]] W (zd7 W (Follows W s sv mv) (TM i x)):=fun W i x hW hi hx=>by
  rw [hTM]
  exact zgg W c cv d (zl.below (xu.stays d) hc hW) m s sv mv (hs.below hW) hb hf i hi x.kind x.var
 have znV:∀W W2 t (tv yv u1 u2:Value),Below w.heap.size w W->Follows W s sv mv W2 t tv yv->(∀k,u1.ownBlock=some k->w.heap.size<=k/\k<W.heap.size)->(∀k,u2.ownBlock=some k->w.heap.size<=k/\k<W.heap.size)->vB (NF F0 u1 u2) W2 (fun y=>gI y t [tv,yv, .bool t.bad]):=by
  intro W W2 t tv yv u1 u2 hW hfo h1 h2
  have h3:=hfo (NF F0 u1 u2) (fun k hk=>by
   rcases hk with e|e|e
   ·exact Nat.lt_of_lt_of_le (hF0 k e) hW.size
   ·exact(h1 k e).2
   ·exact(h2 k e).2) (ha.step (Since.of_below hW) (fun k hk=> .inr hk) (fun k hk=>by
   rcases hk with e|e|e
   ·exact .inl e
   ·exact .inr (h1 k e).1
   ·exact .inr (h2 k e).1))
  exact fun y hy=>⟨tv,yv,rfl,h3 y hy⟩
 rw [<-hMT, <-hNT]
 clear hR hMT hNT hAT hTM ha hf
 obtain⟨ca,cc,rfl, -⟩:=zl.slice hc
 obtain⟨ta,xB,rfl, -⟩:=zl.slice hs.threads
 obtain⟨ma,yZ,rfl, -⟩:=zl.slice hs.mem
 have hT:=hs.threads
 obtain⟨FO,hFO⟩:∃FO:World->World->zu->Value->Value->Prop,FO=fun W=>Follows W s (.slice ta s.threads.length xB) (.slice ma s.mem.length yZ):=⟨_,rfl⟩
 have zgh:∀W,Follows W s (.slice ta s.threads.length xB) (.slice ma s.mem.length yZ)=FO W:=fun W=>by rw [hFO]
 simp only [zgh] at vM znV
 clear hFO zgh hs hc
 unfold yD yR zW at vM ⊢
 obtain⟨vars,dom,cs⟩:=c
 obtain⟨mod,bnd⟩:=m
 obtain⟨ts,mem,bad⟩:=s
 simp only [] at hb hn4 hall znU vM hT ⊢
 obtain⟨n,hn⟩:∃n,n=ts.length:=⟨_,rfl⟩
 obtain⟨cn,hcn⟩:∃cn,cn=cs.length:=⟨_,rfl⟩
 obtain⟨mn,hmn⟩:∃mn,mn=mem.length:=⟨_,rfl⟩
 rw [<-hn] at hb hn4 hall vM hT ⊢
 rw [<-hmn] at vM ⊢
 rw [<-hcn] at vM ⊢
 obtain⟨hB,h1,h2,h3⟩:=zaV w (.cells #[.int .i64 vars, .int .i64 dom, .slice ca cn cc] 24) (.cells #[.int .i64 mod, .int .i64 bnd] 26) (.cells #[.slice ta n xB, .slice ma mn yZ, .bool bad] 30)
 have HB:=qh hB
 have H1:=qh h1
 have H2:=qh h2
 have H3:=qh h3
 have HT:=qh hT
 have HN:=qh hn
 have bC:=qh hb
 have uq:=qh hall
 have HAT:=qh znU
 have znW:=qh vM
 have z2s:=qh znV
 obtain⟨R1,hR1⟩:∃R:List zG,R=(List.range n).flatMap MT:=⟨_,rfl⟩
 obtain⟨R2,hR2⟩:∃R:List zu,R=(List.range n).flatMap NT:=⟨_,rfl⟩
 rw [<-hR1, <-hR2]
 have HR1:=qh hR1
 have HR2:=qh hR2
 clear hn hcn hmn hb hB h1 h2 h3 hT hall znU vM znV hF0 hR1 hR2
 go_enter Tryz.func49,Tryz.ntmps49
 go_upto_region 1 with fail
 generalize World.alloc (World.alloc (World.alloc w _) _) _=W at HB H1 H2 H3 ⊢
 obtain⟨gx,hgx⟩:∃gx,gx=w.heap.size:=⟨_,rfl⟩
 rw [<-hgx] at H1 H2 H3 ⊢
 have xO:Hid (w.heap.size<=W.heap.size):=HB.out.size
 clear hgx
 have yJ:Hid (∀y,Below W.heap.size W y->y.cell? ⟨gx,0,none⟩=some (.int .i64 vars)/\y.cell? ⟨gx,1,none⟩=some (.int .i64 dom)/\y.cell? ⟨gx,2,none⟩=some (.slice ca cn cc)/\
   y.cell? ⟨gx+1,0,none⟩=some (.int .i64 mod)/\y.cell? ⟨gx+1,1,none⟩=some (.int .i64 bnd)/\y.cell? ⟨gx+2,0,none⟩=some (.slice ta n xB)/\y.cell? ⟨gx+2,1,none⟩=some (.slice ma mn yZ)/\y.cell? ⟨gx+2,2,none⟩=some (.bool bad)):=fun y hx=>
  ⟨zm hx _ _ (zh H1.out 0),zm hx _ _ (zh H1.out 1),zm hx _ _ (zh H1.out 2),zm hx _ _ (zh H2.out 0),zm hx _ _ (zh H2.out 1),zm hx _ _ (zh H3.out 0),zm hx _ _ (zh H3.out 1),zm hx _ _ (zh H3.out 2)⟩
 have yu:Hid (∀y,Below W.heap.size W y->Below w.heap.size w y):=fun y hy=>HB.out.trans (hy.mono HB.out.size)
 have HN0:Hid (qH F0 W W (.slice none 0 0) (.slice none 0 0) [] [] []):=qH.begin (Below.refl _ _)
 obtain⟨c0,c1,c2,c3,c4,c5,c6,c7⟩:=yJ.out W (Below.refl _ _)
 clear H1 H2 H3
 go_wp2_with fail
 clear c0 c1 c2 c3 c4 c5 c6 c7
 go_loopg [6,7,20] n (fun gg s6 s7 s20 wr=>∃(i:Nat) (oa:Option Addr) (on oc:Nat) (ml:List zG) (na:Option Addr) (nc:Nat) (nl:List zu) (css:List (List Value)),i<=n/\Hid (gg=n - i)/\s6= .slice oa on oc/\s7= .slice na on nc/\s20= .int .i64 i/\on<=1000001*i/\Hid (qH F0 W wr (.slice oa on oc) (.slice na on nc) ml nl css)/\Hid (ml.length=on/\nl.length=on)/\Hid (ml=(List.range i).flatMap MT/\nl=(List.range i).flatMap NT))
 case atStart=>exact⟨0,none,0,0, [],none,0, [], [],Nat.zero_le _,rfl,rfl,rfl,rfl,by omega,HN0.out,⟨rfl,rfl⟩,⟨rfl,rfl⟩⟩
 case round=>
  obtain⟨i,oa,on,oc,ml,na,nc,nl,css,hi,HG,rfl,rfl,rfl,hon,HL,bD,HML⟩:=hrel
  obtain⟨wo,rfl⟩:∃wo:World,wo=wr:=⟨_,rfl⟩
  clear HN0
  by_cases hlt:i<n
  rotate_left
  ·obtain rfl:n=i:=by omega
   have yT:=qh (HL.out.fin HB.out bD.out.1 bD.out.2)
   have hr1:R1=ml:=by rw [HR1.out,HML.out.1]
   have hr2:R2=nl:=by rw [HR2.out,HML.out.2]
   have HQ1:=qh hr1
   have HQ2:=qh hr2
   clear hr1 hr2
   go_wp2_with fail
   go_ret2
   rw [HQ1.out,HQ2.out]
   exact yT.out
  have qg:(i:Int)<(n:Int):=by omega
  obtain⟨tb,yC,ba,bc,hta, -,hrl,x0,x1,x2,x3,x4,x5,hbuf⟩:=xD.part HT.out i (by rw [<-HN.out];exact hlt)
  subst hta
  have hbl:=bC.out i hlt
  have hat:=HAT.out i
  have hal:=uq.out i hlt
  generalize ts.getD i default=t at x0 x1 x2 x3 x4 x5 hbuf hbl hat hrl
  obtain⟨pc,regs,buf⟩:=t
  obtain⟨q0,q1,q2,q3,rfl⟩:=vT hrl
  simp only [List.getD_cons_zero,List.getD_cons_succ] at x0 x1 x2 x3 x4 x5 hbuf hbl hat
  obtain⟨hh,hhh⟩:∃hh,hh=yh buf mod:=⟨_,rfl⟩
  rw [<-hhh] at hat
  have hhl:hh.length<=1000000:=by have:=zba buf mod;rw [hhh];omega
  obtain⟨bl,vw⟩:∃bl,bl=buf.length:=⟨_,rfl⟩
  rw [<-vw] at x5 hbuf
  have wD:Hid (∀y,Below w.heap.size w y->Calls Tryz.prog 79 #[.slice ba bl bc, .int .i64 mod] y fun e w'=>(∃va vc,e= .returned (.slice va hh.length vc)/\w'.ownsRow y.heap.size 3 1 (.slice va hh.length vc) hh.length (zq yE hh))/\Below y.heap.size y w'):=fun y hy=>
   (zd9 y (.slice ba bl bc) buf (zH.below hbuf hy) (by omega) mod).mono fun e w' ⟨⟨sv,he,ho⟩,hb⟩=>by
    rw [<-hhh] at ho
    obtain⟨a,cp,rfl, -⟩:=qz ho
    exact⟨⟨a,cp,he,ho⟩,hb⟩
  obtain⟨ai,hai⟩:∃ai,ai=AT i:=⟨_,rfl⟩
  rw [<-hai] at hat hal
  obtain⟨hn,hhn⟩:∃hn,hn=hh.length:=⟨_,rfl⟩
  rw [<-hhn] at wD hhl
  have pI:=qh hhn
  have znX:=qh hat
  have ztl:=qh hal
  have hwo:=yu.out wo HL.out.below
  have y0:=zm hwo _ _ x0
  have y1:=zm hwo _ _ x1
  have y2:=zm hwo _ _ x2
  have y3:=zm hwo _ _ x3
  have y4:=zm hwo _ _ x4
  have y5:=zm hwo _ _ x5
  obtain⟨-, -, -, -, -,c5,c6,c7⟩:=yJ.out wo HL.out.below
  have HA:=qh ((Below.refl wo.heap.size wo).alloc (Nat.le_refl _) (.cells #[.int .i64 pc, .int .i64 q0, .int .i64 q1, .int .i64 q2, .int .i64 q3, .slice ba bl bc] 48))
  have HY:=qh (yK wo (.cells #[.int .i64 pc, .int .i64 q0, .int .i64 q1, .int .i64 q2, .int .i64 q3, .slice ba bl bc] 48))
  clear x0 x1 x2 x3 x4 x5 hbuf hbl hhh vw hat hal hhn hwo hrl hai
  go_upto_region 4 with fail
  clear y0 y1 y2 y3 y4 y5 c5 c6 c7
  generalize World.alloc wo _=X at HA HY ⊢
  obtain⟨gl,hgl⟩:∃g,g=wo.heap.size:=⟨_,rfl⟩
  rw [<-hgl] at HY ⊢
  clear hgl
  have HLX:=qh (HL.out.later HA.out)
  have HA2:=qh ((Below.refl X.heap.size X).alloc (Nat.le_refl _) (.cells #[.int .i64 1, .int .i64 (i:Int), .int .i64 0] 32))
  have HY2:=qh (yK X (.cells #[.int .i64 1, .int .i64 (i:Int), .int .i64 0] 32))
  clear HL HA
  go_upto_region 5 with fail
  generalize World.alloc X _=X2 at HA2 HY2 ⊢
  obtain⟨ga,hga⟩:∃g,g=X.heap.size:=⟨_,rfl⟩
  rw [<-hga] at HY2 ⊢
  have HGA:Hid (ga=X.heap.size):=hga
  clear hga
  have HWX:Hid (W.heap.size<=X.heap.size):=HLX.out.below.size
  have ztn:=qh ((HLX.out.less (F1:=fun k=>F0 k\/X.heap.size<=k) (fun _ hk=>hk)).later HA2.out)
  have znY:=qh (HLX.out.later HA2.out)
  have HRA:Hid (X2.ownsRow X.heap.size 32 3 (.slice (some ⟨ga,0,none⟩) 1 1) 1 (zq zG.cells [⟨1,(i:Int),0⟩])):=vU (n:=1) (cs:=zq zG.cells [⟨1,(i:Int),0⟩]) HY2.out (by rw [HGA.out];exact Nat.le_refl _) rfl (by decide)
  have zto:Hid (∀k,(Value.slice oa on oc).ownBlock=some k->(Value.slice (some ⟨ga,0,none⟩) 1 1).ownBlock≠some k):=fun k hk e=>by
   have h1:=(HLX.out.row.lt k hk).2
   have h2:ga=k:=by cases e;rfl
   have:=HGA.out
   omega
  have d5:X2.cell? ⟨gl,5,none⟩=some (.slice ba bl bc):=zm HA2.out _ _ (zh HY.out 5)
  obtain⟨-, -, -,c3, -, -, -, -⟩:=yJ.out X2 znY.out.below
  clear HLX HA2 HY HY2
  go_wp2_with(go_at_call 79;go_must(refine(wD.out X2 (yu.out X2 znY.out.below)).mono ?_);rintro e W2 ⟨⟨va,vc,rfl,hhr⟩,hb2⟩;(have HHR:=qh hhr);(have HL2:=qh (ztn.out.later hb2));(have ztp:=qh (xJ HRA.out hb2));(have HG2:Hid (X.heap.size<=W2.heap.size/\X2.heap.size<=W2.heap.size):=⟨Nat.le_trans (by have:=(HRA.out.lt ga rfl).2;have:=HGA.out;omega) hb2.size,hb2.size⟩);clear hb2 hhr)
  clear d5 c3
  have ztq:Hid (∀k,(Value.slice (some ⟨ga,0,none⟩) 1 1).ownBlock=some k->(Value.slice va hn vc).ownBlock≠some k):=fun k hk e=>by
   have h1:=(HRA.out.lt k hk).2
   have h2:=(HHR.out.lt k e).1
   omega
  clear znY ztn HRA wD
  go_loopg [10,34] hn (fun gg s10 s34 wr=>∃(k:Nat) (aa:Option Addr) (ac:Nat) (al:List zG),k<=hn/\Hid (gg=hn - k)/\s10= .slice aa (k+1) ac/\s34= .int .i64 k/\Hid (wr.ownsRow X.heap.size 32 3 (.slice aa (k+1) ac) (k+1) (zq zG.cells al))/\Hid (al=⟨1,(i:Int),0⟩::(hh.take k).map (fun v=>⟨2,(i:Int),v⟩))/\Hid (∃B,wr.ownsRow B 3 1 (.slice va hn vc) hn (zq yE hh))/\Hid (∀k',(Value.slice aa (k+1) ac).ownBlock=some k'->(Value.slice va hn vc).ownBlock≠some k')/\
   Hid (∀k',(Value.slice oa on oc).ownBlock=some k'->(Value.slice aa (k+1) ac).ownBlock≠some k')/\Hid (qH (fun k=>F0 k\/X.heap.size<=k) W wr (.slice oa on oc) (.slice na on nc) ml nl css)/\Hid (X.heap.size<=wr.heap.size))
  case atStart=>exact⟨0,some ⟨ga,0,none⟩,1, [⟨1,(i:Int),0⟩],Nat.zero_le _,rfl,rfl,rfl,ztp.out,by simp [Hid],⟨_,HHR.out⟩,ztq.out,zto.out,HL2.out,HG2.out.1⟩
  case round=>
   obtain⟨k,aa,ac,al,hk,z2t,rfl,rfl,HRW,HAL,HHB,uN,HNA,HLW,HXS⟩:=hrel
   clear ztp HHR ztq zto HL2 HG2
   by_cases hkl:k<hn
   ·have ziQ:(k:Int)<(hn:Int):=by omega
    obtain⟨BH,hhr⟩:=HHB.out
    have hrw:=hhr
    rw [pI.out] at hrw
    obtain⟨b9,o9,yw, -,e1⟩:=xH.part (wS hrw) k (by rw [<-pI.out];exact hkl)
    subst yw
    have HRB:=qh hhr
    clear hhr hrw
    have jL:Hid (hh.take (k+1)=hh.take k++ [hh.getD k 0]):=by rw [Hid,List.take_succ_eq_append_getElem (by rw [<-pI.out];exact hkl),List.getD_eq_getElem?_getD,List.getElem?_eq_getElem (by rw [<-pI.out];exact hkl)];rfl
    generalize hh.getD k 0=v at e1 jL
    have zxg:Hid (∀(X':World) (a':Option Addr) (c':Nat) (o:Obj),X'.ownsRow X.heap.size 32 3 (.slice a' (k+1+1) c') (k+1+1) (zq zG.cells al++zG.cells ⟨2,(i:Int),v⟩)->Since (fun x=>(Value.slice aa (k+1) ac).ownBlock=some x) (wr.alloc o) X'->(∀x,(Value.slice a' (k+1+1) c').ownBlock=some x->(Value.slice aa (k+1) ac).ownBlock=some x\/x=(wr.alloc o).heap.size)->
      X'.ownsRow X.heap.size 32 3 (.slice a' (k+1+1) c') (k+1+1) (zq zG.cells (al++ [⟨2,(i:Int),v⟩]))/\(∃B,X'.ownsRow B 3 1 (.slice (some ⟨b9,o9,none⟩) hn vc) hn (zq yE hh))/\(∀x,(Value.slice a' (k+1+1) c').ownBlock=some x->(Value.slice (some ⟨b9,o9,none⟩) hn vc).ownBlock≠some x)/\
      (∀x,(Value.slice oa on oc).ownBlock=some x->(Value.slice a' (k+1+1) c').ownBlock≠some x)/\qH (fun k=>F0 k\/X.heap.size<=k) W X' (.slice oa on oc) (.slice na on nc) ml nl css/\X.heap.size<=X'.heap.size):=fun X' a' c' o f1 f4 f5=>by
     obtain⟨g1,g2⟩:=zcF HRB.out uN.out f4 f5
     have hso:=HLW.out.side (o:=o) HRW.out (fun _ h=> .inr h) HWX.out HNA.out f4
     refine⟨by rw [zbW];exact f1,⟨_,g1⟩,g2,fun x hx e=> ?_,hso,Nat.le_trans HXS.out (Nat.le_trans (by simp) f4.size)⟩
     rcases f5 x e with e'|e'
     ·exact HNA.out x hx e'
     ·have h1:=(HLW.out.row.lt x hx).2
      simp at e'
      omega
    go_wp2_with(at_builtin;go_must(refine yt _ rfl _ _ 52 rfl 32 (.agg #[.int .i64 0, .int .i64 0, .int .i64 0]) 3 24 Tryz.underlying52 wT rfl (by decide) X.heap.size (.slice aa (k+1) ac) (k+1) (zq zG.cells al) rfl ((HRW.out).alloc _) ⟨wr.heap.size,0,none⟩ 1 1 (zG.cells ⟨2,i,v⟩) rfl rfl (bV _ (zG.cells ⟨2,i,v⟩) _) (by simp [zG.cells,Value.oneCell']) (by unfold maxLen;omega) (by omega) (by have:=HXS.out;simp;omega) ?_);intro ja jc Y f1 f2 f3 f4 f5 f6;have HE:=qh (zxg.out Y ja jc _ f1 f4 f5);clear f1 f2 f3 f4 f5 f6)
    go_roundg (hn - (k+1))
    case measure=>rw [z2t.out];omega
    case rel=>exact⟨k+1,ja,jc,al++ [(⟨2,(i:Int),v⟩:zG)],by omega,rfl,rfl,by simp,HE.out.1,by rw [Hid,HAL.out,jL.out];simp,HE.out.2.1,HE.out.2.2.1,HE.out.2.2.2.1,HE.out.2.2.2.2.1,HE.out.2.2.2.2.2⟩
   obtain rfl:hn=k:=by omega
   have zpG:Hid (al=ai):=by rw [Hid,HAL.out,znX.out,pI.out,List.take_length]
   have z2u:=zpG.out
   subst z2u
   have z2v:Hid (∀k,k<al.length->(al.getD k default).thread=(i:Int)):=fun k hk=>by
    have hm:al.getD k default∈al:=jB hk
    generalize al.getD k default=y at hm
    rw [znX.out] at hm
    rcases List.mem_cons.1 hm with rfl|hm
    ·rfl
    ·obtain⟨v, -,rfl⟩:=List.mem_map.1 hm
     rfl
   clear zpG HAL HHB uN znX
   have hlen:al.length=hn+1:=by
    have:=HRW.out.1
    rw [vI zgi] at this
    omega
   have HLEN:=qh hlen
   clear hlen
   go_wp2_with fail
   go_loopg [6,7,47] (hn+1) (fun gg s6 s7 s47 wr=>∃(k:Nat) (pa:Option Addr) (pn pc':Nat) (pl:List zG) (ra:Option Addr) (rc:Nat) (rl:List zu) (rss:List (List Value)),k<=hn+1/\Hid (gg=hn+1 - k)/\s6= .slice pa pn pc'/\s7= .slice ra pn rc/\s47= .int .i64 k/\pn<=on+k/\Hid (qH F0 W wr (.slice pa pn pc') (.slice ra pn rc) pl rl rss)/\Hid (pl.length=pn/\rl.length=pn)/\Hid (pl=ml++(al.take k).filter (fun x=>(TM i x).isSome)/\rl=nl++(al.take k).filterMap (TM i))/\
    Hid (wr.ownsRow X.heap.size 32 3 (.slice aa (hn+1) ac) (hn+1) (zq zG.cells al))/\Hid (∀x,(Value.slice pa pn pc').ownBlock=some x->(Value.slice aa (hn+1) ac).ownBlock≠some x))
   case atStart=>exact⟨0,oa,on,oc,ml,na,nc,nl,css,Nat.zero_le _,rfl,rfl,rfl,rfl,by omega,HLW.out.less (fun _ h=> .inl (.inl h)),bD.out,by simp [Hid],HRW.out,HNA.out⟩
   case round=>
    obtain⟨k,pa,pn,pc',pl,ra,rc,rl,rss,hk,jk,rfl,rfl,rfl,hpn,HLP,HPN,gN,HRA,HNP⟩:=hrel
    clear HLW HRW HNA
    by_cases hkl:k<hn+1
    rotate_left
    ·obtain rfl:k=hn+1:=by omega
     have hst:pl=(List.range (i+1)).flatMap MT/\rl=(List.range (i+1)).flatMap NT:=by
      have e:al.take (hn+1)=al:=by rw [<-HLEN.out,List.take_length]
      rw [bN,bN, <-HML.out.1, <-HML.out.2,gN.out.1,gN.out.2,e,ztl.out.1,ztl.out.2]
      exact⟨rfl,rfl⟩
     have HST:=qh hst
     clear hst
     go_wp2_with fail
     go_roundg (n - (i+1))
     case measure=>rw [HG.out];omega
     case rel=>exact⟨i+1,pa,pn,pc',pl,ra,rc,rl,rss,by omega,rfl,rfl,rfl,by simp,by omega,HLP.out,HPN.out,HST.out⟩
    have ziQ:(k:Int)<((hn:Int)+1):=by omega
    have hra:=HRA.out
    have zts:wr.ownsRow X.heap.size 32 3 (.slice aa (hn+1) ac) al.length (zq zG.cells al):=by rw [HLEN.out];exact hra
    obtain⟨b9,o9,yw, -,e1,e2,e3⟩:=jl.part (by have:=zcW zts;exact this) k (by rw [HLEN.out];exact hkl)
    subst yw
    have htk:=zhx (l:=al) (k:=k) (by rw [HLEN.out];exact hkl) (fun x=>(TM i x).isSome)
    have ziR:=zev (l:=al) (k:=k) (by rw [HLEN.out];exact hkl) (TM i)
    have hth:(al.getD k default).thread=(i:Int):=z2v.out k (by rw [HLEN.out];exact hkl)
    obtain⟨x,hx⟩:∃x,x=al.getD k default:=⟨_,rfl⟩
    rw [<-hx] at e1 e2 e3 htk ziR hth
    rw [hth] at e2
    have htr:=fun y hy=>znW.out y i x hy hlt hth
    have hxe:zG.cells x= [.int .i64 x.kind, .int .i64 (i:Int), .int .i64 x.var] :=by unfold zG.cells;rw [hth]
    obtain⟨tr,ztt⟩:∃r,r=TM i x:=⟨_,rfl⟩
    rw [<-ztt] at htk ziR htr
    obtain⟨xk,hxk⟩:∃q,q=x.kind:=⟨_,rfl⟩
    obtain⟨xv,hxv⟩:∃q,q=x.var:=⟨_,rfl⟩
    rw [<-hxk] at e1 htr
    rw [<-hxv] at e3 htr
    rw [<-hxk, <-hxv] at hxe
    have HTR:=qh htr
    have jL:=qh htk
    have ziS:=qh ziR
    have j3:=qh hxe
    have HA:=qh ((Below.refl wr.heap.size wr).alloc (Nat.le_refl _) (.cells #[.int .i64 xk, .int .i64 (i:Int), .int .i64 xv] 32))
    have HY:=qh (yK wr (.cells #[.int .i64 xk, .int .i64 (i:Int), .int .i64 xv] 32))
    clear hra zts htk ziR hth hx htr hxe ztt hxk hxv
    go_upto_region 13 with fail
    clear e1 e2 e3
    generalize World.alloc wr _=Y at HA HY ⊢
    obtain⟨gm,hgm⟩:∃g,g=wr.heap.size:=⟨_,rfl⟩
    rw [<-hgm] at HY ⊢
    have HGM:=qh hgm
    clear hgm
    have HNM:Hid (∀x,(Value.slice pa pn pc').ownBlock=some x\/(Value.slice ra pn rc).ownBlock=some x->x<gm):=fun x hx=>by
     rw [HGM.out]
     rcases hx with e|e
     ·exact(HLP.out.row.lt x e).2
     ·exact(HLP.out.st.row.lt x e).2
    have HLY:=qh (HLP.out.later HA.out)
    have kY:=qh (xJ HRA.out HA.out)
    obtain⟨c0,c1,c2,c3,c4,c5,c6,c7⟩:=yJ.out Y HLY.out.below
    have d0:Y.cell? ⟨gm,0,none⟩=some (.int .i64 xk):=zh HY.out 0
    have d1:Y.cell? ⟨gm,1,none⟩=some (.int .i64 (i:Int)):=zh HY.out 1
    have d2:Y.cell? ⟨gm,2,none⟩=some (.int .i64 xv):=zh HY.out 2
    clear HLP HRA
    go_upto_if 59 with(go_at_call 50;go_must(refine(HTR.out Y (yu.out Y HLY.out.below)).mono ?_);rintro e Z znZ;(obtain⟨xa,xn,xc,ya,yn,yc,bd,isv,rfl,ztw⟩:=znZ.told);(have HZ:=qh znZ.1);(have HTE:=qh ztw);clear znZ ztw c0 c1 c2 c3 c4 c5 c6 c7 d0 d1 d2)
    have HLZ:=qh (HLY.out.later HZ.out)
    have HRZ:=qh (xJ kY.out HZ.out)
    have HGZ:Hid (Z.heap[gm]? =some (.cells #[.int .i64 xk, .int .i64 (i:Int), .int .i64 xv] 32 (0,0))):=(HZ.out.block gm (zJ HY.out)).trans HY.out
    have HA4:=qh ((Below.refl Z.heap.size Z).alloc (Nat.le_refl _) (.cells #[.slice xa xn xc, .slice ya yn yc, .bool bd] 30))
    have jM:=qh (yK Z (.cells #[.slice xa xn xc, .slice ya yn yc, .bool bd] 30))
    have HU1:Hid (∀x,(Value.slice pa pn pc').ownBlock=some x->w.heap.size<=x/\x<Y.heap.size):=fun x hx=>by
     have:=HLY.out.row.lt x hx
     have:=xO.out
     omega
    have HU2:Hid (∀x,(Value.slice ra pn rc).ownBlock=some x->w.heap.size<=x/\x<Y.heap.size):=fun x hx=>by
     have:=HLY.out.st.row.lt x hx
     have:=xO.out
     omega
    have HAW:Hid (∀t,tr=some t->bd=t.bad/\vB (NF F0 (.slice pa pn pc') (.slice ra pn rc)) Z (fun y=>gI y t [.slice xa xn xc, .slice ya yn yc, .bool bd])):=fun t ht=>by
     obtain⟨e1,e2⟩:=HTE.out.2 t ht
     subst e1
     exact⟨rfl,z2s.out Y Z t _ _ _ _ (yu.out Y HLY.out.below) e2 HU1.out HU2.out⟩
    have HIS:=qh HTE.out.1
    clear HTE HU1 HU2 HLY kY HY HA
    generalize World.alloc Z _=V at HA4 jM ⊢
    obtain⟨gt,hgt⟩:∃g,g=Z.heap.size:=⟨_,rfl⟩
    rw [<-hgt] at jM ⊢
    have hgg:gm<gt:=by rw [hgt];exact zJ HGZ.out
    have zty:Hid (¬((Value.slice pa pn pc').ownBlock=some gm\/(Value.slice ra pn rc).ownBlock=some gm)/\¬((Value.slice pa pn pc').ownBlock=some gt\/(Value.slice ra pn rc).ownBlock=some gt)):=⟨fun e=>by have:=HNM.out gm e;omega,fun e=>by have:=HNM.out gt e;omega⟩
    clear hgt hgg HNM
    have HLV:=qh (HLZ.out.later HA4.out)
    have HRV:=qh (xJ HRZ.out HA4.out)
    have HGV:Hid (V.heap[gm]? =some (.cells #[.int .i64 xk, .int .i64 (i:Int), .int .i64 xv] 32 (0,0))):=(HA4.out.block gm (zJ HGZ.out)).trans HGZ.out
    have z2w:Hid (∀t,tr=some t->vB (NF F0 (.slice pa pn pc') (.slice ra pn rc)) V (fun y=>gI y t [.slice xa xn xc, .slice ya yn yc, .bool bd])):=fun t ht=>(HAW.out t ht).2.step (G:=fun _=>False) (zaT _ HA4.out) (fun _ h=>h.elim) (fun _ hk=> .inl hk)
    clear HAW HLZ HRZ HGZ HA4 HZ
    cases tr with
    |none=>
     have his:=HIS.out
     simp only [Option.isSome_none] at his
     subst his
     go_wp2_with fail
     go_roundg (hn+1 - (k+1))
     case measure=>rw [jk.out];omega
     case rel=>exact⟨k+1,pa,pn,pc',pl,ra,rc,rl,rss,by omega,rfl,rfl,rfl,by simp,by omega,HLV.out,HPN.out,⟨by rw [gN.out.1,jL.out];simp,by rw [gN.out.2,ziS.out];simp⟩,HRV.out,HNP.out⟩
    |some t=>
     have his:=HIS.out
     simp only [Option.isSome_some] at his
     subst his
     have haw:=z2w.out t rfl
     have zoa:=qh haw
     clear haw
     have zcX:=HPN.out.1
     have zcY:=HPN.out.2
     go_wp2_with fail
     have CC:Hid (∀y,Since (fun x=>(Value.slice pa pn pc').ownBlock=some x\/(Value.slice ra pn rc).ownBlock=some x) V y->y.cell? ⟨gm,0,none⟩=some (.int .i64 xk)/\y.cell? ⟨gm,1,none⟩=some (.int .i64 (i:Int))/\y.cell? ⟨gm,2,none⟩=some (.int .i64 xv)/\y.cell? ⟨gt,0,none⟩=some (.slice xa xn xc)/\y.cell? ⟨gt,1,none⟩=some (.slice ya yn yc)/\y.cell? ⟨gt,2,none⟩=some (.bool bd)):=fun y hy=>by
      have hm:¬((Value.slice pa pn pc').ownBlock=some gm\/(Value.slice ra pn rc).ownBlock=some gm):=zty.out.1
      have ht:¬((Value.slice pa pn pc').ownBlock=some gt\/(Value.slice ra pn rc).ownBlock=some gt):=zty.out.2
      have h1:=(hy.block gm (zJ HGV.out) hm).trans HGV.out
      have h2:=(hy.block gt (zJ jM.out) ht).trans jM.out
      exact⟨zh h1 0,zh h1 1,zh h1 2,zh h2 0,zh h2 1,zh h2 2⟩
     refine wp_region_noPanic ?_
     refine wp_region_held_drew (S:=fun y=>Since (fun x=>(Value.slice pa pn pc').ownBlock=some x\/(Value.slice ra pn rc).ownBlock=some x) V y) (by kernel_rfl) (Since.refl _ _).drew (fun _=> ?_)
     have hT0:=qh (wu.start (B:=W.heap.size) (by have:=HLV.out.row;rw [zcX] at this;exact this) (by have:=HLV.out.st.row;rw [zcY] at this;exact this) HLV.out.below.size)
     obtain⟨V1,hV1⟩:∃V1,V1=V.drew:=⟨_,rfl⟩
     rw [<-hV1] at hT0 ⊢
     clear hV1
     refine zA 0 60 ?vn1 rfl ?zob (hT0.out.since) ?_
     case zob=>(intro _ _;go_simp<;>rfl)
     simp only [Act.put,za,ze,zf]
     refine zA 1 61 ?vn2 rfl ?zoc (hT0.out.since) ?_
     case zoc=>(intro x h;have e:=CC.out x h;go_simp<;>rfl)
     simp only [Act.put,za,ze,zf]
     refine zA 4 64 ?vn3 rfl ?zod (hT0.out.since) ?_
     case zod=>(intro _ _;go_simp<;>rfl)
     simp only [Act.put,za,ze,zf]
     refine zA 5 65 ?vn4 rfl ?zoe (hT0.out.since) ?_
     case zoe=>(intro x h;have e:=CC.out x h;go_simp<;>rfl)
     simp only [Act.put,za,ze,zf]
     refine wpAnyH_ready (rs:= [2,6]) (by kernel_rfl) (by simp) ?_
     refine AllReadyH.cons rfl (fun K hK=> ?_) (AllReadyH.cons rfl (fun K hK=> ?_) AllReadyH.nil)
     ·skip
      go_simp
      have zaz:=hT0.out.alloc 32 [.int .i64 xk, .int .i64 (i:Int), .int .i64 xv]
      refine hK.out _ _ zaz.since (fun _=> ?_)
      obtain⟨nb1,zgl⟩:∃n,n=V1.heap.size:=⟨_,rfl⟩
      rw [<-zgl] at zaz ⊢
      clear zgl
      generalize World.alloc V1 _=Xn2 at zaz ⊢
      replace zaz:=qh zaz
      clear hK K
      refine wpAnyH_ready (rs:= [3,6]) (by kernel_rfl) (by simp) ?_
      refine AllReadyH.cons rfl (fun K hK=> ?_) (AllReadyH.cons rfl (fun K hK=> ?_) AllReadyH.nil)
      ·skip
       refine zP Xn2 (by rfl) (.tmp 60) (.tmp 62) 52 rfl 32 (.agg #[.int .i64 0, .int .i64 0, .int .i64 0]) 3 24 Tryz.underlying52 wT rfl (by decide) W.heap.size (.slice pa pn pc') pn (zq zG.cells pl) (by rfl) zaz.out.r1 ⟨nb1,0,none⟩ 1 1 [.int .i64 xk, .int .i64 (i:Int), .int .i64 xv] (by rfl) rfl (zaz.out.cell (b:=nb1) (t:=32) (cs:= [.int .i64 xk, .int .i64 (i:Int), .int .i64 xv]) (by simp)) (by simp [Value.oneCell']) (by unfold maxLen;omega) (by omega) zaz.out.base ?_
       intro ma' mc' Xn4 e1 e2 e3 e4 e5
       have zt0:=qh (zaz.out.app1 (by decide) e1 e4 e5)
       clear e1 e2 e3 e4 e5
       refine hK.out _ _ zt0.out.since (fun _=> ?_)
       change wpAnyH _ _ _ _ _ _ _ (Act.put _ (some 63) _) _
       simp only [Act.put,za]
       try simp only [ze,zf]
       clear hK K
       refine zT 6 rfl (fun K hK=> ?_)
       go_simp
       have zbb:=zt0.out.alloc 30 [.slice xa xn xc, .slice ya yn yc, .bool bd]
       refine hK.out _ _ zbb.since (fun _=> ?_)
       obtain⟨nb2,zbX⟩:∃n,n=Xn4.heap.size:=⟨_,rfl⟩
       rw [<-zbX] at zbb ⊢
       clear zbX
       generalize World.alloc Xn4 _=Xn6 at zbb ⊢
       replace zbb:=qh zbb
       clear hK K
       refine zT 7 rfl (fun K hK=> ?_)
       refine zP Xn6 (by rfl) (.tmp 64) (.tmp 66) 67 rfl 30 (.agg #[.slice none 0 0, .slice none 0 0, .bool false]) 3 56 Tryz.underlying67 zbc rfl (by decide) W.heap.size (.slice ra pn rc) pn rss.flatten (by rfl) zbb.out.r2 ⟨nb2,0,none⟩ 1 1 [.slice xa xn xc, .slice ya yn yc, .bool bd] (by rfl) rfl (zbb.out.cell (b:=nb2) (t:=30) (cs:= [.slice xa xn xc, .slice ya yn yc, .bool bd]) (by simp)) (by simp [Value.oneCell']) (by unfold maxLen;omega) (by omega) zbb.out.base ?_
       intro ra' rc' Xn8 e1 e2 e3 e4 e5
       have zgm:=qh (zbb.out.zof (by decide) e1 e4 e5)
       clear e1 e2 e3 e4 e5
       refine hK.out _ _ zgm.out.since (fun _=> ?_)
       change wpAnyH _ _ _ _ _ _ _ (Act.put _ (some 67) _) _
       simp only [Act.put,za]
       try simp only [ze,zf]
       clear hK K
       refine zA 8 6 ?vn5 rfl ?zog (zgm.out.since) ?_
       case zog=>(intro _ _;go_simp<;>rfl)
       simp only [Act.put,za,ze,zf]
       refine zA 9 7 ?vn6 rfl ?zoh (zgm.out.since) ?_
       case zoh=>(intro _ _;go_simp<;>rfl)
       simp only [Act.put,za,ze,zf]
       refine wpAnyH_done (by kernel_rfl) ?_ _
       refine NoPanic.normal ?_
       have HE:=qh (HLV.out.push (x:=x) (t:=t) (cs:= [.slice xa xn xc, .slice ya yn yc, .bool bd]) (by rw [zcX,zcY,j3.out];exact zgm.out) zoa.out rfl)
       have HE2:=qh (HLV.out.beside HRV.out HNP.out zgm.out)
       go_wp2_with fail
       go_roundg (hn+1 - (k+1))
       case measure=>rw [jk.out];omega
       case rel=>exact⟨k+1,ma',pn+1,mc',pl++ [x],ra',rc',rl++ [t],rss++ [[Value.slice xa xn xc,Value.slice ya yn yc,Value.bool bd]],by omega,rfl,rfl,rfl,by simp,by omega,HE.out,⟨by rw [List.length_append,zcX];rfl,by rw [List.length_append,zcY];rfl⟩,⟨by rw [gN.out.1,jL.out,List.append_assoc];rfl,by rw [gN.out.2,ziS.out,List.append_assoc]⟩,HE2.out.1,HE2.out.2⟩
      ·skip
       go_simp
       have zbd:=zaz.out.alloc 30 [.slice xa xn xc, .slice ya yn yc, .bool bd]
       refine hK.out _ _ zbd.since (fun _=> ?_)
       obtain⟨nb2,zbX⟩:∃n,n=Xn2.heap.size:=⟨_,rfl⟩
       rw [<-zbX] at zbd ⊢
       clear zbX
       generalize World.alloc Xn2 _=z2x at zbd ⊢
       replace zbd:=qh zbd
       clear hK K
       refine zT 3 rfl (fun K hK=> ?_)
       refine zP z2x (by rfl) (.tmp 60) (.tmp 62) 52 rfl 32 (.agg #[.int .i64 0, .int .i64 0, .int .i64 0]) 3 24 Tryz.underlying52 wT rfl (by decide) W.heap.size (.slice pa pn pc') pn (zq zG.cells pl) (by rfl) zbd.out.r1 ⟨nb1,0,none⟩ 1 1 [.int .i64 xk, .int .i64 (i:Int), .int .i64 xv] (by rfl) rfl (zbd.out.cell (b:=nb1) (t:=32) (cs:= [.int .i64 xk, .int .i64 (i:Int), .int .i64 xv]) (by simp)) (by simp [Value.oneCell']) (by unfold maxLen;omega) (by omega) zbd.out.base ?_
       intro ma' mc' z2y e1 e2 e3 e4 e5
       have zdB:=qh (zbd.out.app1 (by decide) e1 e4 e5)
       clear e1 e2 e3 e4 e5
       refine hK.out _ _ zdB.out.since (fun _=> ?_)
       change wpAnyH _ _ _ _ _ _ _ (Act.put _ (some 63) _) _
       simp only [Act.put,za]
       try simp only [ze,zf]
       clear hK K
       refine zT 7 rfl (fun K hK=> ?_)
       refine zP z2y (by rfl) (.tmp 64) (.tmp 66) 67 rfl 30 (.agg #[.slice none 0 0, .slice none 0 0, .bool false]) 3 56 Tryz.underlying67 zbc rfl (by decide) W.heap.size (.slice ra pn rc) pn rss.flatten (by rfl) zdB.out.r2 ⟨nb2,0,none⟩ 1 1 [.slice xa xn xc, .slice ya yn yc, .bool bd] (by rfl) rfl (zdB.out.cell (b:=nb2) (t:=30) (cs:= [.slice xa xn xc, .slice ya yn yc, .bool bd]) (by simp)) (by simp [Value.oneCell']) (by unfold maxLen;omega) (by omega) zdB.out.base ?_
       intro ra' rc' zB7 e1 e2 e3 e4 e5
       have zdC:=qh (zdB.out.zof (by decide) e1 e4 e5)
       clear e1 e2 e3 e4 e5
       refine hK.out _ _ zdC.out.since (fun _=> ?_)
       change wpAnyH _ _ _ _ _ _ _ (Act.put _ (some 67) _) _
       simp only [Act.put,za]
       try simp only [ze,zf]
       clear hK K
       refine zA 8 6 ?vn7 rfl ?zoi (zdC.out.since) ?_
       case zoi=>(intro _ _;go_simp<;>rfl)
       simp only [Act.put,za,ze,zf]
       refine zA 9 7 ?vn8 rfl ?zoj (zdC.out.since) ?_
       case zoj=>(intro _ _;go_simp<;>rfl)
       simp only [Act.put,za,ze,zf]
       refine wpAnyH_done (by kernel_rfl) ?_ _
       refine NoPanic.normal ?_
       have HE:=qh (HLV.out.push (x:=x) (t:=t) (cs:= [.slice xa xn xc, .slice ya yn yc, .bool bd]) (by rw [zcX,zcY,j3.out];exact zdC.out) zoa.out rfl)
       have HE2:=qh (HLV.out.beside HRV.out HNP.out zdC.out)
       go_wp2_with fail
       go_roundg (hn+1 - (k+1))
       case measure=>rw [jk.out];omega
       case rel=>exact⟨k+1,ma',pn+1,mc',pl++ [x],ra',rc',rl++ [t],rss++ [[Value.slice xa xn xc,Value.slice ya yn yc,Value.bool bd]],by omega,rfl,rfl,rfl,by simp,by omega,HE.out,⟨by rw [List.length_append,zcX];rfl,by rw [List.length_append,zcY];rfl⟩,⟨by rw [gN.out.1,jL.out,List.append_assoc];rfl,by rw [gN.out.2,ziS.out,List.append_assoc]⟩,HE2.out.1,HE2.out.2⟩
     ·skip
      go_simp
      have zcy:=hT0.out.alloc 30 [.slice xa xn xc, .slice ya yn yc, .bool bd]
      refine hK.out _ _ zcy.since (fun _=> ?_)
      obtain⟨nb2,zbX⟩:∃n,n=V1.heap.size:=⟨_,rfl⟩
      rw [<-zbX] at zcy ⊢
      clear zbX
      generalize World.alloc V1 _=zt1 at zcy ⊢
      replace zcy:=qh zcy
      clear hK K
      refine zT 2 rfl (fun K hK=> ?_)
      go_simp
      have bO:=zcy.out.alloc 32 [.int .i64 xk, .int .i64 (i:Int), .int .i64 xv]
      refine hK.out _ _ bO.since (fun _=> ?_)
      obtain⟨nb1,zgl⟩:∃n,n=zt1.heap.size:=⟨_,rfl⟩
      rw [<-zgl] at bO ⊢
      clear zgl
      generalize World.alloc zt1 _=z2z at bO ⊢
      replace bO:=qh bO
      clear hK K
      refine zT 3 rfl (fun K hK=> ?_)
      refine zP z2z (by rfl) (.tmp 60) (.tmp 62) 52 rfl 32 (.agg #[.int .i64 0, .int .i64 0, .int .i64 0]) 3 24 Tryz.underlying52 wT rfl (by decide) W.heap.size (.slice pa pn pc') pn (zq zG.cells pl) (by rfl) bO.out.r1 ⟨nb1,0,none⟩ 1 1 [.int .i64 xk, .int .i64 (i:Int), .int .i64 xv] (by rfl) rfl (bO.out.cell (b:=nb1) (t:=32) (cs:= [.int .i64 xk, .int .i64 (i:Int), .int .i64 xv]) (by simp)) (by simp [Value.oneCell']) (by unfold maxLen;omega) (by omega) bO.out.base ?_
      intro ma' mc' z2A e1 e2 e3 e4 e5
      have zdD:=qh (bO.out.app1 (by decide) e1 e4 e5)
      clear e1 e2 e3 e4 e5
      refine hK.out _ _ zdD.out.since (fun _=> ?_)
      change wpAnyH _ _ _ _ _ _ _ (Act.put _ (some 63) _) _
      simp only [Act.put,za]
      try simp only [ze,zf]
      clear hK K
      refine zT 7 rfl (fun K hK=> ?_)
      refine zP z2A (by rfl) (.tmp 64) (.tmp 66) 67 rfl 30 (.agg #[.slice none 0 0, .slice none 0 0, .bool false]) 3 56 Tryz.underlying67 zbc rfl (by decide) W.heap.size (.slice ra pn rc) pn rss.flatten (by rfl) zdD.out.r2 ⟨nb2,0,none⟩ 1 1 [.slice xa xn xc, .slice ya yn yc, .bool bd] (by rfl) rfl (zdD.out.cell (b:=nb2) (t:=30) (cs:= [.slice xa xn xc, .slice ya yn yc, .bool bd]) (by simp)) (by simp [Value.oneCell']) (by unfold maxLen;omega) (by omega) zdD.out.base ?_
      intro ra' rc' zB8 e1 e2 e3 e4 e5
      have zdE:=qh (zdD.out.zof (by decide) e1 e4 e5)
      clear e1 e2 e3 e4 e5
      refine hK.out _ _ zdE.out.since (fun _=> ?_)
      change wpAnyH _ _ _ _ _ _ _ (Act.put _ (some 67) _) _
      simp only [Act.put,za]
      try simp only [ze,zf]
      clear hK K
      refine zA 8 6 ?vn9 rfl ?zok (zdE.out.since) ?_
      case zok=>(intro _ _;go_simp<;>rfl)
      simp only [Act.put,za,ze,zf]
      refine zA 9 7 ?z2B rfl ?ziT (zdE.out.since) ?_
      case ziT=>(intro _ _;go_simp<;>rfl)
      simp only [Act.put,za,ze,zf]
      refine wpAnyH_done (by kernel_rfl) ?_ _
      refine NoPanic.normal ?_
      have HE:=qh (HLV.out.push (x:=x) (t:=t) (cs:= [.slice xa xn xc, .slice ya yn yc, .bool bd]) (by rw [zcX,zcY,j3.out];exact zdE.out) zoa.out rfl)
      have HE2:=qh (HLV.out.beside HRV.out HNP.out zdE.out)
      go_wp2_with fail
      go_roundg (hn+1 - (k+1))
      case measure=>rw [jk.out];omega
      case rel=>exact⟨k+1,ma',pn+1,mc',pl++ [x],ra',rc',rl++ [t],rss++ [[Value.slice xa xn xc,Value.slice ya yn yc,Value.bool bd]],by omega,rfl,rfl,rfl,by simp,by omega,HE.out,⟨by rw [List.length_append,zcX];rfl,by rw [List.length_append,zcY];rfl⟩,⟨by rw [gN.out.1,jL.out,List.append_assoc];rfl,by rw [gN.out.2,ziS.out,List.append_assoc]⟩,HE2.out.1,HE2.out.2⟩
end Go.Proofs.YtliajkheeniljaaGreatDoor
