/- The moves that may be, and the states behind them: the program's answer: the walk. -/
import Derived.Test.YtliajkheeniljaaGreatDoorZsPHeads
import Derived.Test.YtliajkheeniljaaGreatDoorZsPTry
import Derived.Test.YtliajkheeniljaaGreatDoorZsPTryQ
import Derived.Test.YtliajkheeniljaaGreatDoorZsShort
set_option linter.all false
namespace Go.Proofs.YtliajkheeniljaaGreatDoor
open Go.RowKit
set_option maxRecDepth 100000
set_option maxHeartbeats 16000000
theorem zoj (w:World) (c:zX) (cv:Value) (d:Nat) (hc:yZ d w cv c.threads) (m:zK) (s:zu) (sv mv:Value) (hs:zZ w s sv mv) (hb:∀j,j<s.threads.length->(s.threads.getD j default).buf.length<=1000000) (hf:xX c m s=true)
  (F0:Nat->Prop) (hF0:∀k,F0 k->k<w.heap.size) (ha:yM F0 w (fun y=>zZ y s sv mv)):Calls Tryz.prog 49 #[yL c cv,yY m,yH s sv mv] w (zjg F0 w (qO c m s d) (zhR c m s d)):=by
 have wS:s.threads.length<=4:=by
  obtain⟨h1, -,h2,h3, -⟩:=bU hf
  have h4:=qj h1
  omega
 have hR:qO c m s d=(List.range s.threads.length).flatMap (wm c m s d):=by unfold qO;rw [if_pos hf]
 rw [hR,zr9 hf]
 obtain⟨AT,hAT⟩:∃AT,AT=allT m s:=⟨_,rfl⟩
 obtain⟨TM,hTM⟩:∃TM,TM=zcC c m s d:=⟨_,rfl⟩
 obtain⟨MT,hMT⟩:∃MT,MT=wm c m s d:=⟨_,rfl⟩
 obtain⟨NT,hNT⟩:∃NT,NT=zhV c m s d:=⟨_,rfl⟩
 have hall:∀i,i<s.threads.length->(AT i).filter (fun x=>(TM i x).isSome)=MT i/\(AT i).filterMap (TM i)=NT i:=fun i hi=>by rw [hAT,hTM,hMT,hNT];exact zpa hf hi
 have zsU:∀i,AT i=⟨1,(i:Int),0⟩::(yF (s.threads.getD i default).buf m.model).map fun v=>(⟨2,(i:Int),v⟩:zM):=fun i=>by rw [hAT];rfl
 have jE:∀W (i:Nat) (x:zM),Below w.heap.size w W->i<s.threads.length->x.thread=(i:Int)->Calls Tryz.prog 50 #[yL c cv,yY m,yH s sv mv, .agg #[.int .i64 x.kind, .int .i64 (i:Int), .int .i64 x.var]] W (zfN W (Follows W s sv mv) (TM i x)):=fun W i x hW hi hx=>by
  rw [hTM]
  exact zju W c cv d (zk.below (xC.stays d) hc hW) m s sv mv (hs.below hW) hb hf i hi x.kind x.var
 have zsV:∀W W2 t (tv yv u1 u2:Value),Below w.heap.size w W->Follows W s sv mv W2 t tv yv->(∀k,u1.ownBlock=some k->w.heap.size<=k/\k<W.heap.size)->(∀k,u2.ownBlock=some k->w.heap.size<=k/\k<W.heap.size)->yM (NF F0 u1 u2) W2 (fun y=>zaw y t [tv,yv, .bool t.bad]):=by
  intro W W2 t tv yv u1 u2 hW hfo h1 h2
  have h3:=hfo (NF F0 u1 u2) (fun k hk=>by
   rcases hk with e|e|e
   ·exact Nat.lt_of_lt_of_le (hF0 k e) hW.size
   ·exact(h1 k e).2
   ·exact(h2 k e).2) (ha.step (Since.of_below hW) (fun k hk=> .inr hk) (fun k hk=>by
   rcases hk with e|e|e
   ·exact .inl e
   ·exact .inr (h1 k e).1
   ·exact .inr (h2 k e).1))
  exact fun y hy=>⟨tv,yv,rfl,h3 y hy⟩
 rw [<-hMT, <-hNT]
 clear hR hMT hNT hAT hTM ha hf
 obtain⟨ca,cc,rfl, -⟩:=zk.slice hc
 obtain⟨ta,qm,rfl, -⟩:=zk.slice hs.threads
 obtain⟨ma,xV,rfl, -⟩:=zk.slice hs.mem
 have hT:=hs.threads
 obtain⟨FO,hFO⟩:∃FO:World->World->zu->Value->Value->Prop,FO=fun W=>Follows W s (.slice ta s.threads.length qm) (.slice ma s.mem.length xV):=⟨_,rfl⟩
 have zjv:∀W,Follows W s (.slice ta s.threads.length qm) (.slice ma s.mem.length xV)=FO W:=fun W=>by rw [hFO]
 simp only [zjv] at jE zsV
 clear hFO zjv hs hc
 unfold yL yY yH at jE ⊢
 obtain⟨vars,dom,cs⟩:=c
 obtain⟨mod,bnd⟩:=m
 obtain⟨ts,mem,bad⟩:=s
 simp only [] at hb wS hall zsU jE hT ⊢
 obtain⟨n,hn⟩:∃n,n=ts.length:=⟨_,rfl⟩
 obtain⟨cn,hcn⟩:∃cn,cn=cs.length:=⟨_,rfl⟩
 obtain⟨mn,hmn⟩:∃mn,mn=mem.length:=⟨_,rfl⟩
 rw [<-hn] at hb wS hall jE hT ⊢
 rw [<-hmn] at jE ⊢
 rw [<-hcn] at jE ⊢
 obtain⟨hB,h1,h2,h3⟩:=zaL w (.cells #[.int .i64 vars, .int .i64 dom, .slice ca cn cc] 24) (.cells #[.int .i64 mod, .int .i64 bnd] 26) (.cells #[.slice ta n qm, .slice ma mn xV, .bool bad] 30)
 have HB:=qh hB
 have H1:=qh h1
 have H2:=qh h2
 have H3:=qh h3
 have HT:=qh hT
 have HN:=qh hn
 have HBU:=qh hb
 have zr0:=qh hall
 have HAT:=qh zsU
 have zsf:=qh jE
 have zBi:=qh zsV
 obtain⟨R1,hR1⟩:∃R:List zM,R=(List.range n).flatMap MT:=⟨_,rfl⟩
 obtain⟨R2,hR2⟩:∃R:List zu,R=(List.range n).flatMap NT:=⟨_,rfl⟩
 rw [<-hR1, <-hR2]
 have HR1:=qh hR1
 have HR2:=qh hR2
 clear hn hcn hmn hb hB h1 h2 h3 hT hall zsU jE zsV hF0 hR1 hR2
 go_enter Tryz.func49,Tryz.ntmps49
 go_upto_region 1 with fail
 generalize World.alloc (World.alloc (World.alloc w _) _) _=W at HB H1 H2 H3 ⊢
 obtain⟨gx,hgx⟩:∃gx,gx=w.heap.size:=⟨_,rfl⟩
 rw [<-hgx] at H1 H2 H3 ⊢
 have yS:Hid (w.heap.size<=W.heap.size):=HB.out.size
 clear hgx
 have xD:Hid (∀y,Below W.heap.size W y->y.cell? ⟨gx,0,none⟩=some (.int .i64 vars)/\y.cell? ⟨gx,1,none⟩=some (.int .i64 dom)/\y.cell? ⟨gx,2,none⟩=some (.slice ca cn cc)/\
   y.cell? ⟨gx+1,0,none⟩=some (.int .i64 mod)/\y.cell? ⟨gx+1,1,none⟩=some (.int .i64 bnd)/\y.cell? ⟨gx+2,0,none⟩=some (.slice ta n qm)/\y.cell? ⟨gx+2,1,none⟩=some (.slice ma mn xV)/\y.cell? ⟨gx+2,2,none⟩=some (.bool bad)):=fun y hx=>
  ⟨zl hx _ _ (zi H1.out 0),zl hx _ _ (zi H1.out 1),zl hx _ _ (zi H1.out 2),zl hx _ _ (zi H2.out 0),zl hx _ _ (zi H2.out 1),zl hx _ _ (zi H3.out 0),zl hx _ _ (zi H3.out 1),zl hx _ _ (zi H3.out 2)⟩
 have yu:Hid (∀y,Below W.heap.size W y->Below w.heap.size w y):=fun y hy=>HB.out.trans (hy.mono HB.out.size)
 have HN0:Hid (vM F0 W W (.slice none 0 0) (.slice none 0 0) [] [] []):=vM.begin (Below.refl _ _)
 obtain⟨c0,c1,c2,c3,c4,c5,c6,c7⟩:=xD.out W (Below.refl _ _)
 clear H1 H2 H3
 go_wp2_with fail
 clear c0 c1 c2 c3 c4 c5 c6 c7
 go_loopg [6,7,20] n (fun gg s6 s7 s20 wr=>∃(i:Nat) (oa:Option Addr) (on oc:Nat) (ml:List zM) (na:Option Addr) (nc:Nat) (nl:List zu) (css:List (List Value)),i<=n/\Hid (gg=n - i)/\s6= .slice oa on oc/\s7= .slice na on nc/\s20= .int .i64 i/\on<=1000001*i/\Hid (vM F0 W wr (.slice oa on oc) (.slice na on nc) ml nl css)/\Hid (ml.length=on/\nl.length=on)/\Hid (ml=(List.range i).flatMap MT/\nl=(List.range i).flatMap NT))
 case atStart=>exact⟨0,none,0,0, [],none,0, [], [],Nat.zero_le _,rfl,rfl,rfl,rfl,by omega,HN0.out,⟨rfl,rfl⟩,⟨rfl,rfl⟩⟩
 case round=>
  obtain⟨i,oa,on,oc,ml,na,nc,nl,css,hi,HG,rfl,rfl,rfl,hon,HL,gV,HML⟩:=hrel
  obtain⟨wo,rfl⟩:∃wo:World,wo=wr:=⟨_,rfl⟩
  clear HN0
  by_cases hlt:i<n
  rotate_left
  ·obtain rfl:n=i:=by omega
   have yj:=qh (HL.out.fin HB.out gV.out.1 gV.out.2)
   have hr1:R1=ml:=by rw [HR1.out,HML.out.1]
   have hr2:R2=nl:=by rw [HR2.out,HML.out.2]
   have HQ1:=qh hr1
   have HQ2:=qh hr2
   clear hr1 hr2
   go_wp2_with fail
   go_ret2
   rw [HQ1.out,HQ2.out]
   exact yj.out
  have qQ:(i:Int)<(n:Int):=by omega
  obtain⟨tb,yB,ba,bc,hta, -,hrl,x0,x1,x2,x3,x4,x5,hbuf⟩:=xY.part HT.out i (by rw [<-HN.out];exact hlt)
  subst hta
  have hbl:=HBU.out i hlt
  have hat:=HAT.out i
  have hal:=zr0.out i hlt
  generalize ts.getD i default=t at x0 x1 x2 x3 x4 x5 hbuf hbl hat hrl
  obtain⟨pc,regs,buf⟩:=t
  obtain⟨q0,q1,q2,q3,rfl⟩:=j4 hrl
  simp only [List.getD_cons_zero,List.getD_cons_succ] at x0 x1 x2 x3 x4 x5 hbuf hbl hat
  obtain⟨hh,hhh⟩:∃hh,hh=yF buf mod:=⟨_,rfl⟩
  rw [<-hhh] at hat
  have hhl:hh.length<=1000000:=by have:=zc0 buf mod;rw [hhh];omega
  obtain⟨bl,jm⟩:∃bl,bl=buf.length:=⟨_,rfl⟩
  rw [<-jm] at x5 hbuf
  have uw:Hid (∀y,Below w.heap.size w y->Calls Tryz.prog 79 #[.slice ba bl bc, .int .i64 mod] y fun e w'=>(∃va vc,e= .returned (.slice va hh.length vc)/\w'.ownsRow y.heap.size 3 1 (.slice va hh.length vc) hh.length (zq yK hh))/\Below y.heap.size y w'):=fun y hy=>
   (zf9 y (.slice ba bl bc) buf (zQ.below hbuf hy) (by omega) mod).mono fun e w' ⟨⟨sv,he,ho⟩,hb⟩=>by
    rw [<-hhh] at ho
    obtain⟨a,cp,rfl, -⟩:=qz ho
    exact⟨⟨a,cp,he,ho⟩,hb⟩
  obtain⟨ai,hai⟩:∃ai,ai=AT i:=⟨_,rfl⟩
  rw [<-hai] at hat hal
  obtain⟨hn,hhn⟩:∃hn,hn=hh.length:=⟨_,rfl⟩
  rw [<-hhn] at uw hhl
  have HHN:=qh hhn
  have zsW:=qh hat
  have zzL:=qh hal
  have hwo:=yu.out wo HL.out.below
  have y0:=zl hwo _ _ x0
  have y1:=zl hwo _ _ x1
  have y2:=zl hwo _ _ x2
  have y3:=zl hwo _ _ x3
  have y4:=zl hwo _ _ x4
  have y5:=zl hwo _ _ x5
  obtain⟨-, -, -, -, -,c5,c6,c7⟩:=xD.out wo HL.out.below
  have HA:=qh ((Below.refl wo.heap.size wo).alloc (Nat.le_refl _) (.cells #[.int .i64 pc, .int .i64 q0, .int .i64 q1, .int .i64 q2, .int .i64 q3, .slice ba bl bc] 48))
  have HY:=qh (yD wo (.cells #[.int .i64 pc, .int .i64 q0, .int .i64 q1, .int .i64 q2, .int .i64 q3, .slice ba bl bc] 48))
  clear x0 x1 x2 x3 x4 x5 hbuf hbl hhh jm hat hal hhn hwo hrl hai
  go_upto_region 4 with fail
  clear y0 y1 y2 y3 y4 y5 c5 c6 c7
  generalize World.alloc wo _=X at HA HY ⊢
  obtain⟨gl,hgl⟩:∃g,g=wo.heap.size:=⟨_,rfl⟩
  rw [<-hgl] at HY ⊢
  clear hgl
  have HLX:=qh (HL.out.later HA.out)
  have HA2:=qh ((Below.refl X.heap.size X).alloc (Nat.le_refl _) (.cells #[.int .i64 1, .int .i64 (i:Int), .int .i64 0] 32))
  have HY2:=qh (yD X (.cells #[.int .i64 1, .int .i64 (i:Int), .int .i64 0] 32))
  clear HL HA
  go_upto_region 5 with fail
  generalize World.alloc X _=X2 at HA2 HY2 ⊢
  obtain⟨ga,hga⟩:∃g,g=X.heap.size:=⟨_,rfl⟩
  rw [<-hga] at HY2 ⊢
  have HGA:Hid (ga=X.heap.size):=hga
  clear hga
  have pX:Hid (W.heap.size<=X.heap.size):=HLX.out.below.size
  have zzN:=qh ((HLX.out.less (F1:=fun k=>F0 k\/X.heap.size<=k) (fun _ hk=>hk)).later HA2.out)
  have zsX:=qh (HLX.out.later HA2.out)
  have HRA:Hid (X2.ownsRow X.heap.size 32 3 (.slice (some ⟨ga,0,none⟩) 1 1) 1 (zq zM.cells [⟨1,(i:Int),0⟩])):=jJ (n:=1) (cs:=zq zM.cells [⟨1,(i:Int),0⟩]) HY2.out (by rw [HGA.out];exact Nat.le_refl _) rfl (by decide)
  have zzO:Hid (∀k,(Value.slice oa on oc).ownBlock=some k->(Value.slice (some ⟨ga,0,none⟩) 1 1).ownBlock≠some k):=fun k hk e=>by
   have h1:=(HLX.out.row.lt k hk).2
   have h2:ga=k:=by cases e;rfl
   have:=HGA.out
   omega
  have d5:X2.cell? ⟨gl,5,none⟩=some (.slice ba bl bc):=zl HA2.out _ _ (zi HY.out 5)
  obtain⟨-, -, -,c3, -, -, -, -⟩:=xD.out X2 zsX.out.below
  clear HLX HA2 HY HY2
  go_wp2_with(go_at_call 79;go_must(refine(uw.out X2 (yu.out X2 zsX.out.below)).mono ?_);rintro e W2 ⟨⟨va,vc,rfl,hhr⟩,hb2⟩;(have HHR:=qh hhr);(have HL2:=qh (zzN.out.later hb2));(have zzP:=qh (xS HRA.out hb2));(have HG2:Hid (X.heap.size<=W2.heap.size/\X2.heap.size<=W2.heap.size):=⟨Nat.le_trans (by have:=(HRA.out.lt ga rfl).2;have:=HGA.out;omega) hb2.size,hb2.size⟩);clear hb2 hhr)
  clear d5 c3
  have zzQ:Hid (∀k,(Value.slice (some ⟨ga,0,none⟩) 1 1).ownBlock=some k->(Value.slice va hn vc).ownBlock≠some k):=fun k hk e=>by
   have h1:=(HRA.out.lt k hk).2
   have h2:=(HHR.out.lt k e).1
   omega
  clear zsX zzN HRA uw
  go_loopg [10,34] hn (fun gg s10 s34 wr=>∃(k:Nat) (aa:Option Addr) (ac:Nat) (al:List zM),k<=hn/\Hid (gg=hn - k)/\s10= .slice aa (k+1) ac/\s34= .int .i64 k/\Hid (wr.ownsRow X.heap.size 32 3 (.slice aa (k+1) ac) (k+1) (zq zM.cells al))/\Hid (al=⟨1,(i:Int),0⟩::(hh.take k).map (fun v=>⟨2,(i:Int),v⟩))/\Hid (∃B,wr.ownsRow B 3 1 (.slice va hn vc) hn (zq yK hh))/\Hid (∀k',(Value.slice aa (k+1) ac).ownBlock=some k'->(Value.slice va hn vc).ownBlock≠some k')/\
   Hid (∀k',(Value.slice oa on oc).ownBlock=some k'->(Value.slice aa (k+1) ac).ownBlock≠some k')/\Hid (vM (fun k=>F0 k\/X.heap.size<=k) W wr (.slice oa on oc) (.slice na on nc) ml nl css)/\Hid (X.heap.size<=wr.heap.size))
  case atStart=>exact⟨0,some ⟨ga,0,none⟩,1, [⟨1,(i:Int),0⟩],Nat.zero_le _,rfl,rfl,rfl,zzP.out,by simp [Hid],⟨_,HHR.out⟩,zzQ.out,zzO.out,HL2.out,HG2.out.1⟩
  case round=>
   obtain⟨k,aa,ac,al,hk,zBj,rfl,rfl,HRW,HAL,HHB,HNV,HNA,HLW,HXS⟩:=hrel
   clear zzP HHR zzQ zzO HL2 HG2
   by_cases hkl:k<hn
   ·have zxl:(k:Int)<(hn:Int):=by omega
    obtain⟨BH,hhr⟩:=HHB.out
    have hrw:=hhr
    rw [HHN.out] at hrw
    obtain⟨b9,o9,yx, -,e1⟩:=xJ.part (gL hrw) k (by rw [<-HHN.out];exact hkl)
    subst yx
    have HRB:=qh hhr
    clear hhr hrw
    have jM:Hid (hh.take (k+1)=hh.take k++ [hh.getD k 0]):=by rw [Hid,List.take_succ_eq_append_getElem (by rw [<-HHN.out];exact hkl),List.getD_eq_getElem?_getD,List.getElem?_eq_getElem (by rw [<-HHN.out];exact hkl)];rfl
    generalize hh.getD k 0=v at e1 jM
    have z4f:Hid (∀(X':World) (a':Option Addr) (c':Nat) (o:Obj),X'.ownsRow X.heap.size 32 3 (.slice a' (k+1+1) c') (k+1+1) (zq zM.cells al++zM.cells ⟨2,(i:Int),v⟩)->Since (fun x=>(Value.slice aa (k+1) ac).ownBlock=some x) (wr.alloc o) X'->(∀x,(Value.slice a' (k+1+1) c').ownBlock=some x->(Value.slice aa (k+1) ac).ownBlock=some x\/x=(wr.alloc o).heap.size)->
      X'.ownsRow X.heap.size 32 3 (.slice a' (k+1+1) c') (k+1+1) (zq zM.cells (al++ [⟨2,(i:Int),v⟩]))/\(∃B,X'.ownsRow B 3 1 (.slice (some ⟨b9,o9,none⟩) hn vc) hn (zq yK hh))/\(∀x,(Value.slice a' (k+1+1) c').ownBlock=some x->(Value.slice (some ⟨b9,o9,none⟩) hn vc).ownBlock≠some x)/\
      (∀x,(Value.slice oa on oc).ownBlock=some x->(Value.slice a' (k+1+1) c').ownBlock≠some x)/\vM (fun k=>F0 k\/X.heap.size<=k) W X' (.slice oa on oc) (.slice na on nc) ml nl css/\X.heap.size<=X'.heap.size):=fun X' a' c' o f1 f4 f5=>by
     obtain⟨g1,g2⟩:=zey HRB.out HNV.out f4 f5
     have hso:=HLW.out.side (o:=o) HRW.out (fun _ h=> .inr h) pX.out HNA.out f4
     refine⟨by rw [zd3];exact f1,⟨_,g1⟩,g2,fun x hx e=> ?_,hso,Nat.le_trans HXS.out (Nat.le_trans (by simp) f4.size)⟩
     rcases f5 x e with e'|e'
     ·exact HNA.out x hx e'
     ·have h1:=(HLW.out.row.lt x hx).2
      simp at e'
      omega
    go_wp2_with(at_builtin;go_must(refine yg _ rfl _ _ 52 rfl 32 (.agg #[.int .i64 0, .int .i64 0, .int .i64 0]) 3 24 Tryz.underlying52 uY rfl (by decide) X.heap.size (.slice aa (k+1) ac) (k+1) (zq zM.cells al) rfl ((HRW.out).alloc _) ⟨wr.heap.size,0,none⟩ 1 1 (zM.cells ⟨2,i,v⟩) rfl rfl (jI _ (zM.cells ⟨2,i,v⟩) _) (by simp [zM.cells,Value.oneCell']) (by unfold maxLen;omega) (by omega) (by have:=HXS.out;simp;omega) ?_);intro ja jc Y f1 f2 f3 f4 f5 f6;have HE:=qh (z4f.out Y ja jc _ f1 f4 f5);clear f1 f2 f3 f4 f5 f6)
    go_roundg (hn - (k+1))
    case measure=>rw [zBj.out];omega
    case rel=>exact⟨k+1,ja,jc,al++ [(⟨2,(i:Int),v⟩:zM)],by omega,rfl,rfl,by simp,HE.out.1,by rw [Hid,HAL.out,jM.out];simp,HE.out.2.1,HE.out.2.2.1,HE.out.2.2.2.1,HE.out.2.2.2.2.1,HE.out.2.2.2.2.2⟩
   obtain rfl:hn=k:=by omega
   have zuz:Hid (al=ai):=by rw [Hid,HAL.out,zsW.out,HHN.out,List.take_length]
   have zBk:=zuz.out
   subst zBk
   have zgP:Hid (∀k,k<al.length->(al.getD k default).thread=(i:Int)):=fun k hk=>by
    have hm:al.getD k default∈al:=vG hk
    generalize al.getD k default=y at hm
    rw [zsW.out] at hm
    rcases List.mem_cons.1 hm with rfl|hm
    ·rfl
    ·obtain⟨v, -,rfl⟩:=List.mem_map.1 hm
     rfl
   clear zuz HAL HHB HNV zsW
   have hlen:al.length=hn+1:=by
    have:=HRW.out.1
    rw [jy zie] at this
    omega
   have HLEN:=qh hlen
   clear hlen
   go_wp2_with fail
   go_loopg [6,7,47] (hn+1) (fun gg s6 s7 s47 wr=>∃(k:Nat) (pa:Option Addr) (pn pc':Nat) (pl:List zM) (ra:Option Addr) (rc:Nat) (rl:List zu) (rss:List (List Value)),k<=hn+1/\Hid (gg=hn+1 - k)/\s6= .slice pa pn pc'/\s7= .slice ra pn rc/\s47= .int .i64 k/\pn<=on+k/\Hid (vM F0 W wr (.slice pa pn pc') (.slice ra pn rc) pl rl rss)/\Hid (pl.length=pn/\rl.length=pn)/\Hid (pl=ml++(al.take k).filter (fun x=>(TM i x).isSome)/\rl=nl++(al.take k).filterMap (TM i))/\
    Hid (wr.ownsRow X.heap.size 32 3 (.slice aa (hn+1) ac) (hn+1) (zq zM.cells al))/\Hid (∀x,(Value.slice pa pn pc').ownBlock=some x->(Value.slice aa (hn+1) ac).ownBlock≠some x))
   case atStart=>exact⟨0,oa,on,oc,ml,na,nc,nl,css,Nat.zero_le _,rfl,rfl,rfl,rfl,by omega,HLW.out.less (fun _ h=> .inl (.inl h)),gV.out,by simp [Hid],HRW.out,HNA.out⟩
   case round=>
    obtain⟨k,pa,pn,pc',pl,ra,rc,rl,rss,hk,jk,rfl,rfl,rfl,hpn,HLP,HPN,wT,HRA,HNP⟩:=hrel
    clear HLW HRW HNA
    by_cases hkl:k<hn+1
    rotate_left
    ·obtain rfl:k=hn+1:=by omega
     have hst:pl=(List.range (i+1)).flatMap MT/\rl=(List.range (i+1)).flatMap NT:=by
      have e:al.take (hn+1)=al:=by rw [<-HLEN.out,List.take_length]
      rw [zaM,zaM, <-HML.out.1, <-HML.out.2,wT.out.1,wT.out.2,e,zzL.out.1,zzL.out.2]
      exact⟨rfl,rfl⟩
     have HST:=qh hst
     clear hst
     go_wp2_with fail
     go_roundg (n - (i+1))
     case measure=>rw [HG.out];omega
     case rel=>exact⟨i+1,pa,pn,pc',pl,ra,rc,rl,rss,by omega,rfl,rfl,rfl,by simp,by omega,HLP.out,HPN.out,HST.out⟩
    have zxl:(k:Int)<((hn:Int)+1):=by omega
    have hra:=HRA.out
    have zzS:wr.ownsRow X.heap.size 32 3 (.slice aa (hn+1) ac) al.length (zq zM.cells al):=by rw [HLEN.out];exact hra
    obtain⟨b9,o9,yx, -,e1,e2,e3⟩:=j3.part (by have:=zcy zzS;exact this) k (by rw [HLEN.out];exact hkl)
    subst yx
    have htk:=zkq (l:=al) (k:=k) (by rw [HLEN.out];exact hkl) (fun x=>(TM i x).isSome)
    have znk:=zgT (l:=al) (k:=k) (by rw [HLEN.out];exact hkl) (TM i)
    have hth:(al.getD k default).thread=(i:Int):=zgP.out k (by rw [HLEN.out];exact hkl)
    obtain⟨x,hx⟩:∃x,x=al.getD k default:=⟨_,rfl⟩
    rw [<-hx] at e1 e2 e3 htk znk hth
    rw [hth] at e2
    have htr:=fun y hy=>zsf.out y i x hy hlt hth
    have hxe:zM.cells x= [.int .i64 x.kind, .int .i64 (i:Int), .int .i64 x.var] :=by unfold zM.cells;rw [hth]
    obtain⟨tr,zzT⟩:∃r,r=TM i x:=⟨_,rfl⟩
    rw [<-zzT] at htk znk htr
    obtain⟨xk,hxk⟩:∃q,q=x.kind:=⟨_,rfl⟩
    obtain⟨xv,hxv⟩:∃q,q=x.var:=⟨_,rfl⟩
    rw [<-hxk] at e1 htr
    rw [<-hxv] at e3 htr
    rw [<-hxk, <-hxv] at hxe
    have HTR:=qh htr
    have jM:=qh htk
    have znl:=qh znk
    have HCX:=qh hxe
    have HA:=qh ((Below.refl wr.heap.size wr).alloc (Nat.le_refl _) (.cells #[.int .i64 xk, .int .i64 (i:Int), .int .i64 xv] 32))
    have HY:=qh (yD wr (.cells #[.int .i64 xk, .int .i64 (i:Int), .int .i64 xv] 32))
    clear hra zzS htk znk hth hx htr hxe zzT hxk hxv
    go_upto_region 13 with fail
    clear e1 e2 e3
    generalize World.alloc wr _=Y at HA HY ⊢
    obtain⟨gm,hgm⟩:∃g,g=wr.heap.size:=⟨_,rfl⟩
    rw [<-hgm] at HY ⊢
    have HGM:=qh hgm
    clear hgm
    have HNM:Hid (∀x,(Value.slice pa pn pc').ownBlock=some x\/(Value.slice ra pn rc).ownBlock=some x->x<gm):=fun x hx=>by
     rw [HGM.out]
     rcases hx with e|e
     ·exact(HLP.out.row.lt x e).2
     ·exact(HLP.out.st.row.lt x e).2
    have qD:=qh (HLP.out.later HA.out)
    have gX:=qh (xS HRA.out HA.out)
    obtain⟨c0,c1,c2,c3,c4,c5,c6,c7⟩:=xD.out Y qD.out.below
    have d0:Y.cell? ⟨gm,0,none⟩=some (.int .i64 xk):=zi HY.out 0
    have d1:Y.cell? ⟨gm,1,none⟩=some (.int .i64 (i:Int)):=zi HY.out 1
    have d2:Y.cell? ⟨gm,2,none⟩=some (.int .i64 xv):=zi HY.out 2
    clear HLP HRA
    go_upto_if 59 with(go_at_call 50;go_must(refine(HTR.out Y (yu.out Y qD.out.below)).mono ?_);rintro e Z zsY;(obtain⟨xa,xn,xc,ya,yn,yc,bd,isv,rfl,zzV⟩:=zsY.told);(have HZ:=qh zsY.1);(have HTE:=qh zzV);clear zsY zzV c0 c1 c2 c3 c4 c5 c6 c7 d0 d1 d2)
    have HLZ:=qh (qD.out.later HZ.out)
    have HRZ:=qh (xS gX.out HZ.out)
    have HGZ:Hid (Z.heap[gm]? =some (.cells #[.int .i64 xk, .int .i64 (i:Int), .int .i64 xv] 32 (0,0))):=(HZ.out.block gm (zw HY.out)).trans HY.out
    have HA4:=qh ((Below.refl Z.heap.size Z).alloc (Nat.le_refl _) (.cells #[.slice xa xn xc, .slice ya yn yc, .bool bd] 30))
    have wu:=qh (yD Z (.cells #[.slice xa xn xc, .slice ya yn yc, .bool bd] 30))
    have HU1:Hid (∀x,(Value.slice pa pn pc').ownBlock=some x->w.heap.size<=x/\x<Y.heap.size):=fun x hx=>by
     have:=qD.out.row.lt x hx
     have:=yS.out
     omega
    have HU2:Hid (∀x,(Value.slice ra pn rc).ownBlock=some x->w.heap.size<=x/\x<Y.heap.size):=fun x hx=>by
     have:=qD.out.st.row.lt x hx
     have:=yS.out
     omega
    have HAW:Hid (∀t,tr=some t->bd=t.bad/\yM (NF F0 (.slice pa pn pc') (.slice ra pn rc)) Z (fun y=>zaw y t [.slice xa xn xc, .slice ya yn yc, .bool bd])):=fun t ht=>by
     obtain⟨e1,e2⟩:=HTE.out.2 t ht
     subst e1
     exact⟨rfl,zBi.out Y Z t _ _ _ _ (yu.out Y qD.out.below) e2 HU1.out HU2.out⟩
    have HIS:=qh HTE.out.1
    clear HTE HU1 HU2 qD gX HY HA
    generalize World.alloc Z _=V at HA4 wu ⊢
    obtain⟨gt,hgt⟩:∃g,g=Z.heap.size:=⟨_,rfl⟩
    rw [<-hgt] at wu ⊢
    have hgg:gm<gt:=by rw [hgt];exact zw HGZ.out
    have zzX:Hid (¬((Value.slice pa pn pc').ownBlock=some gm\/(Value.slice ra pn rc).ownBlock=some gm)/\¬((Value.slice pa pn pc').ownBlock=some gt\/(Value.slice ra pn rc).ownBlock=some gt)):=⟨fun e=>by have:=HNM.out gm e;omega,fun e=>by have:=HNM.out gt e;omega⟩
    clear hgt hgg HNM
    have HLV:=qh (HLZ.out.later HA4.out)
    have HRV:=qh (xS HRZ.out HA4.out)
    have HGV:Hid (V.heap[gm]? =some (.cells #[.int .i64 xk, .int .i64 (i:Int), .int .i64 xv] 32 (0,0))):=(HA4.out.block gm (zw HGZ.out)).trans HGZ.out
    have zBl:Hid (∀t,tr=some t->yM (NF F0 (.slice pa pn pc') (.slice ra pn rc)) V (fun y=>zaw y t [.slice xa xn xc, .slice ya yn yc, .bool bd])):=fun t ht=>(HAW.out t ht).2.step (G:=fun _=>False) (kQ _ HA4.out) (fun _ h=>h.elim) (fun _ hk=> .inl hk)
    clear HAW HLZ HRZ HGZ HA4 HZ
    cases tr with
    |none=>
     have his:=HIS.out
     simp only [Option.isSome_none] at his
     subst his
     go_wp2_with fail
     go_roundg (hn+1 - (k+1))
     case measure=>rw [jk.out];omega
     case rel=>exact⟨k+1,pa,pn,pc',pl,ra,rc,rl,rss,by omega,rfl,rfl,rfl,by simp,by omega,HLV.out,HPN.out,⟨by rw [wT.out.1,jM.out];simp,by rw [wT.out.2,znl.out];simp⟩,HRV.out,HNP.out⟩
    |some t=>
     have his:=HIS.out
     simp only [Option.isSome_some] at his
     subst his
     have haw:=zBl.out t rfl
     have zsZ:=qh haw
     clear haw
     have zff:=HPN.out.1
     have zfg:=HPN.out.2
     go_wp2_with fail
     have CC:Hid (∀y,Since (fun x=>(Value.slice pa pn pc').ownBlock=some x\/(Value.slice ra pn rc).ownBlock=some x) V y->y.cell? ⟨gm,0,none⟩=some (.int .i64 xk)/\y.cell? ⟨gm,1,none⟩=some (.int .i64 (i:Int))/\y.cell? ⟨gm,2,none⟩=some (.int .i64 xv)/\y.cell? ⟨gt,0,none⟩=some (.slice xa xn xc)/\y.cell? ⟨gt,1,none⟩=some (.slice ya yn yc)/\y.cell? ⟨gt,2,none⟩=some (.bool bd)):=fun y hy=>by
      have hm:¬((Value.slice pa pn pc').ownBlock=some gm\/(Value.slice ra pn rc).ownBlock=some gm):=zzX.out.1
      have ht:¬((Value.slice pa pn pc').ownBlock=some gt\/(Value.slice ra pn rc).ownBlock=some gt):=zzX.out.2
      have h1:=(hy.block gm (zw HGV.out) hm).trans HGV.out
      have h2:=(hy.block gt (zw wu.out) ht).trans wu.out
      exact⟨zi h1 0,zi h1 1,zi h1 2,zi h2 0,zi h2 1,zi h2 2⟩
     refine wp_region_noPanic ?_
     refine wp_region_held_drew (S:=fun y=>Since (fun x=>(Value.slice pa pn pc').ownBlock=some x\/(Value.slice ra pn rc).ownBlock=some x) V y) (by kernel_rfl) (Since.refl _ _).drew (fun _=> ?_)
     have hT0:=qh (ug.start (B:=W.heap.size) (by have:=HLV.out.row;rw [zff] at this;exact this) (by have:=HLV.out.st.row;rw [zfg] at this;exact this) HLV.out.below.size)
     obtain⟨V1,hV1⟩:∃V1,V1=V.drew:=⟨_,rfl⟩
     rw [<-hV1] at hT0 ⊢
     clear hV1
     refine zy 0 60 ?vn1 rfl ?zqN (hT0.out.since) ?_
     case zqN=>(intro _ _;go_simp<;>rfl)
     simp only [Act.put,za,ze,zh]
     refine zy 1 61 ?vn2 rfl ?zqO (hT0.out.since) ?_
     case zqO=>(intro x h;have e:=CC.out x h;go_simp<;>rfl)
     simp only [Act.put,za,ze,zh]
     refine zy 4 64 ?vn3 rfl ?zqP (hT0.out.since) ?_
     case zqP=>(intro _ _;go_simp<;>rfl)
     simp only [Act.put,za,ze,zh]
     refine zy 5 65 ?vn4 rfl ?zqQ (hT0.out.since) ?_
     case zqQ=>(intro x h;have e:=CC.out x h;go_simp<;>rfl)
     simp only [Act.put,za,ze,zh]
     refine wpAnyH_ready (rs:= [2,6]) (by kernel_rfl) (by simp) ?_
     refine AllReadyH.cons rfl (fun K hK=> ?_) (AllReadyH.cons rfl (fun K hK=> ?_) AllReadyH.nil)
     ·skip
      go_simp
      have zbT:=hT0.out.alloc 32 [.int .i64 xk, .int .i64 (i:Int), .int .i64 xv]
      refine hK.out _ _ zbT.since (fun _=> ?_)
      obtain⟨nb1,zjN⟩:∃n,n=V1.heap.size:=⟨_,rfl⟩
      rw [<-zjN] at zbT ⊢
      clear zjN
      generalize World.alloc V1 _=Xn2 at zbT ⊢
      replace zbT:=qh zbT
      clear hK K
      refine wpAnyH_ready (rs:= [3,6]) (by kernel_rfl) (by simp) ?_
      refine AllReadyH.cons rfl (fun K hK=> ?_) (AllReadyH.cons rfl (fun K hK=> ?_) AllReadyH.nil)
      ·skip
       refine zT Xn2 (by rfl) (.tmp 60) (.tmp 62) 52 rfl 32 (.agg #[.int .i64 0, .int .i64 0, .int .i64 0]) 3 24 Tryz.underlying52 uY rfl (by decide) W.heap.size (.slice pa pn pc') pn (zq zM.cells pl) (by rfl) zbT.out.r1 ⟨nb1,0,none⟩ 1 1 [.int .i64 xk, .int .i64 (i:Int), .int .i64 xv] (by rfl) rfl (zbT.out.cell (b:=nb1) (t:=32) (cs:= [.int .i64 xk, .int .i64 (i:Int), .int .i64 xv]) (by simp)) (by simp [Value.oneCell']) (by unfold maxLen;omega) (by omega) zbT.out.base ?_
       intro ma' mc' Xn4 e1 e2 e3 e4 e5
       have zzZ:=qh (zbT.out.app1 (by decide) e1 e4 e5)
       clear e1 e2 e3 e4 e5
       refine hK.out _ _ zzZ.out.since (fun _=> ?_)
       change wpAnyH _ _ _ _ _ _ _ (Act.put _ (some 63) _) _
       simp only [Act.put,za]
       try simp only [ze,zh]
       clear hK K
       refine zY 6 rfl (fun K hK=> ?_)
       go_simp
       have zcN:=zzZ.out.alloc 30 [.slice xa xn xc, .slice ya yn yc, .bool bd]
       refine hK.out _ _ zcN.since (fun _=> ?_)
       obtain⟨nb2,zdR⟩:∃n,n=Xn4.heap.size:=⟨_,rfl⟩
       rw [<-zdR] at zcN ⊢
       clear zdR
       generalize World.alloc Xn4 _=Xn6 at zcN ⊢
       replace zcN:=qh zcN
       clear hK K
       refine zY 7 rfl (fun K hK=> ?_)
       refine zT Xn6 (by rfl) (.tmp 64) (.tmp 66) 67 rfl 30 (.agg #[.slice none 0 0, .slice none 0 0, .bool false]) 3 56 Tryz.underlying67 zcO rfl (by decide) W.heap.size (.slice ra pn rc) pn rss.flatten (by rfl) zcN.out.r2 ⟨nb2,0,none⟩ 1 1 [.slice xa xn xc, .slice ya yn yc, .bool bd] (by rfl) rfl (zcN.out.cell (b:=nb2) (t:=30) (cs:= [.slice xa xn xc, .slice ya yn yc, .bool bd]) (by simp)) (by simp [Value.oneCell']) (by unfold maxLen;omega) (by omega) zcN.out.base ?_
       intro ra' rc' Xn8 e1 e2 e3 e4 e5
       have zjO:=qh (zcN.out.zr8 (by decide) e1 e4 e5)
       clear e1 e2 e3 e4 e5
       refine hK.out _ _ zjO.out.since (fun _=> ?_)
       change wpAnyH _ _ _ _ _ _ _ (Act.put _ (some 67) _) _
       simp only [Act.put,za]
       try simp only [ze,zh]
       clear hK K
       refine zy 8 6 ?vn5 rfl ?zqR (zjO.out.since) ?_
       case zqR=>(intro _ _;go_simp<;>rfl)
       simp only [Act.put,za,ze,zh]
       refine zy 9 7 ?vn6 rfl ?zqS (zjO.out.since) ?_
       case zqS=>(intro _ _;go_simp<;>rfl)
       simp only [Act.put,za,ze,zh]
       refine wpAnyH_done (by kernel_rfl) ?_ _
       refine NoPanic.normal ?_
       have HE:=qh (HLV.out.push (x:=x) (t:=t) (cs:= [.slice xa xn xc, .slice ya yn yc, .bool bd]) (by rw [zff,zfg,HCX.out];exact zjO.out) zsZ.out rfl)
       have HE2:=qh (HLV.out.beside HRV.out HNP.out zjO.out)
       go_wp2_with fail
       go_roundg (hn+1 - (k+1))
       case measure=>rw [jk.out];omega
       case rel=>exact⟨k+1,ma',pn+1,mc',pl++ [x],ra',rc',rl++ [t],rss++ [[Value.slice xa xn xc,Value.slice ya yn yc,Value.bool bd]],by omega,rfl,rfl,rfl,by simp,by omega,HE.out,⟨by rw [List.length_append,zff];rfl,by rw [List.length_append,zfg];rfl⟩,⟨by rw [wT.out.1,jM.out,List.append_assoc];rfl,by rw [wT.out.2,znl.out,List.append_assoc]⟩,HE2.out.1,HE2.out.2⟩
      ·skip
       go_simp
       have zcP:=zbT.out.alloc 30 [.slice xa xn xc, .slice ya yn yc, .bool bd]
       refine hK.out _ _ zcP.since (fun _=> ?_)
       obtain⟨nb2,zdR⟩:∃n,n=Xn2.heap.size:=⟨_,rfl⟩
       rw [<-zdR] at zcP ⊢
       clear zdR
       generalize World.alloc Xn2 _=zBm at zcP ⊢
       replace zcP:=qh zcP
       clear hK K
       refine zY 3 rfl (fun K hK=> ?_)
       refine zT zBm (by rfl) (.tmp 60) (.tmp 62) 52 rfl 32 (.agg #[.int .i64 0, .int .i64 0, .int .i64 0]) 3 24 Tryz.underlying52 uY rfl (by decide) W.heap.size (.slice pa pn pc') pn (zq zM.cells pl) (by rfl) zcP.out.r1 ⟨nb1,0,none⟩ 1 1 [.int .i64 xk, .int .i64 (i:Int), .int .i64 xv] (by rfl) rfl (zcP.out.cell (b:=nb1) (t:=32) (cs:= [.int .i64 xk, .int .i64 (i:Int), .int .i64 xv]) (by simp)) (by simp [Value.oneCell']) (by unfold maxLen;omega) (by omega) zcP.out.base ?_
       intro ma' mc' zBn e1 e2 e3 e4 e5
       have zgq:=qh (zcP.out.app1 (by decide) e1 e4 e5)
       clear e1 e2 e3 e4 e5
       refine hK.out _ _ zgq.out.since (fun _=> ?_)
       change wpAnyH _ _ _ _ _ _ _ (Act.put _ (some 63) _) _
       simp only [Act.put,za]
       try simp only [ze,zh]
       clear hK K
       refine zY 7 rfl (fun K hK=> ?_)
       refine zT zBn (by rfl) (.tmp 64) (.tmp 66) 67 rfl 30 (.agg #[.slice none 0 0, .slice none 0 0, .bool false]) 3 56 Tryz.underlying67 zcO rfl (by decide) W.heap.size (.slice ra pn rc) pn rss.flatten (by rfl) zgq.out.r2 ⟨nb2,0,none⟩ 1 1 [.slice xa xn xc, .slice ya yn yc, .bool bd] (by rfl) rfl (zgq.out.cell (b:=nb2) (t:=30) (cs:= [.slice xa xn xc, .slice ya yn yc, .bool bd]) (by simp)) (by simp [Value.oneCell']) (by unfold maxLen;omega) (by omega) zgq.out.base ?_
       intro ra' rc' zJK e1 e2 e3 e4 e5
       have zgr:=qh (zgq.out.zr8 (by decide) e1 e4 e5)
       clear e1 e2 e3 e4 e5
       refine hK.out _ _ zgr.out.since (fun _=> ?_)
       change wpAnyH _ _ _ _ _ _ _ (Act.put _ (some 67) _) _
       simp only [Act.put,za]
       try simp only [ze,zh]
       clear hK K
       refine zy 8 6 ?vn7 rfl ?zqT (zgr.out.since) ?_
       case zqT=>(intro _ _;go_simp<;>rfl)
       simp only [Act.put,za,ze,zh]
       refine zy 9 7 ?vn8 rfl ?zqU (zgr.out.since) ?_
       case zqU=>(intro _ _;go_simp<;>rfl)
       simp only [Act.put,za,ze,zh]
       refine wpAnyH_done (by kernel_rfl) ?_ _
       refine NoPanic.normal ?_
       have HE:=qh (HLV.out.push (x:=x) (t:=t) (cs:= [.slice xa xn xc, .slice ya yn yc, .bool bd]) (by rw [zff,zfg,HCX.out];exact zgr.out) zsZ.out rfl)
       have HE2:=qh (HLV.out.beside HRV.out HNP.out zgr.out)
       go_wp2_with fail
       go_roundg (hn+1 - (k+1))
       case measure=>rw [jk.out];omega
       case rel=>exact⟨k+1,ma',pn+1,mc',pl++ [x],ra',rc',rl++ [t],rss++ [[Value.slice xa xn xc,Value.slice ya yn yc,Value.bool bd]],by omega,rfl,rfl,rfl,by simp,by omega,HE.out,⟨by rw [List.length_append,zff];rfl,by rw [List.length_append,zfg];rfl⟩,⟨by rw [wT.out.1,jM.out,List.append_assoc];rfl,by rw [wT.out.2,znl.out,List.append_assoc]⟩,HE2.out.1,HE2.out.2⟩
     ·skip
      go_simp
      have zem:=hT0.out.alloc 30 [.slice xa xn xc, .slice ya yn yc, .bool bd]
      refine hK.out _ _ zem.since (fun _=> ?_)
      obtain⟨nb2,zdR⟩:∃n,n=V1.heap.size:=⟨_,rfl⟩
      rw [<-zdR] at zem ⊢
      clear zdR
      generalize World.alloc V1 _=z0a at zem ⊢
      replace zem:=qh zem
      clear hK K
      refine zY 2 rfl (fun K hK=> ?_)
      go_simp
      have zaU:=zem.out.alloc 32 [.int .i64 xk, .int .i64 (i:Int), .int .i64 xv]
      refine hK.out _ _ zaU.since (fun _=> ?_)
      obtain⟨nb1,zjN⟩:∃n,n=z0a.heap.size:=⟨_,rfl⟩
      rw [<-zjN] at zaU ⊢
      clear zjN
      generalize World.alloc z0a _=zBo at zaU ⊢
      replace zaU:=qh zaU
      clear hK K
      refine zY 3 rfl (fun K hK=> ?_)
      refine zT zBo (by rfl) (.tmp 60) (.tmp 62) 52 rfl 32 (.agg #[.int .i64 0, .int .i64 0, .int .i64 0]) 3 24 Tryz.underlying52 uY rfl (by decide) W.heap.size (.slice pa pn pc') pn (zq zM.cells pl) (by rfl) zaU.out.r1 ⟨nb1,0,none⟩ 1 1 [.int .i64 xk, .int .i64 (i:Int), .int .i64 xv] (by rfl) rfl (zaU.out.cell (b:=nb1) (t:=32) (cs:= [.int .i64 xk, .int .i64 (i:Int), .int .i64 xv]) (by simp)) (by simp [Value.oneCell']) (by unfold maxLen;omega) (by omega) zaU.out.base ?_
      intro ma' mc' zBp e1 e2 e3 e4 e5
      have zgs:=qh (zaU.out.app1 (by decide) e1 e4 e5)
      clear e1 e2 e3 e4 e5
      refine hK.out _ _ zgs.out.since (fun _=> ?_)
      change wpAnyH _ _ _ _ _ _ _ (Act.put _ (some 63) _) _
      simp only [Act.put,za]
      try simp only [ze,zh]
      clear hK K
      refine zY 7 rfl (fun K hK=> ?_)
      refine zT zBp (by rfl) (.tmp 64) (.tmp 66) 67 rfl 30 (.agg #[.slice none 0 0, .slice none 0 0, .bool false]) 3 56 Tryz.underlying67 zcO rfl (by decide) W.heap.size (.slice ra pn rc) pn rss.flatten (by rfl) zgs.out.r2 ⟨nb2,0,none⟩ 1 1 [.slice xa xn xc, .slice ya yn yc, .bool bd] (by rfl) rfl (zgs.out.cell (b:=nb2) (t:=30) (cs:= [.slice xa xn xc, .slice ya yn yc, .bool bd]) (by simp)) (by simp [Value.oneCell']) (by unfold maxLen;omega) (by omega) zgs.out.base ?_
      intro ra' rc' zJL e1 e2 e3 e4 e5
      have zgt:=qh (zgs.out.zr8 (by decide) e1 e4 e5)
      clear e1 e2 e3 e4 e5
      refine hK.out _ _ zgt.out.since (fun _=> ?_)
      change wpAnyH _ _ _ _ _ _ _ (Act.put _ (some 67) _) _
      simp only [Act.put,za]
      try simp only [ze,zh]
      clear hK K
      refine zy 8 6 ?vn9 rfl ?zqV (zgt.out.since) ?_
      case zqV=>(intro _ _;go_simp<;>rfl)
      simp only [Act.put,za,ze,zh]
      refine zy 9 7 ?z81 rfl ?zly (zgt.out.since) ?_
      case zly=>(intro _ _;go_simp<;>rfl)
      simp only [Act.put,za,ze,zh]
      refine wpAnyH_done (by kernel_rfl) ?_ _
      refine NoPanic.normal ?_
      have HE:=qh (HLV.out.push (x:=x) (t:=t) (cs:= [.slice xa xn xc, .slice ya yn yc, .bool bd]) (by rw [zff,zfg,HCX.out];exact zgt.out) zsZ.out rfl)
      have HE2:=qh (HLV.out.beside HRV.out HNP.out zgt.out)
      go_wp2_with fail
      go_roundg (hn+1 - (k+1))
      case measure=>rw [jk.out];omega
      case rel=>exact⟨k+1,ma',pn+1,mc',pl++ [x],ra',rc',rl++ [t],rss++ [[Value.slice xa xn xc,Value.slice ya yn yc,Value.bool bd]],by omega,rfl,rfl,rfl,by simp,by omega,HE.out,⟨by rw [List.length_append,zff];rfl,by rw [List.length_append,zfg];rfl⟩,⟨by rw [wT.out.1,jM.out,List.append_assoc];rfl,by rw [wT.out.2,znl.out,List.append_assoc]⟩,HE2.out.1,HE2.out.2⟩
end Go.Proofs.YtliajkheeniljaaGreatDoor
