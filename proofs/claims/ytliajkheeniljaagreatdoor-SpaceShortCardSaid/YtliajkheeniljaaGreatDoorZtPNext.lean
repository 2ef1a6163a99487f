/- Steps. -/
import Derived.Test.YtliajkheeniljaaGreatDoorZtPTry
set_option linter.all false
namespace Go.Proofs.YtliajkheeniljaaGreatDoor
open Go.RowKit
set_option maxRecDepth 100000
set_option maxHeartbeats 16000000
theorem zsm (w:World) (c:zH) (cv:Value) (d:Nat) (hc:yE d w cv c.threads) (m:zC) (s:zi) (sv mv:Value) (hs:zY w s sv mv) (hb:∀j,j<s.threads.length->(s.threads.getD j default).buf.length<=1000000) (hf:yG c m s=true)
  (F0:Nat->Prop) (hF0:∀k,F0 k->k<w.heap.size) (ha:zX F0 w (λy=>zY y s sv mv)):Calls Tryz.prog 49 #[yB c cv,xq m,yC s sv mv] w (ze2 F0 w (xu c m s d) (ziz c m s d)):=by
 have bA:s.threads.length<=4:=by
  obtain⟨h1, -,h2,h3, -⟩:=bR hf
  have h4:=xV h1
  omega
 have hR:xu c m s d=(List.range s.threads.length).flatMap (kW c m s d):=by unfold xu;rw [if_pos hf]
 rw [hR,zvu hf]
 obtain⟨AT,hAT⟩:∃AT,AT=allT m s:=⟨_,rfl⟩
 obtain⟨TM,hTM⟩:∃TM,TM=ze8 c m s d:=⟨_,rfl⟩
 obtain⟨MT,hMT⟩:∃MT,MT=kW c m s d:=⟨_,rfl⟩
 obtain⟨NT,hNT⟩:∃NT,NT=zk7 c m s d:=⟨_,rfl⟩
 have hall:∀i,i<s.threads.length->(AT i).filter (λx=>(TM i x).isSome)=MT i/\(AT i).filterMap (TM i)=NT i:=λi hi=>by rw [hAT,hTM,hMT,hNT];exact zsw hf hi
 have zvv:∀i,AT i=⟨1,(i:Int),0⟩::(yK (s.threads.getD i default).buf m.model).map λv=>(⟨2,(i:Int),v⟩:zu):=λi=>by rw [hAT];rfl
 have wu:∀W (i:Nat) (x:zu),Below w.heap.size w W->i<s.threads.length->x.thread=(i:Int)->Calls Tryz.prog 50 #[yB c cv,xq m,yC s sv mv, .agg #[.int .i64 x.kind, .int .i64 (i:Int), .int .i64 x.var]] W (zhC W (Follows W s sv mv) (TM i x)):=λW i x hW hi hx=>by
  rw [hTM]
  exact zkR W c cv d (zh.below (qm.stays d) hc hW) m s sv mv (hs.below hW) hb hf i hi x.kind x.var
 have zvw:∀W W2 t (tv yv u1 u2:Value),Below w.heap.size w W->Follows W s sv mv W2 t tv yv->(∀k,u1.ownBlock=some k->w.heap.size<=k/\k<W.heap.size)->(∀k,u2.ownBlock=some k->w.heap.size<=k/\k<W.heap.size)->zX (NF F0 u1 u2) W2 (λy=>qE y t [tv,yv, .bool t.bad]):=by
  intro W W2 t tv yv u1 u2 hW hfo h1 h2
  have h3:=hfo (NF F0 u1 u2) (λk hk=>by
   rcases hk with e|e|e
   ·exact Nat.lt_of_lt_of_le (hF0 k e) hW.size
   ·exact(h1 k e).2
   ·exact(h2 k e).2) (ha.step (Since.of_below hW) (λk hk=> .inr hk) (λk hk=>by
   rcases hk with e|e|e
   ·exact .inl e
   ·exact .inr (h1 k e).1
   exact .inr (h2 k e).1))
  exact λy hy=>⟨tv,yv,rfl,h3 y hy⟩
 rw [<-hMT, <-hNT]
 clear hR hMT hNT hAT hTM ha hf
 obtain⟨ca,cc,rfl, -⟩:=zh.slice hc
 obtain⟨ta,j6,rfl, -⟩:=zh.slice hs.threads
 obtain⟨ma,vZ,rfl, -⟩:=zh.slice hs.mem
 have hT:=hs.threads
 obtain⟨FO,hFO⟩:∃FO:World->World->zi->Value->Value->Prop,FO=λW=>Follows W s (.slice ta s.threads.length j6) (.slice ma s.mem.length vZ):=⟨_,rfl⟩
 have zlH:∀W,Follows W s (.slice ta s.threads.length j6) (.slice ma s.mem.length vZ)=FO W:=λW=>by rw [hFO]
 simp only [zlH] at wu zvw
 clear hFO zlH hs hc
 unfold yB xq yC at wu ⊢
 obtain⟨vars,dom,cs⟩:=c
 obtain⟨mod,bnd⟩:=m
 obtain⟨ts,mem,bad⟩:=s
 simp only [] at hb bA hall zvv wu hT ⊢
 obtain⟨n,hn⟩:∃n,n=ts.length:=⟨_,rfl⟩
 obtain⟨cn,hcn⟩:∃cn,cn=cs.length:=⟨_,rfl⟩
 obtain⟨mn,hmn⟩:∃mn,mn=mem.length:=⟨_,rfl⟩
 rw [<-hn] at hb bA hall wu hT ⊢
 rw [<-hmn] at wu ⊢
 rw [<-hcn] at wu ⊢
 obtain⟨hB,h1,h2,h3⟩:=zcd w (.cells #[.int .i64 vars, .int .i64 dom, .slice ca cn cc] 24) (.cells #[.int .i64 mod, .int .i64 bnd] 26) (.cells #[.slice ta n j6, .slice ma mn vZ, .bool bad] 30)
 have HB:=qh hB
 have H1:=qh h1
 have H2:=qh h2
 have H3:=qh h3
 have HT:=qh hT
 have HN:=qh hn
 have HBU:=qh hb
 have zvx:=qh hall
 have HAT:=qh zvv
 have zuG:=qh wu
 have z6r:=qh zvw
 obtain⟨R1,hR1⟩:∃R:List zu,R=(List.range n).flatMap MT:=⟨_,rfl⟩
 obtain⟨R2,hR2⟩:∃R:List zi,R=(List.range n).flatMap NT:=⟨_,rfl⟩
 rw [<-hR1, <-hR2]
 have HR1:=qh hR1
 have HR2:=qh hR2
 clear hn hcn hmn hb hB h1 h2 h3 hT hall zvv wu zvw hF0 hR1 hR2
 go_enter Tryz.func49,Tryz.ntmps49
 go_upto_region 1 with fail
 generalize World.alloc (World.alloc (World.alloc w _) _) _=W at HB H1 H2 H3 ⊢
 obtain⟨gx,hgx⟩:∃gx,gx=w.heap.size:=⟨_,rfl⟩
 rw [<-hgx] at H1 H2 H3 ⊢
 have yT:Hid (w.heap.size<=W.heap.size):=HB.out.size
 clear hgx
 have qA:Hid (∀y,Below W.heap.size W y->y.cell? ⟨gx,0,none⟩=some (.int .i64 vars)/\y.cell? ⟨gx,1,none⟩=some (.int .i64 dom)/\y.cell? ⟨gx,2,none⟩=some (.slice ca cn cc)/\
   y.cell? ⟨gx+1,0,none⟩=some (.int .i64 mod)/\y.cell? ⟨gx+1,1,none⟩=some (.int .i64 bnd)/\y.cell? ⟨gx+2,0,none⟩=some (.slice ta n j6)/\y.cell? ⟨gx+2,1,none⟩=some (.slice ma mn vZ)/\y.cell? ⟨gx+2,2,none⟩=some (.bool bad)):=λy hx=>
  ⟨zk hx _ _ (ze H1.out 0),zk hx _ _ (ze H1.out 1),zk hx _ _ (ze H1.out 2),zk hx _ _ (ze H2.out 0),zk hx _ _ (ze H2.out 1),zk hx _ _ (ze H3.out 0),zk hx _ _ (ze H3.out 1),zk hx _ _ (ze H3.out 2)⟩
 have yA:Hid (∀y,Below W.heap.size W y->Below w.heap.size w y):=λy hy=>HB.out.trans (hy.mono HB.out.size)
 have HN0:Hid (j3 F0 W W (.slice none 0 0) (.slice none 0 0) [] [] []):=j3.begin (Below.refl _ _)
 obtain⟨c0,c1,c2,c3,c4,c5,c6,c7⟩:=qA.out W (Below.refl _ _)
 clear H1 H2 H3
 go_wp2_with fail
 clear c0 c1 c2 c3 c4 c5 c6 c7
 go_loopg [6,7,20] n (λgg s6 s7 s20 wr=>∃(i:Nat) (oa:Option Addr) (on oc:Nat) (ml:List zu) (na:Option Addr) (nc:Nat) (nl:List zi) (css:List (List Value)),i<=n/\Hid (gg=n - i)/\s6= .slice oa on oc/\s7= .slice na on nc/\s20= .int .i64 i/\on<=1000001*i/\Hid (j3 F0 W wr (.slice oa on oc) (.slice na on nc) ml nl css)/\Hid (ml.length=on/\nl.length=on)/\Hid (ml=(List.range i).flatMap MT/\nl=(List.range i).flatMap NT))
 case atStart=>exact⟨0,none,0,0, [],none,0, [], [],Nat.zero_le _,rfl,rfl,rfl,rfl,by omega,HN0.out,⟨rfl,rfl⟩,⟨rfl,rfl⟩⟩
 case round=>
 obtain⟨i,oa,on,oc,ml,na,nc,nl,css,hi,HG,rfl,rfl,rfl,hon,HL,kQ,HML⟩:=hrel
 obtain⟨wo,rfl⟩:∃wo:World,wo=wr:=⟨_,rfl⟩
 clear HN0
 by_cases hlt:i<n
 rotate_left
 ·obtain rfl:n=i:=by omega
  have zT:=qh (HL.out.fin HB.out kQ.out.1 kQ.out.2)
  have hr1:R1=ml:=by rw [HR1.out,HML.out.1]
  have hr2:R2=nl:=by rw [HR2.out,HML.out.2]
  have HQ1:=qh hr1
  have HQ2:=qh hr2
  clear hr1 hr2
  go_wp2_with fail
  go_ret2
  rw [HQ1.out,HQ2.out]
  exact zT.out
 have qL:(i:Int)<(n:Int):=by omega
 obtain⟨tb,yH,ba,bc,hta, -,hrl,x0,x1,x2,x3,x4,x5,hbuf⟩:=qX.part HT.out i (by rw [<-HN.out];exact hlt)
 subst hta
 have hbl:=HBU.out i hlt
 have hat:=HAT.out i
 have hal:=zvx.out i hlt
 generalize ts.getD i default=t at x0 x1 x2 x3 x4 x5 hbuf hbl hat hrl
 obtain⟨pc,regs,buf⟩:=t
 obtain⟨q0,q1,q2,q3,rfl⟩:=kR hrl
 simp only [List.getD_cons_zero,List.getD_cons_succ] at x0 x1 x2 x3 x4 x5 hbuf hbl hat
 obtain⟨hh,hhh⟩:∃hh,hh=yK buf mod:=⟨_,rfl⟩
 rw [<-hhh] at hat
 have hhl:hh.length<=1000000:=by have:=zbS buf mod;rw [hhh];omega
 obtain⟨bl,kG⟩:∃bl,bl=buf.length:=⟨_,rfl⟩
 rw [<-kG] at x5 hbuf
 have zak:Hid (∀y,Below w.heap.size w y->Calls Tryz.prog 79 #[.slice ba bl bc, .int .i64 mod] y λe w'=>(∃va vc,e= .returned (.slice va hh.length vc)/\w'.ownsRow y.heap.size 3 1 (.slice va hh.length vc) hh.length (zo yP hh))/\Below y.heap.size y w'):=λy hy=>
  (zhL y (.slice ba bl bc) buf (zV.below hbuf hy) (by omega) mod).mono λe w' ⟨⟨sv,he,ho⟩,hb⟩=>by
   rw [<-hhh] at ho
   obtain⟨a,cp,rfl, -⟩:=xC ho
   exact⟨⟨a,cp,he,ho⟩,hb⟩
 obtain⟨ai,hai⟩:∃ai,ai=AT i:=⟨_,rfl⟩
 rw [<-hai] at hat hal
 obtain⟨hn,hhn⟩:∃hn,hn=hh.length:=⟨_,rfl⟩
 rw [<-hhn] at zak hhl
 have HHN:=qh hhn
 have zvy:=qh hat
 have z1i:=qh hal
 have hwo:=yA.out wo HL.out.below
 have y0:=zk hwo _ _ x0
 have y1:=zk hwo _ _ x1
 have y2:=zk hwo _ _ x2
 have y3:=zk hwo _ _ x3
 have y4:=zk hwo _ _ x4
 have y5:=zk hwo _ _ x5
 obtain⟨-, -, -, -, -,c5,c6,c7⟩:=qA.out wo HL.out.below
 have HA:=qh ((Below.refl wo.heap.size wo).alloc (Nat.le_refl _) (.cells #[.int .i64 pc, .int .i64 q0, .int .i64 q1, .int .i64 q2, .int .i64 q3, .slice ba bl bc] 48))
 have HY:=qh (yh wo (.cells #[.int .i64 pc, .int .i64 q0, .int .i64 q1, .int .i64 q2, .int .i64 q3, .slice ba bl bc] 48))
 clear x0 x1 x2 x3 x4 x5 hbuf hbl hhh kG hat hal hhn hwo hrl hai
 go_upto_region 4 with fail
 clear y0 y1 y2 y3 y4 y5 c5 c6 c7
 generalize World.alloc wo _=X at HA HY ⊢
 obtain⟨gl,hgl⟩:∃g,g=wo.heap.size:=⟨_,rfl⟩
 rw [<-hgl] at HY ⊢
 clear hgl
 have HLX:=qh (HL.out.later HA.out)
 have HA2:=qh ((Below.refl X.heap.size X).alloc (Nat.le_refl _) (.cells #[.int .i64 1, .int .i64 (i:Int), .int .i64 0] 32))
 have HY2:=qh (yh X (.cells #[.int .i64 1, .int .i64 (i:Int), .int .i64 0] 32))
 clear HL HA
 go_upto_region 5 with fail
 generalize World.alloc X _=X2 at HA2 HY2 ⊢
 obtain⟨ga,hga⟩:∃g,g=X.heap.size:=⟨_,rfl⟩
 rw [<-hga] at HY2 ⊢
 have HGA:Hid (ga=X.heap.size):=hga
 clear hga
 have HWX:Hid (W.heap.size<=X.heap.size):=HLX.out.below.size
 have z1k:=qh ((HLX.out.less (F1:=λk=>F0 k\/X.heap.size<=k) (λ_ hk=>hk)).later HA2.out)
 have zvz:=qh (HLX.out.later HA2.out)
 have HRA:Hid (X2.ownsRow X.heap.size 32 3 (.slice (some ⟨ga,0,none⟩) 1 1) 1 (zo zu.cells [⟨1,(i:Int),0⟩])):=wH (n:=1) (cs:=zo zu.cells [⟨1,(i:Int),0⟩]) HY2.out (by rw [HGA.out];exact Nat.le_refl _) rfl (by decide)
 have z1l:Hid (∀k,(Value.slice oa on oc).ownBlock=some k->(Value.slice (some ⟨ga,0,none⟩) 1 1).ownBlock≠some k):=λk hk e=>by
  have h1:=(HLX.out.row.lt k hk).2
  have h2:ga=k:=by cases e;rfl
  have:=HGA.out
  omega
 have d5:X2.cell? ⟨gl,5,none⟩=some (.slice ba bl bc):=zk HA2.out _ _ (ze HY.out 5)
 obtain⟨-, -, -,c3, -, -, -, -⟩:=qA.out X2 zvz.out.below
 clear HLX HA2 HY HY2
 go_wp2_with(go_at_call 79;go_must(refine(zak.out X2 (yA.out X2 zvz.out.below)).mono ?_);rintro e W2 ⟨⟨va,vc,rfl,hhr⟩,hb2⟩;(have HHR:=qh hhr);(have HL2:=qh (z1k.out.later hb2));(have z1m:=qh (qw HRA.out hb2));(have HG2:Hid (X.heap.size<=W2.heap.size/\X2.heap.size<=W2.heap.size):=⟨Nat.le_trans (by have:=(HRA.out.lt ga rfl).2;have:=HGA.out;omega) hb2.size,hb2.size⟩);clear hb2 hhr)
 clear d5 c3
 have z1n:Hid (∀k,(Value.slice (some ⟨ga,0,none⟩) 1 1).ownBlock=some k->(Value.slice va hn vc).ownBlock≠some k):=λk hk e=>by
  have h1:=(HRA.out.lt k hk).2
  have h2:=(HHR.out.lt k e).1
  omega
 clear zvz z1k HRA zak
 go_loopg [10,34] hn (λgg s10 s34 wr=>∃(k:Nat) (aa:Option Addr) (ac:Nat) (al:List zu),k<=hn/\Hid (gg=hn - k)/\s10= .slice aa (k+1) ac/\s34= .int .i64 k/\Hid (wr.ownsRow X.heap.size 32 3 (.slice aa (k+1) ac) (k+1) (zo zu.cells al))/\Hid (al=⟨1,(i:Int),0⟩::(hh.take k).map (λv=>⟨2,(i:Int),v⟩))/\Hid (∃B,wr.ownsRow B 3 1 (.slice va hn vc) hn (zo yP hh))/\Hid (∀k',(Value.slice aa (k+1) ac).ownBlock=some k'->(Value.slice va hn vc).ownBlock≠some k')/\
  Hid (∀k',(Value.slice oa on oc).ownBlock=some k'->(Value.slice aa (k+1) ac).ownBlock≠some k')/\Hid (j3 (λk=>F0 k\/X.heap.size<=k) W wr (.slice oa on oc) (.slice na on nc) ml nl css)/\Hid (X.heap.size<=wr.heap.size))
 case atStart=>exact⟨0,some ⟨ga,0,none⟩,1, [⟨1,(i:Int),0⟩],Nat.zero_le _,rfl,rfl,rfl,z1m.out,by simp [Hid],⟨_,HHR.out⟩,z1n.out,z1l.out,HL2.out,HG2.out.1⟩
 case round=>
 obtain⟨k,aa,ac,al,hk,z6s,rfl,rfl,HRW,HAL,HHB,HNV,HNA,HLW,HXS⟩:=hrel
 clear z1m HHR z1n z1l HL2 HG2
 by_cases hkl:k<hn
 ·have zvq:(k:Int)<(hn:Int):=by omega
  obtain⟨BH,hhr⟩:=HHB.out
  have hrw:=hhr
  rw [HHN.out] at hrw
  obtain⟨b9,o9,yj, -,e1⟩:=xQ.part (uF hrw) k (by rw [<-HHN.out];exact hkl)
  subst yj
  have HRB:=qh hhr
  clear hhr hrw
  have j5:Hid (hh.take (k+1)=hh.take k++ [hh.getD k 0]):=by rw [Hid,List.take_succ_eq_append_getElem (by rw [<-HHN.out];exact hkl),List.getD_eq_getElem?_getD,List.getElem?_eq_getElem (by rw [<-HHN.out];exact hkl)];rfl
  generalize hh.getD k 0=v at e1 j5
  have z2L:Hid (∀(X':World) (a':Option Addr) (c':Nat) (o:Obj),X'.ownsRow X.heap.size 32 3 (.slice a' (k+1+1) c') (k+1+1) (zo zu.cells al++zu.cells ⟨2,(i:Int),v⟩)->Since (λx=>(Value.slice aa (k+1) ac).ownBlock=some x) (wr.alloc o) X'->(∀x,(Value.slice a' (k+1+1) c').ownBlock=some x->(Value.slice aa (k+1) ac).ownBlock=some x\/x=(wr.alloc o).heap.size)->
    X'.ownsRow X.heap.size 32 3 (.slice a' (k+1+1) c') (k+1+1) (zo zu.cells (al++ [⟨2,(i:Int),v⟩]))/\(∃B,X'.ownsRow B 3 1 (.slice (some ⟨b9,o9,none⟩) hn vc) hn (zo yP hh))/\(∀x,(Value.slice a' (k+1+1) c').ownBlock=some x->(Value.slice (some ⟨b9,o9,none⟩) hn vc).ownBlock≠some x)/\
    (∀x,(Value.slice oa on oc).ownBlock=some x->(Value.slice a' (k+1+1) c').ownBlock≠some x)/\j3 (λk=>F0 k\/X.heap.size<=k) W X' (.slice oa on oc) (.slice na on nc) ml nl css/\X.heap.size<=X'.heap.size):=λX' a' c' o f1 f4 f5=>by
   obtain⟨g1,g2⟩:=zgB HRB.out HNV.out f4 f5
   have hso:=HLW.out.side (o:=o) HRW.out (λ_ h=> .inr h) HWX.out HNA.out f4
   refine⟨by rw [zdg];exact f1,⟨_,g1⟩,g2,λx hx e=> ?_,hso,Nat.le_trans HXS.out (Nat.le_trans (by simp) f4.size)⟩
   rcases f5 x e with e'|e'
   ·exact HNA.out x hx e'
   have h1:=(HLW.out.row.lt x hx).2
   simp at e'
   omega
  go_wp2_with(at_builtin;go_must(refine zO _ rfl _ _ 52 rfl 32 (.agg #[.int .i64 0, .int .i64 0, .int .i64 0]) 3 24 Tryz.underlying52 bL rfl (by decide) X.heap.size (.slice aa (k+1) ac) (k+1) (zo zu.cells al) rfl ((HRW.out).alloc _) ⟨wr.heap.size,0,none⟩ 1 1 (zu.cells ⟨2,i,v⟩) rfl rfl (jf _ (zu.cells ⟨2,i,v⟩) _) (by simp [zu.cells,Value.oneCell']) (by unfold maxLen;omega) (by omega) (by have:=HXS.out;simp;omega) ?_);intro ja jc Y f1 f2 f3 f4 f5 f6;have HE:=qh (z2L.out Y ja jc _ f1 f4 f5);clear f1 f2 f3 f4 f5 f6)
  go_roundg (hn - (k+1))
  case measure=>rw [z6s.out];omega
  case rel=>exact⟨k+1,ja,jc,al++ [(⟨2,(i:Int),v⟩:zu)],by omega,rfl,rfl,by simp,HE.out.1,by rw [Hid,HAL.out,j5.out];simp,HE.out.2.1,HE.out.2.2.1,HE.out.2.2.2.1,HE.out.2.2.2.2.1,HE.out.2.2.2.2.2⟩
 obtain rfl:hn=k:=by omega
 have zxa:Hid (al=ai):=by rw [Hid,HAL.out,zvy.out,HHN.out,List.take_length]
 have z6t:=zxa.out
 subst z6t
 have ziT:Hid (∀k,k<al.length->(al.getD k default).thread=(i:Int)):=λk hk=>by
  have hm:al.getD k default∈al:=qJ hk
  generalize al.getD k default=y at hm
  rw [zvy.out] at hm
  rcases List.mem_cons.1 hm with rfl|hm
  ·rfl
  obtain⟨v, -,rfl⟩:=List.mem_map.1 hm
  rfl
 clear zxa HAL HHB HNV zvy
 have hlen:al.length=hn+1:=by
  have:=HRW.out.1
  rw [jF bI] at this
  omega
 have HLEN:=qh hlen
 clear hlen
 go_wp2_with fail
 go_loopg [6,7,47] (hn+1) (λgg s6 s7 s47 wr=>∃(k:Nat) (pa:Option Addr) (pn pc':Nat) (pl:List zu) (ra:Option Addr) (rc:Nat) (rl:List zi) (rss:List (List Value)),k<=hn+1/\Hid (gg=hn+1 - k)/\s6= .slice pa pn pc'/\s7= .slice ra pn rc/\s47= .int .i64 k/\pn<=on+k/\Hid (j3 F0 W wr (.slice pa pn pc') (.slice ra pn rc) pl rl rss)/\Hid (pl.length=pn/\rl.length=pn)/\Hid (pl=ml++(al.take k).filter (λx=>(TM i x).isSome)/\rl=nl++(al.take k).filterMap (TM i))/\
  Hid (wr.ownsRow X.heap.size 32 3 (.slice aa (hn+1) ac) (hn+1) (zo zu.cells al))/\Hid (∀x,(Value.slice pa pn pc').ownBlock=some x->(Value.slice aa (hn+1) ac).ownBlock≠some x))
 case atStart=>exact⟨0,oa,on,oc,ml,na,nc,nl,css,Nat.zero_le _,rfl,rfl,rfl,rfl,by omega,HLW.out.less (λ_ h=> .inl (.inl h)),kQ.out,by simp [Hid],HRW.out,HNA.out⟩
 case round=>
 obtain⟨k,pa,pn,pc',pl,ra,rc,rl,rss,hk,vS,rfl,rfl,rfl,hpn,HLP,HPN,vO,HRA,HNP⟩:=hrel
 clear HLW HRW HNA
 by_cases hkl:k<hn+1
 rotate_left
 ·obtain rfl:k=hn+1:=by omega
  have hst:pl=(List.range (i+1)).flatMap MT/\rl=(List.range (i+1)).flatMap NT:=by
   have e:al.take (hn+1)=al:=by rw [<-HLEN.out,List.take_length]
   rw [zaO,zaO, <-HML.out.1, <-HML.out.2,vO.out.1,vO.out.2,e,z1i.out.1,z1i.out.2]
   exact⟨rfl,rfl⟩
  have HST:=qh hst
  clear hst
  go_wp2_with fail
  go_roundg (n - (i+1))
  case measure=>rw [HG.out];omega
  case rel=>exact⟨i+1,pa,pn,pc',pl,ra,rc,rl,rss,by omega,rfl,rfl,rfl,by simp,by omega,HLP.out,HPN.out,HST.out⟩
 have zvq:(k:Int)<((hn:Int)+1):=by omega
 have hra:=HRA.out
 have z1p:wr.ownsRow X.heap.size 32 3 (.slice aa (hn+1) ac) al.length (zo zu.cells al):=by rw [HLEN.out];exact hra
 obtain⟨b9,o9,yj, -,e1,e2,e3⟩:=qO.part (by have:=bH z1p;exact this) k (by rw [HLEN.out];exact hkl)
 subst yj
 have htk:=znl (l:=al) (k:=k) (by rw [HLEN.out];exact hkl) (λx=>(TM i x).isSome)
 have zpC:=zji (l:=al) (k:=k) (by rw [HLEN.out];exact hkl) (TM i)
 have hth:(al.getD k default).thread=(i:Int):=ziT.out k (by rw [HLEN.out];exact hkl)
 obtain⟨x,hx⟩:∃x,x=al.getD k default:=⟨_,rfl⟩
 rw [<-hx] at e1 e2 e3 htk zpC hth
 rw [hth] at e2
 have htr:=λy hy=>zuG.out y i x hy hlt hth
 have hxe:zu.cells x= [.int .i64 x.kind, .int .i64 (i:Int), .int .i64 x.var] :=by unfold zu.cells;rw [hth]
 obtain⟨tr,z1q⟩:∃r,r=TM i x:=⟨_,rfl⟩
 rw [<-z1q] at htk zpC htr
 obtain⟨xk,hxk⟩:∃q,q=x.kind:=⟨_,rfl⟩
 obtain⟨xv,hxv⟩:∃q,q=x.var:=⟨_,rfl⟩
 rw [<-hxk] at e1 htr
 rw [<-hxv] at e3 htr
 rw [<-hxk, <-hxv] at hxe
 have HTR:=qh htr
 have j5:=qh htk
 have zpD:=qh zpC
 have HCX:=qh hxe
 have HA:=qh ((Below.refl wr.heap.size wr).alloc (Nat.le_refl _) (.cells #[.int .i64 xk, .int .i64 (i:Int), .int .i64 xv] 32))
 have HY:=qh (yh wr (.cells #[.int .i64 xk, .int .i64 (i:Int), .int .i64 xv] 32))
 clear hra z1p htk zpC hth hx htr hxe z1q hxk hxv
 go_upto_region 13 with fail
 clear e1 e2 e3
 generalize World.alloc wr _=Y at HA HY ⊢
 obtain⟨gm,hgm⟩:∃g,g=wr.heap.size:=⟨_,rfl⟩
 rw [<-hgm] at HY ⊢
 have HGM:=qh hgm
 clear hgm
 have HNM:Hid (∀x,(Value.slice pa pn pc').ownBlock=some x\/(Value.slice ra pn rc).ownBlock=some x->x<gm):=λx hx=>by
  rw [HGM.out]
  rcases hx with e|e
  ·exact(HLP.out.row.lt x e).2
  exact(HLP.out.st.row.lt x e).2
 have vw:=qh (HLP.out.later HA.out)
 have pJ:=qh (qw HRA.out HA.out)
 obtain⟨c0,c1,c2,c3,c4,c5,c6,c7⟩:=qA.out Y vw.out.below
 have d0:Y.cell? ⟨gm,0,none⟩=some (.int .i64 xk):=ze HY.out 0
 have d1:Y.cell? ⟨gm,1,none⟩=some (.int .i64 (i:Int)):=ze HY.out 1
 have d2:Y.cell? ⟨gm,2,none⟩=some (.int .i64 xv):=ze HY.out 2
 clear HLP HRA
 go_upto_if 59 with(go_at_call 50;go_must(refine(HTR.out Y (yA.out Y vw.out.below)).mono ?_);rintro e Z zv0;(obtain⟨xa,xn,xc,ya,yn,yc,bd,isv,rfl,z1s⟩:=zv0.told);(have HZ:=qh zv0.1);(have HTE:=qh z1s);clear zv0 z1s c0 c1 c2 c3 c4 c5 c6 c7 d0 d1 d2)
 have HLZ:=qh (vw.out.later HZ.out)
 have HRZ:=qh (qw pJ.out HZ.out)
 have HGZ:Hid (Z.heap[gm]? =some (.cells #[.int .i64 xk, .int .i64 (i:Int), .int .i64 xv] 32 (0,0))):=(HZ.out.block gm (zx HY.out)).trans HY.out
 have HA4:=qh ((Below.refl Z.heap.size Z).alloc (Nat.le_refl _) (.cells #[.slice xa xn xc, .slice ya yn yc, .bool bd] 30))
 have HY4:=qh (yh Z (.cells #[.slice xa xn xc, .slice ya yn yc, .bool bd] 30))
 have HU1:Hid (∀x,(Value.slice pa pn pc').ownBlock=some x->w.heap.size<=x/\x<Y.heap.size):=λx hx=>by
  have:=vw.out.row.lt x hx
  have:=yT.out
  omega
 have HU2:Hid (∀x,(Value.slice ra pn rc).ownBlock=some x->w.heap.size<=x/\x<Y.heap.size):=λx hx=>by
  have:=vw.out.st.row.lt x hx
  have:=yT.out
  omega
 have HAW:Hid (∀t,tr=some t->bd=t.bad/\zX (NF F0 (.slice pa pn pc') (.slice ra pn rc)) Z (λy=>qE y t [.slice xa xn xc, .slice ya yn yc, .bool bd])):=λt ht=>by
  obtain⟨e1,e2⟩:=HTE.out.2 t ht
  subst e1
  exact⟨rfl,z6r.out Y Z t _ _ _ _ (yA.out Y vw.out.below) e2 HU1.out HU2.out⟩
 have HIS:=qh HTE.out.1
 clear HTE HU1 HU2 vw pJ HY HA
 generalize World.alloc Z _=V at HA4 HY4 ⊢
 obtain⟨gt,hgt⟩:∃g,g=Z.heap.size:=⟨_,rfl⟩
 rw [<-hgt] at HY4 ⊢
 have hgg:gm<gt:=by rw [hgt];exact zx HGZ.out
 have z1t:Hid (¬((Value.slice pa pn pc').ownBlock=some gm\/(Value.slice ra pn rc).ownBlock=some gm)/\¬((Value.slice pa pn pc').ownBlock=some gt\/(Value.slice ra pn rc).ownBlock=some gt)):=⟨λe=>by have:=HNM.out gm e;omega,λe=>by have:=HNM.out gt e;omega⟩
 clear hgt hgg HNM
 have HLV:=qh (HLZ.out.later HA4.out)
 have HRV:=qh (qw HRZ.out HA4.out)
 have HGV:Hid (V.heap[gm]? =some (.cells #[.int .i64 xk, .int .i64 (i:Int), .int .i64 xv] 32 (0,0))):=(HA4.out.block gm (zx HGZ.out)).trans HGZ.out
 have z6u:Hid (∀t,tr=some t->zX (NF F0 (.slice pa pn pc') (.slice ra pn rc)) V (λy=>qE y t [.slice xa xn xc, .slice ya yn yc, .bool bd])):=λt ht=>(HAW.out t ht).2.step (G:=λ_=>False) (xZ _ HA4.out) (λ_ h=>h.elim) (λ_ hk=> .inl hk)
 clear HAW HLZ HRZ HGZ HA4 HZ
 cases tr with
 |none=>
  have his:=HIS.out
  simp only [Option.isSome_none] at his
  subst his
  go_wp2_with fail
  go_roundg (hn+1 - (k+1))
  case measure=>rw [vS.out];omega
  case rel=>exact⟨k+1,pa,pn,pc',pl,ra,rc,rl,rss,by omega,rfl,rfl,rfl,by simp,by omega,HLV.out,HPN.out,⟨by rw [vO.out.1,j5.out];simp,by rw [vO.out.2,zpD.out];simp⟩,HRV.out,HNP.out⟩
 |some t=>
 have his:=HIS.out
 simp only [Option.isSome_some] at his
 subst his
 have haw:=z6u.out t rfl
 have zv1:=qh haw
 clear haw
 have zhj:=HPN.out.1
 have zhk:=HPN.out.2
 go_wp2_with fail
 have CC:Hid (∀y,Since (λx=>(Value.slice pa pn pc').ownBlock=some x\/(Value.slice ra pn rc).ownBlock=some x) V y->y.cell? ⟨gm,0,none⟩=some (.int .i64 xk)/\y.cell? ⟨gm,1,none⟩=some (.int .i64 (i:Int))/\y.cell? ⟨gm,2,none⟩=some (.int .i64 xv)/\y.cell? ⟨gt,0,none⟩=some (.slice xa xn xc)/\y.cell? ⟨gt,1,none⟩=some (.slice ya yn yc)/\y.cell? ⟨gt,2,none⟩=some (.bool bd)):=λy hy=>by
  have hm:¬((Value.slice pa pn pc').ownBlock=some gm\/(Value.slice ra pn rc).ownBlock=some gm):=z1t.out.1
  have ht:¬((Value.slice pa pn pc').ownBlock=some gt\/(Value.slice ra pn rc).ownBlock=some gt):=z1t.out.2
  have h1:=(hy.block gm (zx HGV.out) hm).trans HGV.out
  have h2:=(hy.block gt (zx HY4.out) ht).trans HY4.out
  exact⟨ze h1 0,ze h1 1,ze h1 2,ze h2 0,ze h2 1,ze h2 2⟩
 refine vg (S:=λy=>Since (λx=>(Value.slice pa pn pc').ownBlock=some x\/(Value.slice ra pn rc).ownBlock=some x) V y) (Since.refl _ _).drew (λ_=> ?_)
 have hT0:=qh (bJ.start (B:=W.heap.size) (by have:=HLV.out.row;rw [zhj] at this;exact this) (by have:=HLV.out.st.row;rw [zhk] at this;exact this) HLV.out.below.size)
 obtain⟨V1,hV1⟩:∃V1,V1=V.drew:=⟨_,rfl⟩
 rw [<-hV1] at hT0 ⊢
 clear hV1
 refine zD 0 zN (hT0.out.since) ?_
 refine zD 1 CC.out (hT0.out.since) ?_
 refine zD 4 zN (hT0.out.since) ?_
 refine zD 5 CC.out (hT0.out.since) ?_
 refine wpAnyH_ready (rs:= [2,6]) (by kernel_rfl) (by simp) ?_
 refine AllReadyH.cons rfl (λK hK=> ?_) (AllReadyH.cons rfl (λK hK=> ?_) AllReadyH.nil)
 ·skip
  go_simp
  have zdz:=hT0.out.alloc 32 [.int .i64 xk, .int .i64 (i:Int), .int .i64 xv]
  refine hK.out _ _ zdz.since (λ_=> ?_)
  obtain⟨nb1,zcB⟩:∃n,n=V1.heap.size:=⟨_,rfl⟩
  rw [<-zcB] at zdz ⊢
  clear zcB
  generalize World.alloc V1 _=Xn2 at zdz ⊢
  replace zdz:=qh zdz
  clear hK K
  refine wpAnyH_ready (rs:= [3,6]) (by kernel_rfl) (by simp) ?_
  refine AllReadyH.cons rfl (λK hK=> ?_) (AllReadyH.cons rfl (λK hK=> ?_) AllReadyH.nil)
  ·skip
   refine zK Xn2 (by rfl) (.tmp 60) (.tmp 62) 52 rfl 32 (.agg #[.int .i64 0, .int .i64 0, .int .i64 0]) 3 24 Tryz.underlying52 bL rfl (by decide) W.heap.size (.slice pa pn pc') pn (zo zu.cells pl) (by rfl) zdz.out.r1 ⟨nb1,0,none⟩ 1 1 [.int .i64 xk, .int .i64 (i:Int), .int .i64 xv] (by rfl) rfl (zdz.out.cell (b:=nb1) (t:=32) (cs:= [.int .i64 xk, .int .i64 (i:Int), .int .i64 xv]) (by simp)) (by simp [Value.oneCell']) (by unfold maxLen;omega) (by omega) zdz.out.base ?_
   intro ma' mc' Xn4 e1 e2 e3 e4 e5
   have z1v:=qh (zdz.out.app1 (by decide) e1 e4 e5)
   clear e1 e2 e3 e4 e5
   refine hK.out _ _ z1v.out.since (λ_=> ?_)
   change wpAnyH _ _ _ _ _ _ _ (Act.put _ (some 63) _) _
   simp only [Act.put,kJ]
   try simp only [kK,kL]
   clear hK K
   refine yu 6 rfl (λK hK=> ?_)
   go_simp
   have ze9:=z1v.out.alloc 30 [.slice xa xn xc, .slice ya yn yc, .bool bd]
   refine hK.out _ _ ze9.since (λ_=> ?_)
   obtain⟨nb2,bK⟩:∃n,n=Xn4.heap.size:=⟨_,rfl⟩
   rw [<-bK] at ze9 ⊢
   clear bK
   generalize World.alloc Xn4 _=Xn6 at ze9 ⊢
   replace ze9:=qh ze9
   clear hK K
   refine yu 7 rfl (λK hK=> ?_)
   refine zK Xn6 (by rfl) (.tmp 64) (.tmp 66) 67 rfl 30 (.agg #[.slice none 0 0, .slice none 0 0, .bool false]) 3 56 Tryz.underlying67 bS rfl (by decide) W.heap.size (.slice ra pn rc) pn rss.flatten (by rfl) ze9.out.r2 ⟨nb2,0,none⟩ 1 1 [.slice xa xn xc, .slice ya yn yc, .bool bd] (by rfl) rfl (ze9.out.cell (b:=nb2) (t:=30) (cs:= [.slice xa xn xc, .slice ya yn yc, .bool bd]) (by simp)) (by simp [Value.oneCell']) (by unfold maxLen;omega) (by omega) ze9.out.base ?_
   intro ra' rc' Xn8 e1 e2 e3 e4 e5
   have zmg:=qh (ze9.out.zjh (by decide) e1 e4 e5)
   clear e1 e2 e3 e4 e5
   refine hK.out _ _ zmg.out.since (λ_=> ?_)
   change wpAnyH _ _ _ _ _ _ _ (Act.put _ (some 67) _) _
   simp only [Act.put,kJ]
   try simp only [kK,kL]
   clear hK K
   refine zD 8 zN (zmg.out.since) ?_
   refine zD 9 zN (zmg.out.since) ?_
   refine xL ?_
   have HE:=qh (HLV.out.push (x:=x) (t:=t) (cs:= [.slice xa xn xc, .slice ya yn yc, .bool bd]) (by rw [zhj,zhk,HCX.out];exact zmg.out) zv1.out rfl)
   have HE2:=qh (HLV.out.beside HRV.out HNP.out zmg.out)
   go_wp2_with fail
   go_roundg (hn+1 - (k+1))
   case measure=>rw [vS.out];omega
   case rel=>exact⟨k+1,ma',pn+1,mc',pl++ [x],ra',rc',rl++ [t],rss++ [[Value.slice xa xn xc,Value.slice ya yn yc,Value.bool bd]],by omega,rfl,rfl,rfl,by simp,by omega,HE.out,⟨by rw [List.length_append,zhj];rfl,by rw [List.length_append,zhk];rfl⟩,⟨by rw [vO.out.1,j5.out,List.append_assoc];rfl,by rw [vO.out.2,zpD.out,List.append_assoc]⟩,HE2.out.1,HE2.out.2⟩
  skip
  go_simp
  have zeA:=zdz.out.alloc 30 [.slice xa xn xc, .slice ya yn yc, .bool bd]
  refine hK.out _ _ zeA.since (λ_=> ?_)
  obtain⟨nb2,bK⟩:∃n,n=Xn2.heap.size:=⟨_,rfl⟩
  rw [<-bK] at zeA ⊢
  clear bK
  generalize World.alloc Xn2 _=z6v at zeA ⊢
  replace zeA:=qh zeA
  clear hK K
  refine yu 3 rfl (λK hK=> ?_)
  refine zK z6v (by rfl) (.tmp 60) (.tmp 62) 52 rfl 32 (.agg #[.int .i64 0, .int .i64 0, .int .i64 0]) 3 24 Tryz.underlying52 bL rfl (by decide) W.heap.size (.slice pa pn pc') pn (zo zu.cells pl) (by rfl) zeA.out.r1 ⟨nb1,0,none⟩ 1 1 [.int .i64 xk, .int .i64 (i:Int), .int .i64 xv] (by rfl) rfl (zeA.out.cell (b:=nb1) (t:=32) (cs:= [.int .i64 xk, .int .i64 (i:Int), .int .i64 xv]) (by simp)) (by simp [Value.oneCell']) (by unfold maxLen;omega) (by omega) zeA.out.base ?_
  intro ma' mc' z6w e1 e2 e3 e4 e5
  have zi5:=qh (zeA.out.app1 (by decide) e1 e4 e5)
  clear e1 e2 e3 e4 e5
  refine hK.out _ _ zi5.out.since (λ_=> ?_)
  change wpAnyH _ _ _ _ _ _ _ (Act.put _ (some 63) _) _
  simp only [Act.put,kJ]
  try simp only [kK,kL]
  clear hK K
  refine yu 7 rfl (λK hK=> ?_)
  refine zK z6w (by rfl) (.tmp 64) (.tmp 66) 67 rfl 30 (.agg #[.slice none 0 0, .slice none 0 0, .bool false]) 3 56 Tryz.underlying67 bS rfl (by decide) W.heap.size (.slice ra pn rc) pn rss.flatten (by rfl) zi5.out.r2 ⟨nb2,0,none⟩ 1 1 [.slice xa xn xc, .slice ya yn yc, .bool bd] (by rfl) rfl (zi5.out.cell (b:=nb2) (t:=30) (cs:= [.slice xa xn xc, .slice ya yn yc, .bool bd]) (by simp)) (by simp [Value.oneCell']) (by unfold maxLen;omega) (by omega) zi5.out.base ?_
  intro ra' rc' zAC e1 e2 e3 e4 e5
  have zi6:=qh (zi5.out.zjh (by decide) e1 e4 e5)
  clear e1 e2 e3 e4 e5
  refine hK.out _ _ zi6.out.since (λ_=> ?_)
  change wpAnyH _ _ _ _ _ _ _ (Act.put _ (some 67) _) _
  simp only [Act.put,kJ]
  try simp only [kK,kL]
  clear hK K
  refine zD 8 zN (zi6.out.since) ?_
  refine zD 9 zN (zi6.out.since) ?_
  refine xL ?_
  have HE:=qh (HLV.out.push (x:=x) (t:=t) (cs:= [.slice xa xn xc, .slice ya yn yc, .bool bd]) (by rw [zhj,zhk,HCX.out];exact zi6.out) zv1.out rfl)
  have HE2:=qh (HLV.out.beside HRV.out HNP.out zi6.out)
  go_wp2_with fail
  go_roundg (hn+1 - (k+1))
  case measure=>rw [vS.out];omega
  case rel=>exact⟨k+1,ma',pn+1,mc',pl++ [x],ra',rc',rl++ [t],rss++ [[Value.slice xa xn xc,Value.slice ya yn yc,Value.bool bd]],by omega,rfl,rfl,rfl,by simp,by omega,HE.out,⟨by rw [List.length_append,zhj];rfl,by rw [List.length_append,zhk];rfl⟩,⟨by rw [vO.out.1,j5.out,List.append_assoc];rfl,by rw [vO.out.2,zpD.out,List.append_assoc]⟩,HE2.out.1,HE2.out.2⟩
 skip
 go_simp
 have zga:=hT0.out.alloc 30 [.slice xa xn xc, .slice ya yn yc, .bool bd]
 refine hK.out _ _ zga.since (λ_=> ?_)
 obtain⟨nb2,bK⟩:∃n,n=V1.heap.size:=⟨_,rfl⟩
 rw [<-bK] at zga ⊢
 clear bK
 generalize World.alloc V1 _=z1w at zga ⊢
 replace zga:=qh zga
 clear hK K
 refine yu 2 rfl (λK hK=> ?_)
 go_simp
 have zce:=zga.out.alloc 32 [.int .i64 xk, .int .i64 (i:Int), .int .i64 xv]
 refine hK.out _ _ zce.since (λ_=> ?_)
 obtain⟨nb1,zcB⟩:∃n,n=z1w.heap.size:=⟨_,rfl⟩
 rw [<-zcB] at zce ⊢
 clear zcB
 generalize World.alloc z1w _=z6x at zce ⊢
 replace zce:=qh zce
 clear hK K
 refine yu 3 rfl (λK hK=> ?_)
 refine zK z6x (by rfl) (.tmp 60) (.tmp 62) 52 rfl 32 (.agg #[.int .i64 0, .int .i64 0, .int .i64 0]) 3 24 Tryz.underlying52 bL rfl (by decide) W.heap.size (.slice pa pn pc') pn (zo zu.cells pl) (by rfl) zce.out.r1 ⟨nb1,0,none⟩ 1 1 [.int .i64 xk, .int .i64 (i:Int), .int .i64 xv] (by rfl) rfl (zce.out.cell (b:=nb1) (t:=32) (cs:= [.int .i64 xk, .int .i64 (i:Int), .int .i64 xv]) (by simp)) (by simp [Value.oneCell']) (by unfold maxLen;omega) (by omega) zce.out.base ?_
 intro ma' mc' z6y e1 e2 e3 e4 e5
 have zi7:=qh (zce.out.app1 (by decide) e1 e4 e5)
 clear e1 e2 e3 e4 e5
 refine hK.out _ _ zi7.out.since (λ_=> ?_)
 change wpAnyH _ _ _ _ _ _ _ (Act.put _ (some 63) _) _
 simp only [Act.put,kJ]
 try simp only [kK,kL]
 clear hK K
 refine yu 7 rfl (λK hK=> ?_)
 refine zK z6y (by rfl) (.tmp 64) (.tmp 66) 67 rfl 30 (.agg #[.slice none 0 0, .slice none 0 0, .bool false]) 3 56 Tryz.underlying67 bS rfl (by decide) W.heap.size (.slice ra pn rc) pn rss.flatten (by rfl) zi7.out.r2 ⟨nb2,0,none⟩ 1 1 [.slice xa xn xc, .slice ya yn yc, .bool bd] (by rfl) rfl (zi7.out.cell (b:=nb2) (t:=30) (cs:= [.slice xa xn xc, .slice ya yn yc, .bool bd]) (by simp)) (by simp [Value.oneCell']) (by unfold maxLen;omega) (by omega) zi7.out.base ?_
 intro ra' rc' zAD e1 e2 e3 e4 e5
 have zi8:=qh (zi7.out.zjh (by decide) e1 e4 e5)
 clear e1 e2 e3 e4 e5
 refine hK.out _ _ zi8.out.since (λ_=> ?_)
 change wpAnyH _ _ _ _ _ _ _ (Act.put _ (some 67) _) _
 simp only [Act.put,kJ]
 try simp only [kK,kL]
 clear hK K
 refine zD 8 zN (zi8.out.since) ?_
 refine zD 9 zN (zi8.out.since) ?_
 refine xL ?_
 have HE:=qh (HLV.out.push (x:=x) (t:=t) (cs:= [.slice xa xn xc, .slice ya yn yc, .bool bd]) (by rw [zhj,zhk,HCX.out];exact zi8.out) zv1.out rfl)
 have HE2:=qh (HLV.out.beside HRV.out HNP.out zi8.out)
 go_wp2_with fail
 go_roundg (hn+1 - (k+1))
 case measure=>rw [vS.out];omega
 case rel=>exact⟨k+1,ma',pn+1,mc',pl++ [x],ra',rc',rl++ [t],rss++ [[Value.slice xa xn xc,Value.slice ya yn yc,Value.bool bd]],by omega,rfl,rfl,rfl,by simp,by omega,HE.out,⟨by rw [List.length_append,zhj];rfl,by rw [List.length_append,zhk];rfl⟩,⟨by rw [vO.out.1,j5.out,List.append_assoc];rfl,by rw [vO.out.2,zpD.out,List.append_assoc]⟩,HE2.out.1,HE2.out.2⟩
