/- The moves that may be: the document's answer: the walk. Two lists of moves that are the same: the walk. -/
import Derived.Laws.StructEq
import Derived.Test.YtliajkheeniljaaGreatDoorZsFits
import Derived.Test.YtliajkheeniljaaGreatDoorZsSame7
import Derived.Test.YtliajkheeniljaaGreatDoorZsStep
import Derived.Test.YtliajkheeniljaaGreatDoorZsStepQ
import Derived.Test.YtliajkheeniljaaGreatDoorZsShort
set_option linter.all false
namespace Go.Proofs.YtliajkheeniljaaGreatDoor
open Go.RowKit
set_option maxRecDepth 100000
set_option maxHeartbeats 16000000
theorem zaL (w:World) (o1 o2 o3:Obj):Below w.heap.size w (((w.alloc o1).alloc o2).alloc o3)/\(((w.alloc o1).alloc o2).alloc o3).heap[w.heap.size]? =some o1/\(((w.alloc o1).alloc o2).alloc o3).heap[w.heap.size+1]? =some o2/\(((w.alloc o1).alloc o2).alloc o3).heap[w.heap.size+2]? =some o3:=
 ⟨bP w _ _ _,bQ w _ _ _,uD w _ _ _,bR w _ _ _⟩
theorem zie (x:zM):(zM.cells x).length=3:=rfl
theorem uY:(Tryz.prog.info? 32).map (fun i=>(i.zero,i.size,i.bytes))=some (some (.agg #[.int .i64 0, .int .i64 0, .int .i64 0]),3,24):=by kernel_rfl
theorem zc0 (l:List zm) (model:Int):(yF l model).length<=l.length:=by
 unfold yF
 split
 ·exact zex _ _
 ·split
  ·cases l<;>simp
  ·simp
theorem zlp (c:zX) (m:zK) (s:zu) (d i:Nat) (h:(s.threads.getD i default).buf.length<=100000):(wm c m s d i).length<=100001:=by
 unfold wm
 have:=zc0 (s.threads.getD i default).buf m.model
 rw [List.length_append,List.length_map]
 split<;>simp only [List.length_cons,List.length_nil] <;>omega
theorem zd3 {α:Type} (f:α->List Value) (l:List α) (x:α):zq f (l++ [x])=zq f l++f x:=by simp [zq]
theorem zaM {α:Type} (f:Nat->List α) (i:Nat):(List.range (i+1)).flatMap f=(List.range i).flatMap f++f i:=by rw [List.range_succ];simp
theorem ziw {α:Type} {f:α->List Value} {B:Nat} {e:TypeId} {size:Nat} {w X:World} {a a':Option Addr} {n m c c':Nat} {l:List α} {x:α} {o:Obj} (ho:w.ownsRow B e size (.slice a n c) n (zq f l)) (h1:X.ownsRow B e size (.slice a' m c') m (zq f l++f x))
  (h4:Since (fun k=>(Value.slice a n c).ownBlock=some k) (w.alloc o) X) {V:World} (hV:Below V.heap.size V w) (hB:V.heap.size<=B):X.ownsRow B e size (.slice a' m c') m (zq f (l++ [x]))/\Below V.heap.size V X:=by
 refine⟨by rw [zd3];exact h1,hV.trans ((((Since.refl _ w).alloc o).trans h4 (fun k hk=> .inl hk)).below hV.size (fun k hk=>Nat.le_trans hB (ho.lt k hk).1))⟩
theorem zey {B:Nat} {e:TypeId} {size n:Nat} {w X:World} {v v' hv:Value} {xs:List Value} {o:Obj} (h:w.ownsRow B e size hv n xs) (hne:∀k,v.ownBlock=some k->hv.ownBlock≠some k) (h4:Since (fun k=>v.ownBlock=some k) (w.alloc o) X)
  (h5:∀k,v'.ownBlock=some k->v.ownBlock=some k\/k=(w.alloc o).heap.size):X.ownsRow B e size hv n xs/\∀k,v'.ownBlock=some k->hv.ownBlock≠some k:=by
 refine⟨h4.row (h.alloc o) (fun k h1 h2=>hne k h2 h1),fun k h1 h2=> ?_⟩
 rcases h5 k h1 with h3|h3
 ·exact hne k h3 h2
 ·have:=(h.lt k h2).2;simp at h3;omega
def zeO (w:World) (l:List zM) (e:Ending) (w':World):Prop:=(∃va vc,e= .returned (.slice va l.length vc)/\w'.ownsRow w.heap.size 32 3 (.slice va l.length vc) l.length (zq zM.cells l))/\Below w.heap.size w w'
theorem zan {w w':World} {l:List zM} {va:Option Addr} {vn vc:Nat} (h:l.length=vn) (ho:w'.ownsRow w.heap.size 32 3 (.slice va vn vc) vn (zq zM.cells l)) (hb:Below w.heap.size w w'):zeO w l (.returned (.slice va vn vc)) w':=by
 subst h;exact⟨⟨va,vc,rfl,ho⟩,hb⟩
theorem zhj (w:World) (c:zX) (cv:Value) (d:Nat) (hc:yZ d w cv c.threads) (m:zK) (s:zu) (sv mv:Value) (hs:zZ w s sv mv) (hb:∀j,j<s.threads.length->(s.threads.getD j default).buf.length<=100000):
  Calls Tryz.prog 36 #[yL c cv,yY m,yH s sv mv] w (zeO w (qO c m s d)):=by
 obtain⟨ca,cc,rfl, -⟩:=zk.slice hc
 obtain⟨ta,qm,rfl, -⟩:=zk.slice hs.threads
 obtain⟨ma,xV,rfl, -⟩:=zk.slice hs.mem
 obtain⟨fo,hfo⟩:∃fo,fo=xX c m s:=⟨_,rfl⟩
 obtain⟨R,hR⟩:∃R,R=qO c m s d:=⟨_,rfl⟩
 rw [<-hR]
 have hfits:=fun W hc hs=>zeP W c (.slice ca c.threads.length cc) d hc m s (.slice ta s.threads.length qm) (.slice ma s.mem.length xV) hs (fun j hj=>by have:=hb j hj;omega)
 rw [<-hfo] at hfits
 have hstep:=fun W hc hs i=>fun(hf:fo=true) hi=>zix W c (.slice ca c.threads.length cc) d hc m s (.slice ta s.threads.length qm) (.slice ma s.mem.length xV) hs (hfo.symm.trans hf) i hi hb
 have wS:fo=true->s.threads.length<=4:=fun e=>by
  obtain⟨h1, -,h2,h3, -⟩:=bU (hfo.symm.trans e)
  have h4:=qj h1
  rw [h2];exact h4.2.2.2.2.2
 have hmt:=fun i (hi:i<s.threads.length)=>zlp c m s d i (hb i hi)
 have hR2:R=if fo then(List.range s.threads.length).flatMap (wm c m s d) else [] :=by rw [hR,hfo];rfl
 have hmT:∀i,wm c m s d i=(if (vZ c m s i d).isSome then [⟨1,i,0⟩] else [])++(yF (s.threads.getD i default).buf m.model).map fun v=>(⟨2,i,v⟩:zM):=fun i=>rfl
 obtain⟨MT,hMT⟩:∃MT,MT=wm c m s d:=⟨_,rfl⟩
 rw [<-hMT] at hR2 hmt hmT
 have hT:=hs.threads
 obtain⟨vars,dom,cs⟩:=c
 obtain⟨mod,bnd⟩:=m
 obtain⟨ts,mem,bad⟩:=s
 obtain⟨SS,hSS⟩:∃SS,SS=fun i=>vZ ⟨vars,dom,cs⟩ ⟨mod,bnd⟩ ⟨ts,mem,bad⟩ i d:=⟨_,rfl⟩
 have zxh:∀i,vZ ⟨vars,dom,cs⟩ ⟨mod,bnd⟩ ⟨ts,mem,bad⟩ i d=SS i:=fun i=>by rw [hSS]
 simp only [] at hc hs hb wS hfits hstep hR2 hmt hT hmT ⊢
 simp only [zxh] at hstep hmT
 unfold yL yY yH
 unfold yL yY yH at hfits
 have hstep2:∀W,yZ d W (.slice ca cs.length cc) cs->zZ W ⟨ts,mem,bad⟩ (.slice ta ts.length qm) (.slice ma mem.length xV)->∀i,fo=true->i<ts.length->Calls Tryz.prog 62 #[.agg #[.int .i64 vars, .int .i64 dom, .slice ca cs.length cc], .agg #[.int .i64 mod, .int .i64 bnd], .agg #[.slice ta ts.length qm, .slice ma mem.length xV, .bool bad], .int .i64 i] W fun e w'=>(∃xa xn xc ya yn yc b',e= .returned (.tuple #[.agg #[.slice xa xn xc, .slice ya yn yc, .bool b'], .bool (SS i).isSome]))/\Below W.heap.size W w':=fun W h1 h2 i h3 h4=>
  (hstep W h1 h2 i h3 h4).mono fun e w' ⟨⟨xa,xn,xc,ya,yn,yc,s',he,_⟩,hb⟩=>⟨⟨xa,xn,xc,ya,yn,yc,s'.bad,he⟩,hb⟩
 clear hstep
 simp only [] at hfits ⊢
 obtain⟨n,hn⟩:∃n,n=ts.length:=⟨_,rfl⟩
 obtain⟨cn,hcn⟩:∃cn,cn=cs.length:=⟨_,rfl⟩
 obtain⟨mn,hmn⟩:∃mn,mn=mem.length:=⟨_,rfl⟩
 rw [<-hn] at hs hT hb hfits hstep2 wS hR2 hmt ⊢
 rw [<-hmn] at hs hfits hstep2 ⊢
 rw [<-hcn] at hc hfits hstep2 ⊢
 obtain⟨hB,h1,h2,h3⟩:=zaL w (.cells #[.int .i64 vars, .int .i64 dom, .slice ca cn cc] 24) (.cells #[.int .i64 mod, .int .i64 bnd] 26) (.cells #[.slice ta n qm, .slice ma mn xV, .bool bad] 30)
 have HB:=qh hB
 have H1:=qh h1
 have H2:=qh h2
 have H3:=qh h3
 have pW:=qh (zk.below (xC.stays d) hc hB)
 have HSW:=qh (zZ.below hs hB)
 have HT:=qh (zk.below gM.stays hT hB)
 have HN:=qh hn
 have HBU:=qh hb
 have bV:=qh hfits
 have kJ:=qh hstep2
 have HN4:=qh wS
 have HMT:=qh hmt
 have z8v:=qh hmT
 have HRR:=qh hR2
 clear hn hcn hmn hb hfits hstep2 wS hR2 hfo hB h1 h2 h3 hT hc hs hR hMT hSS zxh hmt hmT
 go_enter Tryz.func36,Tryz.ntmps36
 go_upto_region 1 with fail
 generalize World.alloc (World.alloc (World.alloc w _) _) _=W at HB H1 H2 H3 pW HSW HT ⊢
 obtain⟨gx,hgx⟩:∃gx,gx=w.heap.size:=⟨_,rfl⟩
 rw [<-hgx] at H1 H2 H3 ⊢
 have yS:Hid (w.heap.size<=W.heap.size):=HB.out.size
 clear hgx
 have xD:Hid (∀y,Below W.heap.size W y->y.cell? ⟨gx,0,none⟩=some (.int .i64 vars)/\y.cell? ⟨gx,1,none⟩=some (.int .i64 dom)/\y.cell? ⟨gx,2,none⟩=some (.slice ca cn cc)/\
   y.cell? ⟨gx+1,0,none⟩=some (.int .i64 mod)/\y.cell? ⟨gx+1,1,none⟩=some (.int .i64 bnd)/\y.cell? ⟨gx+2,0,none⟩=some (.slice ta n qm)/\y.cell? ⟨gx+2,1,none⟩=some (.slice ma mn xV)/\y.cell? ⟨gx+2,2,none⟩=some (.bool bad)):=fun y hx=>
  ⟨zl hx _ _ (zi H1.out 0),zl hx _ _ (zi H1.out 1),zl hx _ _ (zi H1.out 2),zl hx _ _ (zi H2.out 0),zl hx _ _ (zi H2.out 1),zl hx _ _ (zi H3.out 0),zl hx _ _ (zi H3.out 1),zl hx _ _ (zi H3.out 2)⟩
 have yC:Hid (∀x,Below W.heap.size W x->Below w.heap.size w x):=fun x hx=>HB.out.trans (hx.mono HB.out.size)
 obtain⟨c0,c1,c2,c3,c4,c5,c6,c7⟩:=xD.out W (Below.refl _ _)
 go_wp2_with fail
 refine(bV.out W pW.out HSW.out).mono ?_
 rintro e W1 ⟨rfl,hb1⟩
 have HB1:=qh hb1
 clear hb1 bV c0 c1 c2 c3 c4 c5 c6 c7
 cases fo with
 |false=>
  have hr:R.length=0:=by rw [HRR.out];rfl
  have hr2:zq zM.cells R= [] :=by rw [HRR.out];rfl
  have HR:=qh hr
  have HR2:=qh hr2
  clear hr hr2
  go_wp2_with fail
  go_ret
  exact zan HR.out (by rw [HR2.out];exact World.ownsRow_nil _ _ _ _) (yC.out _ HB1.out)
 |true=>
  have wS:n<=4:=HN4.out (by trivial)
  have HR:Hid (R=(List.range n).flatMap MT):=by rw [Hid,HRR.out];rfl
  clear HRR HN4
  go_wp2_with fail
  go_loopg [7,8] n (fun gg s7 s8 wr=>∃(i:Nat) (oa:Option Addr) (on oc:Nat) (ml:List zM),i<=n/\Hid (gg=n - i)/\s7= .slice oa on oc/\s8= .int .i64 i/\on<=100001*i/\Hid (wr.ownsRow W.heap.size 32 3 (.slice oa on oc) on (zq zM.cells ml))/\Hid (ml.length=on)/\Hid (ml=(List.range i).flatMap MT)/\Hid (Below W.heap.size W wr))
  case atStart=>exact⟨0,none,0,0, [],Nat.zero_le _,rfl,rfl,rfl,by omega,World.ownsRow_nil _ _ _ _,rfl,rfl,HB1.out⟩
  case round=>
   obtain⟨i,oa,on,oc,ml,hi,HG,rfl,rfl,hon,HRO,gV,HML,zP⟩:=hrel
   obtain⟨wo,rfl⟩:∃wo:World,wo=wr:=⟨_,rfl⟩
   obtain⟨c0,c1,c2,c3,c4,c5,c6,c7⟩:=xD.out wo zP.out
   by_cases hlt:i<n
   rotate_left
   ·obtain rfl:n=i:=by omega
    have HR2:Hid (R=ml):=by rw [Hid,HR.out,HML.out]
    go_wp2_with fail
    go_ret
    exact zan (by rw [HR2.out];exact gV.out) (by rw [HR2.out];exact xw HRO.out yS.out) (yC.out _ zP.out)
   have qQ:(i:Int)<(n:Int):=by omega
   obtain⟨tb,yB,ba,bc,hta, -, -, -, -, -, -, -,x5,hbuf⟩:=xY.part HT.out i (by rw [<-HN.out];exact hlt)
   subst hta
   have hbl:=HBU.out i hlt
   have hmt:=z8v.out i
   have hml:=HMT.out i hlt
   generalize ts.getD i default=t at x5 hbuf hbl hmt
   have z8w:=qh hml
   obtain⟨hh,hhh⟩:∃hh,hh=yF t.buf mod:=⟨_,rfl⟩
   rw [<-hhh] at hmt
   have zxi:=qh hmt
   have hhl:hh.length<=100000:=by have:=zc0 t.buf mod;rw [hhh];omega
   obtain⟨bl,jm⟩:∃bl,bl=t.buf.length:=⟨_,rfl⟩
   rw [<-jm] at x5 hbuf
   have uw:Hid (∀y,Below W.heap.size W y->Calls Tryz.prog 63 #[.slice ba bl bc, .int .i64 mod] y fun e w'=>(∃va vc,e= .returned (.slice va hh.length vc)/\w'.ownsRow y.heap.size 3 1 (.slice va hh.length vc) hh.length (zq yK hh))/\Below y.heap.size y w'):=fun y hy=>
    (zhm y (.slice ba bl bc) t.buf (zQ.below hbuf hy) (by omega) mod).mono fun e w' ⟨⟨sv,sn,he,hsn,hi⟩,hb⟩=>by
     rw [<-hhh] at hi hsn
     subst hsn
     obtain⟨a,cp,rfl, -⟩:=qz hi
     exact⟨⟨a,cp,he,hi⟩,hb⟩
   have HX5:Hid (∀y,Below W.heap.size W y->y.cell? ⟨tb,yB+i*6+5,none⟩=some (.slice ba bl bc)):=fun y hy=>zl hy _ _ x5
   obtain⟨hn,hhn⟩:∃hn,hn=hh.length:=⟨_,rfl⟩
   rw [<-hhn] at uw hhl
   have HHN:=qh hhn
   clear hhn hhh jm x5 hbuf hbl hmt hml
   go_upto_if 33 with(go_at_call 62;go_must(refine(kJ.out wo (zk.below (xC.stays d) pW.out zP.out) (HSW.out.below zP.out) i (by trivial) hlt).mono ?_);rintro e W2 ⟨⟨xa,xn,xc,ya,yn,yc,b',rfl⟩,hb2⟩;have HB2:=qh hb2;clear hb2)
   have hbx:=(Below.refl wo.heap.size wo).trans ((HB2.out).alloc HB2.out.size (.cells #[.slice xa xn xc, .slice ya yn yc, .bool b'] 30))
   have xg:=qh hbx
   clear hbx c0 c1 c2 c3 c4 c5 c6 c7
   generalize World.alloc W2 _=W3 at xg ⊢
   have zqH:=qh (xS HRO.out xg.out)
   have HB3:=qh (zF zP.out xg.out)
   clear HB2 xg HRO zP
   generalize hSS:(SS i).isSome=is at zxi ⊢
   clear hSS
   go_cut [7] (fun s7 w'=>∃(pa:Option Addr) (pn pc:Nat) (pl:List zM),s7= .slice pa pn pc/\pn<=on+1/\Hid (w'.ownsRow W.heap.size 32 3 (.slice pa pn pc) pn (zq zM.cells pl))/\Hid (pl.length=pn)/\Hid (pl=ml++(if is then [⟨1,i,0⟩] else []))/\Hid (Below W.heap.size W w'))
   case first=>
    cases is with
    |true=>
     go_wp2_with(at_builtin;go_must(refine yg _ rfl _ _ 52 rfl 32 (.agg #[.int .i64 0, .int .i64 0, .int .i64 0]) 3 24 Tryz.underlying52 uY rfl (by decide) W.heap.size (.slice oa on oc) on (zq zM.cells ml) rfl ((zqH.out).alloc _) ⟨W3.heap.size,0,none⟩ 1 1 (zM.cells ⟨1,i,0⟩) rfl rfl (jI _ (zM.cells ⟨1,i,0⟩) _) (by simp [zM.cells,Value.oneCell']) (by unfold maxLen;omega) (by omega) (by have:=HB3.out.size;simp;omega) ?_);intro ja jc X f1 f2 f3 f4 f5 f6;have HE:=qh (ziw (zqH.out) f1 f4 (HB3.out) (Nat.le_refl _));clear f1 f2 f3 f4 f5 f6)
     go_meet
     case rel=>exact⟨ja,on+1,jc,ml++ [(⟨1,(i:Int),0⟩:zM)],rfl,by omega,HE.out.1,by rw [Hid,List.length_append,gV.out];rfl,by simp [Hid],HE.out.2⟩
    |false=>
     go_wp2_with fail
     go_meet
     case rel=>exact⟨oa,on,oc,ml,rfl,by omega,zqH.out,gV.out,by simp [Hid],HB3.out⟩
   case rest=>
    obtain⟨pa,pn,pc,pl,rfl,hpn,HPR,HPN,wT,vB⟩:=hcut
    obtain⟨W4,rfl⟩:∃W4:World,W4=wc:=⟨_,rfl⟩
    go_upto_region 10 with fail
    have HCX:Hid (∀y,Below W4.heap.size W4 y->y.cell? ⟨gx+2,0,none⟩=some (.slice (some ⟨tb,yB,none⟩) n qm)/\y.cell? ⟨gx+1,0,none⟩=some (.int .i64 mod)/\y.cell? ⟨tb,yB+i*6+5,none⟩=some (.slice ba bl bc)):=fun y hy=>by
     have hw:=zF vB.out hy
     obtain⟨-, -, -,c3, -,c5, -, -⟩:=xD.out y hw
     exact⟨c5,c3,HX5.out y hw⟩
    have zk8:Hid (∀y,Below W4.heap.size W4 y->Calls Tryz.prog 63 #[.slice ba bl bc, .int .i64 mod] y fun e w'=>(∃va vc,e= .returned (.slice va hn vc)/\w'.ownsRow y.heap.size 3 1 (.slice va hn vc) hn (zq yK hh))/\Below y.heap.size y w'):=fun y hy=>uw.out y (zF vB.out hy)
    refine wp_region_noPanic ?_
    refine wp_region_held_drew (S:=fun x=>Below W4.heap.size W4 x) (by kernel_rfl) (Below.refl _ _).drew (fun hH=> ?_)
    refine zo 0 39 ?vh1 rfl ?uH ?_
    case uH=>(intro x h;have e:=HCX.out x h;go_simp<;>rfl)
    simp only [Act.put,za,ze,zh]
    refine zo 1 40 ?vh2 rfl ?uI ?_
    case uI=>(intro x h;have e:=HCX.out x h;go_simp<;>rfl)
    simp only [Act.put,za,ze,zh]
    refine zo 2 41 ?vh3 rfl ?uJ ?_
    case uJ=>(intro x h;have e:=HCX.out x h;go_simp<;>rfl)
    simp only [Act.put,za,ze,zh]
    refine zo 3 42 ?vh4 rfl ?uK ?_
    case uK=>(intro x h;have e:=HCX.out x h;go_simp<;>rfl)
    simp only [Act.put,za,ze,zh]
    refine zo 4 43 ?vh5 rfl ?uL ?_
    case uL=>(intro x h;have e:=HCX.out x h;go_simp<;>rfl)
    simp only [Act.put,za,ze,zh]
    refine zo 5 44 ?vh6 rfl ?uM ?_
    case uM=>(intro x h;have e:=HCX.out x h;go_simp<;>rfl)
    simp only [Act.put,za,ze,zh]
    refine zo 6 45 ?vh7 rfl ?uN ?_
    case uN=>(intro x h;have e:=HCX.out x h;go_simp<;>rfl)
    simp only [Act.put,za,ze,zh]
    refine zo 7 46 ?vh8 rfl ?uO ?_
    case uO=>(intro x h;have e:=HCX.out x h;go_simp<;>rfl)
    simp only [Act.put,za,ze,zh]
    refine zY 8 rfl (fun K hK=> ?_)
    go_simp
    refine(zk8.out W4.drew hH).mono ?_
    rintro e hw8 ⟨⟨va,vc,rfl,hhr⟩,hb⟩
    have HHI:=qh hhr
    have HHG:Hid (W4.heap.size<=W4.drew.heap.size):=(hH).size
    clear hhr
    have zqI:Below W4.heap.size W4 hw8:=zF hH hb
    refine hK.out _ _ zqI (fun _=> ?_)
    clear hK K hb hH
    refine zo 9 11 ?vh9 rfl ?zaa ?_
    case zaa=>(intro x h;have e:=HCX.out x h;go_simp<;>rfl)
    simp only [Act.put,za,ze,zh]
    refine wpAnyH_done (by kernel_rfl) ?_ _
    refine NoPanic.normal ?_
    have yj:=qh zqI
    clear zqI
    go_wp2_with fail
    obtain⟨W5,hW5⟩:∃W5,W5=hw8:=⟨_,rfl⟩
    rw [<-hW5] at yj HHI ⊢
    clear hW5
    have z8x:=qh (xS HPR.out yj.out)
    have HB5:=qh (zF vB.out yj.out)
    have z8y:Hid (∀x,(Value.slice pa pn pc).ownBlock=some x->(Value.slice va hn vc).ownBlock≠some x):=fun x h1 h2=>by have:=(HPR.out.lt x h1).2;have:=(HHI.out.lt x h2).1;have:=HHG.out;omega
    clear uw zk8 HCX yj vB HPR HHG
    go_loopg [7,12] hn (fun gg s7 s12 wr=>∃(k:Nat) (qa:Option Addr) (qn qc:Nat) (ql:List zM),k<=hn/\Hid (gg=hn - k)/\s7= .slice qa qn qc/\s12= .int .i64 k/\qn<=on+1+k/\Hid (wr.ownsRow W.heap.size 32 3 (.slice qa qn qc) qn (zq zM.cells ql))/\Hid (ql.length=qn)/\Hid (ql=pl++(hh.take k).map (fun v=>⟨2,i,v⟩))/\Hid (∃B,wr.ownsRow B 3 1 (.slice va hn vc) hn (zq yK hh))/\Hid (∀x,(Value.slice qa qn qc).ownBlock=some x->(Value.slice va hn vc).ownBlock≠some x)/\Hid (Below W.heap.size W wr))
    case atStart=>exact⟨0,pa,pn,pc,pl,Nat.zero_le _,rfl,rfl,rfl,by omega,z8x.out,HPN.out,by simp [Hid],⟨_,HHI.out⟩,z8y.out,HB5.out⟩
    case round=>
     obtain⟨k,qa,qn,qc,ql,hk,HG2,rfl,rfl,hqn,HQR,HQN,HQL,HHR,kr,yu⟩:=hrel
     by_cases hkl:k<hn
     rotate_left
     ·obtain rfl:hn=k:=by omega
      have hst:ql=(List.range (i+1)).flatMap MT:=by
       rw [zaM,zxi.out, <-HML.out,HQL.out,wT.out,HHN.out,List.take_length,List.append_assoc]
      have z8z:qn<=100001*(i+1):=by
       have h1:=z8w.out
       have h2:=congrArg List.length hst
       rw [zaM,List.length_append, <-HML.out,gV.out,HQN.out] at h2
       omega
      have HST:=qh hst
      clear hst
      go_wp2_with fail
      go_roundg (n - (i+1))
      case measure=>rw [HG.out];omega
      case rel=>exact⟨i+1,qa,qn,qc,ql,by omega,rfl,rfl,by simp,z8z,HQR.out,HQN.out,HST.out,yu.out⟩
     have zxl:(k:Int)<(hn:Int):=by omega
     obtain⟨BH,hhr⟩:=HHR.out
     have hrw:=hhr
     rw [HHN.out] at hrw
     obtain⟨b9,o9,yx, -,e1⟩:=xJ.part (gL hrw) k (by rw [<-HHN.out];exact hkl)
     subst yx
     have HRB:=qh hhr
     clear hhr hrw
     have jM:Hid (hh.take (k+1)=hh.take k++ [hh.getD k 0]):=by rw [Hid,List.take_succ_eq_append_getElem (by rw [<-HHN.out];exact hkl),List.getD_eq_getElem?_getD,List.getElem?_eq_getElem (by rw [<-HHN.out];exact hkl)];rfl
     generalize hh.getD k 0=v at e1 jM
     go_wp2_with(at_builtin;go_must(refine yg _ rfl _ _ 52 rfl 32 (.agg #[.int .i64 0, .int .i64 0, .int .i64 0]) 3 24 Tryz.underlying52 uY rfl (by decide) W.heap.size (.slice qa qn qc) qn (zq zM.cells ql) rfl ((HQR.out).alloc _) ⟨wr.heap.size,0,none⟩ 1 1 (zM.cells ⟨2,i,v⟩) rfl rfl (jI _ (zM.cells ⟨2,i,v⟩) _) (by simp [zM.cells,Value.oneCell']) (by unfold maxLen;omega) (by omega) (by have:=yu.out.size;simp;omega) ?_);intro ja jc X f1 f2 f3 f4 f5 f6;have HE:=qh (ziw (HQR.out) f1 f4 (yu.out) (Nat.le_refl _));have HE2:=qh (zey HRB.out kr.out f4 f5);clear f1 f2 f3 f4 f5 f6)
     go_roundg (hn - (k+1))
     case measure=>rw [HG2.out];omega
     case rel=>exact⟨k+1,ja,qn+1,jc,ql++ [(⟨2,(i:Int),v⟩:zM)],by omega,rfl,rfl,by simp,by omega,HE.out.1,by rw [Hid,List.length_append,HQN.out];rfl,by rw [Hid,HQL.out,jM.out];simp,⟨_,HE2.out.1⟩,HE2.out.2,HE.out.2⟩
theorem zlq:Tryz.prog.underlying 32=some (.struct (Tryz.prog.fieldsOf 32)):=by kernel_rfl
theorem zlr:Tryz.prog.stoodInHeld 32=false:=by kernel_rfl
@[go_sem] theorem z1R:Tryz.prog.eqGuardType Tryz.prog.depth 32=false:=by kernel_rfl
theorem zkg:(Tryz.prog.fieldsOf 32).toList.map (fun f=>(f.name,f.type,f.offset))= [("Kind",3,0),("Thread",3,1),("Var",3,2)] :=by kernel_rfl
@[go_sem] theorem z1P (w:World) (a b c x y z:Int):(Op.equalIn 10000 32 (.agg #[.int .i64 a, .int .i64 b, .int .i64 c]) (.agg #[.int .i64 x, .int .i64 y, .int .i64 z])).run Tryz.prog w
  = .ok (a==x && b==y && c==z) w:=by
 rw [run_equalIn_agg w 9999 _ _ _ zlq zlr]
 obtain⟨f0,f1,f2,hf,h0,h1,h2⟩:∃f0 f1 f2,(Tryz.prog.fieldsOf 32).toList= [f0,f1,f2] /\(f0.name,f0.type,f0.offset)=("Kind",3,0)/\(f1.name,f1.type,f1.offset)=("Thread",3,1)/\(f2.name,f2.type,f2.offset)=("Var",3,2):=by
  have h:=zkg
  generalize (Tryz.prog.fieldsOf 32).toList=l at h
  have hl:l.length=3:=by have:=congrArg List.length h;simpa using this
  match l,hl,h with
  | [f0,f1,f2],_,h=>
   simp only [List.map_cons,List.map_nil,List.cons.injEq,and_true] at h
   exact⟨f0,f1,f2,rfl,h.1,h.2.1,h.2.2⟩
 simp only [Prod.mk.injEq] at h0 h1 h2
 rw [hf]
 have p0:=fun(w:World) (a b c:Int)=>j5 w #[.int .i64 a, .int .i64 b, .int .i64 c] 0 a rfl
 have p1:=fun(w:World) (a b c:Int)=>j5 w #[.int .i64 a, .int .i64 b, .int .i64 c] 1 b rfl
 have p2:=fun(w:World) (a b c:Int)=>j5 w #[.int .i64 a, .int .i64 b, .int .i64 c] 2 c rfl
 have ge:=zez 9998
 cases e0:a==x<;>cases e1:b==y<;>cases e2:c==z<;>simp [Op.eqFields,h0,h1,h2,p0,p1,p2,ge,e0,e1,e2]
theorem zob (w:World) (av bv:Value) (l:List zM) (ha:j3 w av l) (hb:j3 w bv l):Calls Tryz.prog 42 #[av,bv] w fun e w'=>e= .returned (.bool true)/\Below w.heap.size w w':=by
 obtain⟨aa,ac,rfl,hal⟩:=zk.slice ha
 obtain⟨ba,bc,rfl, -⟩:=zk.slice hb
 obtain⟨n,hn⟩:∃n,n=l.length:=⟨_,rfl⟩
 rw [<-hn] at ha hb hal ⊢
 have HA:=qh ha
 have HB:=qh hb
 have HN:=qh hn
 clear ha hb hn
 go_enter Tryz.func42,Tryz.ntmps42
 go_wp2_with fail
 go_loopg [5] n (fun gg s5 wr=>∃i:Nat,i<=n/\Hid (gg=n - i)/\s5= .int .i64 i/\Hid (Below w.heap.size w wr))
 case atStart=>exact⟨0,Nat.zero_le _,rfl,rfl,Below.refl _ _⟩
 case round=>
  obtain⟨i,hi,HG,rfl,zP⟩:=hrel
  by_cases hlt:i<n
  rotate_left
  ·obtain rfl:n=i:=by omega
   go_wp2_with fail
   go_ret
   exact⟨rfl,zP.out⟩
  have qQ:(i:Int)<(n:Int):=by omega
  obtain⟨eb,eo,yx, -,x0,x1,x2⟩:=j3.part HA.out i (by rw [<-HN.out];exact hlt)
  subst yx
  obtain⟨fb,fo,hfa, -,y0,y1,y2⟩:=j3.part HB.out i (by rw [<-HN.out];exact hlt)
  subst hfa
  generalize l.getD i default=x at x0 x1 x2 y0 y1 y2
  obtain⟨k,t,v⟩:=x
  simp only [] at x0 x1 x2 y0 y1 y2
  replace x0:=zl zP.out _ _ x0
  replace x1:=zl zP.out _ _ x1
  replace x2:=zl zP.out _ _ x2
  replace y0:=zl zP.out _ _ y0
  replace y1:=zl zP.out _ _ y1
  replace y2:=zl zP.out _ _ y2
  have CC:Hid (∀y,Below wr.heap.size wr y->y.cell? ⟨eb,eo+i*3,none⟩=some (.int .i64 k)/\y.cell? ⟨eb,eo+i*3+1,none⟩=some (.int .i64 t)/\y.cell? ⟨eb,eo+i*3+2,none⟩=some (.int .i64 v)/\y.cell? ⟨fb,fo+i*3,none⟩=some (.int .i64 k)/\y.cell? ⟨fb,fo+i*3+1,none⟩=some (.int .i64 t)/\y.cell? ⟨fb,fo+i*3+2,none⟩=some (.int .i64 v)):=fun y hy=>
   ⟨zl hy _ _ x0,zl hy _ _ x1,zl hy _ _ x2,zl hy _ _ y0,zl hy _ _ y1,zl hy _ _ y2⟩
  clear x0 x1 x2 y0 y1 y2
  go_upto_region 6 with fail
  refine wp_region_noPanic ?_
  refine wp_region_held_drew (S:=fun x=>Below wr.heap.size wr x) (by kernel_rfl) ((Below.refl _ _).drew) (fun hH=> ?_)
  refine zo 0 17 ?vh1 rfl ?uH ?_
  case uH=>(intro x h;have e:=CC.out x h;go_simp<;>rfl)
  simp only [Act.put,za,ze,zh]
  refine zo 1 18 ?vh2 rfl ?uI ?_
  case uI=>(intro x h;have e:=CC.out x h;go_simp<;>rfl)
  simp only [Act.put,za,ze,zh]
  refine zo 2 19 ?vh3 rfl ?uJ ?_
  case uJ=>(intro x h;have e:=CC.out x h;go_simp<;>rfl)
  simp only [Act.put,za,ze,zh]
  refine zo 3 20 ?vh4 rfl ?uK ?_
  case uK=>(intro x h;have e:=CC.out x h;go_simp<;>rfl)
  simp only [Act.put,za,ze,zh]
  refine zo 4 21 ?vh5 rfl ?uL ?_
  case uL=>(intro x h;have e:=CC.out x h;go_simp<;>rfl)
  simp only [Act.put,za,ze,zh]
  refine zo 5 22 ?vh6 rfl ?uM ?_
  case uM=>(intro x h;have e:=CC.out x h;go_simp<;>rfl)
  simp only [Act.put,za,ze,zh]
  refine zo 6 23 ?vh7 rfl ?uN ?_
  case uN=>(intro x h;have e:=CC.out x h;go_simp<;>rfl)
  simp only [Act.put,za,ze,zh]
  refine zo 7 24 ?vh8 rfl ?uO ?_
  case uO=>(intro x h;have e:=CC.out x h;go_simp<;>rfl)
  simp only [Act.put,za,ze,zh]
  refine zo 8 25 ?vh9 rfl ?zaa ?_
  case zaa=>(intro x h;have e:=CC.out x h;go_simp<;>rfl)
  simp only [Act.put,za,ze,zh]
  refine wpAnyH_done (by kernel_rfl) ?_ _
  refine NoPanic.normal ?_
  go_wp2_with fail
  go_roundg (n - (i+1))
  case measure=>rw [HG.out];omega
  case rel=>exact⟨i+1,by omega,rfl,by simp,zF (a:=w) zP.out (hH)⟩
end Go.Proofs.YtliajkheeniljaaGreatDoor
