/- The moves that may be: the document's answer: the walk. Two lists of moves that are the same: the walk. -/
import Derived.Laws.StructEq
import Derived.Test.YtliajkheeniljaaGreatDoorZaFits
import Derived.Test.YtliajkheeniljaaGreatDoorZaSame7
import Derived.Test.YtliajkheeniljaaGreatDoorZaStep
import Derived.Test.YtliajkheeniljaaGreatDoorZaStepQ
import Derived.Test.YtliajkheeniljaaGreatDoorZaShort
set_option linter.all false
namespace Go.Proofs.YtliajkheeniljaaGreatDoor
open Go.RowKit
set_option maxRecDepth 100000
set_option maxHeartbeats 16000000
theorem zaV (w:World) (o1 o2 o3:Obj):Below w.heap.size w (((w.alloc o1).alloc o2).alloc o3)/\(((w.alloc o1).alloc o2).alloc o3).heap[w.heap.size]? =some o1/\(((w.alloc o1).alloc o2).alloc o3).heap[w.heap.size+1]? =some o2/\(((w.alloc o1).alloc o2).alloc o3).heap[w.heap.size+2]? =some o3:=
 ⟨gB w _ _ _,gD w _ _ _,wE w _ _ _,gF w _ _ _⟩
theorem zgi (x:zG):(zG.cells x).length=3:=rfl
theorem wT:(Tryz.prog.info? 32).map (fun i=>(i.zero,i.size,i.bytes))=some (some (.agg #[.int .i64 0, .int .i64 0, .int .i64 0]),3,24):=by kernel_rfl
theorem zba (l:List zn) (model:Int):(yh l model).length<=l.length:=by
 unfold yh
 split
 ·exact zcM _ _
 ·split
  ·cases l<;>simp
  ·simp
theorem zjE (c:zS) (m:zM) (s:zu) (d i:Nat) (h:(s.threads.getD i default).buf.length<=100000):(jN c m s d i).length<=100001:=by
 unfold jN
 have:=zba (s.threads.getD i default).buf m.model
 rw [List.length_append,List.length_map]
 split<;>simp only [List.length_cons,List.length_nil] <;>omega
theorem zbW {α:Type} (f:α->List Value) (l:List α) (x:α):zq f (l++ [x])=zq f l++f x:=by simp [zq]
theorem bN {α:Type} (f:Nat->List α) (i:Nat):(List.range (i+1)).flatMap f=(List.range i).flatMap f++f i:=by rw [List.range_succ];simp
theorem zgS {α:Type} {f:α->List Value} {B:Nat} {e:TypeId} {size:Nat} {w X:World} {a a':Option Addr} {n m c c':Nat} {l:List α} {x:α} {o:Obj} (ho:w.ownsRow B e size (.slice a n c) n (zq f l)) (h1:X.ownsRow B e size (.slice a' m c') m (zq f l++f x))
  (h4:Since (fun k=>(Value.slice a n c).ownBlock=some k) (w.alloc o) X) {V:World} (hV:Below V.heap.size V w) (hB:V.heap.size<=B):X.ownsRow B e size (.slice a' m c') m (zq f (l++ [x]))/\Below V.heap.size V X:=by
 refine⟨by rw [zbW];exact h1,hV.trans ((((Since.refl _ w).alloc o).trans h4 (fun k hk=> .inl hk)).below hV.size (fun k hk=>Nat.le_trans hB (ho.lt k hk).1))⟩
theorem zcF {B:Nat} {e:TypeId} {size n:Nat} {w X:World} {v v' hv:Value} {xs:List Value} {o:Obj} (h:w.ownsRow B e size hv n xs) (hne:∀k,v.ownBlock=some k->hv.ownBlock≠some k) (h4:Since (fun k=>v.ownBlock=some k) (w.alloc o) X)
  (h5:∀k,v'.ownBlock=some k->v.ownBlock=some k\/k=(w.alloc o).heap.size):X.ownsRow B e size hv n xs/\∀k,v'.ownBlock=some k->hv.ownBlock≠some k:=by
 refine⟨h4.row (h.alloc o) (fun k h1 h2=>hne k h2 h1),fun k h1 h2=> ?_⟩
 rcases h5 k h1 with h3|h3
 ·exact hne k h3 h2
 ·have:=(h.lt k h2).2;simp at h3;omega
def zcU (w:World) (l:List zG) (e:Ending) (w':World):Prop:=(∃va vc,e= .returned (.slice va l.length vc)/\w'.ownsRow w.heap.size 32 3 (.slice va l.length vc) l.length (zq zG.cells l))/\Below w.heap.size w w'
theorem uH {w w':World} {l:List zG} {va:Option Addr} {vn vc:Nat} (h:l.length=vn) (ho:w'.ownsRow w.heap.size 32 3 (.slice va vn vc) vn (zq zG.cells l)) (hb:Below w.heap.size w w'):zcU w l (.returned (.slice va vn vc)) w':=by
 subst h;exact⟨⟨va,vc,rfl,ho⟩,hb⟩
theorem zl2 (w:World) (c:zS) (cv:Value) (d:Nat) (hc:yF d w cv c.threads) (m:zM) (s:zu) (sv mv:Value) (hs:zN w s sv mv) (hb:∀j,j<s.threads.length->(s.threads.getD j default).buf.length<=100000):
  Calls Tryz.prog 36 #[yD c cv,yR m,zW s sv mv] w (zcU w (qL c m s d)):=by
 obtain⟨ca,cc,rfl, -⟩:=zl.slice hc
 obtain⟨ta,xB,rfl, -⟩:=zl.slice hs.threads
 obtain⟨ma,yZ,rfl, -⟩:=zl.slice hs.mem
 obtain⟨fo,hfo⟩:∃fo,fo=xX c m s:=⟨_,rfl⟩
 obtain⟨R,hR⟩:∃R,R=qL c m s d:=⟨_,rfl⟩
 rw [<-hR]
 have hfits:=fun W hc hs=>zcZ W c (.slice ca c.threads.length cc) d hc m s (.slice ta s.threads.length xB) (.slice ma s.mem.length yZ) hs (fun j hj=>by have:=hb j hj;omega)
 rw [<-hfo] at hfits
 have hstep:=fun W hc hs i=>fun(hf:fo=true) hi=>zgv W c (.slice ca c.threads.length cc) d hc m s (.slice ta s.threads.length xB) (.slice ma s.mem.length yZ) hs (hfo.symm.trans hf) i hi hb
 have hn4:fo=true->s.threads.length<=4:=fun e=>by
  obtain⟨h1, -,h2,h3, -⟩:=gM (hfo.symm.trans e)
  have h4:=qP h1
  rw [h2];exact h4.2.2.2.2.2
 have hmt:=fun i (hi:i<s.threads.length)=>zjE c m s d i (hb i hi)
 have hR2:R=if fo then(List.range s.threads.length).flatMap (jN c m s d) else [] :=by rw [hR,hfo];rfl
 have hmT:∀i,jN c m s d i=(if (vW c m s i d).isSome then [⟨1,i,0⟩] else [])++(yh (s.threads.getD i default).buf m.model).map fun v=>(⟨2,i,v⟩:zG):=fun i=>rfl
 obtain⟨MT,hMT⟩:∃MT,MT=jN c m s d:=⟨_,rfl⟩
 rw [<-hMT] at hR2 hmt hmT
 have hT:=hs.threads
 obtain⟨vars,dom,cs⟩:=c
 obtain⟨mod,bnd⟩:=m
 obtain⟨ts,mem,bad⟩:=s
 obtain⟨SS,hSS⟩:∃SS,SS=fun i=>vW ⟨vars,dom,cs⟩ ⟨mod,bnd⟩ ⟨ts,mem,bad⟩ i d:=⟨_,rfl⟩
 have zv6:∀i,vW ⟨vars,dom,cs⟩ ⟨mod,bnd⟩ ⟨ts,mem,bad⟩ i d=SS i:=fun i=>by rw [hSS]
 simp only [] at hc hs hb hn4 hfits hstep hR2 hmt hT hmT ⊢
 simp only [zv6] at hstep hmT
 unfold yD yR zW
 unfold yD yR zW at hfits
 have hstep2:∀W,yF d W (.slice ca cs.length cc) cs->zN W ⟨ts,mem,bad⟩ (.slice ta ts.length xB) (.slice ma mem.length yZ)->∀i,fo=true->i<ts.length->Calls Tryz.prog 62 #[.agg #[.int .i64 vars, .int .i64 dom, .slice ca cs.length cc], .agg #[.int .i64 mod, .int .i64 bnd], .agg #[.slice ta ts.length xB, .slice ma mem.length yZ, .bool bad], .int .i64 i] W fun e w'=>(∃xa xn xc ya yn yc b',e= .returned (.tuple #[.agg #[.slice xa xn xc, .slice ya yn yc, .bool b'], .bool (SS i).isSome]))/\Below W.heap.size W w':=fun W h1 h2 i h3 h4=>
  (hstep W h1 h2 i h3 h4).mono fun e w' ⟨⟨xa,xn,xc,ya,yn,yc,s',he,_⟩,hb⟩=>⟨⟨xa,xn,xc,ya,yn,yc,s'.bad,he⟩,hb⟩
 clear hstep
 simp only [] at hfits ⊢
 obtain⟨n,hn⟩:∃n,n=ts.length:=⟨_,rfl⟩
 obtain⟨cn,hcn⟩:∃cn,cn=cs.length:=⟨_,rfl⟩
 obtain⟨mn,hmn⟩:∃mn,mn=mem.length:=⟨_,rfl⟩
 rw [<-hn] at hs hT hb hfits hstep2 hn4 hR2 hmt ⊢
 rw [<-hmn] at hs hfits hstep2 ⊢
 rw [<-hcn] at hc hfits hstep2 ⊢
 obtain⟨hB,h1,h2,h3⟩:=zaV w (.cells #[.int .i64 vars, .int .i64 dom, .slice ca cn cc] 24) (.cells #[.int .i64 mod, .int .i64 bnd] 26) (.cells #[.slice ta n xB, .slice ma mn yZ, .bool bad] 30)
 have HB:=qh hB
 have H1:=qh h1
 have H2:=qh h2
 have H3:=qh h3
 have ug:=qh (zl.below (xu.stays d) hc hB)
 have HSW:=qh (zN.below hs hB)
 have HT:=qh (zl.below jf.stays hT hB)
 have HN:=qh hn
 have bC:=qh hb
 have wX:=qh hfits
 have jC:=qh hstep2
 have HN4:=qh hn4
 have HMT:=qh hmt
 have z4w:=qh hmT
 have HRR:=qh hR2
 clear hn hcn hmn hb hfits hstep2 hn4 hR2 hfo hB h1 h2 h3 hT hc hs hR hMT hSS zv6 hmt hmT
 go_enter Tryz.func36,Tryz.ntmps36
 go_upto_region 1 with fail
 generalize World.alloc (World.alloc (World.alloc w _) _) _=W at HB H1 H2 H3 ug HSW HT ⊢
 obtain⟨gx,hgx⟩:∃gx,gx=w.heap.size:=⟨_,rfl⟩
 rw [<-hgx] at H1 H2 H3 ⊢
 have xO:Hid (w.heap.size<=W.heap.size):=HB.out.size
 clear hgx
 have yJ:Hid (∀y,Below W.heap.size W y->y.cell? ⟨gx,0,none⟩=some (.int .i64 vars)/\y.cell? ⟨gx,1,none⟩=some (.int .i64 dom)/\y.cell? ⟨gx,2,none⟩=some (.slice ca cn cc)/\
   y.cell? ⟨gx+1,0,none⟩=some (.int .i64 mod)/\y.cell? ⟨gx+1,1,none⟩=some (.int .i64 bnd)/\y.cell? ⟨gx+2,0,none⟩=some (.slice ta n xB)/\y.cell? ⟨gx+2,1,none⟩=some (.slice ma mn yZ)/\y.cell? ⟨gx+2,2,none⟩=some (.bool bad)):=fun y hx=>
  ⟨zm hx _ _ (zh H1.out 0),zm hx _ _ (zh H1.out 1),zm hx _ _ (zh H1.out 2),zm hx _ _ (zh H2.out 0),zm hx _ _ (zh H2.out 1),zm hx _ _ (zh H3.out 0),zm hx _ _ (zh H3.out 1),zm hx _ _ (zh H3.out 2)⟩
 have zY:Hid (∀x,Below W.heap.size W x->Below w.heap.size w x):=fun x hx=>HB.out.trans (hx.mono HB.out.size)
 obtain⟨c0,c1,c2,c3,c4,c5,c6,c7⟩:=yJ.out W (Below.refl _ _)
 go_wp2_with fail
 refine(wX.out W ug.out HSW.out).mono ?_
 rintro e W1 ⟨rfl,hb1⟩
 have HB1:=qh hb1
 clear hb1 wX c0 c1 c2 c3 c4 c5 c6 c7
 cases fo with
 |false=>
  have hr:R.length=0:=by rw [HRR.out];rfl
  have hr2:zq zG.cells R= [] :=by rw [HRR.out];rfl
  have HR:=qh hr
  have HR2:=qh hr2
  clear hr hr2
  go_wp2_with fail
  go_ret
  exact uH HR.out (by rw [HR2.out];exact World.ownsRow_nil _ _ _ _) (zY.out _ HB1.out)
 |true=>
  have hn4:n<=4:=HN4.out (by trivial)
  have HR:Hid (R=(List.range n).flatMap MT):=by rw [Hid,HRR.out];rfl
  clear HRR HN4
  go_wp2_with fail
  go_loopg [7,8] n (fun gg s7 s8 wr=>∃(i:Nat) (oa:Option Addr) (on oc:Nat) (ml:List zG),i<=n/\Hid (gg=n - i)/\s7= .slice oa on oc/\s8= .int .i64 i/\on<=100001*i/\Hid (wr.ownsRow W.heap.size 32 3 (.slice oa on oc) on (zq zG.cells ml))/\Hid (ml.length=on)/\Hid (ml=(List.range i).flatMap MT)/\Hid (Below W.heap.size W wr))
  case atStart=>exact⟨0,none,0,0, [],Nat.zero_le _,rfl,rfl,rfl,by omega,World.ownsRow_nil _ _ _ _,rfl,rfl,HB1.out⟩
  case round=>
   obtain⟨i,oa,on,oc,ml,hi,HG,rfl,rfl,hon,HRO,bD,HML,zX⟩:=hrel
   obtain⟨wo,rfl⟩:∃wo:World,wo=wr:=⟨_,rfl⟩
   obtain⟨c0,c1,c2,c3,c4,c5,c6,c7⟩:=yJ.out wo zX.out
   by_cases hlt:i<n
   rotate_left
   ·obtain rfl:n=i:=by omega
    have HR2:Hid (R=ml):=by rw [Hid,HR.out,HML.out]
    go_wp2_with fail
    go_ret
    exact uH (by rw [HR2.out];exact bD.out) (by rw [HR2.out];exact yN HRO.out xO.out) (zY.out _ zX.out)
   have qg:(i:Int)<(n:Int):=by omega
   obtain⟨tb,yC,ba,bc,hta, -, -, -, -, -, -, -,x5,hbuf⟩:=xD.part HT.out i (by rw [<-HN.out];exact hlt)
   subst hta
   have hbl:=bC.out i hlt
   have hmt:=z4w.out i
   have hml:=HMT.out i hlt
   generalize ts.getD i default=t at x5 hbuf hbl hmt
   have z4x:=qh hml
   obtain⟨hh,hhh⟩:∃hh,hh=yh t.buf mod:=⟨_,rfl⟩
   rw [<-hhh] at hmt
   have zv7:=qh hmt
   have hhl:hh.length<=100000:=by have:=zba t.buf mod;rw [hhh];omega
   obtain⟨bl,vw⟩:∃bl,bl=t.buf.length:=⟨_,rfl⟩
   rw [<-vw] at x5 hbuf
   have wD:Hid (∀y,Below W.heap.size W y->Calls Tryz.prog 63 #[.slice ba bl bc, .int .i64 mod] y fun e w'=>(∃va vc,e= .returned (.slice va hh.length vc)/\w'.ownsRow y.heap.size 3 1 (.slice va hh.length vc) hh.length (zq yE hh))/\Below y.heap.size y w'):=fun y hy=>
    (zfg y (.slice ba bl bc) t.buf (zH.below hbuf hy) (by omega) mod).mono fun e w' ⟨⟨sv,sn,he,hsn,hi⟩,hb⟩=>by
     rw [<-hhh] at hi hsn
     subst hsn
     obtain⟨a,cp,rfl, -⟩:=qz hi
     exact⟨⟨a,cp,he,hi⟩,hb⟩
   have HX5:Hid (∀y,Below W.heap.size W y->y.cell? ⟨tb,yC+i*6+5,none⟩=some (.slice ba bl bc)):=fun y hy=>zm hy _ _ x5
   obtain⟨hn,hhn⟩:∃hn,hn=hh.length:=⟨_,rfl⟩
   rw [<-hhn] at wD hhl
   have pI:=qh hhn
   clear hhn hhh vw x5 hbuf hbl hmt hml
   go_upto_if 33 with(go_at_call 62;go_must(refine(jC.out wo (zl.below (xu.stays d) ug.out zX.out) (HSW.out.below zX.out) i (by trivial) hlt).mono ?_);rintro e W2 ⟨⟨xa,xn,xc,ya,yn,yc,b',rfl⟩,hb2⟩;have HB2:=qh hb2;clear hb2)
   have hbx:=(Below.refl wo.heap.size wo).trans ((HB2.out).alloc HB2.out.size (.cells #[.slice xa xn xc, .slice ya yn yc, .bool b'] 30))
   have xC:=qh hbx
   clear hbx c0 c1 c2 c3 c4 c5 c6 c7
   generalize World.alloc W2 _=W3 at xC ⊢
   have zpd:=qh (xJ HRO.out xC.out)
   have HB3:=qh (zB zX.out xC.out)
   clear HB2 xC HRO zX
   generalize hSS:(SS i).isSome=is at zv7 ⊢
   clear hSS
   go_cut [7] (fun s7 w'=>∃(pa:Option Addr) (pn pc:Nat) (pl:List zG),s7= .slice pa pn pc/\pn<=on+1/\Hid (w'.ownsRow W.heap.size 32 3 (.slice pa pn pc) pn (zq zG.cells pl))/\Hid (pl.length=pn)/\Hid (pl=ml++(if is then [⟨1,i,0⟩] else []))/\Hid (Below W.heap.size W w'))
   case first=>
    cases is with
    |true=>
     go_wp2_with(at_builtin;go_must(refine yt _ rfl _ _ 52 rfl 32 (.agg #[.int .i64 0, .int .i64 0, .int .i64 0]) 3 24 Tryz.underlying52 wT rfl (by decide) W.heap.size (.slice oa on oc) on (zq zG.cells ml) rfl ((zpd.out).alloc _) ⟨W3.heap.size,0,none⟩ 1 1 (zG.cells ⟨1,i,0⟩) rfl rfl (bV _ (zG.cells ⟨1,i,0⟩) _) (by simp [zG.cells,Value.oneCell']) (by unfold maxLen;omega) (by omega) (by have:=HB3.out.size;simp;omega) ?_);intro ja jc X f1 f2 f3 f4 f5 f6;have HE:=qh (zgS (zpd.out) f1 f4 (HB3.out) (Nat.le_refl _));clear f1 f2 f3 f4 f5 f6)
     go_meet
     case rel=>exact⟨ja,on+1,jc,ml++ [(⟨1,(i:Int),0⟩:zG)],rfl,by omega,HE.out.1,by rw [Hid,List.length_append,bD.out];rfl,by simp [Hid],HE.out.2⟩
    |false=>
     go_wp2_with fail
     go_meet
     case rel=>exact⟨oa,on,oc,ml,rfl,by omega,zpd.out,bD.out,by simp [Hid],HB3.out⟩
   case rest=>
    obtain⟨pa,pn,pc,pl,rfl,hpn,HPR,HPN,gN,qO⟩:=hcut
    obtain⟨W4,rfl⟩:∃W4:World,W4=wc:=⟨_,rfl⟩
    go_upto_region 10 with fail
    have j3:Hid (∀y,Below W4.heap.size W4 y->y.cell? ⟨gx+2,0,none⟩=some (.slice (some ⟨tb,yC,none⟩) n xB)/\y.cell? ⟨gx+1,0,none⟩=some (.int .i64 mod)/\y.cell? ⟨tb,yC+i*6+5,none⟩=some (.slice ba bl bc)):=fun y hy=>by
     have hw:=zB qO.out hy
     obtain⟨-, -, -,c3, -,c5, -, -⟩:=yJ.out y hw
     exact⟨c5,c3,HX5.out y hw⟩
    have zif:Hid (∀y,Below W4.heap.size W4 y->Calls Tryz.prog 63 #[.slice ba bl bc, .int .i64 mod] y fun e w'=>(∃va vc,e= .returned (.slice va hn vc)/\w'.ownsRow y.heap.size 3 1 (.slice va hn vc) hn (zq yE hh))/\Below y.heap.size y w'):=fun y hy=>wD.out y (zB qO.out hy)
    refine wp_region_noPanic ?_
    refine wp_region_held_drew (S:=fun x=>Below W4.heap.size W4 x) (by kernel_rfl) (Below.refl _ _).drew (fun hH=> ?_)
    refine zo 0 39 ?vh1 rfl ?kr ?_
    case kr=>(intro x h;have e:=j3.out x h;go_simp<;>rfl)
    simp only [Act.put,za,ze,zf]
    refine zo 1 40 ?vh2 rfl ?ku ?_
    case ku=>(intro x h;have e:=j3.out x h;go_simp<;>rfl)
    simp only [Act.put,za,ze,zf]
    refine zo 2 41 ?vh3 rfl ?kC ?_
    case kC=>(intro x h;have e:=j3.out x h;go_simp<;>rfl)
    simp only [Act.put,za,ze,zf]
    refine zo 3 42 ?vh4 rfl ?kD ?_
    case kD=>(intro x h;have e:=j3.out x h;go_simp<;>rfl)
    simp only [Act.put,za,ze,zf]
    refine zo 4 43 ?vh5 rfl ?kE ?_
    case kE=>(intro x h;have e:=j3.out x h;go_simp<;>rfl)
    simp only [Act.put,za,ze,zf]
    refine zo 5 44 ?vh6 rfl ?kF ?_
    case kF=>(intro x h;have e:=j3.out x h;go_simp<;>rfl)
    simp only [Act.put,za,ze,zf]
    refine zo 6 45 ?vh7 rfl ?kG ?_
    case kG=>(intro x h;have e:=j3.out x h;go_simp<;>rfl)
    simp only [Act.put,za,ze,zf]
    refine zo 7 46 ?vh8 rfl ?kH ?_
    case kH=>(intro x h;have e:=j3.out x h;go_simp<;>rfl)
    simp only [Act.put,za,ze,zf]
    refine zT 8 rfl (fun K hK=> ?_)
    go_simp
    refine(zif.out W4.drew hH).mono ?_
    rintro e hw8 ⟨⟨va,vc,rfl,hhr⟩,hb⟩
    have HHI:=qh hhr
    have HHG:Hid (W4.heap.size<=W4.drew.heap.size):=(hH).size
    clear hhr
    have zpe:Below W4.heap.size W4 hw8:=zB hH hb
    refine hK.out _ _ zpe (fun _=> ?_)
    clear hK K hb hH
    refine zo 9 11 ?vh9 rfl ?wG ?_
    case wG=>(intro x h;have e:=j3.out x h;go_simp<;>rfl)
    simp only [Act.put,za,ze,zf]
    refine wpAnyH_done (by kernel_rfl) ?_ _
    refine NoPanic.normal ?_
    have yT:=qh zpe
    clear zpe
    go_wp2_with fail
    obtain⟨W5,hW5⟩:∃W5,W5=hw8:=⟨_,rfl⟩
    rw [<-hW5] at yT HHI ⊢
    clear hW5
    have z4y:=qh (xJ HPR.out yT.out)
    have uK:=qh (zB qO.out yT.out)
    have z4z:Hid (∀x,(Value.slice pa pn pc).ownBlock=some x->(Value.slice va hn vc).ownBlock≠some x):=fun x h1 h2=>by have:=(HPR.out.lt x h1).2;have:=(HHI.out.lt x h2).1;have:=HHG.out;omega
    clear wD zif j3 yT qO HPR HHG
    go_loopg [7,12] hn (fun gg s7 s12 wr=>∃(k:Nat) (qa:Option Addr) (qn qc:Nat) (ql:List zG),k<=hn/\Hid (gg=hn - k)/\s7= .slice qa qn qc/\s12= .int .i64 k/\qn<=on+1+k/\Hid (wr.ownsRow W.heap.size 32 3 (.slice qa qn qc) qn (zq zG.cells ql))/\Hid (ql.length=qn)/\Hid (ql=pl++(hh.take k).map (fun v=>⟨2,i,v⟩))/\Hid (∃B,wr.ownsRow B 3 1 (.slice va hn vc) hn (zq yE hh))/\Hid (∀x,(Value.slice qa qn qc).ownBlock=some x->(Value.slice va hn vc).ownBlock≠some x)/\Hid (Below W.heap.size W wr))
    case atStart=>exact⟨0,pa,pn,pc,pl,Nat.zero_le _,rfl,rfl,rfl,by omega,z4y.out,HPN.out,by simp [Hid],⟨_,HHI.out⟩,z4z.out,uK.out⟩
    case round=>
     obtain⟨k,qa,qn,qc,ql,hk,HG2,rfl,rfl,hqn,HQR,HQN,HQL,HHR,jo,yu⟩:=hrel
     by_cases hkl:k<hn
     rotate_left
     ·obtain rfl:hn=k:=by omega
      have hst:ql=(List.range (i+1)).flatMap MT:=by
       rw [bN,zv7.out, <-HML.out,HQL.out,gN.out,pI.out,List.take_length,List.append_assoc]
      have z4A:qn<=100001*(i+1):=by
       have h1:=z4x.out
       have h2:=congrArg List.length hst
       rw [bN,List.length_append, <-HML.out,bD.out,HQN.out] at h2
       omega
      have HST:=qh hst
      clear hst
      go_wp2_with fail
      go_roundg (n - (i+1))
      case measure=>rw [HG.out];omega
      case rel=>exact⟨i+1,qa,qn,qc,ql,by omega,rfl,rfl,by simp,z4A,HQR.out,HQN.out,HST.out,yu.out⟩
     have ziQ:(k:Int)<(hn:Int):=by omega
     obtain⟨BH,hhr⟩:=HHR.out
     have hrw:=hhr
     rw [pI.out] at hrw
     obtain⟨b9,o9,yw, -,e1⟩:=xH.part (wS hrw) k (by rw [<-pI.out];exact hkl)
     subst yw
     have HRB:=qh hhr
     clear hhr hrw
     have jL:Hid (hh.take (k+1)=hh.take k++ [hh.getD k 0]):=by rw [Hid,List.take_succ_eq_append_getElem (by rw [<-pI.out];exact hkl),List.getD_eq_getElem?_getD,List.getElem?_eq_getElem (by rw [<-pI.out];exact hkl)];rfl
     generalize hh.getD k 0=v at e1 jL
     go_wp2_with(at_builtin;go_must(refine yt _ rfl _ _ 52 rfl 32 (.agg #[.int .i64 0, .int .i64 0, .int .i64 0]) 3 24 Tryz.underlying52 wT rfl (by decide) W.heap.size (.slice qa qn qc) qn (zq zG.cells ql) rfl ((HQR.out).alloc _) ⟨wr.heap.size,0,none⟩ 1 1 (zG.cells ⟨2,i,v⟩) rfl rfl (bV _ (zG.cells ⟨2,i,v⟩) _) (by simp [zG.cells,Value.oneCell']) (by unfold maxLen;omega) (by omega) (by have:=yu.out.size;simp;omega) ?_);intro ja jc X f1 f2 f3 f4 f5 f6;have HE:=qh (zgS (HQR.out) f1 f4 (yu.out) (Nat.le_refl _));have HE2:=qh (zcF HRB.out jo.out f4 f5);clear f1 f2 f3 f4 f5 f6)
     go_roundg (hn - (k+1))
     case measure=>rw [HG2.out];omega
     case rel=>exact⟨k+1,ja,qn+1,jc,ql++ [(⟨2,(i:Int),v⟩:zG)],by omega,rfl,rfl,by simp,by omega,HE.out.1,by rw [Hid,List.length_append,HQN.out];rfl,by rw [Hid,HQL.out,jL.out];simp,⟨_,HE2.out.1⟩,HE2.out.2,HE.out.2⟩
theorem bM:Tryz.prog.underlying 32=some (.struct (Tryz.prog.fieldsOf 32)):=by kernel_rfl
theorem zjF:Tryz.prog.stoodInHeld 32=false:=by kernel_rfl
@[go_sem] theorem zyD:Tryz.prog.eqGuardType Tryz.prog.depth 32=false:=by kernel_rfl
theorem zh7:(Tryz.prog.fieldsOf 32).toList.map (fun f=>(f.name,f.type,f.offset))= [("Kind",3,0),("Thread",3,1),("Var",3,2)] :=by kernel_rfl
@[go_sem] theorem zwO (w:World) (a b c x y z:Int):(Op.equalIn 10000 32 (.agg #[.int .i64 a, .int .i64 b, .int .i64 c]) (.agg #[.int .i64 x, .int .i64 y, .int .i64 z])).run Tryz.prog w
  = .ok (a==x && b==y && c==z) w:=by
 rw [run_equalIn_agg w 9999 _ _ _ bM zjF]
 obtain⟨f0,f1,f2,hf,h0,h1,h2⟩:∃f0 f1 f2,(Tryz.prog.fieldsOf 32).toList= [f0,f1,f2] /\(f0.name,f0.type,f0.offset)=("Kind",3,0)/\(f1.name,f1.type,f1.offset)=("Thread",3,1)/\(f2.name,f2.type,f2.offset)=("Var",3,2):=by
  have h:=zh7
  generalize (Tryz.prog.fieldsOf 32).toList=l at h
  have hl:l.length=3:=by have:=congrArg List.length h;simpa using this
  match l,hl,h with
  | [f0,f1,f2],_,h=>
   simp only [List.map_cons,List.map_nil,List.cons.injEq,and_true] at h
   exact⟨f0,f1,f2,rfl,h.1,h.2.1,h.2.2⟩
 simp only [Prod.mk.injEq] at h0 h1 h2
 rw [hf]
 have p0:=fun(w:World) (a b c:Int)=>vR w #[.int .i64 a, .int .i64 b, .int .i64 c] 0 a rfl
 have p1:=fun(w:World) (a b c:Int)=>vR w #[.int .i64 a, .int .i64 b, .int .i64 c] 1 b rfl
 have p2:=fun(w:World) (a b c:Int)=>vR w #[.int .i64 a, .int .i64 b, .int .i64 c] 2 c rfl
 have ge:=zcN 9998
 cases e0:a==x<;>cases e1:b==y<;>cases e2:c==z<;>simp [Op.eqFields,h0,h1,h2,p0,p1,p2,ge,e0,e1,e2]
theorem zl4 (w:World) (av bv:Value) (l:List zG) (ha:jl w av l) (hb:jl w bv l):Calls Tryz.prog 42 #[av,bv] w fun e w'=>e= .returned (.bool true)/\Below w.heap.size w w':=by
 obtain⟨aa,ac,rfl,hal⟩:=zl.slice ha
 obtain⟨ba,bc,rfl, -⟩:=zl.slice hb
 obtain⟨n,hn⟩:∃n,n=l.length:=⟨_,rfl⟩
 rw [<-hn] at ha hb hal ⊢
 have HA:=qh ha
 have HB:=qh hb
 have HN:=qh hn
 clear ha hb hn
 go_enter Tryz.func42,Tryz.ntmps42
 go_wp2_with fail
 go_loopg [5] n (fun gg s5 wr=>∃i:Nat,i<=n/\Hid (gg=n - i)/\s5= .int .i64 i/\Hid (Below w.heap.size w wr))
 case atStart=>exact⟨0,Nat.zero_le _,rfl,rfl,Below.refl _ _⟩
 case round=>
  obtain⟨i,hi,HG,rfl,zX⟩:=hrel
  by_cases hlt:i<n
  rotate_left
  ·obtain rfl:n=i:=by omega
   go_wp2_with fail
   go_ret
   exact⟨rfl,zX.out⟩
  have qg:(i:Int)<(n:Int):=by omega
  obtain⟨eb,eo,yw, -,x0,x1,x2⟩:=jl.part HA.out i (by rw [<-HN.out];exact hlt)
  subst yw
  obtain⟨fb,fo,hfa, -,y0,y1,y2⟩:=jl.part HB.out i (by rw [<-HN.out];exact hlt)
  subst hfa
  generalize l.getD i default=x at x0 x1 x2 y0 y1 y2
  obtain⟨k,t,v⟩:=x
  simp only [] at x0 x1 x2 y0 y1 y2
  replace x0:=zm zX.out _ _ x0
  replace x1:=zm zX.out _ _ x1
  replace x2:=zm zX.out _ _ x2
  replace y0:=zm zX.out _ _ y0
  replace y1:=zm zX.out _ _ y1
  replace y2:=zm zX.out _ _ y2
  have CC:Hid (∀y,Below wr.heap.size wr y->y.cell? ⟨eb,eo+i*3,none⟩=some (.int .i64 k)/\y.cell? ⟨eb,eo+i*3+1,none⟩=some (.int .i64 t)/\y.cell? ⟨eb,eo+i*3+2,none⟩=some (.int .i64 v)/\y.cell? ⟨fb,fo+i*3,none⟩=some (.int .i64 k)/\y.cell? ⟨fb,fo+i*3+1,none⟩=some (.int .i64 t)/\y.cell? ⟨fb,fo+i*3+2,none⟩=some (.int .i64 v)):=fun y hy=>
   ⟨zm hy _ _ x0,zm hy _ _ x1,zm hy _ _ x2,zm hy _ _ y0,zm hy _ _ y1,zm hy _ _ y2⟩
  clear x0 x1 x2 y0 y1 y2
  go_upto_region 6 with fail
  refine wp_region_noPanic ?_
  refine wp_region_held_drew (S:=fun x=>Below wr.heap.size wr x) (by kernel_rfl) ((Below.refl _ _).drew) (fun hH=> ?_)
  refine zo 0 17 ?vh1 rfl ?kr ?_
  case kr=>(intro x h;have e:=CC.out x h;go_simp<;>rfl)
  simp only [Act.put,za,ze,zf]
  refine zo 1 18 ?vh2 rfl ?ku ?_
  case ku=>(intro x h;have e:=CC.out x h;go_simp<;>rfl)
  simp only [Act.put,za,ze,zf]
  refine zo 2 19 ?vh3 rfl ?kC ?_
  case kC=>(intro x h;have e:=CC.out x h;go_simp<;>rfl)
  simp only [Act.put,za,ze,zf]
  refine zo 3 20 ?vh4 rfl ?kD ?_
  case kD=>(intro x h;have e:=CC.out x h;go_simp<;>rfl)
  simp only [Act.put,za,ze,zf]
  refine zo 4 21 ?vh5 rfl ?kE ?_
  case kE=>(intro x h;have e:=CC.out x h;go_simp<;>rfl)
  simp only [Act.put,za,ze,zf]
  refine zo 5 22 ?vh6 rfl ?kF ?_
  case kF=>(intro x h;have e:=CC.out x h;go_simp<;>rfl)
  simp only [Act.put,za,ze,zf]
  refine zo 6 23 ?vh7 rfl ?kG ?_
  case kG=>(intro x h;have e:=CC.out x h;go_simp<;>rfl)
  simp only [Act.put,za,ze,zf]
  refine zo 7 24 ?vh8 rfl ?kH ?_
  case kH=>(intro x h;have e:=CC.out x h;go_simp<;>rfl)
  simp only [Act.put,za,ze,zf]
  refine zo 8 25 ?vh9 rfl ?wG ?_
  case wG=>(intro x h;have e:=CC.out x h;go_simp<;>rfl)
  simp only [Act.put,za,ze,zf]
  refine wpAnyH_done (by kernel_rfl) ?_ _
  refine NoPanic.normal ?_
  go_wp2_with fail
  go_roundg (n - (i+1))
  case measure=>rw [HG.out];omega
  case rel=>exact⟨i+1,by omega,rfl,by simp,zB (a:=w) zX.out (hH)⟩
end Go.Proofs.YtliajkheeniljaaGreatDoor
