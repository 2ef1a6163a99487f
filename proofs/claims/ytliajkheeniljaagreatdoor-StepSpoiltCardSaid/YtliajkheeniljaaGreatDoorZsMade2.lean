/- A drawn region whose loads are stable up to its first store: a condition on the world that holds until that store comes. Programs by numbers: what lies in memory while one is made. Programs by numbers: the walk. -/
import Derived.Deep.RegionHeld3
import Derived.IntWalk
import Derived.Lib.Hide
import Derived.Test.YtliajkheeniljaaGreatDoorZsBase
import Derived.Test.YtliajkheeniljaaGreatDoorZsMakerL
import Derived.Test.YtliajkheeniljaaGreatDoorZsTreeR
import Derived.Test.YtliajkheeniljaaGreatDoorZsShort
set_option linter.all false
namespace Go.Proofs.YtliajkheeniljaaGreatDoor
open Go.RowKit
set_option maxRecDepth 100000
set_option maxHeartbeats 16000000
theorem zta (W0:World) (g:Nat) (lv:Value) (l:List Int) (hn:jg W0 .u8 lv l) (kv:Value) (ks:List Int) (hks:xJ W0 kv ks) (hk1:1<=ks.length) (hk2:ks.length<=100) (hk3:∀k∈ks,1<=k/\k<=11) (vars dom:Nat) (hv1:1<=vars) (hv2:vars<=10) (hd1:2<=dom) (hd2:dom<=16) (d:Nat) (hd:d<=10):
  zfc W0 g lv kv vars dom d:=by
 obtain⟨ka,kc,hkv, -⟩:=zk.slice hks
 induction d with
 |zero=>exact zj6 W0 g lv kv vars dom 0 (zj2 W0 g lv l hn kv ks hks hk1 hk2 hk3 vars dom hv1 hv2 hd1 hd2 0 (by omega) (fun h=>by omega)) ka _ kc hkv
 |succ d ih=>exact zj6 W0 g lv kv vars dom (d+1) (zj2 W0 g lv l hn kv ks hks hk1 hk2 hk3 vars dom hv1 hv2 hd1 hd2 (d+1) hd (fun _=>ih (by omega))) ka _ kc hkv
def zd8:List Int:= [1,2,1,2,3,4,5,6,7,8,9,10,11]
theorem zqe (w:World):Calls Tryz.prog 21 #[] w fun e w'=>(∃kv,e= .returned kv/\xJ w' kv zd8)/\Below w.heap.size w w':=by
 have hb:=(Below.refl w.heap.size w).alloc (Nat.le_refl _) (.cells #[.int .i64 1, .int .i64 2, .int .i64 1, .int .i64 2, .int .i64 3, .int .i64 4, .int .i64 5, .int .i64 6, .int .i64 7, .int .i64 8, .int .i64 9, .int .i64 10, .int .i64 11] 3)
 have hg:=yD w (.cells #[.int .i64 1, .int .i64 2, .int .i64 1, .int .i64 2, .int .i64 3, .int .i64 4, .int .i64 5, .int .i64 6, .int .i64 7, .int .i64 8, .int .i64 9, .int .i64 10, .int .i64 11] 3)
 have hr:=gL (w:=w.alloc (.cells #[.int .i64 1, .int .i64 2, .int .i64 1, .int .i64 2, .int .i64 3, .int .i64 4, .int .i64 5, .int .i64 6, .int .i64 7, .int .i64 8, .int .i64 9, .int .i64 10, .int .i64 11] 3)) (l:=zd8) (B:=0) (sv:= .slice (some ⟨w.heap.size,0,none⟩) 13 13) (zaZ (n:=13) (cs:=zq yK zd8) hg (Nat.zero_le _) rfl (by decide))
 have HB:=qh hb
 have HR:=qh hr
 clear hb hg hr
 go_enter Tryz.func21,Tryz.ntmps21
 go_wp2_with fail
 go_ret
 exact⟨⟨_,rfl,HR.out⟩,HB.out⟩
def jS:List Value:= [.string ⟨#[120]⟩, .string ⟨#[121]⟩, .string ⟨#[122]⟩]
theorem ztb {X:World} {gv n:Nat} (h:X.heap[gv]? =some (.cells jS.toArray 9 (0,0))) (hn:n<=3):zcm X (.slice (some ⟨gv,0,none⟩) n 3) (xyz.take n):=by
 have hl:(xyz.take n).length=n:=by rw [List.length_take];simp [xyz];omega
 refine⟨_,3,by rw [hl],by rw [hl];omega,fun j hj=> ?_⟩
 rw [hl] at hj
 have e:(xyz.take n).getD j default=xyz.getD j default:=by simp only [List.getD_eq_getElem?_getD,List.getElem?_take_of_lt hj]
 have hj3:j=0\/j=1\/j=2:=by omega
 rw [e]
 rcases hj3 with rfl|rfl|rfl
 ·refine⟨gv,0, [.string ⟨#[120]⟩],rfl,zw h,rfl,fun i hi=> ?_,rfl⟩
  obtain rfl:i=0:=by omega
  rw [zi h];rfl
 ·refine⟨gv,0, [.string ⟨#[121]⟩],rfl,zw h,rfl,fun i hi=> ?_,rfl⟩
  obtain rfl:i=0:=by omega
  rw [zi h];rfl
 ·refine⟨gv,0, [.string ⟨#[122]⟩],rfl,zw h,rfl,fun i hi=> ?_,rfl⟩
  obtain rfl:i=0:=by omega
  rw [zi h];rfl
def PF (va:Value) (g gp gr:Nat) (k:Nat):Prop:=va.ownBlock=some k\/k=g\/k=gp\/k=gr
structure jG (w X:World) (g gv gp gr:Nat) (sv:Value) (n dm i:Nat) (va:Value) (T:List (List zH)) (css:List (List Value)):Prop where
 yh:∃a',qJ w X g sv a'/\a'<=10+i*5000
 box:X.heap[gp]? =some (.cells #[.slice (some ⟨gv,0,none⟩) n 3, .int .i64 dm,va] 92 (0,0))
 vars:X.heap[gv]? =some (.cells jS.toArray 9 (0,0))
 res:X.heap[gr]? =some (.cells #[.slice none 0 0, .int .i64 0, .slice none 0 0] 92 (0,0))
 lo:w.heap.size<=g/\w.heap.size<=gv/\w.heap.size<=gp/\w.heap.size<=gr/\g≠gp/\g≠gr/\gp≠gr/\gv≠g/\gv≠gp/\gv≠gr
 len:T.length=i
 ok:∀l∈T,yX n dm l 20=true/\yA l<=52
 row:xR (PF va g gp gr) X (zgO 3 4) 1 w.heap.size 129 va T css
section
variable {w X Y:World} {g gv gp gr:Nat} {sv:Value} {n dm i:Nat} {va:Value} {T:List (List zH)} {css:List (List Value)}
theorem jG.own_ne (h:jG w X g gv gp gr sv n dm i va T css):∀k,va.ownBlock=some k->k≠g/\k≠gp/\k≠gr/\k≠gv:=fun k hk=>by
 obtain⟨a',hm, -⟩:=h.yh
 exact⟨fun e=>by subst e;exact wO h.row.row hk hm.box (by decide),fun e=>by subst e;exact wO h.row.row hk h.box (by decide),fun e=>by subst e;exact wO h.row.row hk h.res (by decide),fun e=>by subst e;exact wO h.row.row hk h.vars (by decide)⟩
theorem jG.lt (h:jG w X g gv gp gr sv n dm i va T css):∀k,PF va g gp gr k->k<X.heap.size:=fun k hk=>by
 obtain⟨a',hm, -⟩:=h.yh
 rcases hk with hk|rfl|rfl|rfl
 ·exact(h.row.row.lt k hk).2
 ·exact zw hm.box
 ·exact zw h.box
 ·exact zw h.res
theorem jG.push {xc ln rc a1 oc:Nat} {Z:World} {oa ra xa:Option Addr} {l:List zH} {o:Obj} (h:jG w X g gv gp gr sv n dm i (.slice oa i oc) T css) (hs:Since (fun k=>k=g) X Y) (hm:qJ w Y g sv a1) (ha:a1<=10+i*5000+5000) (hok:yX n dm l 20=true/\yA l<=52) (hlen:l.length=ln)
  (haw:yM (fun k=>k<X.heap.size) Y (fun y=>yt 3 4 y l (.slice ra ln rc))) (h1:Z.ownsRow w.heap.size 129 1 (.slice xa (i+1) xc) (i+1) (css.flatten++ [.slice ra ln rc])) (h4:Since (fun k=>(Value.slice oa i oc).ownBlock=some k) (Y.alloc o) Z) (h5:∀k,(Value.slice xa (i+1) xc).ownBlock=some k->(Value.slice oa i oc).ownBlock=some k\/k=(Y.alloc o).heap.size):
  Z.heap[gp]? =some (.cells #[.slice (some ⟨gv,0,none⟩) n 3, .int .i64 dm, .slice oa i oc] 92 (0,0))/\jG w (Z.setCell ⟨gp,2,none⟩ (.slice xa (i+1) xc)) g gv gp gr sv n dm (i+1) (.slice xa (i+1) xc) (T++ [l]) (css++ [[.slice ra ln rc]]):=by
 have hlo:=h.lo
 have hne:=h.own_ne
 have hlt:=h.lt
 have s1:Since (fun k=>(Value.slice oa i oc).ownBlock=some k) Y Z:=((Since.refl _ Y).alloc o).trans h4 (fun k hk=> .inl hk)
 have s2:Since (fun k=>k=gp) Z (Z.setCell ⟨gp,2,none⟩ (.slice xa (i+1) xc)):=Since.setCell (F:=fun k=>k=gp) (p:=⟨gp,2,none⟩) (Since.refl _ _) (.inl rfl) _
 have s3:Since (fun k=>(Value.slice oa i oc).ownBlock=some k\/k=gp) Y (Z.setCell ⟨gp,2,none⟩ (.slice xa (i+1) xc)):=(s1.mono (fun k _ hk=> .inl hk)).trans s2 (fun k hk=> .inl (.inr hk))
 have ztc:=(hs.block _ (zw h.box) (by omega)).trans h.box
 have zu5:=(hs.block _ (zw h.vars) (by omega)).trans h.vars
 have z0c:=(hs.block _ (zw h.res) (by omega)).trans h.res
 have wR:=(s1.block _ (zw ztc) (fun e=>(hne _ e).2.1 rfl)).trans ztc
 have hvars:=(s1.block _ (zw zu5) (fun e=>(hne _ e).2.2.2 rfl)).trans zu5
 have hres:=(s1.block _ (zw z0c) (fun e=>(hne _ e).2.2.1 rfl)).trans z0c
 have hnew:∀k,(Value.slice xa (i+1) xc).ownBlock=some k->k≠gp:=fun k hk e=>by
  rcases h5 k hk with h1|h1
  ·exact(hne k h1).2.1 e
  ·have:=zw ztc;simp at h1;omega
 refine⟨wR,⟨⟨a1,hm.since s3 (fun k hk=> ?_),by omega⟩, ?_,(s2.block _ (zw hvars) (by omega)).trans hvars,(s2.block _ (zw hres) (by omega)).trans hres,hlo,by simp [h.len],fun y hy=> ?_, ?_⟩⟩
 ·rcases hk with hk|hk
  ·have:=(h.row.row.lt k hk).1;have:=(hne k hk).1;omega
  ·omega
 ·have:=zA wR 2 (.slice xa (i+1) xc);simpa using this
 ·rcases List.mem_append.1 hy with hy|hy
  ·exact h.ok y hy
  ·rw [List.mem_singleton] at hy;subst hy;exact hok
 ·have hrow:=h.row.step (F':=PF (.slice oa i oc) g gp gr) hs (fun k hk e=>(hne k hk).1 e) (fun k hk=> .inl (.inr (.inl hk))) (fun k hk=> .inl hk)
  refine hrow.push s3 (fun k hk=> ?_) (fun k hk=> ?_) (fun y hy=>⟨_,rfl,haw y (hy.mono (fun k _ hk=>hlt k hk))⟩) rfl ?_
  ·rcases hk with hk|hk
   ·exact .inl (.inl hk)
   ·exact .inl (.inr (.inr (.inl hk)))
  ·rcases hk with hk|hk|hk|hk
   ·rcases h5 k hk with h1|h1
    ·exact .inl (.inl h1)
    ·exact .inr (by simp at h1;omega)
   ·exact .inl (.inr (.inl hk))
   ·exact .inl (.inr (.inr (.inl hk)))
   ·exact .inl (.inr (.inr (.inr hk)))
  ·rw [h.len];exact s2.row h1 hnew
end
def zlb (w:World) (en:Ending) (w':World):Prop:=(∃p vv tv,en= .returned (zed p vv tv)/\zef p/\zcn 3 4 w' p vv tv)/\Below w.heap.size w w'
theorem z0d {T:List (List zH)} (h:∀l∈T,yA l<=52):(T.map yA).sum<=T.length*52:=by
 induction T with
 |nil=>simp
 |cons l T ih=>
  have h1:=h l (by simp)
  have h2:=ih (fun x hx=>h x (by simp [hx]))
  simp only [List.map_cons,List.sum_cons,List.length_cons];omega
theorem znm {w X:World} {g gv gp gr:Nat} {sv:Value} {n dm i oc:Nat} {oa:Option Addr} {T:List (List zH)} {css:List (List Value)} (h:jG w X g gv gp gr sv n dm i (.slice oa i oc) T css) (hn1:1<=n) (hn3:n<=3) (hd1:2<=dm) (hd2:dm<=16) (hi1:1<=i) (hi3:i<=3):
  zlb w (.returned (.agg #[.slice (some ⟨gv,0,none⟩) n 3, .int .i64 dm, .slice oa i oc])) (zU X gr 0 [.slice (some ⟨gv,0,none⟩) n 3, .int .i64 dm, .slice oa i oc])/\
  (zU X gr 0 [.slice (some ⟨gv,0,none⟩) n 3, .int .i64 dm, .slice oa i oc]).heap[gr]? =some (.cells #[.slice (some ⟨gv,0,none⟩) n 3, .int .i64 dm, .slice oa i oc] 92 (0,0)):=by
 have hlo:=h.lo
 have s:=yP (g:=gr) [.slice (some ⟨gv,0,none⟩) n 3, .int .i64 dm, .slice oa i oc] X 0
 have hvl:(xyz.take n).length=n:=by rw [List.length_take];simp [xyz];omega
 obtain⟨a',hm, -⟩:=h.yh
 have hl:=h.len
 refine⟨⟨⟨⟨xyz.take n,dm,T⟩, .slice (some ⟨gv,0,none⟩) n 3, .slice oa i oc,rfl,⟨⟨n,hn1,hn3,rfl⟩,⟨by show(2:Int)<=(dm:Int);omega,by show(dm:Int)<=16;omega⟩,⟨by show 1<=T.length;omega,by show T.length<=3;omega⟩,fun l hl=> ?_, ?_⟩,⟨?_, ?_⟩⟩,hm.below.trans (s.below hm.below.size (fun k hk=>by omega))⟩, ?_⟩
 ·show yX ((xyz.take n).length:Nat) dm l 20=true
  rw [hvl];exact(h.ok l hl).1
 ·have:=z0d (fun l hl=>(h.ok l hl).2)
  show(T.map yA).sum<=200
  omega
 ·exact ztb ((s.block _ (zw h.vars) (by omega)).trans h.vars) hn3
 ·exact(h.row.step (F':=fun _=>False) s (fun k hk e=>(h.own_ne k hk).2.2.1 e) (fun k hk=> .inl (.inr (.inr (.inr hk)))) (fun _ h=>h.elim)).slice
 ·exact xG (cs:= [.slice none 0 0, .int .i64 0, .slice none 0 0]) _ rfl h.res
end Go.Proofs.YtliajkheeniljaaGreatDoor
namespace Go.Proofs.YtliajkheeniljaaGreatDoor
open Go.RowKit
set_option maxRecDepth 100000
set_option maxHeartbeats 16000000
structure R2 (w X:World) (g gr:Nat) (sv:Value) (a:Nat) (mv mp:Option Nat):Prop where
 yh:qJ w X g sv a
 res:X.heap[gr]? =some (.cells #[.slice none 0 0, .int .i64 0, .slice none 0 0] 92 (0,0))
 lo:w.heap.size<=gr/\g≠gr
 vars:∀b,mv=some b->X.heap[b]? =some (.cells jS.toArray 9 (0,0))/\w.heap.size<=b/\b≠g/\b≠gr
 prog:∀b,mp=some b->X.heap[b]? =some (.cells #[.slice none 0 0, .int .i64 0, .slice none 0 0] 92 (0,0))/\w.heap.size<=b/\b≠g/\b≠gr
 ne:∀b c,mv=some b->mp=some c->b≠c
section
variable {w X Y:World} {g gr a b:Nat} {sv:Value} {mv mp:Option Nat}
theorem R2.pick (h:R2 w X g gr sv a mv mp) (hm:qJ w Y g sv b) (hs:Since (fun k=>k=g) X Y):R2 w Y g gr sv b mv mp:=
 ⟨hm,(hs.block _ (zw h.res) (fun e=>h.lo.2 e.symm)).trans h.res,h.lo,fun c hc=>⟨(hs.block _ (zw (h.vars c hc).1) (h.vars c hc).2.2.1).trans (h.vars c hc).1,(h.vars c hc).2⟩,fun c hc=>⟨(hs.block _ (zw (h.prog c hc).1) (h.prog c hc).2.2.1).trans (h.prog c hc).1,(h.prog c hc).2⟩,h.ne⟩
theorem R2.names (h:R2 w X g gr sv a none mp):R2 w (X.alloc (.cells jS.toArray 9)) g gr sv a (some X.heap.size) mp:=by
 have hb:=(Below.refl X.heap.size X).alloc (Nat.le_refl _) (.cells jS.toArray 9)
 have h1:=h.yh.below.size
 have h2:=zw h.yh.box
 have h3:=zw h.res
 refine⟨h.yh.later hb,(hb.block _ h3).trans h.res,h.lo,fun c hc=> ?_,fun c hc=>⟨(hb.block _ (zw (h.prog c hc).1)).trans (h.prog c hc).1,(h.prog c hc).2⟩,fun c e hc he=> ?_⟩
 ·cases hc;exact⟨yD X _,h1,by omega,by omega⟩
 ·cases hc;have:=zw (h.prog e he).1;omega
theorem R2.box (h:R2 w X g gr sv a mv none):R2 w (X.alloc (.cells #[.slice none 0 0, .int .i64 0, .slice none 0 0] 92)) g gr sv a mv (some X.heap.size):=by
 have hb:=(Below.refl X.heap.size X).alloc (Nat.le_refl _) (.cells #[.slice none 0 0, .int .i64 0, .slice none 0 0] 92)
 have h1:=h.yh.below.size
 have h2:=zw h.yh.box
 have h3:=zw h.res
 refine⟨h.yh.later hb,(hb.block _ h3).trans h.res,h.lo,fun c hc=>⟨(hb.block _ (zw (h.vars c hc).1)).trans (h.vars c hc).1,(h.vars c hc).2⟩,fun c hc=> ?_,fun c e hc he=> ?_⟩
 ·cases hc;exact⟨yD X _,h1,by omega,by omega⟩
 ·cases he;have:=zw (h.vars c hc).1;omega
theorem R2.done {gv gp n dm:Nat} (h:R2 w X g gr sv a (some gv) (some gp)) (ha:a<=9):jG w (zU X gp 0 [.slice (some ⟨gv,0,none⟩) n 3, .int .i64 dm, .slice none 0 0]) g gv gp gr sv n dm 0 (.slice none 0 0) [] [] /\∃a,qJ w (zU X gp 0 [.slice (some ⟨gv,0,none⟩) n 3, .int .i64 dm, .slice none 0 0]) g sv a/\a<=9:=by
 obtain⟨v1,v2,v3,v4⟩:=h.vars gv rfl
 obtain⟨p1,p2,p3,p4⟩:=h.prog gp rfl
 have hne:=h.ne gv gp rfl rfl
 have hlo:=h.lo
 have hg:=h.yh.lo
 have s:=yP (g:=gp) [.slice (some ⟨gv,0,none⟩) n 3, .int .i64 dm, .slice none 0 0] X 0
 exact⟨⟨⟨a,h.yh.since s (fun k hk=>by omega),by omega⟩,xG (cs:= [.slice none 0 0, .int .i64 0, .slice none 0 0]) _ rfl p1,(s.block _ (zw v1) hne).trans v1,(s.block _ (zw h.res) (by omega)).trans h.res,⟨hg,v2,p2,hlo.1,by omega,by omega,by omega,by omega,by omega,by omega⟩,rfl,fun l hl=>by simp at hl,xR.nil _ _ _ _ _ _⟩,a,h.yh.since s (fun k hk=>by omega),ha⟩
end
theorem jG.picked {w X Y:World} {g gv gp gr n dm i b:Nat} {sv va:Value} {T:List (List zH)} {css:List (List Value)} (h:jG w X g gv gp gr sv n dm i va T css) (hs:Since (fun k=>k=g) X Y) (hm:qJ w Y g sv b) (hb:b<=10+i*5000):jG w Y g gv gp gr sv n dm i va T css:=by
 have hlo:=h.lo
 exact⟨⟨b,hm,hb⟩,(hs.block _ (zw h.box) (by omega)).trans h.box,(hs.block _ (zw h.vars) (by omega)).trans h.vars,(hs.block _ (zw h.res) (by omega)).trans h.res,hlo,h.len,h.ok,h.row.step hs (fun k hk e=>(h.own_ne k hk).1 e) (fun k hk=> .inl (.inr (.inl hk))) (fun k hk=> .inl hk)⟩
theorem jG.drew {w X:World} {g gv gp gr n dm i:Nat} {sv va:Value} {T:List (List zH)} {css:List (List Value)} (h:jG w X g gv gp gr sv n dm i va T css):jG w X.drew g gv gp gr sv n dm i va T css:=by
 obtain⟨a,hm,ha⟩:=h.yh
 exact h.picked (Since.drew _ (Since.refl _ X)) (hm.later (Below.refl _ _).drew) ha
theorem zjP:(Tryz.prog.info? 92).map (·.size)=some 3:=by kernel_rfl
theorem znn:(Tryz.prog.info? 129).map (fun i=>(i.zero,i.size,i.bytes))=some (some (.slice none 0 0),1,24):=by kernel_rfl
theorem wrapN (n:Nat) (h:n<=100):IntKind.i64.wrap (n:Int)=(n:Int):=IntWalk.i64_in _ (by omega)
theorem zou (w:World) (sv:Value) (l:List Int) (hn:jg w .u8 sv l) (kv:Value) (ks:List Int) (hks:xJ w kv ks) (hk1:1<=ks.length) (hk2:ks.length<=100) (hk3:∀k∈ks,1<=k/\k<=11):
  Calls Tryz.prog 48 #[sv,kv] w (zlb w):=by
 have hpick:=fun W g a n ni hni h n1 n2 ha=>zfa w W g sv l a n ni hni h hn n1 n2 ha
 have hlist:=fun g vars dom hv1 hv2 hd1 hd2=>zta w g sv l hn kv ks hks hk1 hk2 hk3 vars dom hv1 hv2 hd1 hd2 2 (by omega)
 have zeW:4*jd 2=1040:=rfl
 have zBr:4*uG 2=52:=rfl
 have zgu:∀(g vars dom:Nat),1<=vars->vars<=10->2<=dom->dom<=16->∀(W:World) (a n:Nat),qJ w W g sv a->n<=4->a<=100000->Calls Tryz.prog 78 #[.pointer (some ⟨g,0,none⟩), .int .i64 n, .int .i64 2, .int .i64 vars, .int .i64 dom,kv] W fun e w'=>∃(L:List zH) (va:Option Addr) (vc a':Nat),e= .returned (.slice va L.length vc)/\(yX vars dom L 20=true/\yA L<=52)/\
   yM (fun k=>k<W.heap.size) w' (fun y=>yt 3 4 y L (.slice va L.length vc))/\qJ w w' g sv a'/\a'<=a+1040/\Since (fun k=>k=g) W w':=fun g vars dom hv1 hv2 hd1 hd2 W a n hm wS ha=>by
  refine(hlist g vars dom hv1 hv2 hd1 hd2 W a n 4 n rfl hm wS (by omega) (by omega)).mono ?_
  rintro e w' ⟨L,va,vc,a',h1,h2,h3,h4,h5,h6,h7⟩
  exact⟨L,va,vc,a',h1,⟨zlZ h2 (by omega),by omega⟩,h4,h5,by omega,h7⟩
 obtain⟨sa,sc,rfl, -⟩:∃a c,sv= .slice a l.length c/\True:=by obtain⟨a,c,h, -⟩:=hn;exact⟨a,c,h,trivial⟩
 obtain⟨ka,kc,rfl, -⟩:=zk.slice hks
 generalize l.length=ln at hpick zgu ⊢
 generalize ks.length=kn at zgu ⊢
 have qC:=qh hpick
 have z4g:=qh zgu
 clear hpick hlist zgu zeW zBr hn hks hk1 hk2 hk3
 have hB:=((Below.refl w.heap.size w).alloc (Nat.le_refl _) (.cells #[.slice none 0 0, .int .i64 0, .slice none 0 0] 92)).alloc (by simp) (.cells #[.slice sa ln sc, .int .i64 0] 132)
 have H1:=xH w (.cells #[.slice none 0 0, .int .i64 0, .slice none 0 0] 92) (.cells #[.slice sa ln sc, .int .i64 0] 132)
 have H2:=xu w (.cells #[.slice none 0 0, .int .i64 0, .slice none 0 0] 92) (.cells #[.slice sa ln sc, .int .i64 0] 132)
 have HR:Hid (R2 w ((w.alloc (.cells #[.slice none 0 0, .int .i64 0, .slice none 0 0] 92)).alloc (.cells #[.slice sa ln sc, .int .i64 0] 132)) (w.heap.size+1) w.heap.size (.slice sa ln sc) 0 none none):=⟨⟨hB,by omega,H2⟩,H1,⟨Nat.le_refl _,by omega⟩,(fun _ h=>by cases h),(fun _ h=>by cases h),(fun _ _ h=>by cases h)⟩
 clear hB H1 H2
 go_enter Tryz.func48,Tryz.ntmps48
 go_upto_region 2 with fail
 generalize World.alloc (World.alloc w _) _=V at HR ⊢
 generalize w.heap.size+1=g at HR ⊢
 obtain⟨gr,hgr⟩:∃gr,gr=w.heap.size:=⟨_,rfl⟩
 rw [<-hgr] at HR ⊢
 have wK:=qh hgr
 clear hgr
 go_cut [6] (fun s6 w'=>∃gv gp n dm:Nat,s6= .pointer (some ⟨gp,0,none⟩)/\1<=n/\n<=3/\2<=dm/\dm<=4/\Hid (jG w w' g gv gp gr (.slice sa ln sc) n dm 0 (.slice none 0 0) [] [])/\Hid (∃a,qJ w w' g (.slice sa ln sc) a/\a<=9))
 case first=>
  have hT0:Hid (R2 w V.drew g w.heap.size (.slice sa ln sc) 0 none none):=by have h:=HR.out;rw [wK.out] at h;exact h.pick (h.yh.later (Below.refl _ _).drew) (Since.drew _ (Since.refl _ _))
  rw [<-wK.out] at hT0
  clear HR
  refine wp_region_noPanic ?_
  refine wp_region_held_drew (S:=fun x=>Below w.heap.size w x) (by kernel_rfl) hT0.out.yh.below (fun _=> ?_)
  obtain⟨V1,hV1⟩:∃V1,V1=V.drew:=⟨_,rfl⟩
  rw [<-hV1]
  rw [<-hV1] at hT0
  clear hV1
  refine zy 1 12 ?vp1 rfl ?hyp1 (hT0.out.yh.below) ?_
  case hyp1=>(intro _ _;go_simp<;>rfl)
  simp only [Act.put,za,ze,zh]
  refine zy 5 16 ?vp2 rfl ?hyp2 (hT0.out.yh.below) ?_
  case hyp2=>(intro _ _;go_simp<;>rfl)
  simp only [Act.put,za,ze,zh]
  refine wpAnyH_ready (rs:= [0,2,9]) (by kernel_rfl) (by simp) ?_
  refine AllReadyH.cons rfl (fun K hK=> ?_) (AllReadyH.cons rfl (fun K hK=> ?_) (AllReadyH.cons rfl (fun K hK=> ?_) AllReadyH.nil))
  ·skip
   go_simp
   have zcQ:=hT0.out.names
   unfold jS at zcQ
   refine hK.out _ _ zcQ.yh.below (fun _=> ?_)
   obtain⟨gv,hgv⟩:∃n,n=V1.heap.size:=⟨_,rfl⟩
   rw [<-hgv] at zcQ ⊢
   clear hgv
   generalize World.alloc V1 _=Xp2 at zcQ ⊢
   replace zcQ:=qh zcQ
   clear hK K
   refine wpAnyH_ready (rs:= [2,9]) (by kernel_rfl) (by simp) ?_
   refine AllReadyH.cons rfl (fun K hK=> ?_) (AllReadyH.cons rfl (fun K hK=> ?_) AllReadyH.nil)
   ·skip
    go_simp
    refine(qC.out Xp2 g _ 3 3 rfl zcQ.out.yh (by omega) (by omega) (by omega)).mono ?_
    rintro en Xp4 ⟨r1,hr1,rfl,hmk,hsi⟩
    have zha:=qh (zcQ.out.pick hmk hsi)
    clear hmk hsi
    refine hK.out _ _ zha.out.yh.below (fun _=> ?_)
    obtain⟨n,hn⟩:∃n:Nat,(1:Int)+(r1:Int)=(n:Int):=⟨1+r1,by omega⟩
    have bn1:1<=n:=by omega
    have bn2:n<=3:=by omega
    have wn:=wrapN n (by omega)
    have zn:(0:Int)<=(n:Int):=by omega
    have yn:(n:Int)<=3:=by omega
    clear hK K
    refine zy 3 14 ?vp3 rfl ?zBs (zha.out.yh.below) ?_
    case zBs=>(intro _ _;go_simp<;>rfl)
    simp only [Act.put,za,ze,zh]
    refine zy 4 15 ?vp4 rfl ?zBt (zha.out.yh.below) ?_
    case zBt=>(intro _ _;go_simp<;>rfl)
    simp only [Act.put,za,ze,zh]
    refine wpAnyH_ready (rs:= [6,9]) (by kernel_rfl) (by simp) ?_
    refine AllReadyH.cons rfl (fun K hK=> ?_) (AllReadyH.cons rfl (fun K hK=> ?_) AllReadyH.nil)
    ·skip
     go_simp
     refine(qC.out Xp4 g _ 3 3 rfl zha.out.yh (by omega) (by omega) (by omega)).mono ?_
     rintro en Xp6 ⟨r2,hr2,rfl,hmk,hsi⟩
     have zno:=qh (zha.out.pick hmk hsi)
     clear hmk hsi
     refine hK.out _ _ zno.out.yh.below (fun _=> ?_)
     obtain⟨dm,gZ⟩:∃n:Nat,(2:Int)+(r2:Int)=(n:Int):=⟨2+r2,by omega⟩
     have zbU:2<=dm:=by omega
     have zbV:dm<=4:=by omega
     have uf:=wrapN dm (by omega)
     have zdm:(0:Int)<=(dm:Int):=by omega
     skip
     clear hK K
     refine zy 7 18 ?vp5 rfl ?zBu (zno.out.yh.below) ?_
     case zBu=>(intro _ _;go_simp<;>rfl)
     simp only [Act.put,za,ze,zh]
     refine zy 8 19 ?vp6 rfl ?zBv (zno.out.yh.below) ?_
     case zBv=>(intro _ _;go_simp<;>rfl)
     simp only [Act.put,za,ze,zh]
     refine zY 9 rfl (fun K hK=> ?_)
     go_simp
     have zfh:=zno.out.box
     refine hK.out _ _ zfh.yh.below (fun _=> ?_)
     obtain⟨gp,kH⟩:∃n,n=Xp6.heap.size:=⟨_,rfl⟩
     rw [<-kH] at zfh ⊢
     clear kH
     generalize World.alloc Xp6 _=Xp8 at zfh ⊢
     replace zfh:=qh zfh
     clear hK K
     refine zY 10 rfl (fun K hK=> ?_)
     obtain⟨hp, -, -, -⟩:=zfh.out.prog gp rfl
     have q0:Xp8.cell? ⟨gp,0,none⟩=some (.slice none 0 0):=zi hp 0
     have f0:=zB hp 0
     have q1:Xp8.cell? ⟨gp,1,none⟩=some (.int .i64 0):=zi hp 1
     have f1:=zB hp 1
     have q2:Xp8.cell? ⟨gp,2,none⟩=some (.slice none 0 0):=zi hp 2
     have f2:=zB hp 2
     clear hp
     go_simp
     have hend:=zfh.out.done (n:=n) (dm:=dm) (by omega)
     have yj:=qh hend
     refine hK.out _ _ (by obtain⟨a',hm, -⟩:=hend.2;exact hm.below) (fun _=> ?_)
     clear hend q0 q1 q2 f0 f1 f2
     clear hK K
     refine wpAnyH_done (by kernel_rfl) ?_ _
     refine NoPanic.normal ?_
     clear hn gZ wn uf
     go_wp2_with fail
     go_meet
     case rel=>exact⟨gv,gp,n,dm,rfl,by omega,by omega,by omega,by omega,yj.out.1,yj.out.2⟩
    ·skip
     go_simp
     have zfi:=zha.out.box
     refine hK.out _ _ zfi.yh.below (fun _=> ?_)
     obtain⟨gp,kH⟩:∃n,n=Xp4.heap.size:=⟨_,rfl⟩
     rw [<-kH] at zfi ⊢
     clear kH
     generalize World.alloc Xp4 _=zBw at zfi ⊢
     replace zfi:=qh zfi
     clear hK K
     refine zY 6 rfl (fun K hK=> ?_)
     go_simp
     refine(qC.out zBw g _ 3 3 rfl zfi.out.yh (by omega) (by omega) (by omega)).mono ?_
     rintro en ztd ⟨r2,hr2,rfl,hmk,hsi⟩
     have zgv:=qh (zfi.out.pick hmk hsi)
     clear hmk hsi
     refine hK.out _ _ zgv.out.yh.below (fun _=> ?_)
     obtain⟨dm,gZ⟩:∃n:Nat,(2:Int)+(r2:Int)=(n:Int):=⟨2+r2,by omega⟩
     have zbU:2<=dm:=by omega
     have zbV:dm<=4:=by omega
     have uf:=wrapN dm (by omega)
     have zdm:(0:Int)<=(dm:Int):=by omega
     skip
     clear hK K
     refine zy 7 18 ?vp7 rfl ?zBx (zgv.out.yh.below) ?_
     case zBx=>(intro _ _;go_simp<;>rfl)
     simp only [Act.put,za,ze,zh]
     refine zy 8 19 ?vp8 rfl ?zBy (zgv.out.yh.below) ?_
     case zBy=>(intro _ _;go_simp<;>rfl)
     simp only [Act.put,za,ze,zh]
     refine zY 10 rfl (fun K hK=> ?_)
     obtain⟨hp, -, -, -⟩:=zgv.out.prog gp rfl
     have q0:ztd.cell? ⟨gp,0,none⟩=some (.slice none 0 0):=zi hp 0
     have f0:=zB hp 0
     have q1:ztd.cell? ⟨gp,1,none⟩=some (.int .i64 0):=zi hp 1
     have f1:=zB hp 1
     have q2:ztd.cell? ⟨gp,2,none⟩=some (.slice none 0 0):=zi hp 2
     have f2:=zB hp 2
     clear hp
     go_simp
     have hend:=zgv.out.done (n:=n) (dm:=dm) (by omega)
     have yj:=qh hend
     refine hK.out _ _ (by obtain⟨a',hm, -⟩:=hend.2;exact hm.below) (fun _=> ?_)
     clear hend q0 q1 q2 f0 f1 f2
     clear hK K
     refine wpAnyH_done (by kernel_rfl) ?_ _
     refine NoPanic.normal ?_
     clear hn gZ wn uf
     go_wp2_with fail
     go_meet
     case rel=>exact⟨gv,gp,n,dm,rfl,by omega,by omega,by omega,by omega,yj.out.1,yj.out.2⟩
   ·skip
    go_simp
    have zcR:=zcQ.out.box
    refine hK.out _ _ zcR.yh.below (fun _=> ?_)
    obtain⟨gp,kH⟩:∃n,n=Xp2.heap.size:=⟨_,rfl⟩
    rw [<-kH] at zcR ⊢
    clear kH
    generalize World.alloc Xp2 _=zBz at zcR ⊢
    replace zcR:=qh zcR
    clear hK K
    refine zY 2 rfl (fun K hK=> ?_)
    go_simp
    refine(qC.out zBz g _ 3 3 rfl zcR.out.yh (by omega) (by omega) (by omega)).mono ?_
    rintro en zB0 ⟨r1,hr1,rfl,hmk,hsi⟩
    have zgw:=qh (zcR.out.pick hmk hsi)
    clear hmk hsi
    refine hK.out _ _ zgw.out.yh.below (fun _=> ?_)
    obtain⟨n,hn⟩:∃n:Nat,(1:Int)+(r1:Int)=(n:Int):=⟨1+r1,by omega⟩
    have bn1:1<=n:=by omega
    have bn2:n<=3:=by omega
    have wn:=wrapN n (by omega)
    have zn:(0:Int)<=(n:Int):=by omega
    have yn:(n:Int)<=3:=by omega
    clear hK K
    refine zy 3 14 ?vp9 rfl ?zB1 (zgw.out.yh.below) ?_
    case zB1=>(intro _ _;go_simp<;>rfl)
    simp only [Act.put,za,ze,zh]
    refine zy 4 15 ?zJM rfl ?z4h (zgw.out.yh.below) ?_
    case z4h=>(intro _ _;go_simp<;>rfl)
    simp only [Act.put,za,ze,zh]
    refine zY 6 rfl (fun K hK=> ?_)
    go_simp
    refine(qC.out zB0 g _ 3 3 rfl zgw.out.yh (by omega) (by omega) (by omega)).mono ?_
    rintro en zte ⟨r2,hr2,rfl,hmk,hsi⟩
    have zgx:=qh (zgw.out.pick hmk hsi)
    clear hmk hsi
    refine hK.out _ _ zgx.out.yh.below (fun _=> ?_)
    obtain⟨dm,gZ⟩:∃n:Nat,(2:Int)+(r2:Int)=(n:Int):=⟨2+r2,by omega⟩
    have zbU:2<=dm:=by omega
    have zbV:dm<=4:=by omega
    have uf:=wrapN dm (by omega)
    have zdm:(0:Int)<=(dm:Int):=by omega
    skip
    clear hK K
    refine zy 7 18 ?zJN rfl ?z4i (zgx.out.yh.below) ?_
    case z4i=>(intro _ _;go_simp<;>rfl)
    simp only [Act.put,za,ze,zh]
    refine zy 8 19 ?zJO rfl ?z4j (zgx.out.yh.below) ?_
    case z4j=>(intro _ _;go_simp<;>rfl)
    simp only [Act.put,za,ze,zh]
    refine zY 10 rfl (fun K hK=> ?_)
    obtain⟨hp, -, -, -⟩:=zgx.out.prog gp rfl
    have q0:zte.cell? ⟨gp,0,none⟩=some (.slice none 0 0):=zi hp 0
    have f0:=zB hp 0
    have q1:zte.cell? ⟨gp,1,none⟩=some (.int .i64 0):=zi hp 1
    have f1:=zB hp 1
    have q2:zte.cell? ⟨gp,2,none⟩=some (.slice none 0 0):=zi hp 2
    have f2:=zB hp 2
    clear hp
    go_simp
    have hend:=zgx.out.done (n:=n) (dm:=dm) (by omega)
    have yj:=qh hend
    refine hK.out _ _ (by obtain⟨a',hm, -⟩:=hend.2;exact hm.below) (fun _=> ?_)
    clear hend q0 q1 q2 f0 f1 f2
    clear hK K
    refine wpAnyH_done (by kernel_rfl) ?_ _
    refine NoPanic.normal ?_
    clear hn gZ wn uf
    go_wp2_with fail
    go_meet
    case rel=>exact⟨gv,gp,n,dm,rfl,by omega,by omega,by omega,by omega,yj.out.1,yj.out.2⟩
  ·skip
   go_simp
   refine(qC.out V1 g _ 3 3 rfl hT0.out.yh (by omega) (by omega) (by omega)).mono ?_
   rintro en zjQ ⟨r1,hr1,rfl,hmk,hsi⟩
   have zen:=qh (hT0.out.pick hmk hsi)
   clear hmk hsi
   refine hK.out _ _ zen.out.yh.below (fun _=> ?_)
   obtain⟨n,hn⟩:∃n:Nat,(1:Int)+(r1:Int)=(n:Int):=⟨1+r1,by omega⟩
   have bn1:1<=n:=by omega
   have bn2:n<=3:=by omega
   have wn:=wrapN n (by omega)
   have zn:(0:Int)<=(n:Int):=by omega
   have yn:(n:Int)<=3:=by omega
   clear hK K
   refine zy 3 14 ?zJP rfl ?z4k (zen.out.yh.below) ?_
   case z4k=>(intro _ _;go_simp<;>rfl)
   simp only [Act.put,za,ze,zh]
   refine wpAnyH_ready (rs:= [0,6,9]) (by kernel_rfl) (by simp) ?_
   refine AllReadyH.cons rfl (fun K hK=> ?_) (AllReadyH.cons rfl (fun K hK=> ?_) (AllReadyH.cons rfl (fun K hK=> ?_) AllReadyH.nil))
   ·skip
    go_simp
    have zas:=zen.out.names
    unfold jS at zas
    refine hK.out _ _ zas.yh.below (fun _=> ?_)
    obtain⟨gv,hgv⟩:∃n,n=zjQ.heap.size:=⟨_,rfl⟩
    rw [<-hgv] at zas ⊢
    clear hgv
    generalize World.alloc zjQ _=ztf at zas ⊢
    replace zas:=qh zas
    clear hK K
    refine zy 4 15 ?zJQ rfl ?z4l (zas.out.yh.below) ?_
    case z4l=>(intro _ _;go_simp<;>rfl)
    simp only [Act.put,za,ze,zh]
    refine wpAnyH_ready (rs:= [6,9]) (by kernel_rfl) (by simp) ?_
    refine AllReadyH.cons rfl (fun K hK=> ?_) (AllReadyH.cons rfl (fun K hK=> ?_) AllReadyH.nil)
    ·skip
     go_simp
     refine(qC.out ztf g _ 3 3 rfl zas.out.yh (by omega) (by omega) (by omega)).mono ?_
     rintro en z0h ⟨r2,hr2,rfl,hmk,hsi⟩
     have zhX:=qh (zas.out.pick hmk hsi)
     clear hmk hsi
     refine hK.out _ _ zhX.out.yh.below (fun _=> ?_)
     obtain⟨dm,gZ⟩:∃n:Nat,(2:Int)+(r2:Int)=(n:Int):=⟨2+r2,by omega⟩
     have zbU:2<=dm:=by omega
     have zbV:dm<=4:=by omega
     have uf:=wrapN dm (by omega)
     have zdm:(0:Int)<=(dm:Int):=by omega
     skip
     clear hK K
     refine zy 7 18 ?zJR rfl ?z4m (zhX.out.yh.below) ?_
     case z4m=>(intro _ _;go_simp<;>rfl)
     simp only [Act.put,za,ze,zh]
     refine zy 8 19 ?zJS rfl ?z4n (zhX.out.yh.below) ?_
     case z4n=>(intro _ _;go_simp<;>rfl)
     simp only [Act.put,za,ze,zh]
     refine zY 9 rfl (fun K hK=> ?_)
     go_simp
     have zcS:=zhX.out.box
     refine hK.out _ _ zcS.yh.below (fun _=> ?_)
     obtain⟨gp,kH⟩:∃n,n=z0h.heap.size:=⟨_,rfl⟩
     rw [<-kH] at zcS ⊢
     clear kH
     generalize World.alloc z0h _=ztg at zcS ⊢
     replace zcS:=qh zcS
     clear hK K
     refine zY 10 rfl (fun K hK=> ?_)
     obtain⟨hp, -, -, -⟩:=zcS.out.prog gp rfl
     have q0:ztg.cell? ⟨gp,0,none⟩=some (.slice none 0 0):=zi hp 0
     have f0:=zB hp 0
     have q1:ztg.cell? ⟨gp,1,none⟩=some (.int .i64 0):=zi hp 1
     have f1:=zB hp 1
     have q2:ztg.cell? ⟨gp,2,none⟩=some (.slice none 0 0):=zi hp 2
     have f2:=zB hp 2
     clear hp
     go_simp
     have hend:=zcS.out.done (n:=n) (dm:=dm) (by omega)
     have yj:=qh hend
     refine hK.out _ _ (by obtain⟨a',hm, -⟩:=hend.2;exact hm.below) (fun _=> ?_)
     clear hend q0 q1 q2 f0 f1 f2
     clear hK K
     refine wpAnyH_done (by kernel_rfl) ?_ _
     refine NoPanic.normal ?_
     clear hn gZ wn uf
     go_wp2_with fail
     go_meet
     case rel=>exact⟨gv,gp,n,dm,rfl,by omega,by omega,by omega,by omega,yj.out.1,yj.out.2⟩
    ·skip
     go_simp
     have zcT:=zas.out.box
     refine hK.out _ _ zcT.yh.below (fun _=> ?_)
     obtain⟨gp,kH⟩:∃n,n=ztf.heap.size:=⟨_,rfl⟩
     rw [<-kH] at zcT ⊢
     clear kH
     generalize World.alloc ztf _=zB2 at zcT ⊢
     replace zcT:=qh zcT
     clear hK K
     refine zY 6 rfl (fun K hK=> ?_)
     go_simp
     refine(qC.out zB2 g _ 3 3 rfl zcT.out.yh (by omega) (by omega) (by omega)).mono ?_
     rintro en zth ⟨r2,hr2,rfl,hmk,hsi⟩
     have zgy:=qh (zcT.out.pick hmk hsi)
     clear hmk hsi
     refine hK.out _ _ zgy.out.yh.below (fun _=> ?_)
     obtain⟨dm,gZ⟩:∃n:Nat,(2:Int)+(r2:Int)=(n:Int):=⟨2+r2,by omega⟩
     have zbU:2<=dm:=by omega
     have zbV:dm<=4:=by omega
     have uf:=wrapN dm (by omega)
     have zdm:(0:Int)<=(dm:Int):=by omega
     skip
     clear hK K
     refine zy 7 18 ?zJT rfl ?z4o (zgy.out.yh.below) ?_
     case z4o=>(intro _ _;go_simp<;>rfl)
     simp only [Act.put,za,ze,zh]
     refine zy 8 19 ?zJU rfl ?z4p (zgy.out.yh.below) ?_
     case z4p=>(intro _ _;go_simp<;>rfl)
     simp only [Act.put,za,ze,zh]
     refine zY 10 rfl (fun K hK=> ?_)
     obtain⟨hp, -, -, -⟩:=zgy.out.prog gp rfl
     have q0:zth.cell? ⟨gp,0,none⟩=some (.slice none 0 0):=zi hp 0
     have f0:=zB hp 0
     have q1:zth.cell? ⟨gp,1,none⟩=some (.int .i64 0):=zi hp 1
     have f1:=zB hp 1
     have q2:zth.cell? ⟨gp,2,none⟩=some (.slice none 0 0):=zi hp 2
     have f2:=zB hp 2
     clear hp
     go_simp
     have hend:=zgy.out.done (n:=n) (dm:=dm) (by omega)
     have yj:=qh hend
     refine hK.out _ _ (by obtain⟨a',hm, -⟩:=hend.2;exact hm.below) (fun _=> ?_)
     clear hend q0 q1 q2 f0 f1 f2
     clear hK K
     refine wpAnyH_done (by kernel_rfl) ?_ _
     refine NoPanic.normal ?_
     clear hn gZ wn uf
     go_wp2_with fail
     go_meet
     case rel=>exact⟨gv,gp,n,dm,rfl,by omega,by omega,by omega,by omega,yj.out.1,yj.out.2⟩
   ·skip
    go_simp
    refine(qC.out zjQ g _ 3 3 rfl zen.out.yh (by omega) (by omega) (by omega)).mono ?_
    rintro en znp ⟨r2,hr2,rfl,hmk,hsi⟩
    have zhY:=qh (zen.out.pick hmk hsi)
    clear hmk hsi
    refine hK.out _ _ zhY.out.yh.below (fun _=> ?_)
    obtain⟨dm,gZ⟩:∃n:Nat,(2:Int)+(r2:Int)=(n:Int):=⟨2+r2,by omega⟩
    have zbU:2<=dm:=by omega
    have zbV:dm<=4:=by omega
    have uf:=wrapN dm (by omega)
    have zdm:(0:Int)<=(dm:Int):=by omega
    skip
    clear hK K
    refine zy 7 18 ?zJV rfl ?z4q (zhY.out.yh.below) ?_
    case z4q=>(intro _ _;go_simp<;>rfl)
    simp only [Act.put,za,ze,zh]
    refine wpAnyH_ready (rs:= [0,9]) (by kernel_rfl) (by simp) ?_
    refine AllReadyH.cons rfl (fun K hK=> ?_) (AllReadyH.cons rfl (fun K hK=> ?_) AllReadyH.nil)
    ·skip
     go_simp
     have zaV:=zhY.out.names
     unfold jS at zaV
     refine hK.out _ _ zaV.yh.below (fun _=> ?_)
     obtain⟨gv,hgv⟩:∃n,n=znp.heap.size:=⟨_,rfl⟩
     rw [<-hgv] at zaV ⊢
     clear hgv
     generalize World.alloc znp _=z0i at zaV ⊢
     replace zaV:=qh zaV
     clear hK K
     refine zy 4 15 ?zJW rfl ?z4r (zaV.out.yh.below) ?_
     case z4r=>(intro _ _;go_simp<;>rfl)
     simp only [Act.put,za,ze,zh]
     refine zy 8 19 ?zJX rfl ?z4s (zaV.out.yh.below) ?_
     case z4s=>(intro _ _;go_simp<;>rfl)
     simp only [Act.put,za,ze,zh]
     refine zY 9 rfl (fun K hK=> ?_)
     go_simp
     have zcU:=zaV.out.box
     refine hK.out _ _ zcU.yh.below (fun _=> ?_)
     obtain⟨gp,kH⟩:∃n,n=z0i.heap.size:=⟨_,rfl⟩
     rw [<-kH] at zcU ⊢
     clear kH
     generalize World.alloc z0i _=zti at zcU ⊢
     replace zcU:=qh zcU
     clear hK K
     refine zY 10 rfl (fun K hK=> ?_)
     obtain⟨hp, -, -, -⟩:=zcU.out.prog gp rfl
     have q0:zti.cell? ⟨gp,0,none⟩=some (.slice none 0 0):=zi hp 0
     have f0:=zB hp 0
     have q1:zti.cell? ⟨gp,1,none⟩=some (.int .i64 0):=zi hp 1
     have f1:=zB hp 1
     have q2:zti.cell? ⟨gp,2,none⟩=some (.slice none 0 0):=zi hp 2
     have f2:=zB hp 2
     clear hp
     go_simp
     have hend:=zcU.out.done (n:=n) (dm:=dm) (by omega)
     have yj:=qh hend
     refine hK.out _ _ (by obtain⟨a',hm, -⟩:=hend.2;exact hm.below) (fun _=> ?_)
     clear hend q0 q1 q2 f0 f1 f2
     clear hK K
     refine wpAnyH_done (by kernel_rfl) ?_ _
     refine NoPanic.normal ?_
     clear hn gZ wn uf
     go_wp2_with fail
     go_meet
     case rel=>exact⟨gv,gp,n,dm,rfl,by omega,by omega,by omega,by omega,yj.out.1,yj.out.2⟩
    ·skip
     go_simp
     have zeo:=zhY.out.box
     refine hK.out _ _ zeo.yh.below (fun _=> ?_)
     obtain⟨gp,kH⟩:∃n,n=znp.heap.size:=⟨_,rfl⟩
     rw [<-kH] at zeo ⊢
     clear kH
     generalize World.alloc znp _=z0j at zeo ⊢
     replace zeo:=qh zeo
     clear hK K
     refine zY 0 rfl (fun K hK=> ?_)
     go_simp
     have zat:=zeo.out.names
     unfold jS at zat
     refine hK.out _ _ zat.yh.below (fun _=> ?_)
     obtain⟨gv,hgv⟩:∃n,n=z0j.heap.size:=⟨_,rfl⟩
     rw [<-hgv] at zat ⊢
     clear hgv
     generalize World.alloc z0j _=ztj at zat ⊢
     replace zat:=qh zat
     clear hK K
     refine zy 4 15 ?zJY rfl ?z4t (zat.out.yh.below) ?_
     case z4t=>(intro _ _;go_simp<;>rfl)
     simp only [Act.put,za,ze,zh]
     refine zy 8 19 ?zJZ rfl ?z4u (zat.out.yh.below) ?_
     case z4u=>(intro _ _;go_simp<;>rfl)
     simp only [Act.put,za,ze,zh]
     refine zY 10 rfl (fun K hK=> ?_)
     obtain⟨hp, -, -, -⟩:=zat.out.prog gp rfl
     have q0:ztj.cell? ⟨gp,0,none⟩=some (.slice none 0 0):=zi hp 0
     have f0:=zB hp 0
     have q1:ztj.cell? ⟨gp,1,none⟩=some (.int .i64 0):=zi hp 1
     have f1:=zB hp 1
     have q2:ztj.cell? ⟨gp,2,none⟩=some (.slice none 0 0):=zi hp 2
     have f2:=zB hp 2
     clear hp
     go_simp
     have hend:=zat.out.done (n:=n) (dm:=dm) (by omega)
     have yj:=qh hend
     refine hK.out _ _ (by obtain⟨a',hm, -⟩:=hend.2;exact hm.below) (fun _=> ?_)
     clear hend q0 q1 q2 f0 f1 f2
     clear hK K
     refine wpAnyH_done (by kernel_rfl) ?_ _
     refine NoPanic.normal ?_
     clear hn gZ wn uf
     go_wp2_with fail
     go_meet
     case rel=>exact⟨gv,gp,n,dm,rfl,by omega,by omega,by omega,by omega,yj.out.1,yj.out.2⟩
   ·skip
    go_simp
    have zbE:=zen.out.box
    refine hK.out _ _ zbE.yh.below (fun _=> ?_)
    obtain⟨gp,kH⟩:∃n,n=zjQ.heap.size:=⟨_,rfl⟩
    rw [<-kH] at zbE ⊢
    clear kH
    generalize World.alloc zjQ _=ztk at zbE ⊢
    replace zbE:=qh zbE
    clear hK K
    refine wpAnyH_ready (rs:= [0,6]) (by kernel_rfl) (by simp) ?_
    refine AllReadyH.cons rfl (fun K hK=> ?_) (AllReadyH.cons rfl (fun K hK=> ?_) AllReadyH.nil)
    ·skip
     go_simp
     have zaW:=zbE.out.names
     unfold jS at zaW
     refine hK.out _ _ zaW.yh.below (fun _=> ?_)
     obtain⟨gv,hgv⟩:∃n,n=ztk.heap.size:=⟨_,rfl⟩
     rw [<-hgv] at zaW ⊢
     clear hgv
     generalize World.alloc ztk _=zB3 at zaW ⊢
     replace zaW:=qh zaW
     clear hK K
     refine zy 4 15 ?zKa rfl ?z4v (zaW.out.yh.below) ?_
     case z4v=>(intro _ _;go_simp<;>rfl)
     simp only [Act.put,za,ze,zh]
     refine zY 6 rfl (fun K hK=> ?_)
     go_simp
     refine(qC.out zB3 g _ 3 3 rfl zaW.out.yh (by omega) (by omega) (by omega)).mono ?_
     rintro en ztl ⟨r2,hr2,rfl,hmk,hsi⟩
     have zgz:=qh (zaW.out.pick hmk hsi)
     clear hmk hsi
     refine hK.out _ _ zgz.out.yh.below (fun _=> ?_)
     obtain⟨dm,gZ⟩:∃n:Nat,(2:Int)+(r2:Int)=(n:Int):=⟨2+r2,by omega⟩
     have zbU:2<=dm:=by omega
     have zbV:dm<=4:=by omega
     have uf:=wrapN dm (by omega)
     have zdm:(0:Int)<=(dm:Int):=by omega
     skip
     clear hK K
     refine zy 7 18 ?zKb rfl ?z4w (zgz.out.yh.below) ?_
     case z4w=>(intro _ _;go_simp<;>rfl)
     simp only [Act.put,za,ze,zh]
     refine zy 8 19 ?zKc rfl ?z4x (zgz.out.yh.below) ?_
     case z4x=>(intro _ _;go_simp<;>rfl)
     simp only [Act.put,za,ze,zh]
     refine zY 10 rfl (fun K hK=> ?_)
     obtain⟨hp, -, -, -⟩:=zgz.out.prog gp rfl
     have q0:ztl.cell? ⟨gp,0,none⟩=some (.slice none 0 0):=zi hp 0
     have f0:=zB hp 0
     have q1:ztl.cell? ⟨gp,1,none⟩=some (.int .i64 0):=zi hp 1
     have f1:=zB hp 1
     have q2:ztl.cell? ⟨gp,2,none⟩=some (.slice none 0 0):=zi hp 2
     have f2:=zB hp 2
     clear hp
     go_simp
     have hend:=zgz.out.done (n:=n) (dm:=dm) (by omega)
     have yj:=qh hend
     refine hK.out _ _ (by obtain⟨a',hm, -⟩:=hend.2;exact hm.below) (fun _=> ?_)
     clear hend q0 q1 q2 f0 f1 f2
     clear hK K
     refine wpAnyH_done (by kernel_rfl) ?_ _
     refine NoPanic.normal ?_
     clear hn gZ wn uf
     go_wp2_with fail
     go_meet
     case rel=>exact⟨gv,gp,n,dm,rfl,by omega,by omega,by omega,by omega,yj.out.1,yj.out.2⟩
    ·skip
     go_simp
     refine(qC.out ztk g _ 3 3 rfl zbE.out.yh (by omega) (by omega) (by omega)).mono ?_
     rintro en z0k ⟨r2,hr2,rfl,hmk,hsi⟩
     have znq:=qh (zbE.out.pick hmk hsi)
     clear hmk hsi
     refine hK.out _ _ znq.out.yh.below (fun _=> ?_)
     obtain⟨dm,gZ⟩:∃n:Nat,(2:Int)+(r2:Int)=(n:Int):=⟨2+r2,by omega⟩
     have zbU:2<=dm:=by omega
     have zbV:dm<=4:=by omega
     have uf:=wrapN dm (by omega)
     have zdm:(0:Int)<=(dm:Int):=by omega
     skip
     clear hK K
     refine zy 7 18 ?zKd rfl ?z4y (znq.out.yh.below) ?_
     case z4y=>(intro _ _;go_simp<;>rfl)
     simp only [Act.put,za,ze,zh]
     refine zY 0 rfl (fun K hK=> ?_)
     go_simp
     have zau:=znq.out.names
     unfold jS at zau
     refine hK.out _ _ zau.yh.below (fun _=> ?_)
     obtain⟨gv,hgv⟩:∃n,n=z0k.heap.size:=⟨_,rfl⟩
     rw [<-hgv] at zau ⊢
     clear hgv
     generalize World.alloc z0k _=ztm at zau ⊢
     replace zau:=qh zau
     clear hK K
     refine zy 4 15 ?zKe rfl ?z4z (zau.out.yh.below) ?_
     case z4z=>(intro _ _;go_simp<;>rfl)
     simp only [Act.put,za,ze,zh]
     refine zy 8 19 ?zKf rfl ?z4A (zau.out.yh.below) ?_
     case z4A=>(intro _ _;go_simp<;>rfl)
     simp only [Act.put,za,ze,zh]
     refine zY 10 rfl (fun K hK=> ?_)
     obtain⟨hp, -, -, -⟩:=zau.out.prog gp rfl
     have q0:ztm.cell? ⟨gp,0,none⟩=some (.slice none 0 0):=zi hp 0
     have f0:=zB hp 0
     have q1:ztm.cell? ⟨gp,1,none⟩=some (.int .i64 0):=zi hp 1
     have f1:=zB hp 1
     have q2:ztm.cell? ⟨gp,2,none⟩=some (.slice none 0 0):=zi hp 2
     have f2:=zB hp 2
     clear hp
     go_simp
     have hend:=zau.out.done (n:=n) (dm:=dm) (by omega)
     have yj:=qh hend
     refine hK.out _ _ (by obtain⟨a',hm, -⟩:=hend.2;exact hm.below) (fun _=> ?_)
     clear hend q0 q1 q2 f0 f1 f2
     clear hK K
     refine wpAnyH_done (by kernel_rfl) ?_ _
     refine NoPanic.normal ?_
     clear hn gZ wn uf
     go_wp2_with fail
     go_meet
     case rel=>exact⟨gv,gp,n,dm,rfl,by omega,by omega,by omega,by omega,yj.out.1,yj.out.2⟩
  ·skip
   go_simp
   have zbF:=hT0.out.box
   refine hK.out _ _ zbF.yh.below (fun _=> ?_)
   obtain⟨gp,kH⟩:∃n,n=V1.heap.size:=⟨_,rfl⟩
   rw [<-kH] at zbF ⊢
   clear kH
   generalize World.alloc V1 _=ztn at zbF ⊢
   replace zbF:=qh zbF
   clear hK K
   refine wpAnyH_ready (rs:= [0,2]) (by kernel_rfl) (by simp) ?_
   refine AllReadyH.cons rfl (fun K hK=> ?_) (AllReadyH.cons rfl (fun K hK=> ?_) AllReadyH.nil)
   ·skip
    go_simp
    have zbG:=zbF.out.names
    unfold jS at zbG
    refine hK.out _ _ zbG.yh.below (fun _=> ?_)
    obtain⟨gv,hgv⟩:∃n,n=ztn.heap.size:=⟨_,rfl⟩
    rw [<-hgv] at zbG ⊢
    clear hgv
    generalize World.alloc ztn _=zB4 at zbG ⊢
    replace zbG:=qh zbG
    clear hK K
    refine zY 2 rfl (fun K hK=> ?_)
    go_simp
    refine(qC.out zB4 g _ 3 3 rfl zbG.out.yh (by omega) (by omega) (by omega)).mono ?_
    rintro en zB5 ⟨r1,hr1,rfl,hmk,hsi⟩
    have zg0:=qh (zbG.out.pick hmk hsi)
    clear hmk hsi
    refine hK.out _ _ zg0.out.yh.below (fun _=> ?_)
    obtain⟨n,hn⟩:∃n:Nat,(1:Int)+(r1:Int)=(n:Int):=⟨1+r1,by omega⟩
    have bn1:1<=n:=by omega
    have bn2:n<=3:=by omega
    have wn:=wrapN n (by omega)
    have zn:(0:Int)<=(n:Int):=by omega
    have yn:(n:Int)<=3:=by omega
    clear hK K
    refine zy 3 14 ?zKg rfl ?z4B (zg0.out.yh.below) ?_
    case z4B=>(intro _ _;go_simp<;>rfl)
    simp only [Act.put,za,ze,zh]
    refine zy 4 15 ?zKh rfl ?z4C (zg0.out.yh.below) ?_
    case z4C=>(intro _ _;go_simp<;>rfl)
    simp only [Act.put,za,ze,zh]
    refine zY 6 rfl (fun K hK=> ?_)
    go_simp
    refine(qC.out zB5 g _ 3 3 rfl zg0.out.yh (by omega) (by omega) (by omega)).mono ?_
    rintro en zto ⟨r2,hr2,rfl,hmk,hsi⟩
    have zg1:=qh (zg0.out.pick hmk hsi)
    clear hmk hsi
    refine hK.out _ _ zg1.out.yh.below (fun _=> ?_)
    obtain⟨dm,gZ⟩:∃n:Nat,(2:Int)+(r2:Int)=(n:Int):=⟨2+r2,by omega⟩
    have zbU:2<=dm:=by omega
    have zbV:dm<=4:=by omega
    have uf:=wrapN dm (by omega)
    have zdm:(0:Int)<=(dm:Int):=by omega
    skip
    clear hK K
    refine zy 7 18 ?zKi rfl ?z4D (zg1.out.yh.below) ?_
    case z4D=>(intro _ _;go_simp<;>rfl)
    simp only [Act.put,za,ze,zh]
    refine zy 8 19 ?zKj rfl ?z4E (zg1.out.yh.below) ?_
    case z4E=>(intro _ _;go_simp<;>rfl)
    simp only [Act.put,za,ze,zh]
    refine zY 10 rfl (fun K hK=> ?_)
    obtain⟨hp, -, -, -⟩:=zg1.out.prog gp rfl
    have q0:zto.cell? ⟨gp,0,none⟩=some (.slice none 0 0):=zi hp 0
    have f0:=zB hp 0
    have q1:zto.cell? ⟨gp,1,none⟩=some (.int .i64 0):=zi hp 1
    have f1:=zB hp 1
    have q2:zto.cell? ⟨gp,2,none⟩=some (.slice none 0 0):=zi hp 2
    have f2:=zB hp 2
    clear hp
    go_simp
    have hend:=zg1.out.done (n:=n) (dm:=dm) (by omega)
    have yj:=qh hend
    refine hK.out _ _ (by obtain⟨a',hm, -⟩:=hend.2;exact hm.below) (fun _=> ?_)
    clear hend q0 q1 q2 f0 f1 f2
    clear hK K
    refine wpAnyH_done (by kernel_rfl) ?_ _
    refine NoPanic.normal ?_
    clear hn gZ wn uf
    go_wp2_with fail
    go_meet
    case rel=>exact⟨gv,gp,n,dm,rfl,by omega,by omega,by omega,by omega,yj.out.1,yj.out.2⟩
   ·skip
    go_simp
    refine(qC.out ztn g _ 3 3 rfl zbF.out.yh (by omega) (by omega) (by omega)).mono ?_
    rintro en ztp ⟨r1,hr1,rfl,hmk,hsi⟩
    have zg2:=qh (zbF.out.pick hmk hsi)
    clear hmk hsi
    refine hK.out _ _ zg2.out.yh.below (fun _=> ?_)
    obtain⟨n,hn⟩:∃n:Nat,(1:Int)+(r1:Int)=(n:Int):=⟨1+r1,by omega⟩
    have bn1:1<=n:=by omega
    have bn2:n<=3:=by omega
    have wn:=wrapN n (by omega)
    have zn:(0:Int)<=(n:Int):=by omega
    have yn:(n:Int)<=3:=by omega
    clear hK K
    refine zy 3 14 ?zKk rfl ?z4F (zg2.out.yh.below) ?_
    case z4F=>(intro _ _;go_simp<;>rfl)
    simp only [Act.put,za,ze,zh]
    refine wpAnyH_ready (rs:= [0,6]) (by kernel_rfl) (by simp) ?_
    refine AllReadyH.cons rfl (fun K hK=> ?_) (AllReadyH.cons rfl (fun K hK=> ?_) AllReadyH.nil)
    ·skip
     go_simp
     have zaX:=zg2.out.names
     unfold jS at zaX
     refine hK.out _ _ zaX.yh.below (fun _=> ?_)
     obtain⟨gv,hgv⟩:∃n,n=ztp.heap.size:=⟨_,rfl⟩
     rw [<-hgv] at zaX ⊢
     clear hgv
     generalize World.alloc ztp _=zB6 at zaX ⊢
     replace zaX:=qh zaX
     clear hK K
     refine zy 4 15 ?zKl rfl ?z4G (zaX.out.yh.below) ?_
     case z4G=>(intro _ _;go_simp<;>rfl)
     simp only [Act.put,za,ze,zh]
     refine zY 6 rfl (fun K hK=> ?_)
     go_simp
     refine(qC.out zB6 g _ 3 3 rfl zaX.out.yh (by omega) (by omega) (by omega)).mono ?_
     rintro en ztq ⟨r2,hr2,rfl,hmk,hsi⟩
     have zg3:=qh (zaX.out.pick hmk hsi)
     clear hmk hsi
     refine hK.out _ _ zg3.out.yh.below (fun _=> ?_)
     obtain⟨dm,gZ⟩:∃n:Nat,(2:Int)+(r2:Int)=(n:Int):=⟨2+r2,by omega⟩
     have zbU:2<=dm:=by omega
     have zbV:dm<=4:=by omega
     have uf:=wrapN dm (by omega)
     have zdm:(0:Int)<=(dm:Int):=by omega
     skip
     clear hK K
     refine zy 7 18 ?zKm rfl ?z4H (zg3.out.yh.below) ?_
     case z4H=>(intro _ _;go_simp<;>rfl)
     simp only [Act.put,za,ze,zh]
     refine zy 8 19 ?zKn rfl ?z4I (zg3.out.yh.below) ?_
     case z4I=>(intro _ _;go_simp<;>rfl)
     simp only [Act.put,za,ze,zh]
     refine zY 10 rfl (fun K hK=> ?_)
     obtain⟨hp, -, -, -⟩:=zg3.out.prog gp rfl
     have q0:ztq.cell? ⟨gp,0,none⟩=some (.slice none 0 0):=zi hp 0
     have f0:=zB hp 0
     have q1:ztq.cell? ⟨gp,1,none⟩=some (.int .i64 0):=zi hp 1
     have f1:=zB hp 1
     have q2:ztq.cell? ⟨gp,2,none⟩=some (.slice none 0 0):=zi hp 2
     have f2:=zB hp 2
     clear hp
     go_simp
     have hend:=zg3.out.done (n:=n) (dm:=dm) (by omega)
     have yj:=qh hend
     refine hK.out _ _ (by obtain⟨a',hm, -⟩:=hend.2;exact hm.below) (fun _=> ?_)
     clear hend q0 q1 q2 f0 f1 f2
     clear hK K
     refine wpAnyH_done (by kernel_rfl) ?_ _
     refine NoPanic.normal ?_
     clear hn gZ wn uf
     go_wp2_with fail
     go_meet
     case rel=>exact⟨gv,gp,n,dm,rfl,by omega,by omega,by omega,by omega,yj.out.1,yj.out.2⟩
    ·skip
     go_simp
     refine(qC.out ztp g _ 3 3 rfl zg2.out.yh (by omega) (by omega) (by omega)).mono ?_
     rintro en z0l ⟨r2,hr2,rfl,hmk,hsi⟩
     have znr:=qh (zg2.out.pick hmk hsi)
     clear hmk hsi
     refine hK.out _ _ znr.out.yh.below (fun _=> ?_)
     obtain⟨dm,gZ⟩:∃n:Nat,(2:Int)+(r2:Int)=(n:Int):=⟨2+r2,by omega⟩
     have zbU:2<=dm:=by omega
     have zbV:dm<=4:=by omega
     have uf:=wrapN dm (by omega)
     have zdm:(0:Int)<=(dm:Int):=by omega
     skip
     clear hK K
     refine zy 7 18 ?zKo rfl ?z4J (znr.out.yh.below) ?_
     case z4J=>(intro _ _;go_simp<;>rfl)
     simp only [Act.put,za,ze,zh]
     refine zY 0 rfl (fun K hK=> ?_)
     go_simp
     have zav:=znr.out.names
     unfold jS at zav
     refine hK.out _ _ zav.yh.below (fun _=> ?_)
     obtain⟨gv,hgv⟩:∃n,n=z0l.heap.size:=⟨_,rfl⟩
     rw [<-hgv] at zav ⊢
     clear hgv
     generalize World.alloc z0l _=ztr at zav ⊢
     replace zav:=qh zav
     clear hK K
     refine zy 4 15 ?zKp rfl ?z4K (zav.out.yh.below) ?_
     case z4K=>(intro _ _;go_simp<;>rfl)
     simp only [Act.put,za,ze,zh]
     refine zy 8 19 ?zKq rfl ?z4L (zav.out.yh.below) ?_
     case z4L=>(intro _ _;go_simp<;>rfl)
     simp only [Act.put,za,ze,zh]
     refine zY 10 rfl (fun K hK=> ?_)
     obtain⟨hp, -, -, -⟩:=zav.out.prog gp rfl
     have q0:ztr.cell? ⟨gp,0,none⟩=some (.slice none 0 0):=zi hp 0
     have f0:=zB hp 0
     have q1:ztr.cell? ⟨gp,1,none⟩=some (.int .i64 0):=zi hp 1
     have f1:=zB hp 1
     have q2:ztr.cell? ⟨gp,2,none⟩=some (.slice none 0 0):=zi hp 2
     have f2:=zB hp 2
     clear hp
     go_simp
     have hend:=zav.out.done (n:=n) (dm:=dm) (by omega)
     have yj:=qh hend
     refine hK.out _ _ (by obtain⟨a',hm, -⟩:=hend.2;exact hm.below) (fun _=> ?_)
     clear hend q0 q1 q2 f0 f1 f2
     clear hK K
     refine wpAnyH_done (by kernel_rfl) ?_ _
     refine NoPanic.normal ?_
     clear hn gZ wn uf
     go_wp2_with fail
     go_meet
     case rel=>exact⟨gv,gp,n,dm,rfl,by omega,by omega,by omega,by omega,yj.out.1,yj.out.2⟩
 case rest=>
  obtain⟨gv,gp,n,dm,rfl,hn1,hn3,hd2,hd4,HL,HMA⟩:=hcut
  clear HR
  obtain⟨X,rfl⟩:∃x:World,x=wc:=⟨_,rfl⟩
  obtain⟨a0,z0m,ha0⟩:=HMA.out
  have z0n:=qh z0m
  clear z0m
  go_upto_region 4 with(go_at_call 77;go_must(refine(qC.out X g _ 3 3 rfl z0n.out (by omega) (by omega) (by omega)).mono ?_);rintro en X2 ⟨r3,hr3,rfl,hmk,hsi⟩;(have HL2:=qh (HL.out.picked hsi hmk (by omega)));clear hmk hsi HL z0n)
  obtain⟨m,hm⟩:∃m:Nat,(1:Int)+(r3:Int)=(m:Int):=⟨1+r3,by omega⟩
  have hm1:1<=m:=by omega
  have hm3:m<=3:=by omega
  rw [hm]
  clear hm hr3
  go_loopg [7] m (fun gg s7 wr=>∃(j k:Nat) (oa:Option Addr) (oc:Nat) (T:List (List zH)) (css:List (List Value)),s7= .int .i64 k/\Hid (j+k=m)/\Hid (gg=k)/\Hid (jG w wr g gv gp gr (.slice sa ln sc) n dm j (.slice oa j oc) T css))
  case atStart=>exact⟨0,m,none,0, [], [],rfl,by rw [Hid];omega,rfl,HL2.out⟩
  case round=>
   obtain⟨j,k',oa,oc,T,css,rfl,HJK,HG,HL⟩:=hrel
   clear HL2
   have hj3:j<=3:=by have:=HJK.out;omega
   have hk3:k'<=3:=by have:=HJK.out;omega
   by_cases hk0:0<k'
   rotate_left
   ·obtain rfl:k'=0:=by omega
    have hj1:j=m:=by have:=HJK.out;omega
    obtain⟨hend,hset⟩:=znm HL.out hn1 hn3 hd2 (by omega) (by omega) hj3
    have yj:=qh hend
    have zI:=qh hset
    clear hend hset hj1
    have c0:wr.cell? ⟨gp,0,none⟩=some (.slice (some ⟨gv,0,none⟩) n 3):=zi HL.out.box 0
    have c1:wr.cell? ⟨gp,1,none⟩=some (.int .i64 dm):=zi HL.out.box 1
    have c2:wr.cell? ⟨gp,2,none⟩=some (.slice oa j oc):=zi HL.out.box 2
    have z0:wr.cell? ⟨gr,0,none⟩=some (.slice none 0 0):=zi HL.out.res 0
    have z1:wr.cell? ⟨gr,1,none⟩=some (.int .i64 0):=zi HL.out.res 1
    have z2:wr.cell? ⟨gr,2,none⟩=some (.slice none 0 0):=zi HL.out.res 2
    have f0:=zB HL.out.res 0
    have f1:=zB HL.out.res 1
    have f2:=zB HL.out.res 2
    go_wp2_with fail
    refine bodyPost_ret (yV rfl _ _ gr 92 _ (0,0) _ rfl zI.out Tryz.underlying92 rfl zjP) rfl ?_
    exact yj.out
   obtain⟨k,rfl⟩:∃k,k'=k+1:=⟨k' - 1,by omega⟩
   have hkI:(0:Int)<(k:Int)+1:=by omega
   have CC:Hid (∀x,Since (fun y=>(Value.slice oa j oc).ownBlock=some y\/y=g) wr x->x.cell? ⟨gp,0,none⟩=some (.slice (some ⟨gv,0,none⟩) n 3)/\x.cell? ⟨gp,1,none⟩=some (.int .i64 dm)/\x.cell? ⟨gp,2,none⟩=some (.slice oa j oc)):=fun x hx=>by
    have h:=(hx.block _ (zw HL.out.box) (fun e=>by rcases e with e|e;exact(HL.out.own_ne _ e).2.1 rfl;have:=HL.out.lo;omega)).trans HL.out.box
    exact⟨zi h 0,zi h 1,zi h 2⟩
   go_upto_region 6 with fail
   refine wp_region_noPanic ?_
   refine yT (n0:=15) (S:=fun x=>Since (fun y=>(Value.slice oa j oc).ownBlock=some y\/y=g) wr x) (by kernel_rfl) (Since.drew _ (Since.refl _ wr)) (fun _=> ?_)
   obtain⟨V1,hV1⟩:∃V1,V1=wr.drew:=⟨_,rfl⟩
   have hT0:Hid (Since (fun y=>(Value.slice oa j oc).ownBlock=some y\/y=g) wr V1):=by rw [hV1];exact Since.drew _ (Since.refl _ wr)
   have hl2:jG w V1 g gv gp gr (.slice sa ln sc) n dm j (.slice oa j oc) T css:=by rw [hV1];exact HL.out.drew
   rw [<-hV1]
   clear hV1
   have HL2:=qh hl2
   have zb0:=hl2.row.row
   rw [hl2.len] at zb0
   have zuA:=qh zb0
   have HOWN:Hid (∀k,(Value.slice oa j oc).ownBlock=some k->k≠g):=fun k hk=>(hl2.own_ne k hk).1
   obtain⟨a1,hmk,ha1⟩:=hl2.yh
   have yu:=qh hmk.below.size
   have HMK:=qh (And.intro hmk ha1)
   clear hl2 zb0 hmk ha1
   refine zO 0 27 ?vz1 rfl ?zrT (fun _=>hT0.out) ?_
   case zrT=>(intro _ _;go_simp<;>rfl)
   simp only [Act.put,za,ze,zh]
   refine vD [13,14,15] 1 28 ?vz2 rfl ?zrU (hT0.out) ?_
   case zrU=>(intro x h;have e:=CC.out x h;go_simp<;>rfl)
   simp only [Act.put,za,ze,zh]
   refine zO 2 29 ?vz3 rfl ?zrV (fun _=>hT0.out) ?_
   case zrV=>(intro _ _;go_simp<;>rfl)
   simp only [Act.put,za,ze,zh]
   refine zO 3 30 ?vz4 rfl ?zrW (fun _=>hT0.out) ?_
   case zrW=>(intro _ _;go_simp<;>rfl)
   simp only [Act.put,za,ze,zh]
   refine zO 5 32 ?vz5 rfl ?zrX (fun _=>hT0.out) ?_
   case zrX=>(intro _ _;go_simp<;>rfl)
   simp only [Act.put,za,ze,zh]
   refine vD [7,11,12,13,14,15] 6 33 ?vz6 rfl ?zrY (hT0.out) ?_
   case zrY=>(intro x h;have e:=CC.out x h;go_simp<;>rfl)
   simp only [Act.put,za,ze,zh]
   refine zO 7 34 ?vz7 rfl ?zrZ (fun _=>hT0.out) ?_
   case zrZ=>(intro _ _;go_simp<;>rfl)
   simp only [Act.put,za,ze,zh]
   refine zO 8 35 ?vz8 rfl ?zsa (fun _=>hT0.out) ?_
   case zsa=>(intro _ _;go_simp<;>rfl)
   simp only [Act.put,za,ze,zh]
   refine vD [11,12,13,14,15] 9 36 ?vz9 rfl ?zsb (hT0.out) ?_
   case zsb=>(intro x h;have e:=CC.out x h;go_simp<;>rfl)
   simp only [Act.put,za,ze,zh]
   refine zO 10 37 ?zAE rfl ?zmS (fun _=>hT0.out) ?_
   case zmS=>(intro _ _;go_simp<;>rfl)
   simp only [Act.put,za,ze,zh]
   refine jB 4 rfl (fun K hK=> ?_)
   go_simp
   refine(qC.out V1 g _ 5 5 rfl HMK.out.1 (by omega) (by omega) (by have h5:=HMK.out.2;omega)).mono ?_
   rintro en V2 ⟨r5,hr5,rfl,hmk,hsi⟩
   have z0o:=qh hmk
   have zts:=qh hsi
   have hT1:=qh (hT0.out.trans hsi (fun y hy=> .inl (.inr hy)))
   clear hmk hsi
   refine hK.out _ _ (fun _ _=>hT1.out) ?_
   clear hK K
   refine jB 11 rfl (fun K hK=> ?_)
   go_simp
   refine(z4g.out g n dm (by omega) (by omega) (by omega) (by omega) V2 _ r5 z0o.out (by omega) (by have h5:=HMK.out.2;omega)).mono ?_
   rintro en V3 ⟨L,na,nc,a2,rfl,hok,haw,hmk,ha2,hsi⟩
   have z0p:=qh hmk
   have ztt:=qh (And.intro hok haw)
   have zns:=qh (zts.out.trans hsi (fun _ h=> .inl h))
   have HSZ:=qh hsi.size
   have hT2:=qh (hT1.out.trans hsi (fun y hy=> .inl (.inr hy)))
   have hrow:=zns.out.row zuA.out (fun k hk e=>(HOWN.out k hk) e)
   have zgo:=qh hrow
   clear hmk hsi hok haw hrow
   refine hK.out _ _ (fun _ _=>hT2.out) ?_
   clear hK K
   refine jB 12 rfl (fun K hK=> ?_)
   go_simp
   have hT3:=qh (hT2.out.alloc (.cells #[.slice na L.length nc] 129))
   refine hK.out _ _ (fun _ _=>hT3.out) ?_
   clear hK K
   refine jB 13 rfl (fun K hK=> ?_)
   refine zT (V3.alloc (.cells #[.slice na L.length nc] 129)) (by rfl) (.tmp 28) (.tmp 39) 90 rfl 129 (.slice none 0 0) 1 24 Tryz.underlying90 znn rfl (by decide) w.heap.size (.slice oa j oc) j (css.flatten) (by rfl) (zgo.out.alloc _) ⟨V3.heap.size,0,none⟩ 1 1 [.slice na L.length nc] (by rfl) rfl (jI V3 _ _) (by simp [Value.oneCell']) (by unfold maxLen;omega) (by omega) (by have h5:=yu.out;have h6:=zns.out.size;simp;omega) ?_
   intro xa xc V4 e1 e2 e3 e4 e5
   have qB:=qh (hT3.out.trans e4 (fun y hy=> .inl (.inl hy)))
   have hp:=HL2.out.push zns.out z0p.out (by have:=HMK.out.2;omega) ztt.out.1 rfl (ztt.out.2.step (Since.refl (fun _=>False) V3) (fun _ h=>h.elim) (fun k hk=> .inl (by have h5:=zts.out.size;omega))) e1 e4 e5
   have HP:=qh hp
   clear e1 e2 e3 e4 e5 hp
   refine hK.out _ _ (fun _ _=>qB.out) ?_
   clear hK K
   change vK _ _ _ _ _ _ _ _ (Act.put _ (some 40) _) _
   simp only [Act.put,za,ze,zh]
   refine zO 14 41 ?zAF rfl ?zmT (fun _=>qB.out) ?_
   case zmT=>(intro _ _;go_simp<;>rfl)
   simp only [Act.put,za,ze,zh]
   refine jB 15 rfl (fun K hK=> ?_)
   have q2:V4.cell? ⟨gp,2,none⟩=some (.slice oa j oc):=zi HP.out.1 2
   have f2:=zB HP.out.1 2
   go_simp
   refine hK.out _ _ (fun h=>absurd rfl h) ?_
   clear q2 f2
   have hT5:=qB
   clear hK K
   refine xM (by kernel_rfl) ?_ _
   refine NoPanic.normal ?_
   have HP2:=qh HP.out.2
   clear HP z0o z0p ztt zts zns zgo zuA HOWN CC
   go_wp2_with fail
   go_roundg k
   case measure=>rw [HG.out];omega
   case rel=>exact⟨j+1,k,xa,xc,_,_,(by first|rfl|simp),by have:=HJK.out;rw [Hid];omega,rfl,HP2.out⟩
end Go.Proofs.YtliajkheeniljaaGreatDoor
