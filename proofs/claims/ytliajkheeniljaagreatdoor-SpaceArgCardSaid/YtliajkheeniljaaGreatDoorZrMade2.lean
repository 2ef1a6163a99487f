/- Steps. -/
import Derived.Test.YtliajkheeniljaaGreatDoorZrMakerL
set_option linter.all false
namespace Go.Proofs.YtliajkheeniljaaGreatDoor
open Go.RowKit
set_option maxRecDepth 100000
set_option maxHeartbeats 16000000
theorem ztb (W0:World) (g:Nat) (lv:Value) (l:List Int) (hn:jF W0 .u8 lv l) (kv:Value) (ks:List Int) (hks:xI W0 kv ks) (hk1:1<=ks.length) (hk2:ks.length<=100) (hk3:∀k∈ks,1<=k/\k<=11) (vars dom:Nat) (hv1:1<=vars) (hv2:vars<=10) (hd1:2<=dom) (hd2:dom<=16) (d:Nat) (hd:d<=10):
  zgX W0 g lv kv vars dom d:=by
 obtain⟨ka,kc,hkv, -⟩:=zh.slice hks
 induction d with
 |zero=>exact zkO W0 g lv kv vars dom 0 (zkP W0 g lv l hn kv ks hks hk1 hk2 hk3 vars dom hv1 hv2 hd1 hd2 0 (by omega) (λh=>by omega)) ka _ kc hkv
 |succ d ih=>exact zkO W0 g lv kv vars dom (d+1) (zkP W0 g lv l hn kv ks hks hk1 hk2 hk3 vars dom hv1 hv2 hd1 hd2 (d+1) hd (λ_=>ih (by omega))) ka _ kc hkv
def zfo:List Int:= [1,2,1,2,3,4,5,6,7,8,9,10,11]
theorem zqd (w:World):Calls Tryz.prog 21 #[] w λe w'=>(∃kv,e= .returned kv/\xI w' kv zfo)/\Below w.heap.size w w':=by
 have hb:=(Below.refl w.heap.size w).alloc (Nat.le_refl _) (.cells #[.int .i64 1, .int .i64 2, .int .i64 1, .int .i64 2, .int .i64 3, .int .i64 4, .int .i64 5, .int .i64 6, .int .i64 7, .int .i64 8, .int .i64 9, .int .i64 10, .int .i64 11] 3)
 have hg:=yj w (.cells #[.int .i64 1, .int .i64 2, .int .i64 1, .int .i64 2, .int .i64 3, .int .i64 4, .int .i64 5, .int .i64 6, .int .i64 7, .int .i64 8, .int .i64 9, .int .i64 10, .int .i64 11] 3)
 have hr:=gF (w:=w.alloc (.cells #[.int .i64 1, .int .i64 2, .int .i64 1, .int .i64 2, .int .i64 3, .int .i64 4, .int .i64 5, .int .i64 6, .int .i64 7, .int .i64 8, .int .i64 9, .int .i64 10, .int .i64 11] 3)) (l:=zfo) (B:=0) (sv:= .slice (some ⟨w.heap.size,0,none⟩) 13 13) (gG (n:=13) (cs:=zq yP zfo) hg (Nat.zero_le _) rfl (by decide))
 have HB:=qh hb
 have HR:=qh hr
 clear hb hg hr
 go_enter Tryz.func21,Tryz.ntmps21
 go_wp2_with fail
 go_ret
 exact⟨⟨_,rfl,HR.out⟩,HB.out⟩
def wN:List Value:= [.string ⟨#[120]⟩, .string ⟨#[121]⟩, .string ⟨#[122]⟩]
theorem ztc {X:World} {gv n:Nat} (h:X.heap[gv]? =some (.cells wN.toArray 9 (0,0))) (hn:n<=3):zd5 X (.slice (some ⟨gv,0,none⟩) n 3) (xyz.take n):=by
 have hl:(xyz.take n).length=n:=by rw [List.length_take];simp [xyz];omega
 refine⟨_,3,by rw [hl],by rw [hl];omega,λj hj=> ?_⟩
 rw [hl] at hj
 have e:(xyz.take n).getD j default=xyz.getD j default:=by simp only [List.getD_eq_getElem?_getD,List.getElem?_take_of_lt hj]
 have hj3:j=0\/j=1\/j=2:=by omega
 rw [e]
 rcases hj3 with rfl|rfl|rfl
 ·refine⟨gv,0, [.string ⟨#[120]⟩],rfl,zw h,rfl,λi hi=> ?_,rfl⟩
  obtain rfl:i=0:=by omega
  rw [ze h];rfl
 ·refine⟨gv,0, [.string ⟨#[121]⟩],rfl,zw h,rfl,λi hi=> ?_,rfl⟩
  obtain rfl:i=0:=by omega
  rw [ze h];rfl
 refine⟨gv,0, [.string ⟨#[122]⟩],rfl,zw h,rfl,λi hi=> ?_,rfl⟩
 obtain rfl:i=0:=by omega
 rw [ze h];rfl
def PF (va:Value) (g gp gr:Nat) (k:Nat):Prop:=va.ownBlock=some k\/k=g\/k=gp\/k=gr
structure wG (w X:World) (g gv gp gr:Nat) (sv:Value) (n dm i:Nat) (va:Value) (T:List (List zL)) (css:List (List Value)):Prop where
 yu:∃a',vB w X g sv a'/\a'<=10+i*5000
 box:X.heap[gp]? =some (.cells #[.slice (some ⟨gv,0,none⟩) n 3, .int .i64 dm,va] 92 (0,0))
 vars:X.heap[gv]? =some (.cells wN.toArray 9 (0,0))
 res:X.heap[gr]? =some (.cells #[.slice none 0 0, .int .i64 0, .slice none 0 0] 92 (0,0))
 lo:w.heap.size<=g/\w.heap.size<=gv/\w.heap.size<=gp/\w.heap.size<=gr/\g≠gp/\g≠gr/\gp≠gr/\gv≠g/\gv≠gp/\gv≠gr
 len:T.length=i
 ok:∀l∈T,xB n dm l 20=true/\yI l<=52
 row:yV (PF va g gp gr) X (ziY 3 4) 1 w.heap.size 129 va T css
section
variable {w X Y:World} {g gv gp gr:Nat} {sv:Value} {n dm i:Nat} {va:Value} {T:List (List zL)} {css:List (List Value)}
theorem wG.own_ne (h:wG w X g gv gp gr sv n dm i va T css):∀k,va.ownBlock=some k->k≠g/\k≠gp/\k≠gr/\k≠gv:=λk hk=>by
 obtain⟨a',hm, -⟩:=h.yu
 exact⟨λe=>by subst e;exact um h.row.row hk hm.box (by decide),λe=>by subst e;exact um h.row.row hk h.box (by decide),λe=>by subst e;exact um h.row.row hk h.res (by decide),λe=>by subst e;exact um h.row.row hk h.vars (by decide)⟩
theorem wG.lt (h:wG w X g gv gp gr sv n dm i va T css):∀k,PF va g gp gr k->k<X.heap.size:=λk hk=>by
 obtain⟨a',hm, -⟩:=h.yu
 rcases hk with hk|rfl|rfl|rfl
 ·exact(h.row.row.lt k hk).2
 ·exact zw hm.box
 ·exact zw h.box
 exact zw h.res
theorem wG.push {xc ln rc a1 oc:Nat} {Z:World} {oa ra xa:Option Addr} {l:List zL} {o:Obj} (h:wG w X g gv gp gr sv n dm i (.slice oa i oc) T css) (hs:Since (λk=>k=g) X Y) (hm:vB w Y g sv a1) (ha:a1<=10+i*5000+5000) (hok:xB n dm l 20=true/\yI l<=52) (hlen:l.length=ln)
  (haw:zX (λk=>k<X.heap.size) Y (λy=>yF 3 4 y l (.slice ra ln rc))) (h1:Z.ownsRow w.heap.size 129 1 (.slice xa (i+1) xc) (i+1) (css.flatten++ [.slice ra ln rc])) (h4:Since (λk=>(Value.slice oa i oc).ownBlock=some k) (Y.alloc o) Z) (h5:∀k,(Value.slice xa (i+1) xc).ownBlock=some k->(Value.slice oa i oc).ownBlock=some k\/k=(Y.alloc o).heap.size):
  Z.heap[gp]? =some (.cells #[.slice (some ⟨gv,0,none⟩) n 3, .int .i64 dm, .slice oa i oc] 92 (0,0))/\wG w (Z.setCell ⟨gp,2,none⟩ (.slice xa (i+1) xc)) g gv gp gr sv n dm (i+1) (.slice xa (i+1) xc) (T++ [l]) (css++ [[.slice ra ln rc]]):=by
 have hlo:=h.lo
 have hne:=h.own_ne
 have hlt:=h.lt
 have s1:Since (λk=>(Value.slice oa i oc).ownBlock=some k) Y Z:=((Since.refl _ Y).alloc o).trans h4 (λk hk=> .inl hk)
 have s2:Since (λk=>k=gp) Z (Z.setCell ⟨gp,2,none⟩ (.slice xa (i+1) xc)):=Since.setCell (F:=λk=>k=gp) (p:=⟨gp,2,none⟩) (Since.refl _ _) (.inl rfl) _
 have s3:Since (λk=>(Value.slice oa i oc).ownBlock=some k\/k=gp) Y (Z.setCell ⟨gp,2,none⟩ (.slice xa (i+1) xc)):=(s1.mono (λk _ hk=> .inl hk)).trans s2 (λk hk=> .inl (.inr hk))
 have ztd:=(hs.block _ (zw h.box) (by omega)).trans h.box
 have zvI:=(hs.block _ (zw h.vars) (by omega)).trans h.vars
 have zyp:=(hs.block _ (zw h.res) (by omega)).trans h.res
 have bq:=(s1.block _ (zw ztd) (λe=>(hne _ e).2.1 rfl)).trans ztd
 have hvars:=(s1.block _ (zw zvI) (λe=>(hne _ e).2.2.2 rfl)).trans zvI
 have hres:=(s1.block _ (zw zyp) (λe=>(hne _ e).2.2.1 rfl)).trans zyp
 have hnew:∀k,(Value.slice xa (i+1) xc).ownBlock=some k->k≠gp:=λk hk e=>by
  rcases h5 k hk with h1|h1
  ·exact(hne k h1).2.1 e
  have:=zw ztd;simp at h1;omega
 refine⟨bq,⟨⟨a1,hm.since s3 (λk hk=> ?_),by omega⟩, ?_,(s2.block _ (zw hvars) (by omega)).trans hvars,(s2.block _ (zw hres) (by omega)).trans hres,hlo,by simp [h.len],λy hy=> ?_, ?_⟩⟩
 ·rcases hk with hk|hk
  ·have:=(h.row.row.lt k hk).1;have:=(hne k hk).1;omega
  omega
 ·have:=zu bq 2 (.slice xa (i+1) xc);simpa using this
 ·rcases List.mem_append.1 hy with hy|hy
  ·exact h.ok y hy
  rw [List.mem_singleton] at hy;subst hy;exact hok
 have hrow:=h.row.step (F':=PF (.slice oa i oc) g gp gr) hs (λk hk e=>(hne k hk).1 e) (λk hk=> .inl (.inr (.inl hk))) (λk hk=> .inl hk)
 refine hrow.push s3 (λk hk=> ?_) (λk hk=> ?_) (λy hy=>⟨_,rfl,haw y (hy.mono (λk _ hk=>hlt k hk))⟩) rfl ?_
 ·rcases hk with hk|hk
  ·exact .inl (.inl hk)
  exact .inl (.inr (.inr (.inl hk)))
 ·rcases hk with hk|hk|hk|hk
  ·rcases h5 k hk with h1|h1
   ·exact .inl (.inl h1)
   exact .inr (by simp at h1;omega)
  ·exact .inl (.inr (.inl hk))
  ·exact .inl (.inr (.inr (.inl hk)))
  exact .inl (.inr (.inr (.inr hk)))
 rw [h.len];exact s2.row h1 hnew
end
def znw (w:World) (en:Ending) (w':World):Prop:=(∃p vv tv,en= .returned (zfZ p vv tv)/\zga p/\zd6 3 4 w' p vv tv)/\Below w.heap.size w w'
theorem zyq {T:List (List zL)} (h:∀l∈T,yI l<=52):(T.map yI).sum<=T.length*52:=by
 induction T with
 |nil=>simp
 |cons l T ih=>
 have h1:=h l (by simp)
 have h2:=ih (λx hx=>h x (by simp [hx]))
 simp only [List.map_cons,List.sum_cons,List.length_cons];omega
theorem zot {w X:World} {g gv gp gr:Nat} {sv:Value} {n dm i oc:Nat} {oa:Option Addr} {T:List (List zL)} {css:List (List Value)} (h:wG w X g gv gp gr sv n dm i (.slice oa i oc) T css) (hn1:1<=n) (hn3:n<=3) (hd1:2<=dm) (hd2:dm<=16) (hi1:1<=i) (hi3:i<=3):
  znw w (.returned (.agg #[.slice (some ⟨gv,0,none⟩) n 3, .int .i64 dm, .slice oa i oc])) (yA X gr 0 [.slice (some ⟨gv,0,none⟩) n 3, .int .i64 dm, .slice oa i oc])/\
  (yA X gr 0 [.slice (some ⟨gv,0,none⟩) n 3, .int .i64 dm, .slice oa i oc]).heap[gr]? =some (.cells #[.slice (some ⟨gv,0,none⟩) n 3, .int .i64 dm, .slice oa i oc] 92 (0,0)):=by
 have hlo:=h.lo
 have s:=xR (g:=gr) [.slice (some ⟨gv,0,none⟩) n 3, .int .i64 dm, .slice oa i oc] X 0
 have hvl:(xyz.take n).length=n:=by rw [List.length_take];simp [xyz];omega
 obtain⟨a',hm, -⟩:=h.yu
 have hl:=h.len
 refine⟨⟨⟨⟨xyz.take n,dm,T⟩, .slice (some ⟨gv,0,none⟩) n 3, .slice oa i oc,rfl,⟨⟨n,hn1,hn3,rfl⟩,⟨by show(2:Int)<=(dm:Int);omega,by show(dm:Int)<=16;omega⟩,⟨by show 1<=T.length;omega,by show T.length<=3;omega⟩,λl hl=> ?_, ?_⟩,⟨?_, ?_⟩⟩,hm.below.trans (s.below hm.below.size (λk hk=>by omega))⟩, ?_⟩
 ·show xB ((xyz.take n).length:Nat) dm l 20=true
  rw [hvl];exact(h.ok l hl).1
 ·have:=zyq (λl hl=>(h.ok l hl).2)
  show(T.map yI).sum<=200
  omega
 ·exact ztc ((s.block _ (zw h.vars) (by omega)).trans h.vars) hn3
 ·exact(h.row.step (F':=λ_=>False) s (λk hk e=>(h.own_ne k hk).2.2.1 e) (λk hk=> .inl (.inr (.inr (.inr hk)))) (λ_ h=>h.elim)).slice
 exact qW (cs:= [.slice none 0 0, .int .i64 0, .slice none 0 0]) _ rfl h.res
end Go.Proofs.YtliajkheeniljaaGreatDoor
namespace Go.Proofs.YtliajkheeniljaaGreatDoor
open Go.RowKit
set_option maxRecDepth 100000
set_option maxHeartbeats 16000000
structure R2 (w X:World) (g gr:Nat) (sv:Value) (a:Nat) (mv mp:Option Nat):Prop where
 yu:vB w X g sv a
 res:X.heap[gr]? =some (.cells #[.slice none 0 0, .int .i64 0, .slice none 0 0] 92 (0,0))
 lo:w.heap.size<=gr/\g≠gr
 vars:∀b,mv=some b->X.heap[b]? =some (.cells wN.toArray 9 (0,0))/\w.heap.size<=b/\b≠g/\b≠gr
 prog:∀b,mp=some b->X.heap[b]? =some (.cells #[.slice none 0 0, .int .i64 0, .slice none 0 0] 92 (0,0))/\w.heap.size<=b/\b≠g/\b≠gr
 ne:∀b c,mv=some b->mp=some c->b≠c
section
variable {w X Y:World} {g gr a b:Nat} {sv:Value} {mv mp:Option Nat}
theorem R2.pick (h:R2 w X g gr sv a mv mp) (hm:vB w Y g sv b) (hs:Since (λk=>k=g) X Y):R2 w Y g gr sv b mv mp:=
 ⟨hm,(hs.block _ (zw h.res) (λe=>h.lo.2 e.symm)).trans h.res,h.lo,λc hc=>⟨(hs.block _ (zw (h.vars c hc).1) (h.vars c hc).2.2.1).trans (h.vars c hc).1,(h.vars c hc).2⟩,λc hc=>⟨(hs.block _ (zw (h.prog c hc).1) (h.prog c hc).2.2.1).trans (h.prog c hc).1,(h.prog c hc).2⟩,h.ne⟩
theorem R2.names (h:R2 w X g gr sv a none mp):R2 w (X.alloc (.cells wN.toArray 9)) g gr sv a (some X.heap.size) mp:=by
 have hb:=(Below.refl X.heap.size X).alloc (Nat.le_refl _) (.cells wN.toArray 9)
 have h1:=h.yu.below.size
 have h2:=zw h.yu.box
 have h3:=zw h.res
 refine⟨h.yu.later hb,(hb.block _ h3).trans h.res,h.lo,λc hc=> ?_,λc hc=>⟨(hb.block _ (zw (h.prog c hc).1)).trans (h.prog c hc).1,(h.prog c hc).2⟩,λc e hc he=> ?_⟩
 ·cases hc;exact⟨yj X _,h1,by omega,by omega⟩
 cases hc;have:=zw (h.prog e he).1;omega
theorem R2.box (h:R2 w X g gr sv a mv none):R2 w (X.alloc (.cells #[.slice none 0 0, .int .i64 0, .slice none 0 0] 92)) g gr sv a mv (some X.heap.size):=by
 have hb:=(Below.refl X.heap.size X).alloc (Nat.le_refl _) (.cells #[.slice none 0 0, .int .i64 0, .slice none 0 0] 92)
 have h1:=h.yu.below.size
 have h2:=zw h.yu.box
 have h3:=zw h.res
 refine⟨h.yu.later hb,(hb.block _ h3).trans h.res,h.lo,λc hc=>⟨(hb.block _ (zw (h.vars c hc).1)).trans (h.vars c hc).1,(h.vars c hc).2⟩,λc hc=> ?_,λc e hc he=> ?_⟩
 ·cases hc;exact⟨yj X _,h1,by omega,by omega⟩
 cases he;have:=zw (h.vars c hc).1;omega
theorem R2.done {gv gp n dm:Nat} (h:R2 w X g gr sv a (some gv) (some gp)) (ha:a<=9):wG w (yA X gp 0 [.slice (some ⟨gv,0,none⟩) n 3, .int .i64 dm, .slice none 0 0]) g gv gp gr sv n dm 0 (.slice none 0 0) [] [] /\∃a,vB w (yA X gp 0 [.slice (some ⟨gv,0,none⟩) n 3, .int .i64 dm, .slice none 0 0]) g sv a/\a<=9:=by
 obtain⟨v1,v2,v3,v4⟩:=h.vars gv rfl
 obtain⟨p1,p2,p3,p4⟩:=h.prog gp rfl
 have hne:=h.ne gv gp rfl rfl
 have hlo:=h.lo
 have hg:=h.yu.lo
 have s:=xR (g:=gp) [.slice (some ⟨gv,0,none⟩) n 3, .int .i64 dm, .slice none 0 0] X 0
 exact⟨⟨⟨a,h.yu.since s (λk hk=>by omega),by omega⟩,qW (cs:= [.slice none 0 0, .int .i64 0, .slice none 0 0]) _ rfl p1,(s.block _ (zw v1) hne).trans v1,(s.block _ (zw h.res) (by omega)).trans h.res,⟨hg,v2,p2,hlo.1,by omega,by omega,by omega,by omega,by omega,by omega⟩,rfl,λl hl=>by simp at hl,yV.nil _ _ _ _ _ _⟩,a,h.yu.since s (λk hk=>by omega),ha⟩
end
theorem wG.picked {w X Y:World} {g gv gp gr n dm i b:Nat} {sv va:Value} {T:List (List zL)} {css:List (List Value)} (h:wG w X g gv gp gr sv n dm i va T css) (hs:Since (λk=>k=g) X Y) (hm:vB w Y g sv b) (hb:b<=10+i*5000):wG w Y g gv gp gr sv n dm i va T css:=by
 have hlo:=h.lo
 exact⟨⟨b,hm,hb⟩,(hs.block _ (zw h.box) (by omega)).trans h.box,(hs.block _ (zw h.vars) (by omega)).trans h.vars,(hs.block _ (zw h.res) (by omega)).trans h.res,hlo,h.len,h.ok,h.row.step hs (λk hk e=>(h.own_ne k hk).1 e) (λk hk=> .inl (.inr (.inl hk))) (λk hk=> .inl hk)⟩
theorem wG.drew {w X:World} {g gv gp gr n dm i:Nat} {sv va:Value} {T:List (List zL)} {css:List (List Value)} (h:wG w X g gv gp gr sv n dm i va T css):wG w X.drew g gv gp gr sv n dm i va T css:=by
 obtain⟨a,hm,ha⟩:=h.yu
 exact h.picked (Since.drew _ (Since.refl _ X)) (hm.later (Below.refl _ _).drew) ha
theorem zkQ:(Tryz.prog.info? 92).map (·.size)=some 3:=by kernel_rfl
theorem zou:(Tryz.prog.info? 129).map (λi=>(i.zero,i.size,i.bytes))=some (some (.slice none 0 0),1,24):=by kernel_rfl
theorem wrapN (n:Nat) (h:n<=100):IntKind.i64.wrap (n:Int)=(n:Int):=IntWalk.i64_in _ (by omega)
theorem zqe (w:World) (sv:Value) (l:List Int) (hn:jF w .u8 sv l) (kv:Value) (ks:List Int) (hks:xI w kv ks) (hk1:1<=ks.length) (hk2:ks.length<=100) (hk3:∀k∈ks,1<=k/\k<=11):
  Calls Tryz.prog 48 #[sv,kv] w (znw w):=by
 have hpick:=λW g a n ni hni h n1 n2 ha=>zgY w W g sv l a n ni hni h hn n1 n2 ha
 have hlist:=λg vars dom hv1 hv2 hd1 hd2=>ztb w g sv l hn kv ks hks hk1 hk2 hk3 vars dom hv1 hv2 hd1 hd2 2 (by omega)
 have wK:4*jP 2=1040:=rfl
 have z5a:4*zaq 2=52:=rfl
 have zhD:∀(g vars dom:Nat),1<=vars->vars<=10->2<=dom->dom<=16->∀(W:World) (a n:Nat),vB w W g sv a->n<=4->a<=100000->Calls Tryz.prog 78 #[.pointer (some ⟨g,0,none⟩), .int .i64 n, .int .i64 2, .int .i64 vars, .int .i64 dom,kv] W λe w'=>∃(L:List zL) (va:Option Addr) (vc a':Nat),e= .returned (.slice va L.length vc)/\(xB vars dom L 20=true/\yI L<=52)/\
   zX (λk=>k<W.heap.size) w' (λy=>yF 3 4 y L (.slice va L.length vc))/\vB w w' g sv a'/\a'<=a+1040/\Since (λk=>k=g) W w':=λg vars dom hv1 hv2 hd1 hd2 W a n hm bA ha=>by
  refine(hlist g vars dom hv1 hv2 hd1 hd2 W a n 4 n rfl hm bA (by omega) (by omega)).mono ?_
  rintro e w' ⟨L,va,vc,a',h1,h2,h3,h4,h5,h6,h7⟩
  exact⟨L,va,vc,a',h1,⟨zov h2 (by omega),by omega⟩,h4,h5,by omega,h7⟩
 obtain⟨sa,sc,rfl, -⟩:∃a c,sv= .slice a l.length c/\True:=by obtain⟨a,c,h, -⟩:=hn;exact⟨a,c,h,trivial⟩
 obtain⟨ka,kc,rfl, -⟩:=zh.slice hks
 generalize l.length=ln at hpick zhD ⊢
 generalize ks.length=kn at zhD ⊢
 have qX:=qh hpick
 have z2u:=qh zhD
 clear hpick hlist zhD wK z5a hn hks hk1 hk2 hk3
 have hB:=((Below.refl w.heap.size w).alloc (Nat.le_refl _) (.cells #[.slice none 0 0, .int .i64 0, .slice none 0 0] 92)).alloc (by simp) (.cells #[.slice sa ln sc, .int .i64 0] 132)
 have H1:=xQ w (.cells #[.slice none 0 0, .int .i64 0, .slice none 0 0] 92) (.cells #[.slice sa ln sc, .int .i64 0] 132)
 have H2:=xA w (.cells #[.slice none 0 0, .int .i64 0, .slice none 0 0] 92) (.cells #[.slice sa ln sc, .int .i64 0] 132)
 have HR:Hid (R2 w ((w.alloc (.cells #[.slice none 0 0, .int .i64 0, .slice none 0 0] 92)).alloc (.cells #[.slice sa ln sc, .int .i64 0] 132)) (w.heap.size+1) w.heap.size (.slice sa ln sc) 0 none none):=⟨⟨hB,by omega,H2⟩,H1,⟨Nat.le_refl _,by omega⟩,(λ_ h=>by cases h),(λ_ h=>by cases h),(λ_ _ h=>by cases h)⟩
 clear hB H1 H2
 go_enter Tryz.func48,Tryz.ntmps48
 go_upto_region 2 with fail
 generalize World.alloc (World.alloc w _) _=V at HR ⊢
 generalize w.heap.size+1=g at HR ⊢
 obtain⟨gr,hgr⟩:∃gr,gr=w.heap.size:=⟨_,rfl⟩
 rw [<-hgr] at HR ⊢
 have gU:=qh hgr
 clear hgr
 go_cut [6] (λs6 w'=>∃gv gp n dm:Nat,s6= .pointer (some ⟨gp,0,none⟩)/\1<=n/\n<=3/\2<=dm/\dm<=4/\Hid (wG w w' g gv gp gr (.slice sa ln sc) n dm 0 (.slice none 0 0) [] [])/\Hid (∃a,vB w w' g (.slice sa ln sc) a/\a<=9))
 case first=>
  have hT0:Hid (R2 w V.drew g w.heap.size (.slice sa ln sc) 0 none none):=by have h:=HR.out;rw [gU.out] at h;exact h.pick (h.yu.later (Below.refl _ _).drew) (Since.drew _ (Since.refl _ _))
  rw [<-gU.out] at hT0
  clear HR
  refine qL (S:=λx=>Below w.heap.size w x) hT0.out.yu.below (λ_=> ?_)
  obtain⟨V1,hV1⟩:∃V1,V1=V.drew:=⟨_,rfl⟩
  rw [<-hV1]
  rw [<-hV1] at hT0
  clear hV1
  refine zC 1 zO (hT0.out.yu.below) ?_
  refine zC 5 zO (hT0.out.yu.below) ?_
  refine wpAnyH_ready (rs:= [0,2,9]) (by kernel_rfl) (by simp) ?_
  refine AllReadyH.cons rfl (λK hK=> ?_) (AllReadyH.cons rfl (λK hK=> ?_) (AllReadyH.cons rfl (λK hK=> ?_) AllReadyH.nil))
  ·skip
   go_simp
   have zed:=hT0.out.names
   unfold wN at zed
   refine hK.out _ _ zed.yu.below (λ_=> ?_)
   obtain⟨gv,hgv⟩:∃n,n=V1.heap.size:=⟨_,rfl⟩
   rw [<-hgv] at zed ⊢
   clear hgv
   generalize World.alloc V1 _=Xp2 at zed ⊢
   replace zed:=qh zed
   clear hK K
   refine wpAnyH_ready (rs:= [2,9]) (by kernel_rfl) (by simp) ?_
   refine AllReadyH.cons rfl (λK hK=> ?_) (AllReadyH.cons rfl (λK hK=> ?_) AllReadyH.nil)
   ·skip
    go_simp
    refine(qX.out Xp2 g _ 3 3 rfl zed.out.yu (by omega) (by omega) (by omega)).mono ?_
    rintro en Xp4 ⟨r1,hr1,rfl,hmk,hsi⟩
    have ziZ:=qh (zed.out.pick hmk hsi)
    clear hmk hsi
    refine hK.out _ _ ziZ.out.yu.below (λ_=> ?_)
    obtain⟨n,hn⟩:∃n:Nat,(1:Int)+(r1:Int)=(n:Int):=⟨1+r1,by omega⟩
    have bn1:1<=n:=by omega
    have bn2:n<=3:=by omega
    have wn:=wrapN n (by omega)
    have zn:(0:Int)<=(n:Int):=by omega
    have yn:(n:Int)<=3:=by omega
    clear hK K
    refine zC 3 zO (ziZ.out.yu.below) ?_
    refine zC 4 zO (ziZ.out.yu.below) ?_
    refine wpAnyH_ready (rs:= [6,9]) (by kernel_rfl) (by simp) ?_
    refine AllReadyH.cons rfl (λK hK=> ?_) (AllReadyH.cons rfl (λK hK=> ?_) AllReadyH.nil)
    ·skip
     go_simp
     refine(qX.out Xp4 g _ 3 3 rfl ziZ.out.yu (by omega) (by omega) (by omega)).mono ?_
     rintro en Xp6 ⟨r2,hr2,rfl,hmk,hsi⟩
     have zow:=qh (ziZ.out.pick hmk hsi)
     clear hmk hsi
     refine hK.out _ _ zow.out.yu.below (λ_=> ?_)
     obtain⟨dm,pR⟩:∃n:Nat,(2:Int)+(r2:Int)=(n:Int):=⟨2+r2,by omega⟩
     have zdr:2<=dm:=by omega
     have zds:dm<=4:=by omega
     have pU:=wrapN dm (by omega)
     have zdm:(0:Int)<=(dm:Int):=by omega
     skip
     clear hK K
     refine zC 7 zO (zow.out.yu.below) ?_
     refine zC 8 zO (zow.out.yu.below) ?_
     refine yw 9 rfl (λK hK=> ?_)
     go_simp
     have zgZ:=zow.out.box
     refine hK.out _ _ zgZ.yu.below (λ_=> ?_)
     obtain⟨gp,gV⟩:∃n,n=Xp6.heap.size:=⟨_,rfl⟩
     rw [<-gV] at zgZ ⊢
     clear gV
     generalize World.alloc Xp6 _=Xp8 at zgZ ⊢
     replace zgZ:=qh zgZ
     clear hK K
     refine yw 10 rfl (λK hK=> ?_)
     obtain⟨hp, -, -, -⟩:=zgZ.out.prog gp rfl
     have q0:Xp8.cell? ⟨gp,0,none⟩=some (.slice none 0 0):=ze hp 0
     have f0:=zA hp 0
     have q1:Xp8.cell? ⟨gp,1,none⟩=some (.int .i64 0):=ze hp 1
     have f1:=zA hp 1
     have q2:Xp8.cell? ⟨gp,2,none⟩=some (.slice none 0 0):=ze hp 2
     have f2:=zA hp 2
     clear hp
     go_simp
     have hend:=zgZ.out.done (n:=n) (dm:=dm) (by omega)
     have zR:=qh hend
     refine hK.out _ _ (by obtain⟨a',hm, -⟩:=hend.2;exact hm.below) (λ_=> ?_)
     clear hend q0 q1 q2 f0 f1 f2
     clear hK K
     refine xE ?_
     clear hn pR wn pU
     go_wp2_with fail
     go_meet
     case rel=>exact⟨gv,gp,n,dm,rfl,by omega,by omega,by omega,by omega,zR.out.1,zR.out.2⟩
    skip
    go_simp
    have zha:=ziZ.out.box
    refine hK.out _ _ zha.yu.below (λ_=> ?_)
    obtain⟨gp,gV⟩:∃n,n=Xp4.heap.size:=⟨_,rfl⟩
    rw [<-gV] at zha ⊢
    clear gV
    generalize World.alloc Xp4 _=z5b at zha ⊢
    replace zha:=qh zha
    clear hK K
    refine yw 6 rfl (λK hK=> ?_)
    go_simp
    refine(qX.out z5b g _ 3 3 rfl zha.out.yu (by omega) (by omega) (by omega)).mono ?_
    rintro en zte ⟨r2,hr2,rfl,hmk,hsi⟩
    have zhE:=qh (zha.out.pick hmk hsi)
    clear hmk hsi
    refine hK.out _ _ zhE.out.yu.below (λ_=> ?_)
    obtain⟨dm,pR⟩:∃n:Nat,(2:Int)+(r2:Int)=(n:Int):=⟨2+r2,by omega⟩
    have zdr:2<=dm:=by omega
    have zds:dm<=4:=by omega
    have pU:=wrapN dm (by omega)
    have zdm:(0:Int)<=(dm:Int):=by omega
    skip
    clear hK K
    refine zC 7 zO (zhE.out.yu.below) ?_
    refine zC 8 zO (zhE.out.yu.below) ?_
    refine yw 10 rfl (λK hK=> ?_)
    obtain⟨hp, -, -, -⟩:=zhE.out.prog gp rfl
    have q0:zte.cell? ⟨gp,0,none⟩=some (.slice none 0 0):=ze hp 0
    have f0:=zA hp 0
    have q1:zte.cell? ⟨gp,1,none⟩=some (.int .i64 0):=ze hp 1
    have f1:=zA hp 1
    have q2:zte.cell? ⟨gp,2,none⟩=some (.slice none 0 0):=ze hp 2
    have f2:=zA hp 2
    clear hp
    go_simp
    have hend:=zhE.out.done (n:=n) (dm:=dm) (by omega)
    have zR:=qh hend
    refine hK.out _ _ (by obtain⟨a',hm, -⟩:=hend.2;exact hm.below) (λ_=> ?_)
    clear hend q0 q1 q2 f0 f1 f2
    clear hK K
    refine xE ?_
    clear hn pR wn pU
    go_wp2_with fail
    go_meet
    case rel=>exact⟨gv,gp,n,dm,rfl,by omega,by omega,by omega,by omega,zR.out.1,zR.out.2⟩
   skip
   go_simp
   have zee:=zed.out.box
   refine hK.out _ _ zee.yu.below (λ_=> ?_)
   obtain⟨gp,gV⟩:∃n,n=Xp2.heap.size:=⟨_,rfl⟩
   rw [<-gV] at zee ⊢
   clear gV
   generalize World.alloc Xp2 _=z5c at zee ⊢
   replace zee:=qh zee
   clear hK K
   refine yw 2 rfl (λK hK=> ?_)
   go_simp
   refine(qX.out z5c g _ 3 3 rfl zee.out.yu (by omega) (by omega) (by omega)).mono ?_
   rintro en z5d ⟨r1,hr1,rfl,hmk,hsi⟩
   have zhF:=qh (zee.out.pick hmk hsi)
   clear hmk hsi
   refine hK.out _ _ zhF.out.yu.below (λ_=> ?_)
   obtain⟨n,hn⟩:∃n:Nat,(1:Int)+(r1:Int)=(n:Int):=⟨1+r1,by omega⟩
   have bn1:1<=n:=by omega
   have bn2:n<=3:=by omega
   have wn:=wrapN n (by omega)
   have zn:(0:Int)<=(n:Int):=by omega
   have yn:(n:Int)<=3:=by omega
   clear hK K
   refine zC 3 zO (zhF.out.yu.below) ?_
   refine zC 4 zO (zhF.out.yu.below) ?_
   refine yw 6 rfl (λK hK=> ?_)
   go_simp
   refine(qX.out z5d g _ 3 3 rfl zhF.out.yu (by omega) (by omega) (by omega)).mono ?_
   rintro en ztf ⟨r2,hr2,rfl,hmk,hsi⟩
   have zhG:=qh (zhF.out.pick hmk hsi)
   clear hmk hsi
   refine hK.out _ _ zhG.out.yu.below (λ_=> ?_)
   obtain⟨dm,pR⟩:∃n:Nat,(2:Int)+(r2:Int)=(n:Int):=⟨2+r2,by omega⟩
   have zdr:2<=dm:=by omega
   have zds:dm<=4:=by omega
   have pU:=wrapN dm (by omega)
   have zdm:(0:Int)<=(dm:Int):=by omega
   skip
   clear hK K
   refine zC 7 zO (zhG.out.yu.below) ?_
   refine zC 8 zO (zhG.out.yu.below) ?_
   refine yw 10 rfl (λK hK=> ?_)
   obtain⟨hp, -, -, -⟩:=zhG.out.prog gp rfl
   have q0:ztf.cell? ⟨gp,0,none⟩=some (.slice none 0 0):=ze hp 0
   have f0:=zA hp 0
   have q1:ztf.cell? ⟨gp,1,none⟩=some (.int .i64 0):=ze hp 1
   have f1:=zA hp 1
   have q2:ztf.cell? ⟨gp,2,none⟩=some (.slice none 0 0):=ze hp 2
   have f2:=zA hp 2
   clear hp
   go_simp
   have hend:=zhG.out.done (n:=n) (dm:=dm) (by omega)
   have zR:=qh hend
   refine hK.out _ _ (by obtain⟨a',hm, -⟩:=hend.2;exact hm.below) (λ_=> ?_)
   clear hend q0 q1 q2 f0 f1 f2
   clear hK K
   refine xE ?_
   clear hn pR wn pU
   go_wp2_with fail
   go_meet
   case rel=>exact⟨gv,gp,n,dm,rfl,by omega,by omega,by omega,by omega,zR.out.1,zR.out.2⟩
  ·skip
   go_simp
   refine(qX.out V1 g _ 3 3 rfl hT0.out.yu (by omega) (by omega) (by omega)).mono ?_
   rintro en zkR ⟨r1,hr1,rfl,hmk,hsi⟩
   have zgb:=qh (hT0.out.pick hmk hsi)
   clear hmk hsi
   refine hK.out _ _ zgb.out.yu.below (λ_=> ?_)
   obtain⟨n,hn⟩:∃n:Nat,(1:Int)+(r1:Int)=(n:Int):=⟨1+r1,by omega⟩
   have bn1:1<=n:=by omega
   have bn2:n<=3:=by omega
   have wn:=wrapN n (by omega)
   have zn:(0:Int)<=(n:Int):=by omega
   have yn:(n:Int)<=3:=by omega
   clear hK K
   refine zC 3 zO (zgb.out.yu.below) ?_
   refine wpAnyH_ready (rs:= [0,6,9]) (by kernel_rfl) (by simp) ?_
   refine AllReadyH.cons rfl (λK hK=> ?_) (AllReadyH.cons rfl (λK hK=> ?_) (AllReadyH.cons rfl (λK hK=> ?_) AllReadyH.nil))
   ·skip
    go_simp
    have zbj:=zgb.out.names
    unfold wN at zbj
    refine hK.out _ _ zbj.yu.below (λ_=> ?_)
    obtain⟨gv,hgv⟩:∃n,n=zkR.heap.size:=⟨_,rfl⟩
    rw [<-hgv] at zbj ⊢
    clear hgv
    generalize World.alloc zkR _=ztg at zbj ⊢
    replace zbj:=qh zbj
    clear hK K
    refine zC 4 zO (zbj.out.yu.below) ?_
    refine wpAnyH_ready (rs:= [6,9]) (by kernel_rfl) (by simp) ?_
    refine AllReadyH.cons rfl (λK hK=> ?_) (AllReadyH.cons rfl (λK hK=> ?_) AllReadyH.nil)
    ·skip
     go_simp
     refine(qX.out ztg g _ 3 3 rfl zbj.out.yu (by omega) (by omega) (by omega)).mono ?_
     rintro en zyu ⟨r2,hr2,rfl,hmk,hsi⟩
     have zk7:=qh (zbj.out.pick hmk hsi)
     clear hmk hsi
     refine hK.out _ _ zk7.out.yu.below (λ_=> ?_)
     obtain⟨dm,pR⟩:∃n:Nat,(2:Int)+(r2:Int)=(n:Int):=⟨2+r2,by omega⟩
     have zdr:2<=dm:=by omega
     have zds:dm<=4:=by omega
     have pU:=wrapN dm (by omega)
     have zdm:(0:Int)<=(dm:Int):=by omega
     skip
     clear hK K
     refine zC 7 zO (zk7.out.yu.below) ?_
     refine zC 8 zO (zk7.out.yu.below) ?_
     refine yw 9 rfl (λK hK=> ?_)
     go_simp
     have zef:=zk7.out.box
     refine hK.out _ _ zef.yu.below (λ_=> ?_)
     obtain⟨gp,gV⟩:∃n,n=zyu.heap.size:=⟨_,rfl⟩
     rw [<-gV] at zef ⊢
     clear gV
     generalize World.alloc zyu _=zth at zef ⊢
     replace zef:=qh zef
     clear hK K
     refine yw 10 rfl (λK hK=> ?_)
     obtain⟨hp, -, -, -⟩:=zef.out.prog gp rfl
     have q0:zth.cell? ⟨gp,0,none⟩=some (.slice none 0 0):=ze hp 0
     have f0:=zA hp 0
     have q1:zth.cell? ⟨gp,1,none⟩=some (.int .i64 0):=ze hp 1
     have f1:=zA hp 1
     have q2:zth.cell? ⟨gp,2,none⟩=some (.slice none 0 0):=ze hp 2
     have f2:=zA hp 2
     clear hp
     go_simp
     have hend:=zef.out.done (n:=n) (dm:=dm) (by omega)
     have zR:=qh hend
     refine hK.out _ _ (by obtain⟨a',hm, -⟩:=hend.2;exact hm.below) (λ_=> ?_)
     clear hend q0 q1 q2 f0 f1 f2
     clear hK K
     refine xE ?_
     clear hn pR wn pU
     go_wp2_with fail
     go_meet
     case rel=>exact⟨gv,gp,n,dm,rfl,by omega,by omega,by omega,by omega,zR.out.1,zR.out.2⟩
    skip
    go_simp
    have zeg:=zbj.out.box
    refine hK.out _ _ zeg.yu.below (λ_=> ?_)
    obtain⟨gp,gV⟩:∃n,n=ztg.heap.size:=⟨_,rfl⟩
    rw [<-gV] at zeg ⊢
    clear gV
    generalize World.alloc ztg _=z5e at zeg ⊢
    replace zeg:=qh zeg
    clear hK K
    refine yw 6 rfl (λK hK=> ?_)
    go_simp
    refine(qX.out z5e g _ 3 3 rfl zeg.out.yu (by omega) (by omega) (by omega)).mono ?_
    rintro en zti ⟨r2,hr2,rfl,hmk,hsi⟩
    have zhH:=qh (zeg.out.pick hmk hsi)
    clear hmk hsi
    refine hK.out _ _ zhH.out.yu.below (λ_=> ?_)
    obtain⟨dm,pR⟩:∃n:Nat,(2:Int)+(r2:Int)=(n:Int):=⟨2+r2,by omega⟩
    have zdr:2<=dm:=by omega
    have zds:dm<=4:=by omega
    have pU:=wrapN dm (by omega)
    have zdm:(0:Int)<=(dm:Int):=by omega
    skip
    clear hK K
    refine zC 7 zO (zhH.out.yu.below) ?_
    refine zC 8 zO (zhH.out.yu.below) ?_
    refine yw 10 rfl (λK hK=> ?_)
    obtain⟨hp, -, -, -⟩:=zhH.out.prog gp rfl
    have q0:zti.cell? ⟨gp,0,none⟩=some (.slice none 0 0):=ze hp 0
    have f0:=zA hp 0
    have q1:zti.cell? ⟨gp,1,none⟩=some (.int .i64 0):=ze hp 1
    have f1:=zA hp 1
    have q2:zti.cell? ⟨gp,2,none⟩=some (.slice none 0 0):=ze hp 2
    have f2:=zA hp 2
    clear hp
    go_simp
    have hend:=zhH.out.done (n:=n) (dm:=dm) (by omega)
    have zR:=qh hend
    refine hK.out _ _ (by obtain⟨a',hm, -⟩:=hend.2;exact hm.below) (λ_=> ?_)
    clear hend q0 q1 q2 f0 f1 f2
    clear hK K
    refine xE ?_
    clear hn pR wn pU
    go_wp2_with fail
    go_meet
    case rel=>exact⟨gv,gp,n,dm,rfl,by omega,by omega,by omega,by omega,zR.out.1,zR.out.2⟩
   ·skip
    go_simp
    refine(qX.out zkR g _ 3 3 rfl zgb.out.yu (by omega) (by omega) (by omega)).mono ?_
    rintro en zox ⟨r2,hr2,rfl,hmk,hsi⟩
    have zk8:=qh (zgb.out.pick hmk hsi)
    clear hmk hsi
    refine hK.out _ _ zk8.out.yu.below (λ_=> ?_)
    obtain⟨dm,pR⟩:∃n:Nat,(2:Int)+(r2:Int)=(n:Int):=⟨2+r2,by omega⟩
    have zdr:2<=dm:=by omega
    have zds:dm<=4:=by omega
    have pU:=wrapN dm (by omega)
    have zdm:(0:Int)<=(dm:Int):=by omega
    skip
    clear hK K
    refine zC 7 zO (zk8.out.yu.below) ?_
    refine wpAnyH_ready (rs:= [0,9]) (by kernel_rfl) (by simp) ?_
    refine AllReadyH.cons rfl (λK hK=> ?_) (AllReadyH.cons rfl (λK hK=> ?_) AllReadyH.nil)
    ·skip
     go_simp
     have zbL:=zk8.out.names
     unfold wN at zbL
     refine hK.out _ _ zbL.yu.below (λ_=> ?_)
     obtain⟨gv,hgv⟩:∃n,n=zox.heap.size:=⟨_,rfl⟩
     rw [<-hgv] at zbL ⊢
     clear hgv
     generalize World.alloc zox _=zyv at zbL ⊢
     replace zbL:=qh zbL
     clear hK K
     refine zC 4 zO (zbL.out.yu.below) ?_
     refine zC 8 zO (zbL.out.yu.below) ?_
     refine yw 9 rfl (λK hK=> ?_)
     go_simp
     have zeh:=zbL.out.box
     refine hK.out _ _ zeh.yu.below (λ_=> ?_)
     obtain⟨gp,gV⟩:∃n,n=zyv.heap.size:=⟨_,rfl⟩
     rw [<-gV] at zeh ⊢
     clear gV
     generalize World.alloc zyv _=ztj at zeh ⊢
     replace zeh:=qh zeh
     clear hK K
     refine yw 10 rfl (λK hK=> ?_)
     obtain⟨hp, -, -, -⟩:=zeh.out.prog gp rfl
     have q0:ztj.cell? ⟨gp,0,none⟩=some (.slice none 0 0):=ze hp 0
     have f0:=zA hp 0
     have q1:ztj.cell? ⟨gp,1,none⟩=some (.int .i64 0):=ze hp 1
     have f1:=zA hp 1
     have q2:ztj.cell? ⟨gp,2,none⟩=some (.slice none 0 0):=ze hp 2
     have f2:=zA hp 2
     clear hp
     go_simp
     have hend:=zeh.out.done (n:=n) (dm:=dm) (by omega)
     have zR:=qh hend
     refine hK.out _ _ (by obtain⟨a',hm, -⟩:=hend.2;exact hm.below) (λ_=> ?_)
     clear hend q0 q1 q2 f0 f1 f2
     clear hK K
     refine xE ?_
     clear hn pR wn pU
     go_wp2_with fail
     go_meet
     case rel=>exact⟨gv,gp,n,dm,rfl,by omega,by omega,by omega,by omega,zR.out.1,zR.out.2⟩
    skip
    go_simp
    have zgc:=zk8.out.box
    refine hK.out _ _ zgc.yu.below (λ_=> ?_)
    obtain⟨gp,gV⟩:∃n,n=zox.heap.size:=⟨_,rfl⟩
    rw [<-gV] at zgc ⊢
    clear gV
    generalize World.alloc zox _=zyw at zgc ⊢
    replace zgc:=qh zgc
    clear hK K
    refine yw 0 rfl (λK hK=> ?_)
    go_simp
    have zbk:=zgc.out.names
    unfold wN at zbk
    refine hK.out _ _ zbk.yu.below (λ_=> ?_)
    obtain⟨gv,hgv⟩:∃n,n=zyw.heap.size:=⟨_,rfl⟩
    rw [<-hgv] at zbk ⊢
    clear hgv
    generalize World.alloc zyw _=ztk at zbk ⊢
    replace zbk:=qh zbk
    clear hK K
    refine zC 4 zO (zbk.out.yu.below) ?_
    refine zC 8 zO (zbk.out.yu.below) ?_
    refine yw 10 rfl (λK hK=> ?_)
    obtain⟨hp, -, -, -⟩:=zbk.out.prog gp rfl
    have q0:ztk.cell? ⟨gp,0,none⟩=some (.slice none 0 0):=ze hp 0
    have f0:=zA hp 0
    have q1:ztk.cell? ⟨gp,1,none⟩=some (.int .i64 0):=ze hp 1
    have f1:=zA hp 1
    have q2:ztk.cell? ⟨gp,2,none⟩=some (.slice none 0 0):=ze hp 2
    have f2:=zA hp 2
    clear hp
    go_simp
    have hend:=zbk.out.done (n:=n) (dm:=dm) (by omega)
    have zR:=qh hend
    refine hK.out _ _ (by obtain⟨a',hm, -⟩:=hend.2;exact hm.below) (λ_=> ?_)
    clear hend q0 q1 q2 f0 f1 f2
    clear hK K
    refine xE ?_
    clear hn pR wn pU
    go_wp2_with fail
    go_meet
    case rel=>exact⟨gv,gp,n,dm,rfl,by omega,by omega,by omega,by omega,zR.out.1,zR.out.2⟩
   skip
   go_simp
   have zcN:=zgb.out.box
   refine hK.out _ _ zcN.yu.below (λ_=> ?_)
   obtain⟨gp,gV⟩:∃n,n=zkR.heap.size:=⟨_,rfl⟩
   rw [<-gV] at zcN ⊢
   clear gV
   generalize World.alloc zkR _=ztl at zcN ⊢
   replace zcN:=qh zcN
   clear hK K
   refine wpAnyH_ready (rs:= [0,6]) (by kernel_rfl) (by simp) ?_
   refine AllReadyH.cons rfl (λK hK=> ?_) (AllReadyH.cons rfl (λK hK=> ?_) AllReadyH.nil)
   ·skip
    go_simp
    have zbM:=zcN.out.names
    unfold wN at zbM
    refine hK.out _ _ zbM.yu.below (λ_=> ?_)
    obtain⟨gv,hgv⟩:∃n,n=ztl.heap.size:=⟨_,rfl⟩
    rw [<-hgv] at zbM ⊢
    clear hgv
    generalize World.alloc ztl _=z5f at zbM ⊢
    replace zbM:=qh zbM
    clear hK K
    refine zC 4 zO (zbM.out.yu.below) ?_
    refine yw 6 rfl (λK hK=> ?_)
    go_simp
    refine(qX.out z5f g _ 3 3 rfl zbM.out.yu (by omega) (by omega) (by omega)).mono ?_
    rintro en ztm ⟨r2,hr2,rfl,hmk,hsi⟩
    have zhI:=qh (zbM.out.pick hmk hsi)
    clear hmk hsi
    refine hK.out _ _ zhI.out.yu.below (λ_=> ?_)
    obtain⟨dm,pR⟩:∃n:Nat,(2:Int)+(r2:Int)=(n:Int):=⟨2+r2,by omega⟩
    have zdr:2<=dm:=by omega
    have zds:dm<=4:=by omega
    have pU:=wrapN dm (by omega)
    have zdm:(0:Int)<=(dm:Int):=by omega
    skip
    clear hK K
    refine zC 7 zO (zhI.out.yu.below) ?_
    refine zC 8 zO (zhI.out.yu.below) ?_
    refine yw 10 rfl (λK hK=> ?_)
    obtain⟨hp, -, -, -⟩:=zhI.out.prog gp rfl
    have q0:ztm.cell? ⟨gp,0,none⟩=some (.slice none 0 0):=ze hp 0
    have f0:=zA hp 0
    have q1:ztm.cell? ⟨gp,1,none⟩=some (.int .i64 0):=ze hp 1
    have f1:=zA hp 1
    have q2:ztm.cell? ⟨gp,2,none⟩=some (.slice none 0 0):=ze hp 2
    have f2:=zA hp 2
    clear hp
    go_simp
    have hend:=zhI.out.done (n:=n) (dm:=dm) (by omega)
    have zR:=qh hend
    refine hK.out _ _ (by obtain⟨a',hm, -⟩:=hend.2;exact hm.below) (λ_=> ?_)
    clear hend q0 q1 q2 f0 f1 f2
    clear hK K
    refine xE ?_
    clear hn pR wn pU
    go_wp2_with fail
    go_meet
    case rel=>exact⟨gv,gp,n,dm,rfl,by omega,by omega,by omega,by omega,zR.out.1,zR.out.2⟩
   skip
   go_simp
   refine(qX.out ztl g _ 3 3 rfl zcN.out.yu (by omega) (by omega) (by omega)).mono ?_
   rintro en zyx ⟨r2,hr2,rfl,hmk,hsi⟩
   have zoy:=qh (zcN.out.pick hmk hsi)
   clear hmk hsi
   refine hK.out _ _ zoy.out.yu.below (λ_=> ?_)
   obtain⟨dm,pR⟩:∃n:Nat,(2:Int)+(r2:Int)=(n:Int):=⟨2+r2,by omega⟩
   have zdr:2<=dm:=by omega
   have zds:dm<=4:=by omega
   have pU:=wrapN dm (by omega)
   have zdm:(0:Int)<=(dm:Int):=by omega
   skip
   clear hK K
   refine zC 7 zO (zoy.out.yu.below) ?_
   refine yw 0 rfl (λK hK=> ?_)
   go_simp
   have zbl:=zoy.out.names
   unfold wN at zbl
   refine hK.out _ _ zbl.yu.below (λ_=> ?_)
   obtain⟨gv,hgv⟩:∃n,n=zyx.heap.size:=⟨_,rfl⟩
   rw [<-hgv] at zbl ⊢
   clear hgv
   generalize World.alloc zyx _=ztn at zbl ⊢
   replace zbl:=qh zbl
   clear hK K
   refine zC 4 zO (zbl.out.yu.below) ?_
   refine zC 8 zO (zbl.out.yu.below) ?_
   refine yw 10 rfl (λK hK=> ?_)
   obtain⟨hp, -, -, -⟩:=zbl.out.prog gp rfl
   have q0:ztn.cell? ⟨gp,0,none⟩=some (.slice none 0 0):=ze hp 0
   have f0:=zA hp 0
   have q1:ztn.cell? ⟨gp,1,none⟩=some (.int .i64 0):=ze hp 1
   have f1:=zA hp 1
   have q2:ztn.cell? ⟨gp,2,none⟩=some (.slice none 0 0):=ze hp 2
   have f2:=zA hp 2
   clear hp
   go_simp
   have hend:=zbl.out.done (n:=n) (dm:=dm) (by omega)
   have zR:=qh hend
   refine hK.out _ _ (by obtain⟨a',hm, -⟩:=hend.2;exact hm.below) (λ_=> ?_)
   clear hend q0 q1 q2 f0 f1 f2
   clear hK K
   refine xE ?_
   clear hn pR wn pU
   go_wp2_with fail
   go_meet
   case rel=>exact⟨gv,gp,n,dm,rfl,by omega,by omega,by omega,by omega,zR.out.1,zR.out.2⟩
  skip
  go_simp
  have zcO:=hT0.out.box
  refine hK.out _ _ zcO.yu.below (λ_=> ?_)
  obtain⟨gp,gV⟩:∃n,n=V1.heap.size:=⟨_,rfl⟩
  rw [<-gV] at zcO ⊢
  clear gV
  generalize World.alloc V1 _=zto at zcO ⊢
  replace zcO:=qh zcO
  clear hK K
  refine wpAnyH_ready (rs:= [0,2]) (by kernel_rfl) (by simp) ?_
  refine AllReadyH.cons rfl (λK hK=> ?_) (AllReadyH.cons rfl (λK hK=> ?_) AllReadyH.nil)
  ·skip
   go_simp
   have zcP:=zcO.out.names
   unfold wN at zcP
   refine hK.out _ _ zcP.yu.below (λ_=> ?_)
   obtain⟨gv,hgv⟩:∃n,n=zto.heap.size:=⟨_,rfl⟩
   rw [<-hgv] at zcP ⊢
   clear hgv
   generalize World.alloc zto _=z5g at zcP ⊢
   replace zcP:=qh zcP
   clear hK K
   refine yw 2 rfl (λK hK=> ?_)
   go_simp
   refine(qX.out z5g g _ 3 3 rfl zcP.out.yu (by omega) (by omega) (by omega)).mono ?_
   rintro en z5h ⟨r1,hr1,rfl,hmk,hsi⟩
   have zhJ:=qh (zcP.out.pick hmk hsi)
   clear hmk hsi
   refine hK.out _ _ zhJ.out.yu.below (λ_=> ?_)
   obtain⟨n,hn⟩:∃n:Nat,(1:Int)+(r1:Int)=(n:Int):=⟨1+r1,by omega⟩
   have bn1:1<=n:=by omega
   have bn2:n<=3:=by omega
   have wn:=wrapN n (by omega)
   have zn:(0:Int)<=(n:Int):=by omega
   have yn:(n:Int)<=3:=by omega
   clear hK K
   refine zC 3 zO (zhJ.out.yu.below) ?_
   refine zC 4 zO (zhJ.out.yu.below) ?_
   refine yw 6 rfl (λK hK=> ?_)
   go_simp
   refine(qX.out z5h g _ 3 3 rfl zhJ.out.yu (by omega) (by omega) (by omega)).mono ?_
   rintro en ztp ⟨r2,hr2,rfl,hmk,hsi⟩
   have zhK:=qh (zhJ.out.pick hmk hsi)
   clear hmk hsi
   refine hK.out _ _ zhK.out.yu.below (λ_=> ?_)
   obtain⟨dm,pR⟩:∃n:Nat,(2:Int)+(r2:Int)=(n:Int):=⟨2+r2,by omega⟩
   have zdr:2<=dm:=by omega
   have zds:dm<=4:=by omega
   have pU:=wrapN dm (by omega)
   have zdm:(0:Int)<=(dm:Int):=by omega
   skip
   clear hK K
   refine zC 7 zO (zhK.out.yu.below) ?_
   refine zC 8 zO (zhK.out.yu.below) ?_
   refine yw 10 rfl (λK hK=> ?_)
   obtain⟨hp, -, -, -⟩:=zhK.out.prog gp rfl
   have q0:ztp.cell? ⟨gp,0,none⟩=some (.slice none 0 0):=ze hp 0
   have f0:=zA hp 0
   have q1:ztp.cell? ⟨gp,1,none⟩=some (.int .i64 0):=ze hp 1
   have f1:=zA hp 1
   have q2:ztp.cell? ⟨gp,2,none⟩=some (.slice none 0 0):=ze hp 2
   have f2:=zA hp 2
   clear hp
   go_simp
   have hend:=zhK.out.done (n:=n) (dm:=dm) (by omega)
   have zR:=qh hend
   refine hK.out _ _ (by obtain⟨a',hm, -⟩:=hend.2;exact hm.below) (λ_=> ?_)
   clear hend q0 q1 q2 f0 f1 f2
   clear hK K
   refine xE ?_
   clear hn pR wn pU
   go_wp2_with fail
   go_meet
   case rel=>exact⟨gv,gp,n,dm,rfl,by omega,by omega,by omega,by omega,zR.out.1,zR.out.2⟩
  skip
  go_simp
  refine(qX.out zto g _ 3 3 rfl zcO.out.yu (by omega) (by omega) (by omega)).mono ?_
  rintro en ztq ⟨r1,hr1,rfl,hmk,hsi⟩
  have zhL:=qh (zcO.out.pick hmk hsi)
  clear hmk hsi
  refine hK.out _ _ zhL.out.yu.below (λ_=> ?_)
  obtain⟨n,hn⟩:∃n:Nat,(1:Int)+(r1:Int)=(n:Int):=⟨1+r1,by omega⟩
  have bn1:1<=n:=by omega
  have bn2:n<=3:=by omega
  have wn:=wrapN n (by omega)
  have zn:(0:Int)<=(n:Int):=by omega
  have yn:(n:Int)<=3:=by omega
  clear hK K
  refine zC 3 zO (zhL.out.yu.below) ?_
  refine wpAnyH_ready (rs:= [0,6]) (by kernel_rfl) (by simp) ?_
  refine AllReadyH.cons rfl (λK hK=> ?_) (AllReadyH.cons rfl (λK hK=> ?_) AllReadyH.nil)
  ·skip
   go_simp
   have zbN:=zhL.out.names
   unfold wN at zbN
   refine hK.out _ _ zbN.yu.below (λ_=> ?_)
   obtain⟨gv,hgv⟩:∃n,n=ztq.heap.size:=⟨_,rfl⟩
   rw [<-hgv] at zbN ⊢
   clear hgv
   generalize World.alloc ztq _=z5i at zbN ⊢
   replace zbN:=qh zbN
   clear hK K
   refine zC 4 zO (zbN.out.yu.below) ?_
   refine yw 6 rfl (λK hK=> ?_)
   go_simp
   refine(qX.out z5i g _ 3 3 rfl zbN.out.yu (by omega) (by omega) (by omega)).mono ?_
   rintro en ztr ⟨r2,hr2,rfl,hmk,hsi⟩
   have zhM:=qh (zbN.out.pick hmk hsi)
   clear hmk hsi
   refine hK.out _ _ zhM.out.yu.below (λ_=> ?_)
   obtain⟨dm,pR⟩:∃n:Nat,(2:Int)+(r2:Int)=(n:Int):=⟨2+r2,by omega⟩
   have zdr:2<=dm:=by omega
   have zds:dm<=4:=by omega
   have pU:=wrapN dm (by omega)
   have zdm:(0:Int)<=(dm:Int):=by omega
   skip
   clear hK K
   refine zC 7 zO (zhM.out.yu.below) ?_
   refine zC 8 zO (zhM.out.yu.below) ?_
   refine yw 10 rfl (λK hK=> ?_)
   obtain⟨hp, -, -, -⟩:=zhM.out.prog gp rfl
   have q0:ztr.cell? ⟨gp,0,none⟩=some (.slice none 0 0):=ze hp 0
   have f0:=zA hp 0
   have q1:ztr.cell? ⟨gp,1,none⟩=some (.int .i64 0):=ze hp 1
   have f1:=zA hp 1
   have q2:ztr.cell? ⟨gp,2,none⟩=some (.slice none 0 0):=ze hp 2
   have f2:=zA hp 2
   clear hp
   go_simp
   have hend:=zhM.out.done (n:=n) (dm:=dm) (by omega)
   have zR:=qh hend
   refine hK.out _ _ (by obtain⟨a',hm, -⟩:=hend.2;exact hm.below) (λ_=> ?_)
   clear hend q0 q1 q2 f0 f1 f2
   clear hK K
   refine xE ?_
   clear hn pR wn pU
   go_wp2_with fail
   go_meet
   case rel=>exact⟨gv,gp,n,dm,rfl,by omega,by omega,by omega,by omega,zR.out.1,zR.out.2⟩
  skip
  go_simp
  refine(qX.out ztq g _ 3 3 rfl zhL.out.yu (by omega) (by omega) (by omega)).mono ?_
  rintro en zyy ⟨r2,hr2,rfl,hmk,hsi⟩
  have zoz:=qh (zhL.out.pick hmk hsi)
  clear hmk hsi
  refine hK.out _ _ zoz.out.yu.below (λ_=> ?_)
  obtain⟨dm,pR⟩:∃n:Nat,(2:Int)+(r2:Int)=(n:Int):=⟨2+r2,by omega⟩
  have zdr:2<=dm:=by omega
  have zds:dm<=4:=by omega
  have pU:=wrapN dm (by omega)
  have zdm:(0:Int)<=(dm:Int):=by omega
  skip
  clear hK K
  refine zC 7 zO (zoz.out.yu.below) ?_
  refine yw 0 rfl (λK hK=> ?_)
  go_simp
  have zbm:=zoz.out.names
  unfold wN at zbm
  refine hK.out _ _ zbm.yu.below (λ_=> ?_)
  obtain⟨gv,hgv⟩:∃n,n=zyy.heap.size:=⟨_,rfl⟩
  rw [<-hgv] at zbm ⊢
  clear hgv
  generalize World.alloc zyy _=zts at zbm ⊢
  replace zbm:=qh zbm
  clear hK K
  refine zC 4 zO (zbm.out.yu.below) ?_
  refine zC 8 zO (zbm.out.yu.below) ?_
  refine yw 10 rfl (λK hK=> ?_)
  obtain⟨hp, -, -, -⟩:=zbm.out.prog gp rfl
  have q0:zts.cell? ⟨gp,0,none⟩=some (.slice none 0 0):=ze hp 0
  have f0:=zA hp 0
  have q1:zts.cell? ⟨gp,1,none⟩=some (.int .i64 0):=ze hp 1
  have f1:=zA hp 1
  have q2:zts.cell? ⟨gp,2,none⟩=some (.slice none 0 0):=ze hp 2
  have f2:=zA hp 2
  clear hp
  go_simp
  have hend:=zbm.out.done (n:=n) (dm:=dm) (by omega)
  have zR:=qh hend
  refine hK.out _ _ (by obtain⟨a',hm, -⟩:=hend.2;exact hm.below) (λ_=> ?_)
  clear hend q0 q1 q2 f0 f1 f2
  clear hK K
  refine xE ?_
  clear hn pR wn pU
  go_wp2_with fail
  go_meet
  case rel=>exact⟨gv,gp,n,dm,rfl,by omega,by omega,by omega,by omega,zR.out.1,zR.out.2⟩
 case rest=>
 obtain⟨gv,gp,n,dm,rfl,hn1,hn3,hd2,hd4,HL,HMA⟩:=hcut
 clear HR
 obtain⟨X,rfl⟩:∃x:World,x=wc:=⟨_,rfl⟩
 obtain⟨a0,zyz,ha0⟩:=HMA.out
 have zy0:=qh zyz
 clear zyz
 go_upto_region 4 with(go_at_call 77;go_must(refine(qX.out X g _ 3 3 rfl zy0.out (by omega) (by omega) (by omega)).mono ?_);rintro en X2 ⟨r3,hr3,rfl,hmk,hsi⟩;(have HL2:=qh (HL.out.picked hsi hmk (by omega)));clear hmk hsi HL zy0)
 obtain⟨m,hm⟩:∃m:Nat,(1:Int)+(r3:Int)=(m:Int):=⟨1+r3,by omega⟩
 have hm1:1<=m:=by omega
 have hm3:m<=3:=by omega
 rw [hm]
 clear hm hr3
 go_loopg [7] m (λgg s7 wr=>∃(j k:Nat) (oa:Option Addr) (oc:Nat) (T:List (List zL)) (css:List (List Value)),s7= .int .i64 k/\Hid (j+k=m)/\Hid (gg=k)/\Hid (wG w wr g gv gp gr (.slice sa ln sc) n dm j (.slice oa j oc) T css))
 case atStart=>exact⟨0,m,none,0, [], [],rfl,by rw [Hid];omega,rfl,HL2.out⟩
 case round=>
 obtain⟨j,k',oa,oc,T,css,rfl,HJK,HG,HL⟩:=hrel
 clear HL2
 have hj3:j<=3:=by have:=HJK.out;omega
 have hk3:k'<=3:=by have:=HJK.out;omega
 by_cases hk0:0<k'
 rotate_left
 ·obtain rfl:k'=0:=by omega
  have hj1:j=m:=by have:=HJK.out;omega
  obtain⟨hend,hset⟩:=zot HL.out hn1 hn3 hd2 (by omega) (by omega) hj3
  have zR:=qh hend
  have zG:=qh hset
  clear hend hset hj1
  have c0:wr.cell? ⟨gp,0,none⟩=some (.slice (some ⟨gv,0,none⟩) n 3):=ze HL.out.box 0
  have c1:wr.cell? ⟨gp,1,none⟩=some (.int .i64 dm):=ze HL.out.box 1
  have c2:wr.cell? ⟨gp,2,none⟩=some (.slice oa j oc):=ze HL.out.box 2
  have z0:wr.cell? ⟨gr,0,none⟩=some (.slice none 0 0):=ze HL.out.res 0
  have z1:wr.cell? ⟨gr,1,none⟩=some (.int .i64 0):=ze HL.out.res 1
  have z2:wr.cell? ⟨gr,2,none⟩=some (.slice none 0 0):=ze HL.out.res 2
  have f0:=zA HL.out.res 0
  have f1:=zA HL.out.res 1
  have f2:=zA HL.out.res 2
  go_wp2_with fail
  refine bodyPost_ret (xS rfl _ _ gr 92 _ (0,0) _ rfl zG.out Tryz.underlying92 rfl zkQ) rfl ?_
  exact zR.out
 obtain⟨k,rfl⟩:∃k,k'=k+1:=⟨k' - 1,by omega⟩
 have hkI:(0:Int)<(k:Int)+1:=by omega
 have CC:Hid (∀x,Since (λy=>(Value.slice oa j oc).ownBlock=some y\/y=g) wr x->x.cell? ⟨gp,0,none⟩=some (.slice (some ⟨gv,0,none⟩) n 3)/\x.cell? ⟨gp,1,none⟩=some (.int .i64 dm)/\x.cell? ⟨gp,2,none⟩=some (.slice oa j oc)):=λx hx=>by
  have h:=(hx.block _ (zw HL.out.box) (λe=>by rcases e with e|e;exact(HL.out.own_ne _ e).2.1 rfl;have:=HL.out.lo;omega)).trans HL.out.box
  exact⟨ze h 0,ze h 1,ze h 2⟩
 go_upto_region 6 with fail
 refine wp_region_noPanic ?_
 refine yX (n0:=15) (S:=λx=>Since (λy=>(Value.slice oa j oc).ownBlock=some y\/y=g) wr x) (by kernel_rfl) (Since.drew _ (Since.refl _ wr)) (λ_=> ?_)
 obtain⟨V1,hV1⟩:∃V1,V1=wr.drew:=⟨_,rfl⟩
 have hT0:Hid (Since (λy=>(Value.slice oa j oc).ownBlock=some y\/y=g) wr V1):=by rw [hV1];exact Since.drew _ (Since.refl _ wr)
 have hl2:wG w V1 g gv gp gr (.slice sa ln sc) n dm j (.slice oa j oc) T css:=by rw [hV1];exact HL.out.drew
 rw [<-hV1]
 clear hV1
 have HL2:=qh hl2
 have uT:=hl2.row.row
 rw [hl2.len] at uT
 have zvM:=qh uT
 have HOWN:Hid (∀k,(Value.slice oa j oc).ownBlock=some k->k≠g):=λk hk=>(hl2.own_ne k hk).1
 obtain⟨a1,hmk,ha1⟩:=hl2.yu
 have yt:=qh hmk.below.size
 have HMK:=qh (And.intro hmk ha1)
 clear hl2 uT hmk ha1
 refine zU 0 (λ_=>hT0.out) ?_
 refine ji [13,14,15] 1 CC.out (hT0.out) ?_
 refine zU 2 (λ_=>hT0.out) ?_
 refine zU 3 (λ_=>hT0.out) ?_
 refine zU 5 (λ_=>hT0.out) ?_
 refine ji [7,11,12,13,14,15] 6 CC.out (hT0.out) ?_
 refine zU 7 (λ_=>hT0.out) ?_
 refine zU 8 (λ_=>hT0.out) ?_
 refine ji [11,12,13,14,15] 9 CC.out (hT0.out) ?_
 refine zU 10 (λ_=>hT0.out) ?_
 refine vI 4 rfl (λK hK=> ?_)
 go_simp
 refine(qX.out V1 g _ 5 5 rfl HMK.out.1 (by omega) (by omega) (by have h5:=HMK.out.2;omega)).mono ?_
 rintro en V2 ⟨r5,hr5,rfl,hmk,hsi⟩
 have zy1:=qh hmk
 have ztt:=qh hsi
 have hT1:=qh (hT0.out.trans hsi (λy hy=> .inl (.inr hy)))
 clear hmk hsi
 refine hK.out _ _ (λ_ _=>hT1.out) ?_
 clear hK K
 refine vI 11 rfl (λK hK=> ?_)
 go_simp
 refine(z2u.out g n dm (by omega) (by omega) (by omega) (by omega) V2 _ r5 zy1.out (by omega) (by have h5:=HMK.out.2;omega)).mono ?_
 rintro en V3 ⟨L,na,nc,a2,rfl,hok,haw,hmk,ha2,hsi⟩
 have zfp:=qh hmk
 have ztu:=qh (And.intro hok haw)
 have zo0:=qh (ztt.out.trans hsi (λ_ h=> .inl h))
 have HSZ:=qh hsi.size
 have gW:=qh (hT1.out.trans hsi (λy hy=> .inl (.inr hy)))
 have hrow:=zo0.out.row zvM.out (λk hk e=>(HOWN.out k hk) e)
 have zhO:=qh hrow
 clear hmk hsi hok haw hrow
 refine hK.out _ _ (λ_ _=>gW.out) ?_
 clear hK K
 refine vI 12 rfl (λK hK=> ?_)
 go_simp
 have vV:=qh (gW.out.alloc (.cells #[.slice na L.length nc] 129))
 refine hK.out _ _ (λ_ _=>vV.out) ?_
 clear hK K
 refine vI 13 rfl (λK hK=> ?_)
 refine zK (V3.alloc (.cells #[.slice na L.length nc] 129)) (by rfl) (.tmp 28) (.tmp 39) 90 rfl 129 (.slice none 0 0) 1 24 Tryz.underlying90 zou rfl (by decide) w.heap.size (.slice oa j oc) j (css.flatten) (by rfl) (zhO.out.alloc _) ⟨V3.heap.size,0,none⟩ 1 1 [.slice na L.length nc] (by rfl) rfl (qO V3 _ _) (by simp [Value.oneCell']) (by unfold maxLen;omega) (by omega) (by have h5:=yt.out;have h6:=zo0.out.size;simp;omega) ?_
 intro xa xc V4 e1 e2 e3 e4 e5
 have xY:=qh (vV.out.trans e4 (λy hy=> .inl (.inl hy)))
 have hp:=HL2.out.push zo0.out zfp.out (by have:=HMK.out.2;omega) ztu.out.1 rfl (ztu.out.2.step (Since.refl (λ_=>False) V3) (λ_ h=>h.elim) (λk hk=> .inl (by have h5:=ztt.out.size;omega))) e1 e4 e5
 have HP:=qh hp
 clear e1 e2 e3 e4 e5 hp
 refine hK.out _ _ (λ_ _=>xY.out) ?_
 clear hK K
 change qo _ _ _ _ _ _ _ _ (Act.put _ (some 40) _) _
 simp only [Act.put,kI,kJ,kK]
 refine zU 14 (λ_=>xY.out) ?_
 refine vI 15 rfl (λK hK=> ?_)
 have q2:V4.cell? ⟨gp,2,none⟩=some (.slice oa j oc):=ze HP.out.1 2
 have f2:=zA HP.out.1 2
 go_simp
 refine hK.out _ _ (λh=>absurd rfl h) ?_
 clear q2 f2
 have hT5:=xY
 clear hK K
 refine xG (by kernel_rfl) ?_ _
 refine NoPanic.normal ?_
 have HP2:=qh HP.out.2
 clear HP zy1 zfp ztu ztt zo0 zhO zvM HOWN CC
 go_wp2_with fail
 go_roundg k
 case measure=>rw [HG.out];omega
 case rel=>exact⟨j+1,k,xa,xc,_,_,(by first|rfl|simp),by have:=HJK.out;rw [Hid];omega,rfl,HP2.out⟩
