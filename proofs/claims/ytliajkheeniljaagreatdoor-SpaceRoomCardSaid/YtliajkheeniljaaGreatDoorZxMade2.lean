/- Steps. -/
import Derived.Test.YtliajkheeniljaaGreatDoorZxMakerL
import Derived.Test.YtliajkheeniljaaGreatDoorZxTail
set_option linter.all false
namespace Go.Proofs.YtliajkheeniljaaGreatDoor
open Go.RowKit
set_option maxRecDepth 100000
set_option maxHeartbeats 16000000
theorem ztv (W0:World) (g:Nat) (lv:Value) (l:List Int) (hn:jw W0 .u8 lv l) (kv:Value) (ks:List Int) (hks:xC W0 kv ks) (hk1:1<=ks.length) (hk2:ks.length<=100) (hk3:∀k∈ks,1<=k/\k<=11) (vars dom:Nat) (hv1:1<=vars) (hv2:vars<=10) (hd1:2<=dom) (hd2:dom<=16) (d:Nat) (hd:d<=10):
  zgS W0 g lv kv vars dom d:=by
 obtain⟨ka,kc,hkv, -⟩:=zh.slice hks
 induction d with
 |zero=>exact zkX W0 g lv kv vars dom 0 (zkY W0 g lv l hn kv ks hks hk1 hk2 hk3 vars dom hv1 hv2 hd1 hd2 0 (by omega) (λh=>by omega)) ka _ kc hkv
 |succ d ih=>exact zkX W0 g lv kv vars dom (d+1) (zkY W0 g lv l hn kv ks hks hk1 hk2 hk3 vars dom hv1 hv2 hd1 hd2 (d+1) hd (λ_=>ih (by omega))) ka _ kc hkv
def zfe:List Int:= [1,2,1,2,3,4,5,6,7,8,9,10,11]
theorem zqD (w:World):Calls Tryz.prog 21 #[] w λe w'=>(∃kv,e= .returned kv/\xC w' kv zfe)/\Below w.heap.size w w':=by
 have hb:=(Below.refl w.heap.size w).alloc (Nat.le_refl _) (.cells #[.int .i64 1, .int .i64 2, .int .i64 1, .int .i64 2, .int .i64 3, .int .i64 4, .int .i64 5, .int .i64 6, .int .i64 7, .int .i64 8, .int .i64 9, .int .i64 10, .int .i64 11] 3)
 have hg:=yt w (.cells #[.int .i64 1, .int .i64 2, .int .i64 1, .int .i64 2, .int .i64 3, .int .i64 4, .int .i64 5, .int .i64 6, .int .i64 7, .int .i64 8, .int .i64 9, .int .i64 10, .int .i64 11] 3)
 have hr:=uJ (w:=w.alloc (.cells #[.int .i64 1, .int .i64 2, .int .i64 1, .int .i64 2, .int .i64 3, .int .i64 4, .int .i64 5, .int .i64 6, .int .i64 7, .int .i64 8, .int .i64 9, .int .i64 10, .int .i64 11] 3)) (l:=zfe) (B:=0) (sv:= .slice (some ⟨w.heap.size,0,none⟩) 13 13) (bq (n:=13) (cs:=zq yP zfe) hg (Nat.zero_le _) rfl (by decide))
 have HB:=qh hb
 have HR:=qh hr
 clear hb hg hr
 go_enter Tryz.func21,Tryz.ntmps21
 go_wp2_with fail
 go_ret
 exact⟨⟨_,rfl,HR.out⟩,HB.out⟩
def wF:List Value:= [.string ⟨#[120]⟩, .string ⟨#[121]⟩, .string ⟨#[122]⟩]
theorem ztw {X:World} {gv n:Nat} (h:X.heap[gv]? =some (.cells wF.toArray 9 (0,0))) (hn:n<=3):zd3 X (.slice (some ⟨gv,0,none⟩) n 3) (xyz.take n):=by
 have hl:(xyz.take n).length=n:=by rw [List.length_take];simp [xyz];omega
 refine⟨_,3,by rw [hl],by rw [hl];omega,λj hj=> ?_⟩
 rw [hl] at hj
 have e:(xyz.take n).getD j default=xyz.getD j default:=by simp only [List.getD_eq_getElem?_getD,List.getElem?_take_of_lt hj]
 have hj3:j=0\/j=1\/j=2:=by omega
 rw [e]
 rcases hj3 with rfl|rfl|rfl
 ·refine⟨gv,0, [.string ⟨#[120]⟩],rfl,zx h,rfl,λi hi=> ?_,rfl⟩
  obtain rfl:i=0:=by omega
  rw [ze h];rfl
 ·refine⟨gv,0, [.string ⟨#[121]⟩],rfl,zx h,rfl,λi hi=> ?_,rfl⟩
  obtain rfl:i=0:=by omega
  rw [ze h];rfl
 refine⟨gv,0, [.string ⟨#[122]⟩],rfl,zx h,rfl,λi hi=> ?_,rfl⟩
 obtain rfl:i=0:=by omega
 rw [ze h];rfl
def PF (va:Value) (g gp gr:Nat) (k:Nat):Prop:=va.ownBlock=some k\/k=g\/k=gp\/k=gr
structure wB (w X:World) (g gv gp gr:Nat) (sv:Value) (n dm i:Nat) (va:Value) (T:List (List zL)) (css:List (List Value)):Prop where
 yu:∃a',vK w X g sv a'/\a'<=10+i*5000
 box:X.heap[gp]? =some (.cells #[.slice (some ⟨gv,0,none⟩) n 3, .int .i64 dm,va] 92 (0,0))
 vars:X.heap[gv]? =some (.cells wF.toArray 9 (0,0))
 res:X.heap[gr]? =some (.cells #[.slice none 0 0, .int .i64 0, .slice none 0 0] 92 (0,0))
 lo:w.heap.size<=g/\w.heap.size<=gv/\w.heap.size<=gp/\w.heap.size<=gr/\g≠gp/\g≠gr/\gp≠gr/\gv≠g/\gv≠gp/\gv≠gr
 len:T.length=i
 ok:∀l∈T,xD n dm l 20=true/\yH l<=52
 row:xq (PF va g gp gr) X (ziV 3 4) 1 w.heap.size 129 va T css
section
variable {w X Y:World} {g gv gp gr:Nat} {sv:Value} {n dm i:Nat} {va:Value} {T:List (List zL)} {css:List (List Value)}
theorem wB.own_ne (h:wB w X g gv gp gr sv n dm i va T css):∀k,va.ownBlock=some k->k≠g/\k≠gp/\k≠gr/\k≠gv:=λk hk=>by
 obtain⟨a',hm, -⟩:=h.yu
 exact⟨λe=>by subst e;exact ug h.row.row hk hm.box (by decide),λe=>by subst e;exact ug h.row.row hk h.box (by decide),λe=>by subst e;exact ug h.row.row hk h.res (by decide),λe=>by subst e;exact ug h.row.row hk h.vars (by decide)⟩
theorem wB.lt (h:wB w X g gv gp gr sv n dm i va T css):∀k,PF va g gp gr k->k<X.heap.size:=λk hk=>by
 obtain⟨a',hm, -⟩:=h.yu
 rcases hk with hk|rfl|rfl|rfl
 ·exact(h.row.row.lt k hk).2
 ·exact zx hm.box
 ·exact zx h.box
 exact zx h.res
theorem wB.push {xc ln rc a1 oc:Nat} {Z:World} {oa ra xa:Option Addr} {l:List zL} {o:Obj} (h:wB w X g gv gp gr sv n dm i (.slice oa i oc) T css) (hs:Since (λk=>k=g) X Y) (hm:vK w Y g sv a1) (ha:a1<=10+i*5000+5000) (hok:xD n dm l 20=true/\yH l<=52) (hlen:l.length=ln)
  (haw:yw (λk=>k<X.heap.size) Y (λy=>yB 3 4 y l (.slice ra ln rc))) (h1:Z.ownsRow w.heap.size 129 1 (.slice xa (i+1) xc) (i+1) (css.flatten++ [.slice ra ln rc])) (h4:Since (λk=>(Value.slice oa i oc).ownBlock=some k) (Y.alloc o) Z) (h5:∀k,(Value.slice xa (i+1) xc).ownBlock=some k->(Value.slice oa i oc).ownBlock=some k\/k=(Y.alloc o).heap.size):
  Z.heap[gp]? =some (.cells #[.slice (some ⟨gv,0,none⟩) n 3, .int .i64 dm, .slice oa i oc] 92 (0,0))/\wB w (Z.setCell ⟨gp,2,none⟩ (.slice xa (i+1) xc)) g gv gp gr sv n dm (i+1) (.slice xa (i+1) xc) (T++ [l]) (css++ [[.slice ra ln rc]]):=by
 have hlo:=h.lo
 have hne:=h.own_ne
 have hlt:=h.lt
 have s1:Since (λk=>(Value.slice oa i oc).ownBlock=some k) Y Z:=((Since.refl _ Y).alloc o).trans h4 (λk hk=> .inl hk)
 have s2:Since (λk=>k=gp) Z (Z.setCell ⟨gp,2,none⟩ (.slice xa (i+1) xc)):=Since.setCell (F:=λk=>k=gp) (p:=⟨gp,2,none⟩) (Since.refl _ _) (.inl rfl) _
 have s3:Since (λk=>(Value.slice oa i oc).ownBlock=some k\/k=gp) Y (Z.setCell ⟨gp,2,none⟩ (.slice xa (i+1) xc)):=(s1.mono (λk _ hk=> .inl hk)).trans s2 (λk hk=> .inl (.inr hk))
 have ztx:=(hs.block _ (zx h.box) (by omega)).trans h.box
 have zwe:=(hs.block _ (zx h.vars) (by omega)).trans h.vars
 have zyG:=(hs.block _ (zx h.res) (by omega)).trans h.res
 have uZ:=(s1.block _ (zx ztx) (λe=>(hne _ e).2.1 rfl)).trans ztx
 have hvars:=(s1.block _ (zx zwe) (λe=>(hne _ e).2.2.2 rfl)).trans zwe
 have hres:=(s1.block _ (zx zyG) (λe=>(hne _ e).2.2.1 rfl)).trans zyG
 have hnew:∀k,(Value.slice xa (i+1) xc).ownBlock=some k->k≠gp:=λk hk e=>by
  rcases h5 k hk with h1|h1
  ·exact(hne k h1).2.1 e
  have:=zx ztx;simp at h1;omega
 refine⟨uZ,⟨⟨a1,hm.since s3 (λk hk=> ?_),by omega⟩, ?_,(s2.block _ (zx hvars) (by omega)).trans hvars,(s2.block _ (zx hres) (by omega)).trans hres,hlo,by simp [h.len],λy hy=> ?_, ?_⟩⟩
 ·rcases hk with hk|hk
  ·have:=(h.row.row.lt k hk).1;have:=(hne k hk).1;omega
  omega
 ·have:=zw uZ 2 (.slice xa (i+1) xc);simpa using this
 ·rcases List.mem_append.1 hy with hy|hy
  ·exact h.ok y hy
  rw [List.mem_singleton] at hy;subst hy;exact hok
 have hrow:=h.row.step (F':=PF (.slice oa i oc) g gp gr) hs (λk hk e=>(hne k hk).1 e) (λk hk=> .inl (.inr (.inl hk))) (λk hk=> .inl hk)
 refine hrow.push s3 (λk hk=> ?_) (λk hk=> ?_) (λy hy=>⟨_,rfl,haw y (hy.mono (λk _ hk=>hlt k hk))⟩) rfl ?_
 ·rcases hk with hk|hk
  ·exact .inl (.inl hk)
  exact .inl (.inr (.inr (.inl hk)))
 ·rcases hk with hk|hk|hk|hk
  ·rcases h5 k hk with h1|h1
   ·exact .inl (.inl h1)
   exact .inr (by simp at h1;omega)
  ·exact .inl (.inr (.inl hk))
  ·exact .inl (.inr (.inr (.inl hk)))
  exact .inl (.inr (.inr (.inr hk)))
 rw [h.len];exact s2.row h1 hnew
end
def zn6 (w:World) (en:Ending) (w':World):Prop:=(∃p vv tv,en= .returned (zfJ p vv tv)/\zfI p/\zd2 3 4 w' p vv tv)/\Below w.heap.size w w'
theorem zyH {T:List (List zL)} (h:∀l∈T,yH l<=52):(T.map yH).sum<=T.length*52:=by
 induction T with
 |nil=>simp
 |cons l T ih=>
 have h1:=h l (by simp)
 have h2:=ih (λx hx=>h x (by simp [hx]))
 simp only [List.map_cons,List.sum_cons,List.length_cons];omega
theorem zoD {w X:World} {g gv gp gr:Nat} {sv:Value} {n dm i oc:Nat} {oa:Option Addr} {T:List (List zL)} {css:List (List Value)} (h:wB w X g gv gp gr sv n dm i (.slice oa i oc) T css) (hn1:1<=n) (hn3:n<=3) (hd1:2<=dm) (hd2:dm<=16) (hi1:1<=i) (hi3:i<=3):
  zn6 w (.returned (.agg #[.slice (some ⟨gv,0,none⟩) n 3, .int .i64 dm, .slice oa i oc])) (yG X gr 0 [.slice (some ⟨gv,0,none⟩) n 3, .int .i64 dm, .slice oa i oc])/\
  (yG X gr 0 [.slice (some ⟨gv,0,none⟩) n 3, .int .i64 dm, .slice oa i oc]).heap[gr]? =some (.cells #[.slice (some ⟨gv,0,none⟩) n 3, .int .i64 dm, .slice oa i oc] 92 (0,0)):=by
 have hlo:=h.lo
 have s:=qg (g:=gr) [.slice (some ⟨gv,0,none⟩) n 3, .int .i64 dm, .slice oa i oc] X 0
 have hvl:(xyz.take n).length=n:=by rw [List.length_take];simp [xyz];omega
 obtain⟨a',hm, -⟩:=h.yu
 have hl:=h.len
 refine⟨⟨⟨⟨xyz.take n,dm,T⟩, .slice (some ⟨gv,0,none⟩) n 3, .slice oa i oc,rfl,⟨⟨n,hn1,hn3,rfl⟩,⟨by show(2:Int)<=(dm:Int);omega,by show(dm:Int)<=16;omega⟩,⟨by show 1<=T.length;omega,by show T.length<=3;omega⟩,λl hl=> ?_, ?_⟩,⟨?_, ?_⟩⟩,hm.below.trans (s.below hm.below.size (λk hk=>by omega))⟩, ?_⟩
 ·show xD ((xyz.take n).length:Nat) dm l 20=true
  rw [hvl];exact(h.ok l hl).1
 ·have:=zyH (λl hl=>(h.ok l hl).2)
  show(T.map yH).sum<=200
  omega
 ·exact ztw ((s.block _ (zx h.vars) (by omega)).trans h.vars) hn3
 ·exact(h.row.step (F':=λ_=>False) s (λk hk e=>(h.own_ne k hk).2.2.1 e) (λk hk=> .inl (.inr (.inr (.inr hk)))) (λ_ h=>h.elim)).slice
 exact vo (cs:= [.slice none 0 0, .int .i64 0, .slice none 0 0]) _ rfl h.res
end Go.Proofs.YtliajkheeniljaaGreatDoor
namespace Go.Proofs.YtliajkheeniljaaGreatDoor
open Go.RowKit
set_option maxRecDepth 100000
set_option maxHeartbeats 16000000
structure R2 (w X:World) (g gr:Nat) (sv:Value) (a:Nat) (mv mp:Option Nat):Prop where
 yu:vK w X g sv a
 res:X.heap[gr]? =some (.cells #[.slice none 0 0, .int .i64 0, .slice none 0 0] 92 (0,0))
 lo:w.heap.size<=gr/\g≠gr
 vars:∀b,mv=some b->X.heap[b]? =some (.cells wF.toArray 9 (0,0))/\w.heap.size<=b/\b≠g/\b≠gr
 prog:∀b,mp=some b->X.heap[b]? =some (.cells #[.slice none 0 0, .int .i64 0, .slice none 0 0] 92 (0,0))/\w.heap.size<=b/\b≠g/\b≠gr
 ne:∀b c,mv=some b->mp=some c->b≠c
section
variable {w X Y:World} {g gr a b:Nat} {sv:Value} {mv mp:Option Nat}
theorem R2.pick (h:R2 w X g gr sv a mv mp) (hm:vK w Y g sv b) (hs:Since (λk=>k=g) X Y):R2 w Y g gr sv b mv mp:=
 ⟨hm,(hs.block _ (zx h.res) (λe=>h.lo.2 e.symm)).trans h.res,h.lo,λc hc=>⟨(hs.block _ (zx (h.vars c hc).1) (h.vars c hc).2.2.1).trans (h.vars c hc).1,(h.vars c hc).2⟩,λc hc=>⟨(hs.block _ (zx (h.prog c hc).1) (h.prog c hc).2.2.1).trans (h.prog c hc).1,(h.prog c hc).2⟩,h.ne⟩
theorem R2.names (h:R2 w X g gr sv a none mp):R2 w (X.alloc (.cells wF.toArray 9)) g gr sv a (some X.heap.size) mp:=by
 have hb:=(Below.refl X.heap.size X).alloc (Nat.le_refl _) (.cells wF.toArray 9)
 have h1:=h.yu.below.size
 have h2:=zx h.yu.box
 have h3:=zx h.res
 refine⟨h.yu.later hb,(hb.block _ h3).trans h.res,h.lo,λc hc=> ?_,λc hc=>⟨(hb.block _ (zx (h.prog c hc).1)).trans (h.prog c hc).1,(h.prog c hc).2⟩,λc e hc he=> ?_⟩
 ·cases hc;exact⟨yt X _,h1,by omega,by omega⟩
 cases hc;have:=zx (h.prog e he).1;omega
theorem R2.box (h:R2 w X g gr sv a mv none):R2 w (X.alloc (.cells #[.slice none 0 0, .int .i64 0, .slice none 0 0] 92)) g gr sv a mv (some X.heap.size):=by
 have hb:=(Below.refl X.heap.size X).alloc (Nat.le_refl _) (.cells #[.slice none 0 0, .int .i64 0, .slice none 0 0] 92)
 have h1:=h.yu.below.size
 have h2:=zx h.yu.box
 have h3:=zx h.res
 refine⟨h.yu.later hb,(hb.block _ h3).trans h.res,h.lo,λc hc=>⟨(hb.block _ (zx (h.vars c hc).1)).trans (h.vars c hc).1,(h.vars c hc).2⟩,λc hc=> ?_,λc e hc he=> ?_⟩
 ·cases hc;exact⟨yt X _,h1,by omega,by omega⟩
 cases he;have:=zx (h.vars c hc).1;omega
theorem R2.done {gv gp n dm:Nat} (h:R2 w X g gr sv a (some gv) (some gp)) (ha:a<=9):wB w (yG X gp 0 [.slice (some ⟨gv,0,none⟩) n 3, .int .i64 dm, .slice none 0 0]) g gv gp gr sv n dm 0 (.slice none 0 0) [] [] /\∃a,vK w (yG X gp 0 [.slice (some ⟨gv,0,none⟩) n 3, .int .i64 dm, .slice none 0 0]) g sv a/\a<=9:=by
 obtain⟨v1,v2,v3,v4⟩:=h.vars gv rfl
 obtain⟨p1,p2,p3,p4⟩:=h.prog gp rfl
 have hne:=h.ne gv gp rfl rfl
 have hlo:=h.lo
 have hg:=h.yu.lo
 have s:=qg (g:=gp) [.slice (some ⟨gv,0,none⟩) n 3, .int .i64 dm, .slice none 0 0] X 0
 exact⟨⟨⟨a,h.yu.since s (λk hk=>by omega),by omega⟩,vo (cs:= [.slice none 0 0, .int .i64 0, .slice none 0 0]) _ rfl p1,(s.block _ (zx v1) hne).trans v1,(s.block _ (zx h.res) (by omega)).trans h.res,⟨hg,v2,p2,hlo.1,by omega,by omega,by omega,by omega,by omega,by omega⟩,rfl,λl hl=>by simp at hl,xq.nil _ _ _ _ _ _⟩,a,h.yu.since s (λk hk=>by omega),ha⟩
end
theorem wB.picked {w X Y:World} {g gv gp gr n dm i b:Nat} {sv va:Value} {T:List (List zL)} {css:List (List Value)} (h:wB w X g gv gp gr sv n dm i va T css) (hs:Since (λk=>k=g) X Y) (hm:vK w Y g sv b) (hb:b<=10+i*5000):wB w Y g gv gp gr sv n dm i va T css:=by
 have hlo:=h.lo
 exact⟨⟨b,hm,hb⟩,(hs.block _ (zx h.box) (by omega)).trans h.box,(hs.block _ (zx h.vars) (by omega)).trans h.vars,(hs.block _ (zx h.res) (by omega)).trans h.res,hlo,h.len,h.ok,h.row.step hs (λk hk e=>(h.own_ne k hk).1 e) (λk hk=> .inl (.inr (.inl hk))) (λk hk=> .inl hk)⟩
theorem wB.drew {w X:World} {g gv gp gr n dm i:Nat} {sv va:Value} {T:List (List zL)} {css:List (List Value)} (h:wB w X g gv gp gr sv n dm i va T css):wB w X.drew g gv gp gr sv n dm i va T css:=by
 obtain⟨a,hm,ha⟩:=h.yu
 exact h.picked (Since.drew _ (Since.refl _ X)) (hm.later (Below.refl _ _).drew) ha
theorem zkZ:(Tryz.prog.info? 92).map (·.size)=some 3:=by kernel_rfl
theorem zoE:(Tryz.prog.info? 129).map (λi=>(i.zero,i.size,i.bytes))=some (some (.slice none 0 0),1,24):=by kernel_rfl
theorem wrapN (n:Nat) (h:n<=100):IntKind.i64.wrap (n:Int)=(n:Int):=IntWalk.i64_in _ (by omega)
theorem zqE (w:World) (sv:Value) (l:List Int) (hn:jw w .u8 sv l) (kv:Value) (ks:List Int) (hks:xC w kv ks) (hk1:1<=ks.length) (hk2:ks.length<=100) (hk3:∀k∈ks,1<=k/\k<=11):
  Calls Tryz.prog 48 #[sv,kv] w (zn6 w):=by
 have hpick:=λW g a n ni hni h n1 n2 ha=>zgT w W g sv l a n ni hni h hn n1 n2 ha
 have hlist:=λg vars dom hv1 hv2 hd1 hd2=>ztv w g sv l hn kv ks hks hk1 hk2 hk3 vars dom hv1 hv2 hd1 hd2 2 (by omega)
 have uh:4*jP 2=1040:=rfl
 have z5f:4*zao 2=52:=rfl
 have zh8:∀(g vars dom:Nat),1<=vars->vars<=10->2<=dom->dom<=16->∀(W:World) (a n:Nat),vK w W g sv a->n<=4->a<=100000->Calls Tryz.prog 78 #[.pointer (some ⟨g,0,none⟩), .int .i64 n, .int .i64 2, .int .i64 vars, .int .i64 dom,kv] W λe w'=>∃(L:List zL) (va:Option Addr) (vc a':Nat),e= .returned (.slice va L.length vc)/\(xD vars dom L 20=true/\yH L<=52)/\
   yw (λk=>k<W.heap.size) w' (λy=>yB 3 4 y L (.slice va L.length vc))/\vK w w' g sv a'/\a'<=a+1040/\Since (λk=>k=g) W w':=λg vars dom hv1 hv2 hd1 hd2 W a n hm bA ha=>by
  refine(hlist g vars dom hv1 hv2 hd1 hd2 W a n 4 n rfl hm bA (by omega) (by omega)).mono ?_
  rintro e w' ⟨L,va,vc,a',h1,h2,h3,h4,h5,h6,h7⟩
  exact⟨L,va,vc,a',h1,⟨zoF h2 (by omega),by omega⟩,h4,h5,by omega,h7⟩
 obtain⟨sa,sc,rfl, -⟩:∃a c,sv= .slice a l.length c/\True:=by obtain⟨a,c,h, -⟩:=hn;exact⟨a,c,h,trivial⟩
 obtain⟨ka,kc,rfl, -⟩:=zh.slice hks
 generalize l.length=ln at hpick zh8 ⊢
 generalize ks.length=kn at zh8 ⊢
 have vB:=qh hpick
 have z2E:=qh zh8
 clear hpick hlist zh8 uh z5f hn hks hk1 hk2 hk3
 have hB:=((Below.refl w.heap.size w).alloc (Nat.le_refl _) (.cells #[.slice none 0 0, .int .i64 0, .slice none 0 0] 92)).alloc (by simp) (.cells #[.slice sa ln sc, .int .i64 0] 132)
 have H1:=xP w (.cells #[.slice none 0 0, .int .i64 0, .slice none 0 0] 92) (.cells #[.slice sa ln sc, .int .i64 0] 132)
 have H2:=xB w (.cells #[.slice none 0 0, .int .i64 0, .slice none 0 0] 92) (.cells #[.slice sa ln sc, .int .i64 0] 132)
 have HR:Hid (R2 w ((w.alloc (.cells #[.slice none 0 0, .int .i64 0, .slice none 0 0] 92)).alloc (.cells #[.slice sa ln sc, .int .i64 0] 132)) (w.heap.size+1) w.heap.size (.slice sa ln sc) 0 none none):=⟨⟨hB,by omega,H2⟩,H1,⟨Nat.le_refl _,by omega⟩,(λ_ h=>by cases h),(λ_ h=>by cases h),(λ_ _ h=>by cases h)⟩
 clear hB H1 H2
 go_enter Tryz.func48,Tryz.ntmps48
 go_upto_region 2 with fail
 generalize World.alloc (World.alloc w _) _=V at HR ⊢
 generalize w.heap.size+1=g at HR ⊢
 obtain⟨gr,hgr⟩:∃gr,gr=w.heap.size:=⟨_,rfl⟩
 rw [<-hgr] at HR ⊢
 have gT:=qh hgr
 clear hgr
 go_cut [6] (λs6 w'=>∃gv gp n dm:Nat,s6= .pointer (some ⟨gp,0,none⟩)/\1<=n/\n<=3/\2<=dm/\dm<=4/\Hid (wB w w' g gv gp gr (.slice sa ln sc) n dm 0 (.slice none 0 0) [] [])/\Hid (∃a,vK w w' g (.slice sa ln sc) a/\a<=9))
 case first=>
  have hT0:Hid (R2 w V.drew g w.heap.size (.slice sa ln sc) 0 none none):=by have h:=HR.out;rw [gT.out] at h;exact h.pick (h.yu.later (Below.refl _ _).drew) (Since.drew _ (Since.refl _ _))
  rw [<-gT.out] at hT0
  clear HR
  refine qM (S:=λx=>Below w.heap.size w x) hT0.out.yu.below (λ_=> ?_)
  obtain⟨V1,hV1⟩:∃V1,V1=V.drew:=⟨_,rfl⟩
  rw [<-hV1]
  rw [<-hV1] at hT0
  clear hV1
  refine zH 1 zP (hT0.out.yu.below) ?_
  refine zH 5 zP (hT0.out.yu.below) ?_
  refine wpAnyH_ready (rs:= [0,2,9]) (by kernel_rfl) (by simp) ?_
  refine AllReadyH.cons rfl (λK hK=> ?_) (AllReadyH.cons rfl (λK hK=> ?_) (AllReadyH.cons rfl (λK hK=> ?_) AllReadyH.nil))
  ·skip
   go_simp
   have zdZ:=hT0.out.names
   unfold wF at zdZ
   refine hK.out _ _ zdZ.yu.below (λ_=> ?_)
   obtain⟨gv,hgv⟩:∃n,n=V1.heap.size:=⟨_,rfl⟩
   rw [<-hgv] at zdZ ⊢
   clear hgv
   generalize World.alloc V1 _=Xp2 at zdZ ⊢
   replace zdZ:=qh zdZ
   clear hK K
   refine wpAnyH_ready (rs:= [2,9]) (by kernel_rfl) (by simp) ?_
   refine AllReadyH.cons rfl (λK hK=> ?_) (AllReadyH.cons rfl (λK hK=> ?_) AllReadyH.nil)
   ·skip
    go_simp
    refine(vB.out Xp2 g _ 3 3 rfl zdZ.out.yu (by omega) (by omega) (by omega)).mono ?_
    rintro en Xp4 ⟨r1,hr1,rfl,hmk,hsi⟩
    have ziW:=qh (zdZ.out.pick hmk hsi)
    clear hmk hsi
    refine hK.out _ _ ziW.out.yu.below (λ_=> ?_)
    obtain⟨n,hn⟩:∃n:Nat,(1:Int)+(r1:Int)=(n:Int):=⟨1+r1,by omega⟩
    have bn1:1<=n:=by omega
    have bn2:n<=3:=by omega
    have wn:=wrapN n (by omega)
    have zn:(0:Int)<=(n:Int):=by omega
    have yn:(n:Int)<=3:=by omega
    clear hK K
    refine zH 3 zP (ziW.out.yu.below) ?_
    refine zH 4 zP (ziW.out.yu.below) ?_
    refine wpAnyH_ready (rs:= [6,9]) (by kernel_rfl) (by simp) ?_
    refine AllReadyH.cons rfl (λK hK=> ?_) (AllReadyH.cons rfl (λK hK=> ?_) AllReadyH.nil)
    ·skip
     go_simp
     refine(vB.out Xp4 g _ 3 3 rfl ziW.out.yu (by omega) (by omega) (by omega)).mono ?_
     rintro en Xp6 ⟨r2,hr2,rfl,hmk,hsi⟩
     have zoG:=qh (ziW.out.pick hmk hsi)
     clear hmk hsi
     refine hK.out _ _ zoG.out.yu.below (λ_=> ?_)
     obtain⟨dm,pU⟩:∃n:Nat,(2:Int)+(r2:Int)=(n:Int):=⟨2+r2,by omega⟩
     have zdf:2<=dm:=by omega
     have zdg:dm<=4:=by omega
     have pV:=wrapN dm (by omega)
     have zdm:(0:Int)<=(dm:Int):=by omega
     skip
     clear hK K
     refine zH 7 zP (zoG.out.yu.below) ?_
     refine zH 8 zP (zoG.out.yu.below) ?_
     refine yx 9 rfl (λK hK=> ?_)
     go_simp
     have zgU:=zoG.out.box
     refine hK.out _ _ zgU.yu.below (λ_=> ?_)
     obtain⟨gp,gU⟩:∃n,n=Xp6.heap.size:=⟨_,rfl⟩
     rw [<-gU] at zgU ⊢
     clear gU
     generalize World.alloc Xp6 _=Xp8 at zgU ⊢
     replace zgU:=qh zgU
     clear hK K
     refine yx 10 rfl (λK hK=> ?_)
     obtain⟨hp, -, -, -⟩:=zgU.out.prog gp rfl
     have q0:Xp8.cell? ⟨gp,0,none⟩=some (.slice none 0 0):=ze hp 0
     have f0:=zD hp 0
     have q1:Xp8.cell? ⟨gp,1,none⟩=some (.int .i64 0):=ze hp 1
     have f1:=zD hp 1
     have q2:Xp8.cell? ⟨gp,2,none⟩=some (.slice none 0 0):=ze hp 2
     have f2:=zD hp 2
     clear hp
     go_simp
     have hend:=zgU.out.done (n:=n) (dm:=dm) (by omega)
     have zW:=qh hend
     refine hK.out _ _ (by obtain⟨a',hm, -⟩:=hend.2;exact hm.below) (λ_=> ?_)
     clear hend q0 q1 q2 f0 f1 f2
     clear hK K
     refine xE ?_
     clear hn pU wn pV
     go_wp2_with fail
     go_meet
     case rel=>exact⟨gv,gp,n,dm,rfl,by omega,by omega,by omega,by omega,zW.out.1,zW.out.2⟩
    skip
    go_simp
    have zgV:=ziW.out.box
    refine hK.out _ _ zgV.yu.below (λ_=> ?_)
    obtain⟨gp,gU⟩:∃n,n=Xp4.heap.size:=⟨_,rfl⟩
    rw [<-gU] at zgV ⊢
    clear gU
    generalize World.alloc Xp4 _=z5g at zgV ⊢
    replace zgV:=qh zgV
    clear hK K
    refine yx 6 rfl (λK hK=> ?_)
    go_simp
    refine(vB.out z5g g _ 3 3 rfl zgV.out.yu (by omega) (by omega) (by omega)).mono ?_
    rintro en zty ⟨r2,hr2,rfl,hmk,hsi⟩
    have zh9:=qh (zgV.out.pick hmk hsi)
    clear hmk hsi
    refine hK.out _ _ zh9.out.yu.below (λ_=> ?_)
    obtain⟨dm,pU⟩:∃n:Nat,(2:Int)+(r2:Int)=(n:Int):=⟨2+r2,by omega⟩
    have zdf:2<=dm:=by omega
    have zdg:dm<=4:=by omega
    have pV:=wrapN dm (by omega)
    have zdm:(0:Int)<=(dm:Int):=by omega
    skip
    clear hK K
    refine zH 7 zP (zh9.out.yu.below) ?_
    refine zH 8 zP (zh9.out.yu.below) ?_
    refine yx 10 rfl (λK hK=> ?_)
    obtain⟨hp, -, -, -⟩:=zh9.out.prog gp rfl
    have q0:zty.cell? ⟨gp,0,none⟩=some (.slice none 0 0):=ze hp 0
    have f0:=zD hp 0
    have q1:zty.cell? ⟨gp,1,none⟩=some (.int .i64 0):=ze hp 1
    have f1:=zD hp 1
    have q2:zty.cell? ⟨gp,2,none⟩=some (.slice none 0 0):=ze hp 2
    have f2:=zD hp 2
    clear hp
    go_simp
    have hend:=zh9.out.done (n:=n) (dm:=dm) (by omega)
    have zW:=qh hend
    refine hK.out _ _ (by obtain⟨a',hm, -⟩:=hend.2;exact hm.below) (λ_=> ?_)
    clear hend q0 q1 q2 f0 f1 f2
    clear hK K
    refine xE ?_
    clear hn pU wn pV
    go_wp2_with fail
    go_meet
    case rel=>exact⟨gv,gp,n,dm,rfl,by omega,by omega,by omega,by omega,zW.out.1,zW.out.2⟩
   skip
   go_simp
   have zea:=zdZ.out.box
   refine hK.out _ _ zea.yu.below (λ_=> ?_)
   obtain⟨gp,gU⟩:∃n,n=Xp2.heap.size:=⟨_,rfl⟩
   rw [<-gU] at zea ⊢
   clear gU
   generalize World.alloc Xp2 _=z5h at zea ⊢
   replace zea:=qh zea
   clear hK K
   refine yx 2 rfl (λK hK=> ?_)
   go_simp
   refine(vB.out z5h g _ 3 3 rfl zea.out.yu (by omega) (by omega) (by omega)).mono ?_
   rintro en z5i ⟨r1,hr1,rfl,hmk,hsi⟩
   have zhA:=qh (zea.out.pick hmk hsi)
   clear hmk hsi
   refine hK.out _ _ zhA.out.yu.below (λ_=> ?_)
   obtain⟨n,hn⟩:∃n:Nat,(1:Int)+(r1:Int)=(n:Int):=⟨1+r1,by omega⟩
   have bn1:1<=n:=by omega
   have bn2:n<=3:=by omega
   have wn:=wrapN n (by omega)
   have zn:(0:Int)<=(n:Int):=by omega
   have yn:(n:Int)<=3:=by omega
   clear hK K
   refine zH 3 zP (zhA.out.yu.below) ?_
   refine zH 4 zP (zhA.out.yu.below) ?_
   refine yx 6 rfl (λK hK=> ?_)
   go_simp
   refine(vB.out z5i g _ 3 3 rfl zhA.out.yu (by omega) (by omega) (by omega)).mono ?_
   rintro en ztz ⟨r2,hr2,rfl,hmk,hsi⟩
   have zhB:=qh (zhA.out.pick hmk hsi)
   clear hmk hsi
   refine hK.out _ _ zhB.out.yu.below (λ_=> ?_)
   obtain⟨dm,pU⟩:∃n:Nat,(2:Int)+(r2:Int)=(n:Int):=⟨2+r2,by omega⟩
   have zdf:2<=dm:=by omega
   have zdg:dm<=4:=by omega
   have pV:=wrapN dm (by omega)
   have zdm:(0:Int)<=(dm:Int):=by omega
   skip
   clear hK K
   refine zH 7 zP (zhB.out.yu.below) ?_
   refine zH 8 zP (zhB.out.yu.below) ?_
   refine yx 10 rfl (λK hK=> ?_)
   obtain⟨hp, -, -, -⟩:=zhB.out.prog gp rfl
   have q0:ztz.cell? ⟨gp,0,none⟩=some (.slice none 0 0):=ze hp 0
   have f0:=zD hp 0
   have q1:ztz.cell? ⟨gp,1,none⟩=some (.int .i64 0):=ze hp 1
   have f1:=zD hp 1
   have q2:ztz.cell? ⟨gp,2,none⟩=some (.slice none 0 0):=ze hp 2
   have f2:=zD hp 2
   clear hp
   go_simp
   have hend:=zhB.out.done (n:=n) (dm:=dm) (by omega)
   have zW:=qh hend
   refine hK.out _ _ (by obtain⟨a',hm, -⟩:=hend.2;exact hm.below) (λ_=> ?_)
   clear hend q0 q1 q2 f0 f1 f2
   clear hK K
   refine xE ?_
   clear hn pU wn pV
   go_wp2_with fail
   go_meet
   case rel=>exact⟨gv,gp,n,dm,rfl,by omega,by omega,by omega,by omega,zW.out.1,zW.out.2⟩
  ·skip
   go_simp
   refine(vB.out V1 g _ 3 3 rfl hT0.out.yu (by omega) (by omega) (by omega)).mono ?_
   rintro en zla ⟨r1,hr1,rfl,hmk,hsi⟩
   have zfM:=qh (hT0.out.pick hmk hsi)
   clear hmk hsi
   refine hK.out _ _ zfM.out.yu.below (λ_=> ?_)
   obtain⟨n,hn⟩:∃n:Nat,(1:Int)+(r1:Int)=(n:Int):=⟨1+r1,by omega⟩
   have bn1:1<=n:=by omega
   have bn2:n<=3:=by omega
   have wn:=wrapN n (by omega)
   have zn:(0:Int)<=(n:Int):=by omega
   have yn:(n:Int)<=3:=by omega
   clear hK K
   refine zH 3 zP (zfM.out.yu.below) ?_
   refine wpAnyH_ready (rs:= [0,6,9]) (by kernel_rfl) (by simp) ?_
   refine AllReadyH.cons rfl (λK hK=> ?_) (AllReadyH.cons rfl (λK hK=> ?_) (AllReadyH.cons rfl (λK hK=> ?_) AllReadyH.nil))
   ·skip
    go_simp
    have zbl:=zfM.out.names
    unfold wF at zbl
    refine hK.out _ _ zbl.yu.below (λ_=> ?_)
    obtain⟨gv,hgv⟩:∃n,n=zla.heap.size:=⟨_,rfl⟩
    rw [<-hgv] at zbl ⊢
    clear hgv
    generalize World.alloc zla _=zt0 at zbl ⊢
    replace zbl:=qh zbl
    clear hK K
    refine zH 4 zP (zbl.out.yu.below) ?_
    refine wpAnyH_ready (rs:= [6,9]) (by kernel_rfl) (by simp) ?_
    refine AllReadyH.cons rfl (λK hK=> ?_) (AllReadyH.cons rfl (λK hK=> ?_) AllReadyH.nil)
    ·skip
     go_simp
     refine(vB.out zt0 g _ 3 3 rfl zbl.out.yu (by omega) (by omega) (by omega)).mono ?_
     rintro en zyL ⟨r2,hr2,rfl,hmk,hsi⟩
     have zk7:=qh (zbl.out.pick hmk hsi)
     clear hmk hsi
     refine hK.out _ _ zk7.out.yu.below (λ_=> ?_)
     obtain⟨dm,pU⟩:∃n:Nat,(2:Int)+(r2:Int)=(n:Int):=⟨2+r2,by omega⟩
     have zdf:2<=dm:=by omega
     have zdg:dm<=4:=by omega
     have pV:=wrapN dm (by omega)
     have zdm:(0:Int)<=(dm:Int):=by omega
     skip
     clear hK K
     refine zH 7 zP (zk7.out.yu.below) ?_
     refine zH 8 zP (zk7.out.yu.below) ?_
     refine yx 9 rfl (λK hK=> ?_)
     go_simp
     have zeb:=zk7.out.box
     refine hK.out _ _ zeb.yu.below (λ_=> ?_)
     obtain⟨gp,gU⟩:∃n,n=zyL.heap.size:=⟨_,rfl⟩
     rw [<-gU] at zeb ⊢
     clear gU
     generalize World.alloc zyL _=zt1 at zeb ⊢
     replace zeb:=qh zeb
     clear hK K
     refine yx 10 rfl (λK hK=> ?_)
     obtain⟨hp, -, -, -⟩:=zeb.out.prog gp rfl
     have q0:zt1.cell? ⟨gp,0,none⟩=some (.slice none 0 0):=ze hp 0
     have f0:=zD hp 0
     have q1:zt1.cell? ⟨gp,1,none⟩=some (.int .i64 0):=ze hp 1
     have f1:=zD hp 1
     have q2:zt1.cell? ⟨gp,2,none⟩=some (.slice none 0 0):=ze hp 2
     have f2:=zD hp 2
     clear hp
     go_simp
     have hend:=zeb.out.done (n:=n) (dm:=dm) (by omega)
     have zW:=qh hend
     refine hK.out _ _ (by obtain⟨a',hm, -⟩:=hend.2;exact hm.below) (λ_=> ?_)
     clear hend q0 q1 q2 f0 f1 f2
     clear hK K
     refine xE ?_
     clear hn pU wn pV
     go_wp2_with fail
     go_meet
     case rel=>exact⟨gv,gp,n,dm,rfl,by omega,by omega,by omega,by omega,zW.out.1,zW.out.2⟩
    skip
    go_simp
    have zec:=zbl.out.box
    refine hK.out _ _ zec.yu.below (λ_=> ?_)
    obtain⟨gp,gU⟩:∃n,n=zt0.heap.size:=⟨_,rfl⟩
    rw [<-gU] at zec ⊢
    clear gU
    generalize World.alloc zt0 _=z5j at zec ⊢
    replace zec:=qh zec
    clear hK K
    refine yx 6 rfl (λK hK=> ?_)
    go_simp
    refine(vB.out z5j g _ 3 3 rfl zec.out.yu (by omega) (by omega) (by omega)).mono ?_
    rintro en zt2 ⟨r2,hr2,rfl,hmk,hsi⟩
    have zhC:=qh (zec.out.pick hmk hsi)
    clear hmk hsi
    refine hK.out _ _ zhC.out.yu.below (λ_=> ?_)
    obtain⟨dm,pU⟩:∃n:Nat,(2:Int)+(r2:Int)=(n:Int):=⟨2+r2,by omega⟩
    have zdf:2<=dm:=by omega
    have zdg:dm<=4:=by omega
    have pV:=wrapN dm (by omega)
    have zdm:(0:Int)<=(dm:Int):=by omega
    skip
    clear hK K
    refine zH 7 zP (zhC.out.yu.below) ?_
    refine zH 8 zP (zhC.out.yu.below) ?_
    refine yx 10 rfl (λK hK=> ?_)
    obtain⟨hp, -, -, -⟩:=zhC.out.prog gp rfl
    have q0:zt2.cell? ⟨gp,0,none⟩=some (.slice none 0 0):=ze hp 0
    have f0:=zD hp 0
    have q1:zt2.cell? ⟨gp,1,none⟩=some (.int .i64 0):=ze hp 1
    have f1:=zD hp 1
    have q2:zt2.cell? ⟨gp,2,none⟩=some (.slice none 0 0):=ze hp 2
    have f2:=zD hp 2
    clear hp
    go_simp
    have hend:=zhC.out.done (n:=n) (dm:=dm) (by omega)
    have zW:=qh hend
    refine hK.out _ _ (by obtain⟨a',hm, -⟩:=hend.2;exact hm.below) (λ_=> ?_)
    clear hend q0 q1 q2 f0 f1 f2
    clear hK K
    refine xE ?_
    clear hn pU wn pV
    go_wp2_with fail
    go_meet
    case rel=>exact⟨gv,gp,n,dm,rfl,by omega,by omega,by omega,by omega,zW.out.1,zW.out.2⟩
   ·skip
    go_simp
    refine(vB.out zla g _ 3 3 rfl zfM.out.yu (by omega) (by omega) (by omega)).mono ?_
    rintro en zoH ⟨r2,hr2,rfl,hmk,hsi⟩
    have zk8:=qh (zfM.out.pick hmk hsi)
    clear hmk hsi
    refine hK.out _ _ zk8.out.yu.below (λ_=> ?_)
    obtain⟨dm,pU⟩:∃n:Nat,(2:Int)+(r2:Int)=(n:Int):=⟨2+r2,by omega⟩
    have zdf:2<=dm:=by omega
    have zdg:dm<=4:=by omega
    have pV:=wrapN dm (by omega)
    have zdm:(0:Int)<=(dm:Int):=by omega
    skip
    clear hK K
    refine zH 7 zP (zk8.out.yu.below) ?_
    refine wpAnyH_ready (rs:= [0,9]) (by kernel_rfl) (by simp) ?_
    refine AllReadyH.cons rfl (λK hK=> ?_) (AllReadyH.cons rfl (λK hK=> ?_) AllReadyH.nil)
    ·skip
     go_simp
     have zbL:=zk8.out.names
     unfold wF at zbL
     refine hK.out _ _ zbL.yu.below (λ_=> ?_)
     obtain⟨gv,hgv⟩:∃n,n=zoH.heap.size:=⟨_,rfl⟩
     rw [<-hgv] at zbL ⊢
     clear hgv
     generalize World.alloc zoH _=zyM at zbL ⊢
     replace zbL:=qh zbL
     clear hK K
     refine zH 4 zP (zbL.out.yu.below) ?_
     refine zH 8 zP (zbL.out.yu.below) ?_
     refine yx 9 rfl (λK hK=> ?_)
     go_simp
     have zed:=zbL.out.box
     refine hK.out _ _ zed.yu.below (λ_=> ?_)
     obtain⟨gp,gU⟩:∃n,n=zyM.heap.size:=⟨_,rfl⟩
     rw [<-gU] at zed ⊢
     clear gU
     generalize World.alloc zyM _=zt3 at zed ⊢
     replace zed:=qh zed
     clear hK K
     refine yx 10 rfl (λK hK=> ?_)
     obtain⟨hp, -, -, -⟩:=zed.out.prog gp rfl
     have q0:zt3.cell? ⟨gp,0,none⟩=some (.slice none 0 0):=ze hp 0
     have f0:=zD hp 0
     have q1:zt3.cell? ⟨gp,1,none⟩=some (.int .i64 0):=ze hp 1
     have f1:=zD hp 1
     have q2:zt3.cell? ⟨gp,2,none⟩=some (.slice none 0 0):=ze hp 2
     have f2:=zD hp 2
     clear hp
     go_simp
     have hend:=zed.out.done (n:=n) (dm:=dm) (by omega)
     have zW:=qh hend
     refine hK.out _ _ (by obtain⟨a',hm, -⟩:=hend.2;exact hm.below) (λ_=> ?_)
     clear hend q0 q1 q2 f0 f1 f2
     clear hK K
     refine xE ?_
     clear hn pU wn pV
     go_wp2_with fail
     go_meet
     case rel=>exact⟨gv,gp,n,dm,rfl,by omega,by omega,by omega,by omega,zW.out.1,zW.out.2⟩
    skip
    go_simp
    have zfN:=zk8.out.box
    refine hK.out _ _ zfN.yu.below (λ_=> ?_)
    obtain⟨gp,gU⟩:∃n,n=zoH.heap.size:=⟨_,rfl⟩
    rw [<-gU] at zfN ⊢
    clear gU
    generalize World.alloc zoH _=zyN at zfN ⊢
    replace zfN:=qh zfN
    clear hK K
    refine yx 0 rfl (λK hK=> ?_)
    go_simp
    have zbm:=zfN.out.names
    unfold wF at zbm
    refine hK.out _ _ zbm.yu.below (λ_=> ?_)
    obtain⟨gv,hgv⟩:∃n,n=zyN.heap.size:=⟨_,rfl⟩
    rw [<-hgv] at zbm ⊢
    clear hgv
    generalize World.alloc zyN _=zt4 at zbm ⊢
    replace zbm:=qh zbm
    clear hK K
    refine zH 4 zP (zbm.out.yu.below) ?_
    refine zH 8 zP (zbm.out.yu.below) ?_
    refine yx 10 rfl (λK hK=> ?_)
    obtain⟨hp, -, -, -⟩:=zbm.out.prog gp rfl
    have q0:zt4.cell? ⟨gp,0,none⟩=some (.slice none 0 0):=ze hp 0
    have f0:=zD hp 0
    have q1:zt4.cell? ⟨gp,1,none⟩=some (.int .i64 0):=ze hp 1
    have f1:=zD hp 1
    have q2:zt4.cell? ⟨gp,2,none⟩=some (.slice none 0 0):=ze hp 2
    have f2:=zD hp 2
    clear hp
    go_simp
    have hend:=zbm.out.done (n:=n) (dm:=dm) (by omega)
    have zW:=qh hend
    refine hK.out _ _ (by obtain⟨a',hm, -⟩:=hend.2;exact hm.below) (λ_=> ?_)
    clear hend q0 q1 q2 f0 f1 f2
    clear hK K
    refine xE ?_
    clear hn pU wn pV
    go_wp2_with fail
    go_meet
    case rel=>exact⟨gv,gp,n,dm,rfl,by omega,by omega,by omega,by omega,zW.out.1,zW.out.2⟩
   skip
   go_simp
   have zcG:=zfM.out.box
   refine hK.out _ _ zcG.yu.below (λ_=> ?_)
   obtain⟨gp,gU⟩:∃n,n=zla.heap.size:=⟨_,rfl⟩
   rw [<-gU] at zcG ⊢
   clear gU
   generalize World.alloc zla _=zt5 at zcG ⊢
   replace zcG:=qh zcG
   clear hK K
   refine wpAnyH_ready (rs:= [0,6]) (by kernel_rfl) (by simp) ?_
   refine AllReadyH.cons rfl (λK hK=> ?_) (AllReadyH.cons rfl (λK hK=> ?_) AllReadyH.nil)
   ·skip
    go_simp
    have zbM:=zcG.out.names
    unfold wF at zbM
    refine hK.out _ _ zbM.yu.below (λ_=> ?_)
    obtain⟨gv,hgv⟩:∃n,n=zt5.heap.size:=⟨_,rfl⟩
    rw [<-hgv] at zbM ⊢
    clear hgv
    generalize World.alloc zt5 _=z5k at zbM ⊢
    replace zbM:=qh zbM
    clear hK K
    refine zH 4 zP (zbM.out.yu.below) ?_
    refine yx 6 rfl (λK hK=> ?_)
    go_simp
    refine(vB.out z5k g _ 3 3 rfl zbM.out.yu (by omega) (by omega) (by omega)).mono ?_
    rintro en zt6 ⟨r2,hr2,rfl,hmk,hsi⟩
    have zhD:=qh (zbM.out.pick hmk hsi)
    clear hmk hsi
    refine hK.out _ _ zhD.out.yu.below (λ_=> ?_)
    obtain⟨dm,pU⟩:∃n:Nat,(2:Int)+(r2:Int)=(n:Int):=⟨2+r2,by omega⟩
    have zdf:2<=dm:=by omega
    have zdg:dm<=4:=by omega
    have pV:=wrapN dm (by omega)
    have zdm:(0:Int)<=(dm:Int):=by omega
    skip
    clear hK K
    refine zH 7 zP (zhD.out.yu.below) ?_
    refine zH 8 zP (zhD.out.yu.below) ?_
    refine yx 10 rfl (λK hK=> ?_)
    obtain⟨hp, -, -, -⟩:=zhD.out.prog gp rfl
    have q0:zt6.cell? ⟨gp,0,none⟩=some (.slice none 0 0):=ze hp 0
    have f0:=zD hp 0
    have q1:zt6.cell? ⟨gp,1,none⟩=some (.int .i64 0):=ze hp 1
    have f1:=zD hp 1
    have q2:zt6.cell? ⟨gp,2,none⟩=some (.slice none 0 0):=ze hp 2
    have f2:=zD hp 2
    clear hp
    go_simp
    have hend:=zhD.out.done (n:=n) (dm:=dm) (by omega)
    have zW:=qh hend
    refine hK.out _ _ (by obtain⟨a',hm, -⟩:=hend.2;exact hm.below) (λ_=> ?_)
    clear hend q0 q1 q2 f0 f1 f2
    clear hK K
    refine xE ?_
    clear hn pU wn pV
    go_wp2_with fail
    go_meet
    case rel=>exact⟨gv,gp,n,dm,rfl,by omega,by omega,by omega,by omega,zW.out.1,zW.out.2⟩
   skip
   go_simp
   refine(vB.out zt5 g _ 3 3 rfl zcG.out.yu (by omega) (by omega) (by omega)).mono ?_
   rintro en zyO ⟨r2,hr2,rfl,hmk,hsi⟩
   have zoI:=qh (zcG.out.pick hmk hsi)
   clear hmk hsi
   refine hK.out _ _ zoI.out.yu.below (λ_=> ?_)
   obtain⟨dm,pU⟩:∃n:Nat,(2:Int)+(r2:Int)=(n:Int):=⟨2+r2,by omega⟩
   have zdf:2<=dm:=by omega
   have zdg:dm<=4:=by omega
   have pV:=wrapN dm (by omega)
   have zdm:(0:Int)<=(dm:Int):=by omega
   skip
   clear hK K
   refine zH 7 zP (zoI.out.yu.below) ?_
   refine yx 0 rfl (λK hK=> ?_)
   go_simp
   have zbn:=zoI.out.names
   unfold wF at zbn
   refine hK.out _ _ zbn.yu.below (λ_=> ?_)
   obtain⟨gv,hgv⟩:∃n,n=zyO.heap.size:=⟨_,rfl⟩
   rw [<-hgv] at zbn ⊢
   clear hgv
   generalize World.alloc zyO _=zt7 at zbn ⊢
   replace zbn:=qh zbn
   clear hK K
   refine zH 4 zP (zbn.out.yu.below) ?_
   refine zH 8 zP (zbn.out.yu.below) ?_
   refine yx 10 rfl (λK hK=> ?_)
   obtain⟨hp, -, -, -⟩:=zbn.out.prog gp rfl
   have q0:zt7.cell? ⟨gp,0,none⟩=some (.slice none 0 0):=ze hp 0
   have f0:=zD hp 0
   have q1:zt7.cell? ⟨gp,1,none⟩=some (.int .i64 0):=ze hp 1
   have f1:=zD hp 1
   have q2:zt7.cell? ⟨gp,2,none⟩=some (.slice none 0 0):=ze hp 2
   have f2:=zD hp 2
   clear hp
   go_simp
   have hend:=zbn.out.done (n:=n) (dm:=dm) (by omega)
   have zW:=qh hend
   refine hK.out _ _ (by obtain⟨a',hm, -⟩:=hend.2;exact hm.below) (λ_=> ?_)
   clear hend q0 q1 q2 f0 f1 f2
   clear hK K
   refine xE ?_
   clear hn pU wn pV
   go_wp2_with fail
   go_meet
   case rel=>exact⟨gv,gp,n,dm,rfl,by omega,by omega,by omega,by omega,zW.out.1,zW.out.2⟩
  skip
  go_simp
  have zcH:=hT0.out.box
  refine hK.out _ _ zcH.yu.below (λ_=> ?_)
  obtain⟨gp,gU⟩:∃n,n=V1.heap.size:=⟨_,rfl⟩
  rw [<-gU] at zcH ⊢
  clear gU
  generalize World.alloc V1 _=zt8 at zcH ⊢
  replace zcH:=qh zcH
  clear hK K
  refine wpAnyH_ready (rs:= [0,2]) (by kernel_rfl) (by simp) ?_
  refine AllReadyH.cons rfl (λK hK=> ?_) (AllReadyH.cons rfl (λK hK=> ?_) AllReadyH.nil)
  ·skip
   go_simp
   have zcI:=zcH.out.names
   unfold wF at zcI
   refine hK.out _ _ zcI.yu.below (λ_=> ?_)
   obtain⟨gv,hgv⟩:∃n,n=zt8.heap.size:=⟨_,rfl⟩
   rw [<-hgv] at zcI ⊢
   clear hgv
   generalize World.alloc zt8 _=z5l at zcI ⊢
   replace zcI:=qh zcI
   clear hK K
   refine yx 2 rfl (λK hK=> ?_)
   go_simp
   refine(vB.out z5l g _ 3 3 rfl zcI.out.yu (by omega) (by omega) (by omega)).mono ?_
   rintro en z5m ⟨r1,hr1,rfl,hmk,hsi⟩
   have zhE:=qh (zcI.out.pick hmk hsi)
   clear hmk hsi
   refine hK.out _ _ zhE.out.yu.below (λ_=> ?_)
   obtain⟨n,hn⟩:∃n:Nat,(1:Int)+(r1:Int)=(n:Int):=⟨1+r1,by omega⟩
   have bn1:1<=n:=by omega
   have bn2:n<=3:=by omega
   have wn:=wrapN n (by omega)
   have zn:(0:Int)<=(n:Int):=by omega
   have yn:(n:Int)<=3:=by omega
   clear hK K
   refine zH 3 zP (zhE.out.yu.below) ?_
   refine zH 4 zP (zhE.out.yu.below) ?_
   refine yx 6 rfl (λK hK=> ?_)
   go_simp
   refine(vB.out z5m g _ 3 3 rfl zhE.out.yu (by omega) (by omega) (by omega)).mono ?_
   rintro en zt9 ⟨r2,hr2,rfl,hmk,hsi⟩
   have zhF:=qh (zhE.out.pick hmk hsi)
   clear hmk hsi
   refine hK.out _ _ zhF.out.yu.below (λ_=> ?_)
   obtain⟨dm,pU⟩:∃n:Nat,(2:Int)+(r2:Int)=(n:Int):=⟨2+r2,by omega⟩
   have zdf:2<=dm:=by omega
   have zdg:dm<=4:=by omega
   have pV:=wrapN dm (by omega)
   have zdm:(0:Int)<=(dm:Int):=by omega
   skip
   clear hK K
   refine zH 7 zP (zhF.out.yu.below) ?_
   refine zH 8 zP (zhF.out.yu.below) ?_
   refine yx 10 rfl (λK hK=> ?_)
   obtain⟨hp, -, -, -⟩:=zhF.out.prog gp rfl
   have q0:zt9.cell? ⟨gp,0,none⟩=some (.slice none 0 0):=ze hp 0
   have f0:=zD hp 0
   have q1:zt9.cell? ⟨gp,1,none⟩=some (.int .i64 0):=ze hp 1
   have f1:=zD hp 1
   have q2:zt9.cell? ⟨gp,2,none⟩=some (.slice none 0 0):=ze hp 2
   have f2:=zD hp 2
   clear hp
   go_simp
   have hend:=zhF.out.done (n:=n) (dm:=dm) (by omega)
   have zW:=qh hend
   refine hK.out _ _ (by obtain⟨a',hm, -⟩:=hend.2;exact hm.below) (λ_=> ?_)
   clear hend q0 q1 q2 f0 f1 f2
   clear hK K
   refine xE ?_
   clear hn pU wn pV
   go_wp2_with fail
   go_meet
   case rel=>exact⟨gv,gp,n,dm,rfl,by omega,by omega,by omega,by omega,zW.out.1,zW.out.2⟩
  skip
  go_simp
  refine(vB.out zt8 g _ 3 3 rfl zcH.out.yu (by omega) (by omega) (by omega)).mono ?_
  rintro en ztA ⟨r1,hr1,rfl,hmk,hsi⟩
  have zhG:=qh (zcH.out.pick hmk hsi)
  clear hmk hsi
  refine hK.out _ _ zhG.out.yu.below (λ_=> ?_)
  obtain⟨n,hn⟩:∃n:Nat,(1:Int)+(r1:Int)=(n:Int):=⟨1+r1,by omega⟩
  have bn1:1<=n:=by omega
  have bn2:n<=3:=by omega
  have wn:=wrapN n (by omega)
  have zn:(0:Int)<=(n:Int):=by omega
  have yn:(n:Int)<=3:=by omega
  clear hK K
  refine zH 3 zP (zhG.out.yu.below) ?_
  refine wpAnyH_ready (rs:= [0,6]) (by kernel_rfl) (by simp) ?_
  refine AllReadyH.cons rfl (λK hK=> ?_) (AllReadyH.cons rfl (λK hK=> ?_) AllReadyH.nil)
  ·skip
   go_simp
   have zbN:=zhG.out.names
   unfold wF at zbN
   refine hK.out _ _ zbN.yu.below (λ_=> ?_)
   obtain⟨gv,hgv⟩:∃n,n=ztA.heap.size:=⟨_,rfl⟩
   rw [<-hgv] at zbN ⊢
   clear hgv
   generalize World.alloc ztA _=z5n at zbN ⊢
   replace zbN:=qh zbN
   clear hK K
   refine zH 4 zP (zbN.out.yu.below) ?_
   refine yx 6 rfl (λK hK=> ?_)
   go_simp
   refine(vB.out z5n g _ 3 3 rfl zbN.out.yu (by omega) (by omega) (by omega)).mono ?_
   rintro en ztB ⟨r2,hr2,rfl,hmk,hsi⟩
   have zhH:=qh (zbN.out.pick hmk hsi)
   clear hmk hsi
   refine hK.out _ _ zhH.out.yu.below (λ_=> ?_)
   obtain⟨dm,pU⟩:∃n:Nat,(2:Int)+(r2:Int)=(n:Int):=⟨2+r2,by omega⟩
   have zdf:2<=dm:=by omega
   have zdg:dm<=4:=by omega
   have pV:=wrapN dm (by omega)
   have zdm:(0:Int)<=(dm:Int):=by omega
   skip
   clear hK K
   refine zH 7 zP (zhH.out.yu.below) ?_
   refine zH 8 zP (zhH.out.yu.below) ?_
   refine yx 10 rfl (λK hK=> ?_)
   obtain⟨hp, -, -, -⟩:=zhH.out.prog gp rfl
   have q0:ztB.cell? ⟨gp,0,none⟩=some (.slice none 0 0):=ze hp 0
   have f0:=zD hp 0
   have q1:ztB.cell? ⟨gp,1,none⟩=some (.int .i64 0):=ze hp 1
   have f1:=zD hp 1
   have q2:ztB.cell? ⟨gp,2,none⟩=some (.slice none 0 0):=ze hp 2
   have f2:=zD hp 2
   clear hp
   go_simp
   have hend:=zhH.out.done (n:=n) (dm:=dm) (by omega)
   have zW:=qh hend
   refine hK.out _ _ (by obtain⟨a',hm, -⟩:=hend.2;exact hm.below) (λ_=> ?_)
   clear hend q0 q1 q2 f0 f1 f2
   clear hK K
   refine xE ?_
   clear hn pU wn pV
   go_wp2_with fail
   go_meet
   case rel=>exact⟨gv,gp,n,dm,rfl,by omega,by omega,by omega,by omega,zW.out.1,zW.out.2⟩
  skip
  go_simp
  refine(vB.out ztA g _ 3 3 rfl zhG.out.yu (by omega) (by omega) (by omega)).mono ?_
  rintro en zyP ⟨r2,hr2,rfl,hmk,hsi⟩
  have zoJ:=qh (zhG.out.pick hmk hsi)
  clear hmk hsi
  refine hK.out _ _ zoJ.out.yu.below (λ_=> ?_)
  obtain⟨dm,pU⟩:∃n:Nat,(2:Int)+(r2:Int)=(n:Int):=⟨2+r2,by omega⟩
  have zdf:2<=dm:=by omega
  have zdg:dm<=4:=by omega
  have pV:=wrapN dm (by omega)
  have zdm:(0:Int)<=(dm:Int):=by omega
  skip
  clear hK K
  refine zH 7 zP (zoJ.out.yu.below) ?_
  refine yx 0 rfl (λK hK=> ?_)
  go_simp
  have zbo:=zoJ.out.names
  unfold wF at zbo
  refine hK.out _ _ zbo.yu.below (λ_=> ?_)
  obtain⟨gv,hgv⟩:∃n,n=zyP.heap.size:=⟨_,rfl⟩
  rw [<-hgv] at zbo ⊢
  clear hgv
  generalize World.alloc zyP _=ztC at zbo ⊢
  replace zbo:=qh zbo
  clear hK K
  refine zH 4 zP (zbo.out.yu.below) ?_
  refine zH 8 zP (zbo.out.yu.below) ?_
  refine yx 10 rfl (λK hK=> ?_)
  obtain⟨hp, -, -, -⟩:=zbo.out.prog gp rfl
  have q0:ztC.cell? ⟨gp,0,none⟩=some (.slice none 0 0):=ze hp 0
  have f0:=zD hp 0
  have q1:ztC.cell? ⟨gp,1,none⟩=some (.int .i64 0):=ze hp 1
  have f1:=zD hp 1
  have q2:ztC.cell? ⟨gp,2,none⟩=some (.slice none 0 0):=ze hp 2
  have f2:=zD hp 2
  clear hp
  go_simp
  have hend:=zbo.out.done (n:=n) (dm:=dm) (by omega)
  have zW:=qh hend
  refine hK.out _ _ (by obtain⟨a',hm, -⟩:=hend.2;exact hm.below) (λ_=> ?_)
  clear hend q0 q1 q2 f0 f1 f2
  clear hK K
  refine xE ?_
  clear hn pU wn pV
  go_wp2_with fail
  go_meet
  case rel=>exact⟨gv,gp,n,dm,rfl,by omega,by omega,by omega,by omega,zW.out.1,zW.out.2⟩
 case rest=>
 obtain⟨gv,gp,n,dm,rfl,hn1,hn3,hd2,hd4,HL,HMA⟩:=hcut
 clear HR
 obtain⟨X,rfl⟩:∃x:World,x=wc:=⟨_,rfl⟩
 obtain⟨a0,zyQ,ha0⟩:=HMA.out
 have zyR:=qh zyQ
 clear zyQ
 go_upto_region 4 with(go_at_call 77;go_must(refine(vB.out X g _ 3 3 rfl zyR.out (by omega) (by omega) (by omega)).mono ?_);rintro en X2 ⟨r3,hr3,rfl,hmk,hsi⟩;(have HL2:=qh (HL.out.picked hsi hmk (by omega)));clear hmk hsi HL zyR)
 obtain⟨m,hm⟩:∃m:Nat,(1:Int)+(r3:Int)=(m:Int):=⟨1+r3,by omega⟩
 have hm1:1<=m:=by omega
 have hm3:m<=3:=by omega
 rw [hm]
 clear hm hr3
 go_loopg [7] m (λgg s7 wr=>∃(j k:Nat) (oa:Option Addr) (oc:Nat) (T:List (List zL)) (css:List (List Value)),s7= .int .i64 k/\Hid (j+k=m)/\Hid (gg=k)/\Hid (wB w wr g gv gp gr (.slice sa ln sc) n dm j (.slice oa j oc) T css))
 case atStart=>exact⟨0,m,none,0, [], [],rfl,by rw [Hid];omega,rfl,HL2.out⟩
 case round=>
 obtain⟨j,k',oa,oc,T,css,rfl,HJK,HG,HL⟩:=hrel
 clear HL2
 have hj3:j<=3:=by have:=HJK.out;omega
 have hk3:k'<=3:=by have:=HJK.out;omega
 by_cases hk0:0<k'
 rotate_left
 ·obtain rfl:k'=0:=by omega
  have hj1:j=m:=by have:=HJK.out;omega
  obtain⟨hend,hset⟩:=zoD HL.out hn1 hn3 hd2 (by omega) (by omega) hj3
  have zW:=qh hend
  have zJ:=qh hset
  clear hend hset hj1
  have c0:wr.cell? ⟨gp,0,none⟩=some (.slice (some ⟨gv,0,none⟩) n 3):=ze HL.out.box 0
  have c1:wr.cell? ⟨gp,1,none⟩=some (.int .i64 dm):=ze HL.out.box 1
  have c2:wr.cell? ⟨gp,2,none⟩=some (.slice oa j oc):=ze HL.out.box 2
  have z0:wr.cell? ⟨gr,0,none⟩=some (.slice none 0 0):=ze HL.out.res 0
  have z1:wr.cell? ⟨gr,1,none⟩=some (.int .i64 0):=ze HL.out.res 1
  have z2:wr.cell? ⟨gr,2,none⟩=some (.slice none 0 0):=ze HL.out.res 2
  have f0:=zD HL.out.res 0
  have f1:=zD HL.out.res 1
  have f2:=zD HL.out.res 2
  go_wp2_with fail
  refine bodyPost_ret (xQ rfl _ _ gr 92 _ (0,0) _ rfl zJ.out Tryz.underlying92 rfl zkZ) rfl ?_
  exact zW.out
 obtain⟨k,rfl⟩:∃k,k'=k+1:=⟨k' - 1,by omega⟩
 have hkI:(0:Int)<(k:Int)+1:=by omega
 have CC:Hid (∀x,Since (λy=>(Value.slice oa j oc).ownBlock=some y\/y=g) wr x->x.cell? ⟨gp,0,none⟩=some (.slice (some ⟨gv,0,none⟩) n 3)/\x.cell? ⟨gp,1,none⟩=some (.int .i64 dm)/\x.cell? ⟨gp,2,none⟩=some (.slice oa j oc)):=λx hx=>by
  have h:=(hx.block _ (zx HL.out.box) (λe=>by rcases e with e|e;exact(HL.out.own_ne _ e).2.1 rfl;have:=HL.out.lo;omega)).trans HL.out.box
  exact⟨ze h 0,ze h 1,ze h 2⟩
 go_upto_region 6 with fail
 refine wp_region_noPanic ?_
 refine yT (n0:=15) (S:=λx=>Since (λy=>(Value.slice oa j oc).ownBlock=some y\/y=g) wr x) (by kernel_rfl) (Since.drew _ (Since.refl _ wr)) (λ_=> ?_)
 obtain⟨V1,hV1⟩:∃V1,V1=wr.drew:=⟨_,rfl⟩
 have hT0:Hid (Since (λy=>(Value.slice oa j oc).ownBlock=some y\/y=g) wr V1):=by rw [hV1];exact Since.drew _ (Since.refl _ wr)
 have hl2:wB w V1 g gv gp gr (.slice sa ln sc) n dm j (.slice oa j oc) T css:=by rw [hV1];exact HL.out.drew
 rw [<-hV1]
 clear hV1
 have HL2:=qh hl2
 have uP:=hl2.row.row
 rw [hl2.len] at uP
 have zwi:=qh uP
 have HOWN:Hid (∀k,(Value.slice oa j oc).ownBlock=some k->k≠g):=λk hk=>(hl2.own_ne k hk).1
 obtain⟨a1,hmk,ha1⟩:=hl2.yu
 have yj:=qh hmk.below.size
 have HMK:=qh (And.intro hmk ha1)
 clear hl2 uP hmk ha1
 refine zU 0 (λ_=>hT0.out) ?_
 refine jq [13,14,15] 1 CC.out (hT0.out) ?_
 refine zU 2 (λ_=>hT0.out) ?_
 refine zU 3 (λ_=>hT0.out) ?_
 refine zU 5 (λ_=>hT0.out) ?_
 refine jq [7,11,12,13,14,15] 6 CC.out (hT0.out) ?_
 refine zU 7 (λ_=>hT0.out) ?_
 refine zU 8 (λ_=>hT0.out) ?_
 refine jq [11,12,13,14,15] 9 CC.out (hT0.out) ?_
 refine zU 10 (λ_=>hT0.out) ?_
 refine vQ 4 rfl (λK hK=> ?_)
 go_simp
 refine(vB.out V1 g _ 5 5 rfl HMK.out.1 (by omega) (by omega) (by have h5:=HMK.out.2;omega)).mono ?_
 rintro en V2 ⟨r5,hr5,rfl,hmk,hsi⟩
 have zyS:=qh hmk
 have ztD:=qh hsi
 have hT1:=qh (hT0.out.trans hsi (λy hy=> .inl (.inr hy)))
 clear hmk hsi
 refine hK.out _ _ (λ_ _=>hT1.out) ?_
 clear hK K
 refine vQ 11 rfl (λK hK=> ?_)
 go_simp
 refine(z2E.out g n dm (by omega) (by omega) (by omega) (by omega) V2 _ r5 zyS.out (by omega) (by have h5:=HMK.out.2;omega)).mono ?_
 rintro en V3 ⟨L,na,nc,a2,rfl,hok,haw,hmk,ha2,hsi⟩
 have zff:=qh hmk
 have ztE:=qh (And.intro hok haw)
 have zoK:=qh (ztD.out.trans hsi (λ_ h=> .inl h))
 have HSZ:=qh hsi.size
 have gV:=qh (hT1.out.trans hsi (λy hy=> .inl (.inr hy)))
 have hrow:=zoK.out.row zwi.out (λk hk e=>(HOWN.out k hk) e)
 have zhJ:=qh hrow
 clear hmk hsi hok haw hrow
 refine hK.out _ _ (λ_ _=>gV.out) ?_
 clear hK K
 refine vQ 12 rfl (λK hK=> ?_)
 go_simp
 have jf:=qh (gV.out.alloc (.cells #[.slice na L.length nc] 129))
 refine hK.out _ _ (λ_ _=>jf.out) ?_
 clear hK K
 refine vQ 13 rfl (λK hK=> ?_)
 refine zK (V3.alloc (.cells #[.slice na L.length nc] 129)) (by rfl) (.tmp 28) (.tmp 39) 90 rfl 129 (.slice none 0 0) 1 24 Tryz.underlying90 zoE rfl (by decide) w.heap.size (.slice oa j oc) j (css.flatten) (by rfl) (zhJ.out.alloc _) ⟨V3.heap.size,0,none⟩ 1 1 [.slice na L.length nc] (by rfl) rfl (jv V3 _ _) (by simp [Value.oneCell']) (by unfold maxLen;omega) (by omega) (by have h5:=yj.out;have h6:=zoK.out.size;simp;omega) ?_
 intro xa xc V4 e1 e2 e3 e4 e5
 have xW:=qh (jf.out.trans e4 (λy hy=> .inl (.inl hy)))
 have hp:=HL2.out.push zoK.out zff.out (by have:=HMK.out.2;omega) ztE.out.1 rfl (ztE.out.2.step (Since.refl (λ_=>False) V3) (λ_ h=>h.elim) (λk hk=> .inl (by have h5:=ztD.out.size;omega))) e1 e4 e5
 have HP:=qh hp
 clear e1 e2 e3 e4 e5 hp
 refine hK.out _ _ (λ_ _=>xW.out) ?_
 clear hK K
 change qd _ _ _ _ _ _ _ _ (Act.put _ (some 40) _) _
 simp only [Act.put,kC,kD,kE]
 refine zU 14 (λ_=>xW.out) ?_
 refine vQ 15 rfl (λK hK=> ?_)
 have q2:V4.cell? ⟨gp,2,none⟩=some (.slice oa j oc):=ze HP.out.1 2
 have f2:=zD HP.out.1 2
 go_simp
 refine hK.out _ _ (λh=>absurd rfl h) ?_
 clear q2 f2
 have hT5:=xW
 clear hK K
 refine xH (by kernel_rfl) ?_ _
 refine NoPanic.normal ?_
 have HP2:=qh HP.out.2
 clear HP zyS zff ztE ztD zoK zhJ zwi HOWN CC
 go_wp2_with fail
 go_roundg k
 case measure=>rw [HG.out];omega
 case rel=>exact⟨j+1,k,xa,xc,_,_,(by first|rfl|simp),by have:=HJK.out;rw [Hid];omega,rfl,HP2.out⟩
