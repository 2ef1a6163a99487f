/- Steps. -/
import Derived.Test.YtliajkheeniljaaGreatDoorZmMakerL
set_option linter.all false
namespace Go.Proofs.YtliajkheeniljaaGreatDoor
open Go.RowKit
set_option maxRecDepth 100000
set_option maxHeartbeats 16000000
theorem ztq (W0:World) (g:Nat) (lv:Value) (l:List Int) (hn:jG W0 .u8 lv l) (kv:Value) (ks:List Int) (hks:xI W0 kv ks) (hk1:1<=ks.length) (hk2:ks.length<=100) (hk3:∀k∈ks,1<=k/\k<=11) (vars dom:Nat) (hv1:1<=vars) (hv2:vars<=10) (hd1:2<=dom) (hd2:dom<=16) (d:Nat) (hd:d<=10):
  zgP W0 g lv kv vars dom d:=by
 obtain⟨ka,kc,hkv, -⟩:=zh.slice hks
 induction d with
 |zero=>exact zlk W0 g lv kv vars dom 0 (zll W0 g lv l hn kv ks hks hk1 hk2 hk3 vars dom hv1 hv2 hd1 hd2 0 (by omega) (λh=>by omega)) ka _ kc hkv
 |succ d ih=>exact zlk W0 g lv kv vars dom (d+1) (zll W0 g lv l hn kv ks hks hk1 hk2 hk3 vars dom hv1 hv2 hd1 hd2 (d+1) hd (λ_=>ih (by omega))) ka _ kc hkv
def zfr:List Int:= [1,2,1,2,3,4,5,6,7,8,9,10,11]
theorem zqF (w:World):Calls Tryz.prog 21 #[] w λe w'=>(∃kv,e= .returned kv/\xI w' kv zfr)/\Below w.heap.size w w':=by
 have hb:=(Below.refl w.heap.size w).alloc (Nat.le_refl _) (.cells #[.int .i64 1, .int .i64 2, .int .i64 1, .int .i64 2, .int .i64 3, .int .i64 4, .int .i64 5, .int .i64 6, .int .i64 7, .int .i64 8, .int .i64 9, .int .i64 10, .int .i64 11] 3)
 have hg:=yh w (.cells #[.int .i64 1, .int .i64 2, .int .i64 1, .int .i64 2, .int .i64 3, .int .i64 4, .int .i64 5, .int .i64 6, .int .i64 7, .int .i64 8, .int .i64 9, .int .i64 10, .int .i64 11] 3)
 have hr:=gH (w:=w.alloc (.cells #[.int .i64 1, .int .i64 2, .int .i64 1, .int .i64 2, .int .i64 3, .int .i64 4, .int .i64 5, .int .i64 6, .int .i64 7, .int .i64 8, .int .i64 9, .int .i64 10, .int .i64 11] 3)) (l:=zfr) (B:=0) (sv:= .slice (some ⟨w.heap.size,0,none⟩) 13 13) (gJ (n:=13) (cs:=zq yO zfr) hg (Nat.zero_le _) rfl (by decide))
 have HB:=qh hb
 have HR:=qh hr
 clear hb hg hr
 go_enter Tryz.func21,Tryz.ntmps21
 go_wp2_with fail
 go_ret
 exact⟨⟨_,rfl,HR.out⟩,HB.out⟩
def wQ:List Value:= [.string ⟨#[120]⟩, .string ⟨#[121]⟩, .string ⟨#[122]⟩]
theorem ztr {X:World} {gv n:Nat} (h:X.heap[gv]? =some (.cells wQ.toArray 9 (0,0))) (hn:n<=3):zd5 X (.slice (some ⟨gv,0,none⟩) n 3) (xyz.take n):=by
 have hl:(xyz.take n).length=n:=by rw [List.length_take];simp [xyz];omega
 refine⟨_,3,by rw [hl],by rw [hl];omega,λj hj=> ?_⟩
 rw [hl] at hj
 have e:(xyz.take n).getD j default=xyz.getD j default:=by simp only [List.getD_eq_getElem?_getD,List.getElem?_take_of_lt hj]
 have hj3:j=0\/j=1\/j=2:=by omega
 rw [e]
 rcases hj3 with rfl|rfl|rfl
 ·refine⟨gv,0, [.string ⟨#[120]⟩],rfl,zw h,rfl,λi hi=> ?_,rfl⟩
  obtain rfl:i=0:=by omega
  rw [ze h];rfl
 ·refine⟨gv,0, [.string ⟨#[121]⟩],rfl,zw h,rfl,λi hi=> ?_,rfl⟩
  obtain rfl:i=0:=by omega
  rw [ze h];rfl
 refine⟨gv,0, [.string ⟨#[122]⟩],rfl,zw h,rfl,λi hi=> ?_,rfl⟩
 obtain rfl:i=0:=by omega
 rw [ze h];rfl
def PF (va:Value) (g gp gr:Nat) (k:Nat):Prop:=va.ownBlock=some k\/k=g\/k=gp\/k=gr
structure wE (w X:World) (g gv gp gr:Nat) (sv:Value) (n dm i:Nat) (va:Value) (T:List (List zM)) (css:List (List Value)):Prop where
 yt:∃a',vD w X g sv a'/\a'<=10+i*5000
 box:X.heap[gp]? =some (.cells #[.slice (some ⟨gv,0,none⟩) n 3, .int .i64 dm,va] 92 (0,0))
 vars:X.heap[gv]? =some (.cells wQ.toArray 9 (0,0))
 res:X.heap[gr]? =some (.cells #[.slice none 0 0, .int .i64 0, .slice none 0 0] 92 (0,0))
 lo:w.heap.size<=g/\w.heap.size<=gv/\w.heap.size<=gp/\w.heap.size<=gr/\g≠gp/\g≠gr/\gp≠gr/\gv≠g/\gv≠gp/\gv≠gr
 len:T.length=i
 ok:∀l∈T,xA n dm l 20=true/\yH l<=52
 row:yV (PF va g gp gr) X (ziT 3 4) 1 w.heap.size 129 va T css
section
variable {w X Y:World} {g gv gp gr:Nat} {sv:Value} {n dm i:Nat} {va:Value} {T:List (List zM)} {css:List (List Value)}
theorem wE.own_ne (h:wE w X g gv gp gr sv n dm i va T css):∀k,va.ownBlock=some k->k≠g/\k≠gp/\k≠gr/\k≠gv:=λk hk=>by
 obtain⟨a',hm, -⟩:=h.yt
 exact⟨λe=>by subst e;exact uo h.row.row hk hm.box (by decide),λe=>by subst e;exact uo h.row.row hk h.box (by decide),λe=>by subst e;exact uo h.row.row hk h.res (by decide),λe=>by subst e;exact uo h.row.row hk h.vars (by decide)⟩
theorem wE.lt (h:wE w X g gv gp gr sv n dm i va T css):∀k,PF va g gp gr k->k<X.heap.size:=λk hk=>by
 obtain⟨a',hm, -⟩:=h.yt
 rcases hk with hk|rfl|rfl|rfl
 ·exact(h.row.row.lt k hk).2
 ·exact zw hm.box
 ·exact zw h.box
 exact zw h.res
theorem wE.push {xc ln rc a1 oc:Nat} {Z:World} {oa ra xa:Option Addr} {l:List zM} {o:Obj} (h:wE w X g gv gp gr sv n dm i (.slice oa i oc) T css) (hs:Since (λk=>k=g) X Y) (hm:vD w Y g sv a1) (ha:a1<=10+i*5000+5000) (hok:xA n dm l 20=true/\yH l<=52) (hlen:l.length=ln)
  (haw:zX (λk=>k<X.heap.size) Y (λy=>yD 3 4 y l (.slice ra ln rc))) (h1:Z.ownsRow w.heap.size 129 1 (.slice xa (i+1) xc) (i+1) (css.flatten++ [.slice ra ln rc])) (h4:Since (λk=>(Value.slice oa i oc).ownBlock=some k) (Y.alloc o) Z) (h5:∀k,(Value.slice xa (i+1) xc).ownBlock=some k->(Value.slice oa i oc).ownBlock=some k\/k=(Y.alloc o).heap.size):
  Z.heap[gp]? =some (.cells #[.slice (some ⟨gv,0,none⟩) n 3, .int .i64 dm, .slice oa i oc] 92 (0,0))/\wE w (Z.setCell ⟨gp,2,none⟩ (.slice xa (i+1) xc)) g gv gp gr sv n dm (i+1) (.slice xa (i+1) xc) (T++ [l]) (css++ [[.slice ra ln rc]]):=by
 have hlo:=h.lo
 have hne:=h.own_ne
 have hlt:=h.lt
 have s1:Since (λk=>(Value.slice oa i oc).ownBlock=some k) Y Z:=((Since.refl _ Y).alloc o).trans h4 (λk hk=> .inl hk)
 have s2:Since (λk=>k=gp) Z (Z.setCell ⟨gp,2,none⟩ (.slice xa (i+1) xc)):=Since.setCell (F:=λk=>k=gp) (p:=⟨gp,2,none⟩) (Since.refl _ _) (.inl rfl) _
 have s3:Since (λk=>(Value.slice oa i oc).ownBlock=some k\/k=gp) Y (Z.setCell ⟨gp,2,none⟩ (.slice xa (i+1) xc)):=(s1.mono (λk _ hk=> .inl hk)).trans s2 (λk hk=> .inl (.inr hk))
 have zts:=(hs.block _ (zw h.box) (by omega)).trans h.box
 have zvQ:=(hs.block _ (zw h.vars) (by omega)).trans h.vars
 have zyx:=(hs.block _ (zw h.res) (by omega)).trans h.res
 have bg:=(s1.block _ (zw zts) (λe=>(hne _ e).2.1 rfl)).trans zts
 have hvars:=(s1.block _ (zw zvQ) (λe=>(hne _ e).2.2.2 rfl)).trans zvQ
 have hres:=(s1.block _ (zw zyx) (λe=>(hne _ e).2.2.1 rfl)).trans zyx
 have hnew:∀k,(Value.slice xa (i+1) xc).ownBlock=some k->k≠gp:=λk hk e=>by
  rcases h5 k hk with h1|h1
  ·exact(hne k h1).2.1 e
  have:=zw zts;simp at h1;omega
 refine⟨bg,⟨⟨a1,hm.since s3 (λk hk=> ?_),by omega⟩, ?_,(s2.block _ (zw hvars) (by omega)).trans hvars,(s2.block _ (zw hres) (by omega)).trans hres,hlo,by simp [h.len],λy hy=> ?_, ?_⟩⟩
 ·rcases hk with hk|hk
  ·have:=(h.row.row.lt k hk).1;have:=(hne k hk).1;omega
  omega
 ·have:=zu bg 2 (.slice xa (i+1) xc);simpa using this
 ·rcases List.mem_append.1 hy with hy|hy
  ·exact h.ok y hy
  rw [List.mem_singleton] at hy;subst hy;exact hok
 have hrow:=h.row.step (F':=PF (.slice oa i oc) g gp gr) hs (λk hk e=>(hne k hk).1 e) (λk hk=> .inl (.inr (.inl hk))) (λk hk=> .inl hk)
 refine hrow.push s3 (λk hk=> ?_) (λk hk=> ?_) (λy hy=>⟨_,rfl,haw y (hy.mono (λk _ hk=>hlt k hk))⟩) rfl ?_
 ·rcases hk with hk|hk
  ·exact .inl (.inl hk)
  exact .inl (.inr (.inr (.inl hk)))
 ·rcases hk with hk|hk|hk|hk
  ·rcases h5 k hk with h1|h1
   ·exact .inl (.inl h1)
   exact .inr (by simp at h1;omega)
  ·exact .inl (.inr (.inl hk))
  ·exact .inl (.inr (.inr (.inl hk)))
  exact .inl (.inr (.inr (.inr hk)))
 rw [h.len];exact s2.row h1 hnew
end
def zn1 (w:World) (en:Ending) (w':World):Prop:=(∃p vv tv,en= .returned (zfH p vv tv)/\zfG p/\zdo 3 4 w' p vv tv)/\Below w.heap.size w w'
theorem zyy {T:List (List zM)} (h:∀l∈T,yH l<=52):(T.map yH).sum<=T.length*52:=by
 induction T with
 |nil=>simp
 |cons l T ih=>
 have h1:=h l (by simp)
 have h2:=ih (λx hx=>h x (by simp [hx]))
 simp only [List.map_cons,List.sum_cons,List.length_cons];omega
theorem zoE {w X:World} {g gv gp gr:Nat} {sv:Value} {n dm i oc:Nat} {oa:Option Addr} {T:List (List zM)} {css:List (List Value)} (h:wE w X g gv gp gr sv n dm i (.slice oa i oc) T css) (hn1:1<=n) (hn3:n<=3) (hd1:2<=dm) (hd2:dm<=16) (hi1:1<=i) (hi3:i<=3):
  zn1 w (.returned (.agg #[.slice (some ⟨gv,0,none⟩) n 3, .int .i64 dm, .slice oa i oc])) (yG X gr 0 [.slice (some ⟨gv,0,none⟩) n 3, .int .i64 dm, .slice oa i oc])/\
  (yG X gr 0 [.slice (some ⟨gv,0,none⟩) n 3, .int .i64 dm, .slice oa i oc]).heap[gr]? =some (.cells #[.slice (some ⟨gv,0,none⟩) n 3, .int .i64 dm, .slice oa i oc] 92 (0,0)):=by
 have hlo:=h.lo
 have s:=qj (g:=gr) [.slice (some ⟨gv,0,none⟩) n 3, .int .i64 dm, .slice oa i oc] X 0
 have hvl:(xyz.take n).length=n:=by rw [List.length_take];simp [xyz];omega
 obtain⟨a',hm, -⟩:=h.yt
 have hl:=h.len
 refine⟨⟨⟨⟨xyz.take n,dm,T⟩, .slice (some ⟨gv,0,none⟩) n 3, .slice oa i oc,rfl,⟨⟨n,hn1,hn3,rfl⟩,⟨by show(2:Int)<=(dm:Int);omega,by show(dm:Int)<=16;omega⟩,⟨by show 1<=T.length;omega,by show T.length<=3;omega⟩,λl hl=> ?_, ?_⟩,⟨?_, ?_⟩⟩,hm.below.trans (s.below hm.below.size (λk hk=>by omega))⟩, ?_⟩
 ·show xA ((xyz.take n).length:Nat) dm l 20=true
  rw [hvl];exact(h.ok l hl).1
 ·have:=zyy (λl hl=>(h.ok l hl).2)
  show(T.map yH).sum<=200
  omega
 ·exact ztr ((s.block _ (zw h.vars) (by omega)).trans h.vars) hn3
 ·exact(h.row.step (F':=λ_=>False) s (λk hk e=>(h.own_ne k hk).2.2.1 e) (λk hk=> .inl (.inr (.inr (.inr hk)))) (λ_ h=>h.elim)).slice
 exact vZ (cs:= [.slice none 0 0, .int .i64 0, .slice none 0 0]) _ rfl h.res
end Go.Proofs.YtliajkheeniljaaGreatDoor
namespace Go.Proofs.YtliajkheeniljaaGreatDoor
open Go.RowKit
set_option maxRecDepth 100000
set_option maxHeartbeats 16000000
structure R2 (w X:World) (g gr:Nat) (sv:Value) (a:Nat) (mv mp:Option Nat):Prop where
 yt:vD w X g sv a
 res:X.heap[gr]? =some (.cells #[.slice none 0 0, .int .i64 0, .slice none 0 0] 92 (0,0))
 lo:w.heap.size<=gr/\g≠gr
 vars:∀b,mv=some b->X.heap[b]? =some (.cells wQ.toArray 9 (0,0))/\w.heap.size<=b/\b≠g/\b≠gr
 prog:∀b,mp=some b->X.heap[b]? =some (.cells #[.slice none 0 0, .int .i64 0, .slice none 0 0] 92 (0,0))/\w.heap.size<=b/\b≠g/\b≠gr
 ne:∀b c,mv=some b->mp=some c->b≠c
section
variable {w X Y:World} {g gr a b:Nat} {sv:Value} {mv mp:Option Nat}
theorem R2.pick (h:R2 w X g gr sv a mv mp) (hm:vD w Y g sv b) (hs:Since (λk=>k=g) X Y):R2 w Y g gr sv b mv mp:=
 ⟨hm,(hs.block _ (zw h.res) (λe=>h.lo.2 e.symm)).trans h.res,h.lo,λc hc=>⟨(hs.block _ (zw (h.vars c hc).1) (h.vars c hc).2.2.1).trans (h.vars c hc).1,(h.vars c hc).2⟩,λc hc=>⟨(hs.block _ (zw (h.prog c hc).1) (h.prog c hc).2.2.1).trans (h.prog c hc).1,(h.prog c hc).2⟩,h.ne⟩
theorem R2.names (h:R2 w X g gr sv a none mp):R2 w (X.alloc (.cells wQ.toArray 9)) g gr sv a (some X.heap.size) mp:=by
 have hb:=(Below.refl X.heap.size X).alloc (Nat.le_refl _) (.cells wQ.toArray 9)
 have h1:=h.yt.below.size
 have h2:=zw h.yt.box
 have h3:=zw h.res
 refine⟨h.yt.later hb,(hb.block _ h3).trans h.res,h.lo,λc hc=> ?_,λc hc=>⟨(hb.block _ (zw (h.prog c hc).1)).trans (h.prog c hc).1,(h.prog c hc).2⟩,λc e hc he=> ?_⟩
 ·cases hc;exact⟨yh X _,h1,by omega,by omega⟩
 cases hc;have:=zw (h.prog e he).1;omega
theorem R2.box (h:R2 w X g gr sv a mv none):R2 w (X.alloc (.cells #[.slice none 0 0, .int .i64 0, .slice none 0 0] 92)) g gr sv a mv (some X.heap.size):=by
 have hb:=(Below.refl X.heap.size X).alloc (Nat.le_refl _) (.cells #[.slice none 0 0, .int .i64 0, .slice none 0 0] 92)
 have h1:=h.yt.below.size
 have h2:=zw h.yt.box
 have h3:=zw h.res
 refine⟨h.yt.later hb,(hb.block _ h3).trans h.res,h.lo,λc hc=>⟨(hb.block _ (zw (h.vars c hc).1)).trans (h.vars c hc).1,(h.vars c hc).2⟩,λc hc=> ?_,λc e hc he=> ?_⟩
 ·cases hc;exact⟨yh X _,h1,by omega,by omega⟩
 cases he;have:=zw (h.vars c hc).1;omega
theorem R2.done {gv gp n dm:Nat} (h:R2 w X g gr sv a (some gv) (some gp)) (ha:a<=9):wE w (yG X gp 0 [.slice (some ⟨gv,0,none⟩) n 3, .int .i64 dm, .slice none 0 0]) g gv gp gr sv n dm 0 (.slice none 0 0) [] [] /\∃a,vD w (yG X gp 0 [.slice (some ⟨gv,0,none⟩) n 3, .int .i64 dm, .slice none 0 0]) g sv a/\a<=9:=by
 obtain⟨v1,v2,v3,v4⟩:=h.vars gv rfl
 obtain⟨p1,p2,p3,p4⟩:=h.prog gp rfl
 have hne:=h.ne gv gp rfl rfl
 have hlo:=h.lo
 have hg:=h.yt.lo
 have s:=qj (g:=gp) [.slice (some ⟨gv,0,none⟩) n 3, .int .i64 dm, .slice none 0 0] X 0
 exact⟨⟨⟨a,h.yt.since s (λk hk=>by omega),by omega⟩,vZ (cs:= [.slice none 0 0, .int .i64 0, .slice none 0 0]) _ rfl p1,(s.block _ (zw v1) hne).trans v1,(s.block _ (zw h.res) (by omega)).trans h.res,⟨hg,v2,p2,hlo.1,by omega,by omega,by omega,by omega,by omega,by omega⟩,rfl,λl hl=>by simp at hl,yV.nil _ _ _ _ _ _⟩,a,h.yt.since s (λk hk=>by omega),ha⟩
end
theorem wE.picked {w X Y:World} {g gv gp gr n dm i b:Nat} {sv va:Value} {T:List (List zM)} {css:List (List Value)} (h:wE w X g gv gp gr sv n dm i va T css) (hs:Since (λk=>k=g) X Y) (hm:vD w Y g sv b) (hb:b<=10+i*5000):wE w Y g gv gp gr sv n dm i va T css:=by
 have hlo:=h.lo
 exact⟨⟨b,hm,hb⟩,(hs.block _ (zw h.box) (by omega)).trans h.box,(hs.block _ (zw h.vars) (by omega)).trans h.vars,(hs.block _ (zw h.res) (by omega)).trans h.res,hlo,h.len,h.ok,h.row.step hs (λk hk e=>(h.own_ne k hk).1 e) (λk hk=> .inl (.inr (.inl hk))) (λk hk=> .inl hk)⟩
theorem wE.drew {w X:World} {g gv gp gr n dm i:Nat} {sv va:Value} {T:List (List zM)} {css:List (List Value)} (h:wE w X g gv gp gr sv n dm i va T css):wE w X.drew g gv gp gr sv n dm i va T css:=by
 obtain⟨a,hm,ha⟩:=h.yt
 exact h.picked (Since.drew _ (Since.refl _ X)) (hm.later (Below.refl _ _).drew) ha
theorem zlm:(Tryz.prog.info? 92).map (·.size)=some 3:=by kernel_rfl
theorem zoF:(Tryz.prog.info? 129).map (λi=>(i.zero,i.size,i.bytes))=some (some (.slice none 0 0),1,24):=by kernel_rfl
theorem wrapN (n:Nat) (h:n<=100):IntKind.i64.wrap (n:Int)=(n:Int):=IntWalk.i64_in _ (by omega)
theorem zqG (w:World) (sv:Value) (l:List Int) (hn:jG w .u8 sv l) (kv:Value) (ks:List Int) (hks:xI w kv ks) (hk1:1<=ks.length) (hk2:ks.length<=100) (hk3:∀k∈ks,1<=k/\k<=11):
  Calls Tryz.prog 48 #[sv,kv] w (zn1 w):=by
 have hpick:=λW g a n ni hni h n1 n2 ha=>zgQ w W g sv l a n ni hni h hn n1 n2 ha
 have hlist:=λg vars dom hv1 hv2 hd1 hd2=>ztq w g sv l hn kv ks hks hk1 hk2 hk3 vars dom hv1 hv2 hd1 hd2 2 (by omega)
 have wJ:4*jP 2=1040:=rfl
 have z4B:4*zak 2=52:=rfl
 have zhL:∀(g vars dom:Nat),1<=vars->vars<=10->2<=dom->dom<=16->∀(W:World) (a n:Nat),vD w W g sv a->n<=4->a<=100000->Calls Tryz.prog 78 #[.pointer (some ⟨g,0,none⟩), .int .i64 n, .int .i64 2, .int .i64 vars, .int .i64 dom,kv] W λe w'=>∃(L:List zM) (va:Option Addr) (vc a':Nat),e= .returned (.slice va L.length vc)/\(xA vars dom L 20=true/\yH L<=52)/\
   zX (λk=>k<W.heap.size) w' (λy=>yD 3 4 y L (.slice va L.length vc))/\vD w w' g sv a'/\a'<=a+1040/\Since (λk=>k=g) W w':=λg vars dom hv1 hv2 hd1 hd2 W a n hm bL ha=>by
  refine(hlist g vars dom hv1 hv2 hd1 hd2 W a n 4 n rfl hm bL (by omega) (by omega)).mono ?_
  rintro e w' ⟨L,va,vc,a',h1,h2,h3,h4,h5,h6,h7⟩
  exact⟨L,va,vc,a',h1,⟨zoG h2 (by omega),by omega⟩,h4,h5,by omega,h7⟩
 obtain⟨sa,sc,rfl, -⟩:∃a c,sv= .slice a l.length c/\True:=by obtain⟨a,c,h, -⟩:=hn;exact⟨a,c,h,trivial⟩
 obtain⟨ka,kc,rfl, -⟩:=zh.slice hks
 generalize l.length=ln at hpick zhL ⊢
 generalize ks.length=kn at zhL ⊢
 have qY:=qh hpick
 have z1B:=qh zhL
 clear hpick hlist zhL wJ z4B hn hks hk1 hk2 hk3
 have hB:=((Below.refl w.heap.size w).alloc (Nat.le_refl _) (.cells #[.slice none 0 0, .int .i64 0, .slice none 0 0] 92)).alloc (by simp) (.cells #[.slice sa ln sc, .int .i64 0] 132)
 have H1:=xP w (.cells #[.slice none 0 0, .int .i64 0, .slice none 0 0] 92) (.cells #[.slice sa ln sc, .int .i64 0] 132)
 have H2:=xw w (.cells #[.slice none 0 0, .int .i64 0, .slice none 0 0] 92) (.cells #[.slice sa ln sc, .int .i64 0] 132)
 have HR:Hid (R2 w ((w.alloc (.cells #[.slice none 0 0, .int .i64 0, .slice none 0 0] 92)).alloc (.cells #[.slice sa ln sc, .int .i64 0] 132)) (w.heap.size+1) w.heap.size (.slice sa ln sc) 0 none none):=⟨⟨hB,by omega,H2⟩,H1,⟨Nat.le_refl _,by omega⟩,(λ_ h=>by cases h),(λ_ h=>by cases h),(λ_ _ h=>by cases h)⟩
 clear hB H1 H2
 go_enter Tryz.func48,Tryz.ntmps48
 go_upto_region 2 with fail
 generalize World.alloc (World.alloc w _) _=V at HR ⊢
 generalize w.heap.size+1=g at HR ⊢
 obtain⟨gr,hgr⟩:∃gr,gr=w.heap.size:=⟨_,rfl⟩
 rw [<-hgr] at HR ⊢
 have uf:=qh hgr
 clear hgr
 go_cut [6] (λs6 w'=>∃gv gp n dm:Nat,s6= .pointer (some ⟨gp,0,none⟩)/\1<=n/\n<=3/\2<=dm/\dm<=4/\Hid (wE w w' g gv gp gr (.slice sa ln sc) n dm 0 (.slice none 0 0) [] [])/\Hid (∃a,vD w w' g (.slice sa ln sc) a/\a<=9))
 case first=>
  have hT0:Hid (R2 w V.drew g w.heap.size (.slice sa ln sc) 0 none none):=by have h:=HR.out;rw [uf.out] at h;exact h.pick (h.yt.later (Below.refl _ _).drew) (Since.drew _ (Since.refl _ _))
  rw [<-uf.out] at hT0
  clear HR
  refine qL (S:=λx=>Below w.heap.size w x) hT0.out.yt.below (λ_=> ?_)
  obtain⟨V1,hV1⟩:∃V1,V1=V.drew:=⟨_,rfl⟩
  rw [<-hV1]
  rw [<-hV1] at hT0
  clear hV1
  refine zD 1 zQ (hT0.out.yt.below) ?_
  refine zD 5 zQ (hT0.out.yt.below) ?_
  refine wpAnyH_ready (rs:= [0,2,9]) (by kernel_rfl) (by simp) ?_
  refine AllReadyH.cons rfl (λK hK=> ?_) (AllReadyH.cons rfl (λK hK=> ?_) (AllReadyH.cons rfl (λK hK=> ?_) AllReadyH.nil))
  ·skip
   go_simp
   have zee:=hT0.out.names
   unfold wQ at zee
   refine hK.out _ _ zee.yt.below (λ_=> ?_)
   obtain⟨gv,hgv⟩:∃n,n=V1.heap.size:=⟨_,rfl⟩
   rw [<-hgv] at zee ⊢
   clear hgv
   generalize World.alloc V1 _=Xp2 at zee ⊢
   replace zee:=qh zee
   clear hK K
   refine wpAnyH_ready (rs:= [2,9]) (by kernel_rfl) (by simp) ?_
   refine AllReadyH.cons rfl (λK hK=> ?_) (AllReadyH.cons rfl (λK hK=> ?_) AllReadyH.nil)
   ·skip
    go_simp
    refine(qY.out Xp2 g _ 3 3 rfl zee.out.yt (by omega) (by omega) (by omega)).mono ?_
    rintro en Xp4 ⟨r1,hr1,rfl,hmk,hsi⟩
    have ziU:=qh (zee.out.pick hmk hsi)
    clear hmk hsi
    refine hK.out _ _ ziU.out.yt.below (λ_=> ?_)
    obtain⟨n,hn⟩:∃n:Nat,(1:Int)+(r1:Int)=(n:Int):=⟨1+r1,by omega⟩
    have bn1:1<=n:=by omega
    have bn2:n<=3:=by omega
    have wn:=wrapN n (by omega)
    have zn:(0:Int)<=(n:Int):=by omega
    have yn:(n:Int)<=3:=by omega
    clear hK K
    refine zD 3 zQ (ziU.out.yt.below) ?_
    refine zD 4 zQ (ziU.out.yt.below) ?_
    refine wpAnyH_ready (rs:= [6,9]) (by kernel_rfl) (by simp) ?_
    refine AllReadyH.cons rfl (λK hK=> ?_) (AllReadyH.cons rfl (λK hK=> ?_) AllReadyH.nil)
    ·skip
     go_simp
     refine(qY.out Xp4 g _ 3 3 rfl ziU.out.yt (by omega) (by omega) (by omega)).mono ?_
     rintro en Xp6 ⟨r2,hr2,rfl,hmk,hsi⟩
     have zoH:=qh (ziU.out.pick hmk hsi)
     clear hmk hsi
     refine hK.out _ _ zoH.out.yt.below (λ_=> ?_)
     obtain⟨dm,pU⟩:∃n:Nat,(2:Int)+(r2:Int)=(n:Int):=⟨2+r2,by omega⟩
     have zdf:2<=dm:=by omega
     have zdg:dm<=4:=by omega
     have pV:=wrapN dm (by omega)
     have zdm:(0:Int)<=(dm:Int):=by omega
     skip
     clear hK K
     refine zD 7 zQ (zoH.out.yt.below) ?_
     refine zD 8 zQ (zoH.out.yt.below) ?_
     refine yu 9 rfl (λK hK=> ?_)
     go_simp
     have zgR:=zoH.out.box
     refine hK.out _ _ zgR.yt.below (λ_=> ?_)
     obtain⟨gp,ug⟩:∃n,n=Xp6.heap.size:=⟨_,rfl⟩
     rw [<-ug] at zgR ⊢
     clear ug
     generalize World.alloc Xp6 _=Xp8 at zgR ⊢
     replace zgR:=qh zgR
     clear hK K
     refine yu 10 rfl (λK hK=> ?_)
     obtain⟨hp, -, -, -⟩:=zgR.out.prog gp rfl
     have q0:Xp8.cell? ⟨gp,0,none⟩=some (.slice none 0 0):=ze hp 0
     have f0:=zB hp 0
     have q1:Xp8.cell? ⟨gp,1,none⟩=some (.int .i64 0):=ze hp 1
     have f1:=zB hp 1
     have q2:Xp8.cell? ⟨gp,2,none⟩=some (.slice none 0 0):=ze hp 2
     have f2:=zB hp 2
     clear hp
     go_simp
     have hend:=zgR.out.done (n:=n) (dm:=dm) (by omega)
     have zT:=qh hend
     refine hK.out _ _ (by obtain⟨a',hm, -⟩:=hend.2;exact hm.below) (λ_=> ?_)
     clear hend q0 q1 q2 f0 f1 f2
     clear hK K
     refine xJ ?_
     clear hn pU wn pV
     go_wp2_with fail
     go_meet
     case rel=>exact⟨gv,gp,n,dm,rfl,by omega,by omega,by omega,by omega,zT.out.1,zT.out.2⟩
    skip
    go_simp
    have zgS:=ziU.out.box
    refine hK.out _ _ zgS.yt.below (λ_=> ?_)
    obtain⟨gp,ug⟩:∃n,n=Xp4.heap.size:=⟨_,rfl⟩
    rw [<-ug] at zgS ⊢
    clear ug
    generalize World.alloc Xp4 _=z4C at zgS ⊢
    replace zgS:=qh zgS
    clear hK K
    refine yu 6 rfl (λK hK=> ?_)
    go_simp
    refine(qY.out z4C g _ 3 3 rfl zgS.out.yt (by omega) (by omega) (by omega)).mono ?_
    rintro en ztt ⟨r2,hr2,rfl,hmk,hsi⟩
    have zhM:=qh (zgS.out.pick hmk hsi)
    clear hmk hsi
    refine hK.out _ _ zhM.out.yt.below (λ_=> ?_)
    obtain⟨dm,pU⟩:∃n:Nat,(2:Int)+(r2:Int)=(n:Int):=⟨2+r2,by omega⟩
    have zdf:2<=dm:=by omega
    have zdg:dm<=4:=by omega
    have pV:=wrapN dm (by omega)
    have zdm:(0:Int)<=(dm:Int):=by omega
    skip
    clear hK K
    refine zD 7 zQ (zhM.out.yt.below) ?_
    refine zD 8 zQ (zhM.out.yt.below) ?_
    refine yu 10 rfl (λK hK=> ?_)
    obtain⟨hp, -, -, -⟩:=zhM.out.prog gp rfl
    have q0:ztt.cell? ⟨gp,0,none⟩=some (.slice none 0 0):=ze hp 0
    have f0:=zB hp 0
    have q1:ztt.cell? ⟨gp,1,none⟩=some (.int .i64 0):=ze hp 1
    have f1:=zB hp 1
    have q2:ztt.cell? ⟨gp,2,none⟩=some (.slice none 0 0):=ze hp 2
    have f2:=zB hp 2
    clear hp
    go_simp
    have hend:=zhM.out.done (n:=n) (dm:=dm) (by omega)
    have zT:=qh hend
    refine hK.out _ _ (by obtain⟨a',hm, -⟩:=hend.2;exact hm.below) (λ_=> ?_)
    clear hend q0 q1 q2 f0 f1 f2
    clear hK K
    refine xJ ?_
    clear hn pU wn pV
    go_wp2_with fail
    go_meet
    case rel=>exact⟨gv,gp,n,dm,rfl,by omega,by omega,by omega,by omega,zT.out.1,zT.out.2⟩
   skip
   go_simp
   have zef:=zee.out.box
   refine hK.out _ _ zef.yt.below (λ_=> ?_)
   obtain⟨gp,ug⟩:∃n,n=Xp2.heap.size:=⟨_,rfl⟩
   rw [<-ug] at zef ⊢
   clear ug
   generalize World.alloc Xp2 _=z4D at zef ⊢
   replace zef:=qh zef
   clear hK K
   refine yu 2 rfl (λK hK=> ?_)
   go_simp
   refine(qY.out z4D g _ 3 3 rfl zef.out.yt (by omega) (by omega) (by omega)).mono ?_
   rintro en z4E ⟨r1,hr1,rfl,hmk,hsi⟩
   have zhN:=qh (zef.out.pick hmk hsi)
   clear hmk hsi
   refine hK.out _ _ zhN.out.yt.below (λ_=> ?_)
   obtain⟨n,hn⟩:∃n:Nat,(1:Int)+(r1:Int)=(n:Int):=⟨1+r1,by omega⟩
   have bn1:1<=n:=by omega
   have bn2:n<=3:=by omega
   have wn:=wrapN n (by omega)
   have zn:(0:Int)<=(n:Int):=by omega
   have yn:(n:Int)<=3:=by omega
   clear hK K
   refine zD 3 zQ (zhN.out.yt.below) ?_
   refine zD 4 zQ (zhN.out.yt.below) ?_
   refine yu 6 rfl (λK hK=> ?_)
   go_simp
   refine(qY.out z4E g _ 3 3 rfl zhN.out.yt (by omega) (by omega) (by omega)).mono ?_
   rintro en ztu ⟨r2,hr2,rfl,hmk,hsi⟩
   have zhO:=qh (zhN.out.pick hmk hsi)
   clear hmk hsi
   refine hK.out _ _ zhO.out.yt.below (λ_=> ?_)
   obtain⟨dm,pU⟩:∃n:Nat,(2:Int)+(r2:Int)=(n:Int):=⟨2+r2,by omega⟩
   have zdf:2<=dm:=by omega
   have zdg:dm<=4:=by omega
   have pV:=wrapN dm (by omega)
   have zdm:(0:Int)<=(dm:Int):=by omega
   skip
   clear hK K
   refine zD 7 zQ (zhO.out.yt.below) ?_
   refine zD 8 zQ (zhO.out.yt.below) ?_
   refine yu 10 rfl (λK hK=> ?_)
   obtain⟨hp, -, -, -⟩:=zhO.out.prog gp rfl
   have q0:ztu.cell? ⟨gp,0,none⟩=some (.slice none 0 0):=ze hp 0
   have f0:=zB hp 0
   have q1:ztu.cell? ⟨gp,1,none⟩=some (.int .i64 0):=ze hp 1
   have f1:=zB hp 1
   have q2:ztu.cell? ⟨gp,2,none⟩=some (.slice none 0 0):=ze hp 2
   have f2:=zB hp 2
   clear hp
   go_simp
   have hend:=zhO.out.done (n:=n) (dm:=dm) (by omega)
   have zT:=qh hend
   refine hK.out _ _ (by obtain⟨a',hm, -⟩:=hend.2;exact hm.below) (λ_=> ?_)
   clear hend q0 q1 q2 f0 f1 f2
   clear hK K
   refine xJ ?_
   clear hn pU wn pV
   go_wp2_with fail
   go_meet
   case rel=>exact⟨gv,gp,n,dm,rfl,by omega,by omega,by omega,by omega,zT.out.1,zT.out.2⟩
  ·skip
   go_simp
   refine(qY.out V1 g _ 3 3 rfl hT0.out.yt (by omega) (by omega) (by omega)).mono ?_
   rintro en zln ⟨r1,hr1,rfl,hmk,hsi⟩
   have zfM:=qh (hT0.out.pick hmk hsi)
   clear hmk hsi
   refine hK.out _ _ zfM.out.yt.below (λ_=> ?_)
   obtain⟨n,hn⟩:∃n:Nat,(1:Int)+(r1:Int)=(n:Int):=⟨1+r1,by omega⟩
   have bn1:1<=n:=by omega
   have bn2:n<=3:=by omega
   have wn:=wrapN n (by omega)
   have zn:(0:Int)<=(n:Int):=by omega
   have yn:(n:Int)<=3:=by omega
   clear hK K
   refine zD 3 zQ (zfM.out.yt.below) ?_
   refine wpAnyH_ready (rs:= [0,6,9]) (by kernel_rfl) (by simp) ?_
   refine AllReadyH.cons rfl (λK hK=> ?_) (AllReadyH.cons rfl (λK hK=> ?_) (AllReadyH.cons rfl (λK hK=> ?_) AllReadyH.nil))
   ·skip
    go_simp
    have zbb:=zfM.out.names
    unfold wQ at zbb
    refine hK.out _ _ zbb.yt.below (λ_=> ?_)
    obtain⟨gv,hgv⟩:∃n,n=zln.heap.size:=⟨_,rfl⟩
    rw [<-hgv] at zbb ⊢
    clear hgv
    generalize World.alloc zln _=ztv at zbb ⊢
    replace zbb:=qh zbb
    clear hK K
    refine zD 4 zQ (zbb.out.yt.below) ?_
    refine wpAnyH_ready (rs:= [6,9]) (by kernel_rfl) (by simp) ?_
    refine AllReadyH.cons rfl (λK hK=> ?_) (AllReadyH.cons rfl (λK hK=> ?_) AllReadyH.nil)
    ·skip
     go_simp
     refine(qY.out ztv g _ 3 3 rfl zbb.out.yt (by omega) (by omega) (by omega)).mono ?_
     rintro en zy2 ⟨r2,hr2,rfl,hmk,hsi⟩
     have zkv:=qh (zbb.out.pick hmk hsi)
     clear hmk hsi
     refine hK.out _ _ zkv.out.yt.below (λ_=> ?_)
     obtain⟨dm,pU⟩:∃n:Nat,(2:Int)+(r2:Int)=(n:Int):=⟨2+r2,by omega⟩
     have zdf:2<=dm:=by omega
     have zdg:dm<=4:=by omega
     have pV:=wrapN dm (by omega)
     have zdm:(0:Int)<=(dm:Int):=by omega
     skip
     clear hK K
     refine zD 7 zQ (zkv.out.yt.below) ?_
     refine zD 8 zQ (zkv.out.yt.below) ?_
     refine yu 9 rfl (λK hK=> ?_)
     go_simp
     have zeg:=zkv.out.box
     refine hK.out _ _ zeg.yt.below (λ_=> ?_)
     obtain⟨gp,ug⟩:∃n,n=zy2.heap.size:=⟨_,rfl⟩
     rw [<-ug] at zeg ⊢
     clear ug
     generalize World.alloc zy2 _=ztw at zeg ⊢
     replace zeg:=qh zeg
     clear hK K
     refine yu 10 rfl (λK hK=> ?_)
     obtain⟨hp, -, -, -⟩:=zeg.out.prog gp rfl
     have q0:ztw.cell? ⟨gp,0,none⟩=some (.slice none 0 0):=ze hp 0
     have f0:=zB hp 0
     have q1:ztw.cell? ⟨gp,1,none⟩=some (.int .i64 0):=ze hp 1
     have f1:=zB hp 1
     have q2:ztw.cell? ⟨gp,2,none⟩=some (.slice none 0 0):=ze hp 2
     have f2:=zB hp 2
     clear hp
     go_simp
     have hend:=zeg.out.done (n:=n) (dm:=dm) (by omega)
     have zT:=qh hend
     refine hK.out _ _ (by obtain⟨a',hm, -⟩:=hend.2;exact hm.below) (λ_=> ?_)
     clear hend q0 q1 q2 f0 f1 f2
     clear hK K
     refine xJ ?_
     clear hn pU wn pV
     go_wp2_with fail
     go_meet
     case rel=>exact⟨gv,gp,n,dm,rfl,by omega,by omega,by omega,by omega,zT.out.1,zT.out.2⟩
    skip
    go_simp
    have zeh:=zbb.out.box
    refine hK.out _ _ zeh.yt.below (λ_=> ?_)
    obtain⟨gp,ug⟩:∃n,n=ztv.heap.size:=⟨_,rfl⟩
    rw [<-ug] at zeh ⊢
    clear ug
    generalize World.alloc ztv _=z4F at zeh ⊢
    replace zeh:=qh zeh
    clear hK K
    refine yu 6 rfl (λK hK=> ?_)
    go_simp
    refine(qY.out z4F g _ 3 3 rfl zeh.out.yt (by omega) (by omega) (by omega)).mono ?_
    rintro en ztx ⟨r2,hr2,rfl,hmk,hsi⟩
    have zhP:=qh (zeh.out.pick hmk hsi)
    clear hmk hsi
    refine hK.out _ _ zhP.out.yt.below (λ_=> ?_)
    obtain⟨dm,pU⟩:∃n:Nat,(2:Int)+(r2:Int)=(n:Int):=⟨2+r2,by omega⟩
    have zdf:2<=dm:=by omega
    have zdg:dm<=4:=by omega
    have pV:=wrapN dm (by omega)
    have zdm:(0:Int)<=(dm:Int):=by omega
    skip
    clear hK K
    refine zD 7 zQ (zhP.out.yt.below) ?_
    refine zD 8 zQ (zhP.out.yt.below) ?_
    refine yu 10 rfl (λK hK=> ?_)
    obtain⟨hp, -, -, -⟩:=zhP.out.prog gp rfl
    have q0:ztx.cell? ⟨gp,0,none⟩=some (.slice none 0 0):=ze hp 0
    have f0:=zB hp 0
    have q1:ztx.cell? ⟨gp,1,none⟩=some (.int .i64 0):=ze hp 1
    have f1:=zB hp 1
    have q2:ztx.cell? ⟨gp,2,none⟩=some (.slice none 0 0):=ze hp 2
    have f2:=zB hp 2
    clear hp
    go_simp
    have hend:=zhP.out.done (n:=n) (dm:=dm) (by omega)
    have zT:=qh hend
    refine hK.out _ _ (by obtain⟨a',hm, -⟩:=hend.2;exact hm.below) (λ_=> ?_)
    clear hend q0 q1 q2 f0 f1 f2
    clear hK K
    refine xJ ?_
    clear hn pU wn pV
    go_wp2_with fail
    go_meet
    case rel=>exact⟨gv,gp,n,dm,rfl,by omega,by omega,by omega,by omega,zT.out.1,zT.out.2⟩
   ·skip
    go_simp
    refine(qY.out zln g _ 3 3 rfl zfM.out.yt (by omega) (by omega) (by omega)).mono ?_
    rintro en zoI ⟨r2,hr2,rfl,hmk,hsi⟩
    have zkw:=qh (zfM.out.pick hmk hsi)
    clear hmk hsi
    refine hK.out _ _ zkw.out.yt.below (λ_=> ?_)
    obtain⟨dm,pU⟩:∃n:Nat,(2:Int)+(r2:Int)=(n:Int):=⟨2+r2,by omega⟩
    have zdf:2<=dm:=by omega
    have zdg:dm<=4:=by omega
    have pV:=wrapN dm (by omega)
    have zdm:(0:Int)<=(dm:Int):=by omega
    skip
    clear hK K
    refine zD 7 zQ (zkw.out.yt.below) ?_
    refine wpAnyH_ready (rs:= [0,9]) (by kernel_rfl) (by simp) ?_
    refine AllReadyH.cons rfl (λK hK=> ?_) (AllReadyH.cons rfl (λK hK=> ?_) AllReadyH.nil)
    ·skip
     go_simp
     have zbN:=zkw.out.names
     unfold wQ at zbN
     refine hK.out _ _ zbN.yt.below (λ_=> ?_)
     obtain⟨gv,hgv⟩:∃n,n=zoI.heap.size:=⟨_,rfl⟩
     rw [<-hgv] at zbN ⊢
     clear hgv
     generalize World.alloc zoI _=zy3 at zbN ⊢
     replace zbN:=qh zbN
     clear hK K
     refine zD 4 zQ (zbN.out.yt.below) ?_
     refine zD 8 zQ (zbN.out.yt.below) ?_
     refine yu 9 rfl (λK hK=> ?_)
     go_simp
     have zei:=zbN.out.box
     refine hK.out _ _ zei.yt.below (λ_=> ?_)
     obtain⟨gp,ug⟩:∃n,n=zy3.heap.size:=⟨_,rfl⟩
     rw [<-ug] at zei ⊢
     clear ug
     generalize World.alloc zy3 _=zty at zei ⊢
     replace zei:=qh zei
     clear hK K
     refine yu 10 rfl (λK hK=> ?_)
     obtain⟨hp, -, -, -⟩:=zei.out.prog gp rfl
     have q0:zty.cell? ⟨gp,0,none⟩=some (.slice none 0 0):=ze hp 0
     have f0:=zB hp 0
     have q1:zty.cell? ⟨gp,1,none⟩=some (.int .i64 0):=ze hp 1
     have f1:=zB hp 1
     have q2:zty.cell? ⟨gp,2,none⟩=some (.slice none 0 0):=ze hp 2
     have f2:=zB hp 2
     clear hp
     go_simp
     have hend:=zei.out.done (n:=n) (dm:=dm) (by omega)
     have zT:=qh hend
     refine hK.out _ _ (by obtain⟨a',hm, -⟩:=hend.2;exact hm.below) (λ_=> ?_)
     clear hend q0 q1 q2 f0 f1 f2
     clear hK K
     refine xJ ?_
     clear hn pU wn pV
     go_wp2_with fail
     go_meet
     case rel=>exact⟨gv,gp,n,dm,rfl,by omega,by omega,by omega,by omega,zT.out.1,zT.out.2⟩
    skip
    go_simp
    have zfN:=zkw.out.box
    refine hK.out _ _ zfN.yt.below (λ_=> ?_)
    obtain⟨gp,ug⟩:∃n,n=zoI.heap.size:=⟨_,rfl⟩
    rw [<-ug] at zfN ⊢
    clear ug
    generalize World.alloc zoI _=zy4 at zfN ⊢
    replace zfN:=qh zfN
    clear hK K
    refine yu 0 rfl (λK hK=> ?_)
    go_simp
    have zbe:=zfN.out.names
    unfold wQ at zbe
    refine hK.out _ _ zbe.yt.below (λ_=> ?_)
    obtain⟨gv,hgv⟩:∃n,n=zy4.heap.size:=⟨_,rfl⟩
    rw [<-hgv] at zbe ⊢
    clear hgv
    generalize World.alloc zy4 _=ztz at zbe ⊢
    replace zbe:=qh zbe
    clear hK K
    refine zD 4 zQ (zbe.out.yt.below) ?_
    refine zD 8 zQ (zbe.out.yt.below) ?_
    refine yu 10 rfl (λK hK=> ?_)
    obtain⟨hp, -, -, -⟩:=zbe.out.prog gp rfl
    have q0:ztz.cell? ⟨gp,0,none⟩=some (.slice none 0 0):=ze hp 0
    have f0:=zB hp 0
    have q1:ztz.cell? ⟨gp,1,none⟩=some (.int .i64 0):=ze hp 1
    have f1:=zB hp 1
    have q2:ztz.cell? ⟨gp,2,none⟩=some (.slice none 0 0):=ze hp 2
    have f2:=zB hp 2
    clear hp
    go_simp
    have hend:=zbe.out.done (n:=n) (dm:=dm) (by omega)
    have zT:=qh hend
    refine hK.out _ _ (by obtain⟨a',hm, -⟩:=hend.2;exact hm.below) (λ_=> ?_)
    clear hend q0 q1 q2 f0 f1 f2
    clear hK K
    refine xJ ?_
    clear hn pU wn pV
    go_wp2_with fail
    go_meet
    case rel=>exact⟨gv,gp,n,dm,rfl,by omega,by omega,by omega,by omega,zT.out.1,zT.out.2⟩
   skip
   go_simp
   have zcP:=zfM.out.box
   refine hK.out _ _ zcP.yt.below (λ_=> ?_)
   obtain⟨gp,ug⟩:∃n,n=zln.heap.size:=⟨_,rfl⟩
   rw [<-ug] at zcP ⊢
   clear ug
   generalize World.alloc zln _=zt0 at zcP ⊢
   replace zcP:=qh zcP
   clear hK K
   refine wpAnyH_ready (rs:= [0,6]) (by kernel_rfl) (by simp) ?_
   refine AllReadyH.cons rfl (λK hK=> ?_) (AllReadyH.cons rfl (λK hK=> ?_) AllReadyH.nil)
   ·skip
    go_simp
    have zbO:=zcP.out.names
    unfold wQ at zbO
    refine hK.out _ _ zbO.yt.below (λ_=> ?_)
    obtain⟨gv,hgv⟩:∃n,n=zt0.heap.size:=⟨_,rfl⟩
    rw [<-hgv] at zbO ⊢
    clear hgv
    generalize World.alloc zt0 _=z4G at zbO ⊢
    replace zbO:=qh zbO
    clear hK K
    refine zD 4 zQ (zbO.out.yt.below) ?_
    refine yu 6 rfl (λK hK=> ?_)
    go_simp
    refine(qY.out z4G g _ 3 3 rfl zbO.out.yt (by omega) (by omega) (by omega)).mono ?_
    rintro en zt1 ⟨r2,hr2,rfl,hmk,hsi⟩
    have zhQ:=qh (zbO.out.pick hmk hsi)
    clear hmk hsi
    refine hK.out _ _ zhQ.out.yt.below (λ_=> ?_)
    obtain⟨dm,pU⟩:∃n:Nat,(2:Int)+(r2:Int)=(n:Int):=⟨2+r2,by omega⟩
    have zdf:2<=dm:=by omega
    have zdg:dm<=4:=by omega
    have pV:=wrapN dm (by omega)
    have zdm:(0:Int)<=(dm:Int):=by omega
    skip
    clear hK K
    refine zD 7 zQ (zhQ.out.yt.below) ?_
    refine zD 8 zQ (zhQ.out.yt.below) ?_
    refine yu 10 rfl (λK hK=> ?_)
    obtain⟨hp, -, -, -⟩:=zhQ.out.prog gp rfl
    have q0:zt1.cell? ⟨gp,0,none⟩=some (.slice none 0 0):=ze hp 0
    have f0:=zB hp 0
    have q1:zt1.cell? ⟨gp,1,none⟩=some (.int .i64 0):=ze hp 1
    have f1:=zB hp 1
    have q2:zt1.cell? ⟨gp,2,none⟩=some (.slice none 0 0):=ze hp 2
    have f2:=zB hp 2
    clear hp
    go_simp
    have hend:=zhQ.out.done (n:=n) (dm:=dm) (by omega)
    have zT:=qh hend
    refine hK.out _ _ (by obtain⟨a',hm, -⟩:=hend.2;exact hm.below) (λ_=> ?_)
    clear hend q0 q1 q2 f0 f1 f2
    clear hK K
    refine xJ ?_
    clear hn pU wn pV
    go_wp2_with fail
    go_meet
    case rel=>exact⟨gv,gp,n,dm,rfl,by omega,by omega,by omega,by omega,zT.out.1,zT.out.2⟩
   skip
   go_simp
   refine(qY.out zt0 g _ 3 3 rfl zcP.out.yt (by omega) (by omega) (by omega)).mono ?_
   rintro en zy5 ⟨r2,hr2,rfl,hmk,hsi⟩
   have zoJ:=qh (zcP.out.pick hmk hsi)
   clear hmk hsi
   refine hK.out _ _ zoJ.out.yt.below (λ_=> ?_)
   obtain⟨dm,pU⟩:∃n:Nat,(2:Int)+(r2:Int)=(n:Int):=⟨2+r2,by omega⟩
   have zdf:2<=dm:=by omega
   have zdg:dm<=4:=by omega
   have pV:=wrapN dm (by omega)
   have zdm:(0:Int)<=(dm:Int):=by omega
   skip
   clear hK K
   refine zD 7 zQ (zoJ.out.yt.below) ?_
   refine yu 0 rfl (λK hK=> ?_)
   go_simp
   have zbf:=zoJ.out.names
   unfold wQ at zbf
   refine hK.out _ _ zbf.yt.below (λ_=> ?_)
   obtain⟨gv,hgv⟩:∃n,n=zy5.heap.size:=⟨_,rfl⟩
   rw [<-hgv] at zbf ⊢
   clear hgv
   generalize World.alloc zy5 _=zt2 at zbf ⊢
   replace zbf:=qh zbf
   clear hK K
   refine zD 4 zQ (zbf.out.yt.below) ?_
   refine zD 8 zQ (zbf.out.yt.below) ?_
   refine yu 10 rfl (λK hK=> ?_)
   obtain⟨hp, -, -, -⟩:=zbf.out.prog gp rfl
   have q0:zt2.cell? ⟨gp,0,none⟩=some (.slice none 0 0):=ze hp 0
   have f0:=zB hp 0
   have q1:zt2.cell? ⟨gp,1,none⟩=some (.int .i64 0):=ze hp 1
   have f1:=zB hp 1
   have q2:zt2.cell? ⟨gp,2,none⟩=some (.slice none 0 0):=ze hp 2
   have f2:=zB hp 2
   clear hp
   go_simp
   have hend:=zbf.out.done (n:=n) (dm:=dm) (by omega)
   have zT:=qh hend
   refine hK.out _ _ (by obtain⟨a',hm, -⟩:=hend.2;exact hm.below) (λ_=> ?_)
   clear hend q0 q1 q2 f0 f1 f2
   clear hK K
   refine xJ ?_
   clear hn pU wn pV
   go_wp2_with fail
   go_meet
   case rel=>exact⟨gv,gp,n,dm,rfl,by omega,by omega,by omega,by omega,zT.out.1,zT.out.2⟩
  skip
  go_simp
  have zcQ:=hT0.out.box
  refine hK.out _ _ zcQ.yt.below (λ_=> ?_)
  obtain⟨gp,ug⟩:∃n,n=V1.heap.size:=⟨_,rfl⟩
  rw [<-ug] at zcQ ⊢
  clear ug
  generalize World.alloc V1 _=zt3 at zcQ ⊢
  replace zcQ:=qh zcQ
  clear hK K
  refine wpAnyH_ready (rs:= [0,2]) (by kernel_rfl) (by simp) ?_
  refine AllReadyH.cons rfl (λK hK=> ?_) (AllReadyH.cons rfl (λK hK=> ?_) AllReadyH.nil)
  ·skip
   go_simp
   have zcR:=zcQ.out.names
   unfold wQ at zcR
   refine hK.out _ _ zcR.yt.below (λ_=> ?_)
   obtain⟨gv,hgv⟩:∃n,n=zt3.heap.size:=⟨_,rfl⟩
   rw [<-hgv] at zcR ⊢
   clear hgv
   generalize World.alloc zt3 _=z4H at zcR ⊢
   replace zcR:=qh zcR
   clear hK K
   refine yu 2 rfl (λK hK=> ?_)
   go_simp
   refine(qY.out z4H g _ 3 3 rfl zcR.out.yt (by omega) (by omega) (by omega)).mono ?_
   rintro en z4I ⟨r1,hr1,rfl,hmk,hsi⟩
   have zhR:=qh (zcR.out.pick hmk hsi)
   clear hmk hsi
   refine hK.out _ _ zhR.out.yt.below (λ_=> ?_)
   obtain⟨n,hn⟩:∃n:Nat,(1:Int)+(r1:Int)=(n:Int):=⟨1+r1,by omega⟩
   have bn1:1<=n:=by omega
   have bn2:n<=3:=by omega
   have wn:=wrapN n (by omega)
   have zn:(0:Int)<=(n:Int):=by omega
   have yn:(n:Int)<=3:=by omega
   clear hK K
   refine zD 3 zQ (zhR.out.yt.below) ?_
   refine zD 4 zQ (zhR.out.yt.below) ?_
   refine yu 6 rfl (λK hK=> ?_)
   go_simp
   refine(qY.out z4I g _ 3 3 rfl zhR.out.yt (by omega) (by omega) (by omega)).mono ?_
   rintro en zt4 ⟨r2,hr2,rfl,hmk,hsi⟩
   have zhS:=qh (zhR.out.pick hmk hsi)
   clear hmk hsi
   refine hK.out _ _ zhS.out.yt.below (λ_=> ?_)
   obtain⟨dm,pU⟩:∃n:Nat,(2:Int)+(r2:Int)=(n:Int):=⟨2+r2,by omega⟩
   have zdf:2<=dm:=by omega
   have zdg:dm<=4:=by omega
   have pV:=wrapN dm (by omega)
   have zdm:(0:Int)<=(dm:Int):=by omega
   skip
   clear hK K
   refine zD 7 zQ (zhS.out.yt.below) ?_
   refine zD 8 zQ (zhS.out.yt.below) ?_
   refine yu 10 rfl (λK hK=> ?_)
   obtain⟨hp, -, -, -⟩:=zhS.out.prog gp rfl
   have q0:zt4.cell? ⟨gp,0,none⟩=some (.slice none 0 0):=ze hp 0
   have f0:=zB hp 0
   have q1:zt4.cell? ⟨gp,1,none⟩=some (.int .i64 0):=ze hp 1
   have f1:=zB hp 1
   have q2:zt4.cell? ⟨gp,2,none⟩=some (.slice none 0 0):=ze hp 2
   have f2:=zB hp 2
   clear hp
   go_simp
   have hend:=zhS.out.done (n:=n) (dm:=dm) (by omega)
   have zT:=qh hend
   refine hK.out _ _ (by obtain⟨a',hm, -⟩:=hend.2;exact hm.below) (λ_=> ?_)
   clear hend q0 q1 q2 f0 f1 f2
   clear hK K
   refine xJ ?_
   clear hn pU wn pV
   go_wp2_with fail
   go_meet
   case rel=>exact⟨gv,gp,n,dm,rfl,by omega,by omega,by omega,by omega,zT.out.1,zT.out.2⟩
  skip
  go_simp
  refine(qY.out zt3 g _ 3 3 rfl zcQ.out.yt (by omega) (by omega) (by omega)).mono ?_
  rintro en zt5 ⟨r1,hr1,rfl,hmk,hsi⟩
  have zhT:=qh (zcQ.out.pick hmk hsi)
  clear hmk hsi
  refine hK.out _ _ zhT.out.yt.below (λ_=> ?_)
  obtain⟨n,hn⟩:∃n:Nat,(1:Int)+(r1:Int)=(n:Int):=⟨1+r1,by omega⟩
  have bn1:1<=n:=by omega
  have bn2:n<=3:=by omega
  have wn:=wrapN n (by omega)
  have zn:(0:Int)<=(n:Int):=by omega
  have yn:(n:Int)<=3:=by omega
  clear hK K
  refine zD 3 zQ (zhT.out.yt.below) ?_
  refine wpAnyH_ready (rs:= [0,6]) (by kernel_rfl) (by simp) ?_
  refine AllReadyH.cons rfl (λK hK=> ?_) (AllReadyH.cons rfl (λK hK=> ?_) AllReadyH.nil)
  ·skip
   go_simp
   have zbP:=zhT.out.names
   unfold wQ at zbP
   refine hK.out _ _ zbP.yt.below (λ_=> ?_)
   obtain⟨gv,hgv⟩:∃n,n=zt5.heap.size:=⟨_,rfl⟩
   rw [<-hgv] at zbP ⊢
   clear hgv
   generalize World.alloc zt5 _=z4J at zbP ⊢
   replace zbP:=qh zbP
   clear hK K
   refine zD 4 zQ (zbP.out.yt.below) ?_
   refine yu 6 rfl (λK hK=> ?_)
   go_simp
   refine(qY.out z4J g _ 3 3 rfl zbP.out.yt (by omega) (by omega) (by omega)).mono ?_
   rintro en zt6 ⟨r2,hr2,rfl,hmk,hsi⟩
   have zhU:=qh (zbP.out.pick hmk hsi)
   clear hmk hsi
   refine hK.out _ _ zhU.out.yt.below (λ_=> ?_)
   obtain⟨dm,pU⟩:∃n:Nat,(2:Int)+(r2:Int)=(n:Int):=⟨2+r2,by omega⟩
   have zdf:2<=dm:=by omega
   have zdg:dm<=4:=by omega
   have pV:=wrapN dm (by omega)
   have zdm:(0:Int)<=(dm:Int):=by omega
   skip
   clear hK K
   refine zD 7 zQ (zhU.out.yt.below) ?_
   refine zD 8 zQ (zhU.out.yt.below) ?_
   refine yu 10 rfl (λK hK=> ?_)
   obtain⟨hp, -, -, -⟩:=zhU.out.prog gp rfl
   have q0:zt6.cell? ⟨gp,0,none⟩=some (.slice none 0 0):=ze hp 0
   have f0:=zB hp 0
   have q1:zt6.cell? ⟨gp,1,none⟩=some (.int .i64 0):=ze hp 1
   have f1:=zB hp 1
   have q2:zt6.cell? ⟨gp,2,none⟩=some (.slice none 0 0):=ze hp 2
   have f2:=zB hp 2
   clear hp
   go_simp
   have hend:=zhU.out.done (n:=n) (dm:=dm) (by omega)
   have zT:=qh hend
   refine hK.out _ _ (by obtain⟨a',hm, -⟩:=hend.2;exact hm.below) (λ_=> ?_)
   clear hend q0 q1 q2 f0 f1 f2
   clear hK K
   refine xJ ?_
   clear hn pU wn pV
   go_wp2_with fail
   go_meet
   case rel=>exact⟨gv,gp,n,dm,rfl,by omega,by omega,by omega,by omega,zT.out.1,zT.out.2⟩
  skip
  go_simp
  refine(qY.out zt5 g _ 3 3 rfl zhT.out.yt (by omega) (by omega) (by omega)).mono ?_
  rintro en zy6 ⟨r2,hr2,rfl,hmk,hsi⟩
  have zoK:=qh (zhT.out.pick hmk hsi)
  clear hmk hsi
  refine hK.out _ _ zoK.out.yt.below (λ_=> ?_)
  obtain⟨dm,pU⟩:∃n:Nat,(2:Int)+(r2:Int)=(n:Int):=⟨2+r2,by omega⟩
  have zdf:2<=dm:=by omega
  have zdg:dm<=4:=by omega
  have pV:=wrapN dm (by omega)
  have zdm:(0:Int)<=(dm:Int):=by omega
  skip
  clear hK K
  refine zD 7 zQ (zoK.out.yt.below) ?_
  refine yu 0 rfl (λK hK=> ?_)
  go_simp
  have zbg:=zoK.out.names
  unfold wQ at zbg
  refine hK.out _ _ zbg.yt.below (λ_=> ?_)
  obtain⟨gv,hgv⟩:∃n,n=zy6.heap.size:=⟨_,rfl⟩
  rw [<-hgv] at zbg ⊢
  clear hgv
  generalize World.alloc zy6 _=zt7 at zbg ⊢
  replace zbg:=qh zbg
  clear hK K
  refine zD 4 zQ (zbg.out.yt.below) ?_
  refine zD 8 zQ (zbg.out.yt.below) ?_
  refine yu 10 rfl (λK hK=> ?_)
  obtain⟨hp, -, -, -⟩:=zbg.out.prog gp rfl
  have q0:zt7.cell? ⟨gp,0,none⟩=some (.slice none 0 0):=ze hp 0
  have f0:=zB hp 0
  have q1:zt7.cell? ⟨gp,1,none⟩=some (.int .i64 0):=ze hp 1
  have f1:=zB hp 1
  have q2:zt7.cell? ⟨gp,2,none⟩=some (.slice none 0 0):=ze hp 2
  have f2:=zB hp 2
  clear hp
  go_simp
  have hend:=zbg.out.done (n:=n) (dm:=dm) (by omega)
  have zT:=qh hend
  refine hK.out _ _ (by obtain⟨a',hm, -⟩:=hend.2;exact hm.below) (λ_=> ?_)
  clear hend q0 q1 q2 f0 f1 f2
  clear hK K
  refine xJ ?_
  clear hn pU wn pV
  go_wp2_with fail
  go_meet
  case rel=>exact⟨gv,gp,n,dm,rfl,by omega,by omega,by omega,by omega,zT.out.1,zT.out.2⟩
 case rest=>
 obtain⟨gv,gp,n,dm,rfl,hn1,hn3,hd2,hd4,HL,HMA⟩:=hcut
 clear HR
 obtain⟨X,rfl⟩:∃x:World,x=wc:=⟨_,rfl⟩
 obtain⟨a0,zy7,ha0⟩:=HMA.out
 have zy8:=qh zy7
 clear zy7
 go_upto_region 4 with(go_at_call 77;go_must(refine(qY.out X g _ 3 3 rfl zy8.out (by omega) (by omega) (by omega)).mono ?_);rintro en X2 ⟨r3,hr3,rfl,hmk,hsi⟩;(have HL2:=qh (HL.out.picked hsi hmk (by omega)));clear hmk hsi HL zy8)
 obtain⟨m,hm⟩:∃m:Nat,(1:Int)+(r3:Int)=(m:Int):=⟨1+r3,by omega⟩
 have hm1:1<=m:=by omega
 have hm3:m<=3:=by omega
 rw [hm]
 clear hm hr3
 go_loopg [7] m (λgg s7 wr=>∃(j k:Nat) (oa:Option Addr) (oc:Nat) (T:List (List zM)) (css:List (List Value)),s7= .int .i64 k/\Hid (j+k=m)/\Hid (gg=k)/\Hid (wE w wr g gv gp gr (.slice sa ln sc) n dm j (.slice oa j oc) T css))
 case atStart=>exact⟨0,m,none,0, [], [],rfl,by rw [Hid];omega,rfl,HL2.out⟩
 case round=>
 obtain⟨j,k',oa,oc,T,css,rfl,HJK,HG,HL⟩:=hrel
 clear HL2
 have hj3:j<=3:=by have:=HJK.out;omega
 have hk3:k'<=3:=by have:=HJK.out;omega
 by_cases hk0:0<k'
 rotate_left
 ·obtain rfl:k'=0:=by omega
  have hj1:j=m:=by have:=HJK.out;omega
  obtain⟨hend,hset⟩:=zoE HL.out hn1 hn3 hd2 (by omega) (by omega) hj3
  have zT:=qh hend
  have zG:=qh hset
  clear hend hset hj1
  have c0:wr.cell? ⟨gp,0,none⟩=some (.slice (some ⟨gv,0,none⟩) n 3):=ze HL.out.box 0
  have c1:wr.cell? ⟨gp,1,none⟩=some (.int .i64 dm):=ze HL.out.box 1
  have c2:wr.cell? ⟨gp,2,none⟩=some (.slice oa j oc):=ze HL.out.box 2
  have z0:wr.cell? ⟨gr,0,none⟩=some (.slice none 0 0):=ze HL.out.res 0
  have z1:wr.cell? ⟨gr,1,none⟩=some (.int .i64 0):=ze HL.out.res 1
  have z2:wr.cell? ⟨gr,2,none⟩=some (.slice none 0 0):=ze HL.out.res 2
  have f0:=zB HL.out.res 0
  have f1:=zB HL.out.res 1
  have f2:=zB HL.out.res 2
  go_wp2_with fail
  refine bodyPost_ret (xQ rfl _ _ gr 92 _ (0,0) _ rfl zG.out Tryz.underlying92 rfl zlm) rfl ?_
  exact zT.out
 obtain⟨k,rfl⟩:∃k,k'=k+1:=⟨k' - 1,by omega⟩
 have hkI:(0:Int)<(k:Int)+1:=by omega
 have CC:Hid (∀x,Since (λy=>(Value.slice oa j oc).ownBlock=some y\/y=g) wr x->x.cell? ⟨gp,0,none⟩=some (.slice (some ⟨gv,0,none⟩) n 3)/\x.cell? ⟨gp,1,none⟩=some (.int .i64 dm)/\x.cell? ⟨gp,2,none⟩=some (.slice oa j oc)):=λx hx=>by
  have h:=(hx.block _ (zw HL.out.box) (λe=>by rcases e with e|e;exact(HL.out.own_ne _ e).2.1 rfl;have:=HL.out.lo;omega)).trans HL.out.box
  exact⟨ze h 0,ze h 1,ze h 2⟩
 go_upto_region 6 with fail
 refine wp_region_noPanic ?_
 refine yU (n0:=15) (S:=λx=>Since (λy=>(Value.slice oa j oc).ownBlock=some y\/y=g) wr x) (by kernel_rfl) (Since.drew _ (Since.refl _ wr)) (λ_=> ?_)
 obtain⟨V1,hV1⟩:∃V1,V1=wr.drew:=⟨_,rfl⟩
 have hT0:Hid (Since (λy=>(Value.slice oa j oc).ownBlock=some y\/y=g) wr V1):=by rw [hV1];exact Since.drew _ (Since.refl _ wr)
 have hl2:wE w V1 g gv gp gr (.slice sa ln sc) n dm j (.slice oa j oc) T css:=by rw [hV1];exact HL.out.drew
 rw [<-hV1]
 clear hV1
 have HL2:=qh hl2
 have uW:=hl2.row.row
 rw [hl2.len] at uW
 have zvU:=qh uW
 have HOWN:Hid (∀k,(Value.slice oa j oc).ownBlock=some k->k≠g):=λk hk=>(hl2.own_ne k hk).1
 obtain⟨a1,hmk,ha1⟩:=hl2.yt
 have yx:=qh hmk.below.size
 have HMK:=qh (And.intro hmk ha1)
 clear hl2 uW hmk ha1
 refine zU 0 (λ_=>hT0.out) ?_
 refine jh [13,14,15] 1 CC.out (hT0.out) ?_
 refine zU 2 (λ_=>hT0.out) ?_
 refine zU 3 (λ_=>hT0.out) ?_
 refine zU 5 (λ_=>hT0.out) ?_
 refine jh [7,11,12,13,14,15] 6 CC.out (hT0.out) ?_
 refine zU 7 (λ_=>hT0.out) ?_
 refine zU 8 (λ_=>hT0.out) ?_
 refine jh [11,12,13,14,15] 9 CC.out (hT0.out) ?_
 refine zU 10 (λ_=>hT0.out) ?_
 refine vG 4 rfl (λK hK=> ?_)
 go_simp
 refine(qY.out V1 g _ 5 5 rfl HMK.out.1 (by omega) (by omega) (by have h5:=HMK.out.2;omega)).mono ?_
 rintro en V2 ⟨r5,hr5,rfl,hmk,hsi⟩
 have zy9:=qh hmk
 have zt8:=qh hsi
 have hT1:=qh (hT0.out.trans hsi (λy hy=> .inl (.inr hy)))
 clear hmk hsi
 refine hK.out _ _ (λ_ _=>hT1.out) ?_
 clear hK K
 refine vG 11 rfl (λK hK=> ?_)
 go_simp
 refine(z1B.out g n dm (by omega) (by omega) (by omega) (by omega) V2 _ r5 zy9.out (by omega) (by have h5:=HMK.out.2;omega)).mono ?_
 rintro en V3 ⟨L,na,nc,a2,rfl,hok,haw,hmk,ha2,hsi⟩
 have zfb:=qh hmk
 have zt9:=qh (And.intro hok haw)
 have zoL:=qh (zt8.out.trans hsi (λ_ h=> .inl h))
 have HSZ:=qh hsi.size
 have gZ:=qh (hT1.out.trans hsi (λy hy=> .inl (.inr hy)))
 have hrow:=zoL.out.row zvU.out (λk hk e=>(HOWN.out k hk) e)
 have zhA:=qh hrow
 clear hmk hsi hok haw hrow
 refine hK.out _ _ (λ_ _=>gZ.out) ?_
 clear hK K
 refine vG 12 rfl (λK hK=> ?_)
 go_simp
 have vW:=qh (gZ.out.alloc (.cells #[.slice na L.length nc] 129))
 refine hK.out _ _ (λ_ _=>vW.out) ?_
 clear hK K
 refine vG 13 rfl (λK hK=> ?_)
 refine zK (V3.alloc (.cells #[.slice na L.length nc] 129)) (by rfl) (.tmp 28) (.tmp 39) 90 rfl 129 (.slice none 0 0) 1 24 Tryz.underlying90 zoF rfl (by decide) w.heap.size (.slice oa j oc) j (css.flatten) (by rfl) (zhA.out.alloc _) ⟨V3.heap.size,0,none⟩ 1 1 [.slice na L.length nc] (by rfl) rfl (qN V3 _ _) (by simp [Value.oneCell']) (by unfold maxLen;omega) (by omega) (by have h5:=yx.out;have h6:=zoL.out.size;simp;omega) ?_
 intro xa xc V4 e1 e2 e3 e4 e5
 have xV:=qh (vW.out.trans e4 (λy hy=> .inl (.inl hy)))
 have hp:=HL2.out.push zoL.out zfb.out (by have:=HMK.out.2;omega) zt9.out.1 rfl (zt9.out.2.step (Since.refl (λ_=>False) V3) (λ_ h=>h.elim) (λk hk=> .inl (by have h5:=zt8.out.size;omega))) e1 e4 e5
 have HP:=qh hp
 clear e1 e2 e3 e4 e5 hp
 refine hK.out _ _ (λ_ _=>xV.out) ?_
 clear hK K
 change qo _ _ _ _ _ _ _ _ (Act.put _ (some 40) _) _
 simp only [Act.put,kG,kH,kI]
 refine zU 14 (λ_=>xV.out) ?_
 refine vG 15 rfl (λK hK=> ?_)
 have q2:V4.cell? ⟨gp,2,none⟩=some (.slice oa j oc):=ze HP.out.1 2
 have f2:=zB HP.out.1 2
 go_simp
 refine hK.out _ _ (λh=>absurd rfl h) ?_
 clear q2 f2
 have hT5:=xV
 clear hK K
 refine xG (by kernel_rfl) ?_ _
 refine NoPanic.normal ?_
 have HP2:=qh HP.out.2
 clear HP zy9 zfb zt9 zt8 zoL zhA zvU HOWN CC
 go_wp2_with fail
 go_roundg k
 case measure=>rw [HG.out];omega
 case rel=>exact⟨j+1,k,xa,xc,_,_,(by first|rfl|simp),by have:=HJK.out;rw [Hid];omega,rfl,HP2.out⟩
