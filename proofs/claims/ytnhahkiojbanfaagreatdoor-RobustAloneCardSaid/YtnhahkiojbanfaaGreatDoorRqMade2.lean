/- Steps. -/
import Derived.Test.YtnhahkiojbanfaaGreatDoorRqMakerL
import Derived.Test.YtnhahkiojbanfaaGreatDoorRqTail
set_option linter.all false
namespace Go.Proofs.YtnhahkiojbanfaaGreatDoor
open Go.RowKit
set_option maxRecDepth 100000
set_option maxHeartbeats 16000000
theorem zoM (W0:World) (g:Nat) (lv:Value) (l:List Int) (hn:vo W0 .u8 lv l) (kv:Value) (ks:List Int) (hks:qI W0 kv ks) (hk1:1<=ks.length) (hk2:ks.length<=100) (hk3:∀k∈ks,1<=k/\k<=11) (vars dom:Nat) (hv1:1<=vars) (hv2:vars<=10) (hd1:2<=dom) (hd2:dom<=16) (d:Nat) (hd:d<=10):
  zer W0 g lv kv vars dom d:=by
 obtain⟨ka,kc,hkv, -⟩:=zh.slice hks
 induction d with
 |zero=>exact zh7 W0 g lv kv vars dom 0 (zh8 W0 g lv l hn kv ks hks hk1 hk2 hk3 vars dom hv1 hv2 hd1 hd2 0 (by omega) (λh=>by omega)) ka _ kc hkv
 |succ d ih=>exact zh7 W0 g lv kv vars dom (d+1) (zh8 W0 g lv l hn kv ks hks hk1 hk2 hk3 vars dom hv1 hv2 hd1 hd2 (d+1) hd (λ_=>ih (by omega))) ka _ kc hkv
def zc1:List Int:= [1,2,1,2,3,4,5,6,7,8,9,10,11]
theorem zmA (w:World):Calls Tryz.prog 18 #[] w λe w'=>(∃kv,e= .returned kv/\qI w' kv zc1)/\Below w.heap.size w w':=by
 have hb:=(Below.refl w.heap.size w).alloc (Nat.le_refl _) (.cells #[.int .i64 1, .int .i64 2, .int .i64 1, .int .i64 2, .int .i64 3, .int .i64 4, .int .i64 5, .int .i64 6, .int .i64 7, .int .i64 8, .int .i64 9, .int .i64 10, .int .i64 11] 3)
 have hg:=zS w (.cells #[.int .i64 1, .int .i64 2, .int .i64 1, .int .i64 2, .int .i64 3, .int .i64 4, .int .i64 5, .int .i64 6, .int .i64 7, .int .i64 8, .int .i64 9, .int .i64 10, .int .i64 11] 3)
 have hr:=zad (w:=w.alloc (.cells #[.int .i64 1, .int .i64 2, .int .i64 1, .int .i64 2, .int .i64 3, .int .i64 4, .int .i64 5, .int .i64 6, .int .i64 7, .int .i64 8, .int .i64 9, .int .i64 10, .int .i64 11] 3)) (l:=zc1) (B:=0) (sv:= .slice (some ⟨w.heap.size,0,none⟩) 13 13) (kS (n:=13) (cs:=zq yU zc1) hg (Nat.zero_le _) rfl (by decide))
 have HB:=qh hb
 have HR:=qh hr
 clear hb hg hr
 go_enter Tryz.func18,Tryz.ntmps18
 go_wp2_with fail
 go_ret
 exact⟨⟨_,rfl,HR.out⟩,HB.out⟩
def jw:List Value:= [.string ⟨#[120]⟩, .string ⟨#[121]⟩, .string ⟨#[122]⟩]
theorem zoN {X:World} {gv n:Nat} (h:X.heap[gv]? =some (.cells jw.toArray 9 (0,0))) (hn:n<=3):zbe X (.slice (some ⟨gv,0,none⟩) n 3) (xyz.take n):=by
 have hl:(xyz.take n).length=n:=by rw [List.length_take];simp [xyz];omega
 refine⟨_,3,by rw [hl],by rw [hl];omega,λj hj=> ?_⟩
 rw [hl] at hj
 have e:(xyz.take n).getD j default=xyz.getD j default:=by simp only [List.getD_eq_getElem?_getD,List.getElem?_take_of_lt hj]
 have hj3:j=0\/j=1\/j=2:=by omega
 rw [e]
 rcases hj3 with rfl|rfl|rfl
 ·refine⟨gv,0, [.string ⟨#[120]⟩],rfl,zy h,rfl,λi hi=> ?_,rfl⟩
  obtain rfl:i=0:=by omega
  rw [ze h];rfl
 ·refine⟨gv,0, [.string ⟨#[121]⟩],rfl,zy h,rfl,λi hi=> ?_,rfl⟩
  obtain rfl:i=0:=by omega
  rw [ze h];rfl
 refine⟨gv,0, [.string ⟨#[122]⟩],rfl,zy h,rfl,λi hi=> ?_,rfl⟩
 obtain rfl:i=0:=by omega
 rw [ze h];rfl
def PF (va:Value) (g gp gr:Nat) (k:Nat):Prop:=va.ownBlock=some k\/k=g\/k=gp\/k=gr
structure jl (w X:World) (g gv gp gr:Nat) (sv:Value) (n dm i:Nat) (va:Value) (T:List (List zF)) (css:List (List Value)):Prop where
 zN:∃a',qp w X g sv a'/\a'<=10+i*5000
 box:X.heap[gp]? =some (.cells #[.slice (some ⟨gv,0,none⟩) n 3, .int .i64 dm,va] 87 (0,0))
 vars:X.heap[gv]? =some (.cells jw.toArray 9 (0,0))
 res:X.heap[gr]? =some (.cells #[.slice none 0 0, .int .i64 0, .slice none 0 0] 87 (0,0))
 lo:w.heap.size<=g/\w.heap.size<=gv/\w.heap.size<=gp/\w.heap.size<=gr/\g≠gp/\g≠gr/\gp≠gr/\gv≠g/\gv≠gp/\gv≠gr
 len:T.length=i
 ok:∀l∈T,yw n dm l 20=true/\zU l<=52
 row:yg (PF va g gp gr) X (zfO 3 4) 1 w.heap.size 115 va T css
section
variable {w X Y:World} {g gv gp gr:Nat} {sv:Value} {n dm i:Nat} {va:Value} {T:List (List zF)} {css:List (List Value)}
theorem jl.own_ne (h:jl w X g gv gp gr sv n dm i va T css):∀k,va.ownBlock=some k->k≠g/\k≠gp/\k≠gr/\k≠gv:=λk hk=>by
 obtain⟨a',hm, -⟩:=h.zN
 exact⟨λe=>by subst e;exact jV h.row.row hk hm.box (by decide),λe=>by subst e;exact jV h.row.row hk h.box (by decide),λe=>by subst e;exact jV h.row.row hk h.res (by decide),λe=>by subst e;exact jV h.row.row hk h.vars (by decide)⟩
theorem jl.lt (h:jl w X g gv gp gr sv n dm i va T css):∀k,PF va g gp gr k->k<X.heap.size:=λk hk=>by
 obtain⟨a',hm, -⟩:=h.zN
 rcases hk with hk|rfl|rfl|rfl
 ·exact(h.row.row.lt k hk).2
 ·exact zy hm.box
 ·exact zy h.box
 exact zy h.res
theorem jl.push {xc ln rc a1 oc:Nat} {Z:World} {oa ra xa:Option Addr} {l:List zF} {o:Obj} (h:jl w X g gv gp gr sv n dm i (.slice oa i oc) T css) (hs:Since (λk=>k=g) X Y) (hm:qp w Y g sv a1) (ha:a1<=10+i*5000+5000) (hok:yw n dm l 20=true/\zU l<=52) (hlen:l.length=ln)
  (haw:zO (λk=>k<X.heap.size) Y (λy=>zQ 3 4 y l (.slice ra ln rc))) (h1:Z.ownsRow w.heap.size 115 1 (.slice xa (i+1) xc) (i+1) (css.flatten++ [.slice ra ln rc])) (h4:Since (λk=>(Value.slice oa i oc).ownBlock=some k) (Y.alloc o) Z) (h5:∀k,(Value.slice xa (i+1) xc).ownBlock=some k->(Value.slice oa i oc).ownBlock=some k\/k=(Y.alloc o).heap.size):
  Z.heap[gp]? =some (.cells #[.slice (some ⟨gv,0,none⟩) n 3, .int .i64 dm, .slice oa i oc] 87 (0,0))/\jl w (Z.setCell ⟨gp,2,none⟩ (.slice xa (i+1) xc)) g gv gp gr sv n dm (i+1) (.slice xa (i+1) xc) (T++ [l]) (css++ [[.slice ra ln rc]]):=by
 have hlo:=h.lo
 have hne:=h.own_ne
 have hlt:=h.lt
 have s1:Since (λk=>(Value.slice oa i oc).ownBlock=some k) Y Z:=((Since.refl _ Y).alloc o).trans h4 (λk hk=> .inl hk)
 have s2:Since (λk=>k=gp) Z (Z.setCell ⟨gp,2,none⟩ (.slice xa (i+1) xc)):=Since.setCell (F:=λk=>k=gp) (p:=⟨gp,2,none⟩) (Since.refl _ _) (.inl rfl) _
 have s3:Since (λk=>(Value.slice oa i oc).ownBlock=some k\/k=gp) Y (Z.setCell ⟨gp,2,none⟩ (.slice xa (i+1) xc)):=(s1.mono (λk _ hk=> .inl hk)).trans s2 (λk hk=> .inl (.inr hk))
 have zoO:=(hs.block _ (zy h.box) (by omega)).trans h.box
 have zqL:=(hs.block _ (zy h.vars) (by omega)).trans h.vars
 have zsO:=(hs.block _ (zy h.res) (by omega)).trans h.res
 have zh9:=(s1.block _ (zy zoO) (λe=>(hne _ e).2.1 rfl)).trans zoO
 have hvars:=(s1.block _ (zy zqL) (λe=>(hne _ e).2.2.2 rfl)).trans zqL
 have hres:=(s1.block _ (zy zsO) (λe=>(hne _ e).2.2.1 rfl)).trans zsO
 have hnew:∀k,(Value.slice xa (i+1) xc).ownBlock=some k->k≠gp:=λk hk e=>by
  rcases h5 k hk with h1|h1
  ·exact(hne k h1).2.1 e
  have:=zy zoO;simp at h1;omega
 refine⟨zh9,⟨⟨a1,hm.since s3 (λk hk=> ?_),by omega⟩, ?_,(s2.block _ (zy hvars) (by omega)).trans hvars,(s2.block _ (zy hres) (by omega)).trans hres,hlo,by simp [h.len],λy hy=> ?_, ?_⟩⟩
 ·rcases hk with hk|hk
  ·have:=(h.row.row.lt k hk).1;have:=(hne k hk).1;omega
  omega
 ·have:=zD zh9 2 (.slice xa (i+1) xc);simpa using this
 ·rcases List.mem_append.1 hy with hy|hy
  ·exact h.ok y hy
  rw [List.mem_singleton] at hy;subst hy;exact hok
 have hrow:=h.row.step (F':=PF (.slice oa i oc) g gp gr) hs (λk hk e=>(hne k hk).1 e) (λk hk=> .inl (.inr (.inl hk))) (λk hk=> .inl hk)
 refine hrow.push s3 (λk hk=> ?_) (λk hk=> ?_) (λy hy=>⟨_,rfl,haw y (hy.mono (λk _ hk=>hlt k hk))⟩) rfl ?_
 ·rcases hk with hk|hk
  ·exact .inl (.inl hk)
  exact .inl (.inr (.inr (.inl hk)))
 ·rcases hk with hk|hk|hk|hk
  ·rcases h5 k hk with h1|h1
   ·exact .inl (.inl h1)
   exact .inr (by simp at h1;omega)
  ·exact .inl (.inr (.inl hk))
  ·exact .inl (.inr (.inr (.inl hk)))
  exact .inl (.inr (.inr (.inr hk)))
 rw [h.len];exact s2.row h1 hnew
end
def zjO (w:World) (en:Ending) (w':World):Prop:=(∃p vv tv,en= .returned (zdn p vv tv)/\zdo p/\zbf 3 4 w' p vv tv)/\Below w.heap.size w w'
theorem zsP {T:List (List zF)} (h:∀l∈T,zU l<=52):(T.map zU).sum<=T.length*52:=by
 induction T with
 |nil=>simp
 |cons l T ih=>
 have h1:=h l (by simp)
 have h2:=ih (λx hx=>h x (by simp [hx]))
 simp only [List.map_cons,List.sum_cons,List.length_cons];omega
theorem zkQ {w X:World} {g gv gp gr:Nat} {sv:Value} {n dm i oc:Nat} {oa:Option Addr} {T:List (List zF)} {css:List (List Value)} (h:jl w X g gv gp gr sv n dm i (.slice oa i oc) T css) (hn1:1<=n) (hn3:n<=3) (hd1:2<=dm) (hd2:dm<=16) (hi1:1<=i) (hi3:i<=3):
  zjO w (.returned (.agg #[.slice (some ⟨gv,0,none⟩) n 3, .int .i64 dm, .slice oa i oc])) (xI X gr 0 [.slice (some ⟨gv,0,none⟩) n 3, .int .i64 dm, .slice oa i oc])/\
  (xI X gr 0 [.slice (some ⟨gv,0,none⟩) n 3, .int .i64 dm, .slice oa i oc]).heap[gr]? =some (.cells #[.slice (some ⟨gv,0,none⟩) n 3, .int .i64 dm, .slice oa i oc] 87 (0,0)):=by
 have hlo:=h.lo
 have s:=qJ (g:=gr) [.slice (some ⟨gv,0,none⟩) n 3, .int .i64 dm, .slice oa i oc] X 0
 have hvl:(xyz.take n).length=n:=by rw [List.length_take];simp [xyz];omega
 obtain⟨a',hm, -⟩:=h.zN
 have hl:=h.len
 refine⟨⟨⟨⟨xyz.take n,dm,T⟩, .slice (some ⟨gv,0,none⟩) n 3, .slice oa i oc,rfl,⟨⟨n,hn1,hn3,rfl⟩,⟨by show(2:Int)<=(dm:Int);omega,by show(dm:Int)<=16;omega⟩,⟨by show 1<=T.length;omega,by show T.length<=3;omega⟩,λl hl=> ?_, ?_⟩,⟨?_, ?_⟩⟩,hm.below.trans (s.below hm.below.size (λk hk=>by omega))⟩, ?_⟩
 ·show yw ((xyz.take n).length:Nat) dm l 20=true
  rw [hvl];exact(h.ok l hl).1
 ·have:=zsP (λl hl=>(h.ok l hl).2)
  show(T.map zU).sum<=200
  omega
 ·exact zoN ((s.block _ (zy h.vars) (by omega)).trans h.vars) hn3
 ·exact(h.row.step (F':=λ_=>False) s (λk hk e=>(h.own_ne k hk).2.2.1 e) (λk hk=> .inl (.inr (.inr (.inr hk)))) (λ_ h=>h.elim)).slice
 exact vG (cs:= [.slice none 0 0, .int .i64 0, .slice none 0 0]) _ rfl h.res
end Go.Proofs.YtnhahkiojbanfaaGreatDoor
namespace Go.Proofs.YtnhahkiojbanfaaGreatDoor
open Go.RowKit
set_option maxRecDepth 100000
set_option maxHeartbeats 16000000
structure R2 (w X:World) (g gr:Nat) (sv:Value) (a:Nat) (mv mp:Option Nat):Prop where
 zN:qp w X g sv a
 res:X.heap[gr]? =some (.cells #[.slice none 0 0, .int .i64 0, .slice none 0 0] 87 (0,0))
 lo:w.heap.size<=gr/\g≠gr
 vars:∀b,mv=some b->X.heap[b]? =some (.cells jw.toArray 9 (0,0))/\w.heap.size<=b/\b≠g/\b≠gr
 prog:∀b,mp=some b->X.heap[b]? =some (.cells #[.slice none 0 0, .int .i64 0, .slice none 0 0] 87 (0,0))/\w.heap.size<=b/\b≠g/\b≠gr
 ne:∀b c,mv=some b->mp=some c->b≠c
section
variable {w X Y:World} {g gr a b:Nat} {sv:Value} {mv mp:Option Nat}
theorem R2.pick (h:R2 w X g gr sv a mv mp) (hm:qp w Y g sv b) (hs:Since (λk=>k=g) X Y):R2 w Y g gr sv b mv mp:=
 ⟨hm,(hs.block _ (zy h.res) (λe=>h.lo.2 e.symm)).trans h.res,h.lo,λc hc=>⟨(hs.block _ (zy (h.vars c hc).1) (h.vars c hc).2.2.1).trans (h.vars c hc).1,(h.vars c hc).2⟩,λc hc=>⟨(hs.block _ (zy (h.prog c hc).1) (h.prog c hc).2.2.1).trans (h.prog c hc).1,(h.prog c hc).2⟩,h.ne⟩
theorem R2.names (h:R2 w X g gr sv a none mp):R2 w (X.alloc (.cells jw.toArray 9)) g gr sv a (some X.heap.size) mp:=by
 have hb:=(Below.refl X.heap.size X).alloc (Nat.le_refl _) (.cells jw.toArray 9)
 have h1:=h.zN.below.size
 have h2:=zy h.zN.box
 have h3:=zy h.res
 refine⟨h.zN.later hb,(hb.block _ h3).trans h.res,h.lo,λc hc=> ?_,λc hc=>⟨(hb.block _ (zy (h.prog c hc).1)).trans (h.prog c hc).1,(h.prog c hc).2⟩,λc e hc he=> ?_⟩
 ·cases hc;exact⟨zS X _,h1,by omega,by omega⟩
 cases hc;have:=zy (h.prog e he).1;omega
theorem R2.box (h:R2 w X g gr sv a mv none):R2 w (X.alloc (.cells #[.slice none 0 0, .int .i64 0, .slice none 0 0] 87)) g gr sv a mv (some X.heap.size):=by
 have hb:=(Below.refl X.heap.size X).alloc (Nat.le_refl _) (.cells #[.slice none 0 0, .int .i64 0, .slice none 0 0] 87)
 have h1:=h.zN.below.size
 have h2:=zy h.zN.box
 have h3:=zy h.res
 refine⟨h.zN.later hb,(hb.block _ h3).trans h.res,h.lo,λc hc=>⟨(hb.block _ (zy (h.vars c hc).1)).trans (h.vars c hc).1,(h.vars c hc).2⟩,λc hc=> ?_,λc e hc he=> ?_⟩
 ·cases hc;exact⟨zS X _,h1,by omega,by omega⟩
 cases he;have:=zy (h.vars c hc).1;omega
theorem R2.done {gv gp n dm:Nat} (h:R2 w X g gr sv a (some gv) (some gp)) (ha:a<=9):jl w (xI X gp 0 [.slice (some ⟨gv,0,none⟩) n 3, .int .i64 dm, .slice none 0 0]) g gv gp gr sv n dm 0 (.slice none 0 0) [] [] /\∃a,qp w (xI X gp 0 [.slice (some ⟨gv,0,none⟩) n 3, .int .i64 dm, .slice none 0 0]) g sv a/\a<=9:=by
 obtain⟨v1,v2,v3,v4⟩:=h.vars gv rfl
 obtain⟨p1,p2,p3,p4⟩:=h.prog gp rfl
 have hne:=h.ne gv gp rfl rfl
 have hlo:=h.lo
 have hg:=h.zN.lo
 have s:=qJ (g:=gp) [.slice (some ⟨gv,0,none⟩) n 3, .int .i64 dm, .slice none 0 0] X 0
 exact⟨⟨⟨a,h.zN.since s (λk hk=>by omega),by omega⟩,vG (cs:= [.slice none 0 0, .int .i64 0, .slice none 0 0]) _ rfl p1,(s.block _ (zy v1) hne).trans v1,(s.block _ (zy h.res) (by omega)).trans h.res,⟨hg,v2,p2,hlo.1,by omega,by omega,by omega,by omega,by omega,by omega⟩,rfl,λl hl=>by simp at hl,yg.nil _ _ _ _ _ _⟩,a,h.zN.since s (λk hk=>by omega),ha⟩
end
theorem jl.picked {w X Y:World} {g gv gp gr n dm i b:Nat} {sv va:Value} {T:List (List zF)} {css:List (List Value)} (h:jl w X g gv gp gr sv n dm i va T css) (hs:Since (λk=>k=g) X Y) (hm:qp w Y g sv b) (hb:b<=10+i*5000):jl w Y g gv gp gr sv n dm i va T css:=by
 have hlo:=h.lo
 exact⟨⟨b,hm,hb⟩,(hs.block _ (zy h.box) (by omega)).trans h.box,(hs.block _ (zy h.vars) (by omega)).trans h.vars,(hs.block _ (zy h.res) (by omega)).trans h.res,hlo,h.len,h.ok,h.row.step hs (λk hk e=>(h.own_ne k hk).1 e) (λk hk=> .inl (.inr (.inl hk))) (λk hk=> .inl hk)⟩
theorem jl.drew {w X:World} {g gv gp gr n dm i:Nat} {sv va:Value} {T:List (List zF)} {css:List (List Value)} (h:jl w X g gv gp gr sv n dm i va T css):jl w X.drew g gv gp gr sv n dm i va T css:=by
 obtain⟨a,hm,ha⟩:=h.zN
 exact h.picked (Since.drew _ (Since.refl _ X)) (hm.later (Below.refl _ _).drew) ha
theorem zhA:(Tryz.prog.info? 87).map (·.size)=some 3:=by kernel_rfl
theorem zkR:(Tryz.prog.info? 115).map (λi=>(i.zero,i.size,i.bytes))=some (some (.slice none 0 0),1,24):=by kernel_rfl
theorem wrapN (n:Nat) (h:n<=100):IntKind.i64.wrap (n:Int)=(n:Int):=IntWalk.i64_in _ (by omega)
theorem zmB (w:World) (sv:Value) (l:List Int) (hn:vo w .u8 sv l) (kv:Value) (ks:List Int) (hks:qI w kv ks) (hk1:1<=ks.length) (hk2:ks.length<=100) (hk3:∀k∈ks,1<=k/\k<=11):
  Calls Tryz.prog 33 #[sv,kv] w (zjO w):=by
 have hpick:=λW g a n ni hni h n1 n2 ha=>zes w W g sv l a n ni hni h hn n1 n2 ha
 have hlist:=λg vars dom hv1 hv2 hd1 hd2=>zoM w g sv l hn kv ks hks hk1 hk2 hk3 vars dom hv1 hv2 hd1 hd2 2 (by omega)
 have zb8:4*vH 2=1040:=rfl
 have zxp:4*gD 2=52:=rfl
 have zeL:∀(g vars dom:Nat),1<=vars->vars<=10->2<=dom->dom<=16->∀(W:World) (a n:Nat),qp w W g sv a->n<=4->a<=100000->Calls Tryz.prog 56 #[.pointer (some ⟨g,0,none⟩), .int .i64 n, .int .i64 2, .int .i64 vars, .int .i64 dom,kv] W λe w'=>∃(L:List zF) (va:Option Addr) (vc a':Nat),e= .returned (.slice va L.length vc)/\(yw vars dom L 20=true/\zU L<=52)/\
   zO (λk=>k<W.heap.size) w' (λy=>zQ 3 4 y L (.slice va L.length vc))/\qp w w' g sv a'/\a'<=a+1040/\Since (λk=>k=g) W w':=λg vars dom hv1 hv2 hd1 hd2 W a n hm hn4 ha=>by
  refine(hlist g vars dom hv1 hv2 hd1 hd2 W a n 4 n rfl hm hn4 (by omega) (by omega)).mono ?_
  rintro e w' ⟨L,va,vc,a',h1,h2,h3,h4,h5,h6,h7⟩
  exact⟨L,va,vc,a',h1,⟨zkS h2 (by omega),by omega⟩,h4,h5,by omega,h7⟩
 obtain⟨sa,sc,rfl, -⟩:∃a c,sv= .slice a l.length c/\True:=by obtain⟨a,c,h, -⟩:=hn;exact⟨a,c,h,trivial⟩
 obtain⟨ka,kc,rfl, -⟩:=zh.slice hks
 generalize l.length=ln at hpick zeL ⊢
 generalize ks.length=kn at zeL ⊢
 have xZ:=qh hpick
 have zvI:=qh zeL
 clear hpick hlist zeL zb8 zxp hn hks hk1 hk2 hk3
 have hB:=((Below.refl w.heap.size w).alloc (Nat.le_refl _) (.cells #[.slice none 0 0, .int .i64 0, .slice none 0 0] 87)).alloc (by simp) (.cells #[.slice sa ln sc, .int .i64 0] 118)
 have H1:=xR w (.cells #[.slice none 0 0, .int .i64 0, .slice none 0 0] 87) (.cells #[.slice sa ln sc, .int .i64 0] 118)
 have H2:=yT w (.cells #[.slice none 0 0, .int .i64 0, .slice none 0 0] 87) (.cells #[.slice sa ln sc, .int .i64 0] 118)
 have HR:Hid (R2 w ((w.alloc (.cells #[.slice none 0 0, .int .i64 0, .slice none 0 0] 87)).alloc (.cells #[.slice sa ln sc, .int .i64 0] 118)) (w.heap.size+1) w.heap.size (.slice sa ln sc) 0 none none):=⟨⟨hB,by omega,H2⟩,H1,⟨Nat.le_refl _,by omega⟩,(λ_ h=>by cases h),(λ_ h=>by cases h),(λ_ _ h=>by cases h)⟩
 clear hB H1 H2
 go_enter Tryz.func33,Tryz.ntmps33
 go_upto_region 2 with fail
 generalize World.alloc (World.alloc w _) _=V at HR ⊢
 generalize w.heap.size+1=g at HR ⊢
 obtain⟨gr,hgr⟩:∃gr,gr=w.heap.size:=⟨_,rfl⟩
 rw [<-hgr] at HR ⊢
 have jP:=qh hgr
 clear hgr
 go_cut [6] (λs6 w'=>∃gv gp n dm:Nat,s6= .pointer (some ⟨gp,0,none⟩)/\1<=n/\n<=3/\2<=dm/\dm<=4/\Hid (jl w w' g gv gp gr (.slice sa ln sc) n dm 0 (.slice none 0 0) [] [])/\Hid (∃a,qp w w' g (.slice sa ln sc) a/\a<=9))
 case first=>
  have hT0:Hid (R2 w V.drew g w.heap.size (.slice sa ln sc) 0 none none):=by have h:=HR.out;rw [jP.out] at h;exact h.pick (h.zN.later (Below.refl _ _).drew) (Since.drew _ (Since.refl _ _))
  rw [<-jP.out] at hT0
  clear HR
  refine gX (S:=λx=>Below w.heap.size w x) hT0.out.zN.below (λ_=> ?_)
  obtain⟨V1,hV1⟩:∃V1,V1=V.drew:=⟨_,rfl⟩
  rw [<-hV1]
  rw [<-hV1] at hT0
  clear hV1
  refine xu 1 xJ (hT0.out.zN.below) ?_
  refine xu 5 xJ (hT0.out.zN.below) ?_
  refine wpAnyH_ready (rs:= [0,2,9]) (by kernel_rfl) (by simp) ?_
  refine AllReadyH.cons rfl (λK hK=> ?_) (AllReadyH.cons rfl (λK hK=> ?_) (AllReadyH.cons rfl (λK hK=> ?_) AllReadyH.nil))
  ·skip
   go_simp
   have zb9:=hT0.out.names
   unfold jw at zb9
   refine hK.out _ _ zb9.zN.below (λ_=> ?_)
   obtain⟨gv,hgv⟩:∃n,n=V1.heap.size:=⟨_,rfl⟩
   rw [<-hgv] at zb9 ⊢
   clear hgv
   generalize World.alloc V1 _=Xp2 at zb9 ⊢
   replace zb9:=qh zb9
   clear hK K
   refine wpAnyH_ready (rs:= [2,9]) (by kernel_rfl) (by simp) ?_
   refine AllReadyH.cons rfl (λK hK=> ?_) (AllReadyH.cons rfl (λK hK=> ?_) AllReadyH.nil)
   ·skip
    go_simp
    refine(xZ.out Xp2 g _ 3 3 rfl zb9.out.zN (by omega) (by omega) (by omega)).mono ?_
    rintro en Xp4 ⟨r1,hr1,rfl,hmk,hsi⟩
    have zfP:=qh (zb9.out.pick hmk hsi)
    clear hmk hsi
    refine hK.out _ _ zfP.out.zN.below (λ_=> ?_)
    obtain⟨n,hn⟩:∃n:Nat,(1:Int)+(r1:Int)=(n:Int):=⟨1+r1,by omega⟩
    have bn1:1<=n:=by omega
    have bn2:n<=3:=by omega
    have wn:=wrapN n (by omega)
    have zn:(0:Int)<=(n:Int):=by omega
    have yn:(n:Int)<=3:=by omega
    clear hK K
    refine xu 3 xJ (zfP.out.zN.below) ?_
    refine xu 4 xJ (zfP.out.zN.below) ?_
    refine wpAnyH_ready (rs:= [6,9]) (by kernel_rfl) (by simp) ?_
    refine AllReadyH.cons rfl (λK hK=> ?_) (AllReadyH.cons rfl (λK hK=> ?_) AllReadyH.nil)
    ·skip
     go_simp
     refine(xZ.out Xp4 g _ 3 3 rfl zfP.out.zN (by omega) (by omega) (by omega)).mono ?_
     rintro en Xp6 ⟨r2,hr2,rfl,hmk,hsi⟩
     have zkT:=qh (zfP.out.pick hmk hsi)
     clear hmk hsi
     refine hK.out _ _ zkT.out.zN.below (λ_=> ?_)
     obtain⟨dm,wN⟩:∃n:Nat,(2:Int)+(r2:Int)=(n:Int):=⟨2+r2,by omega⟩
     have zaO:2<=dm:=by omega
     have zaP:dm<=4:=by omega
     have wO:=wrapN dm (by omega)
     have zdm:(0:Int)<=(dm:Int):=by omega
     skip
     clear hK K
     refine xu 7 xJ (zkT.out.zN.below) ?_
     refine xu 8 xJ (zkT.out.zN.below) ?_
     refine yZ 9 rfl (λK hK=> ?_)
     go_simp
     have zet:=zkT.out.box
     refine hK.out _ _ zet.zN.below (λ_=> ?_)
     obtain⟨gp,jQ⟩:∃n,n=Xp6.heap.size:=⟨_,rfl⟩
     rw [<-jQ] at zet ⊢
     clear jQ
     generalize World.alloc Xp6 _=Xp8 at zet ⊢
     replace zet:=qh zet
     clear hK K
     refine yZ 10 rfl (λK hK=> ?_)
     obtain⟨hp, -, -, -⟩:=zet.out.prog gp rfl
     have q0:Xp8.cell? ⟨gp,0,none⟩=some (.slice none 0 0):=ze hp 0
     have f0:=zK hp 0
     have q1:Xp8.cell? ⟨gp,1,none⟩=some (.int .i64 0):=ze hp 1
     have f1:=zK hp 1
     have q2:Xp8.cell? ⟨gp,2,none⟩=some (.slice none 0 0):=ze hp 2
     have f2:=zK hp 2
     clear hp
     go_simp
     have hend:=zet.out.done (n:=n) (dm:=dm) (by omega)
     have zL:=qh hend
     refine hK.out _ _ (by obtain⟨a',hm, -⟩:=hend.2;exact hm.below) (λ_=> ?_)
     clear hend q0 q1 q2 f0 f1 f2
     clear hK K
     refine vN ?_
     clear hn wN wn wO
     go_wp2_with fail
     go_meet
     case rel=>exact⟨gv,gp,n,dm,rfl,by omega,by omega,by omega,by omega,zL.out.1,zL.out.2⟩
    skip
    go_simp
    have zeu:=zfP.out.box
    refine hK.out _ _ zeu.zN.below (λ_=> ?_)
    obtain⟨gp,jQ⟩:∃n,n=Xp4.heap.size:=⟨_,rfl⟩
    rw [<-jQ] at zeu ⊢
    clear jQ
    generalize World.alloc Xp4 _=zxq at zeu ⊢
    replace zeu:=qh zeu
    clear hK K
    refine yZ 6 rfl (λK hK=> ?_)
    go_simp
    refine(xZ.out zxq g _ 3 3 rfl zeu.out.zN (by omega) (by omega) (by omega)).mono ?_
    rintro en zoP ⟨r2,hr2,rfl,hmk,hsi⟩
    have zeM:=qh (zeu.out.pick hmk hsi)
    clear hmk hsi
    refine hK.out _ _ zeM.out.zN.below (λ_=> ?_)
    obtain⟨dm,wN⟩:∃n:Nat,(2:Int)+(r2:Int)=(n:Int):=⟨2+r2,by omega⟩
    have zaO:2<=dm:=by omega
    have zaP:dm<=4:=by omega
    have wO:=wrapN dm (by omega)
    have zdm:(0:Int)<=(dm:Int):=by omega
    skip
    clear hK K
    refine xu 7 xJ (zeM.out.zN.below) ?_
    refine xu 8 xJ (zeM.out.zN.below) ?_
    refine yZ 10 rfl (λK hK=> ?_)
    obtain⟨hp, -, -, -⟩:=zeM.out.prog gp rfl
    have q0:zoP.cell? ⟨gp,0,none⟩=some (.slice none 0 0):=ze hp 0
    have f0:=zK hp 0
    have q1:zoP.cell? ⟨gp,1,none⟩=some (.int .i64 0):=ze hp 1
    have f1:=zK hp 1
    have q2:zoP.cell? ⟨gp,2,none⟩=some (.slice none 0 0):=ze hp 2
    have f2:=zK hp 2
    clear hp
    go_simp
    have hend:=zeM.out.done (n:=n) (dm:=dm) (by omega)
    have zL:=qh hend
    refine hK.out _ _ (by obtain⟨a',hm, -⟩:=hend.2;exact hm.below) (λ_=> ?_)
    clear hend q0 q1 q2 f0 f1 f2
    clear hK K
    refine vN ?_
    clear hn wN wn wO
    go_wp2_with fail
    go_meet
    case rel=>exact⟨gv,gp,n,dm,rfl,by omega,by omega,by omega,by omega,zL.out.1,zL.out.2⟩
   skip
   go_simp
   have zbA:=zb9.out.box
   refine hK.out _ _ zbA.zN.below (λ_=> ?_)
   obtain⟨gp,jQ⟩:∃n,n=Xp2.heap.size:=⟨_,rfl⟩
   rw [<-jQ] at zbA ⊢
   clear jQ
   generalize World.alloc Xp2 _=zxr at zbA ⊢
   replace zbA:=qh zbA
   clear hK K
   refine yZ 2 rfl (λK hK=> ?_)
   go_simp
   refine(xZ.out zxr g _ 3 3 rfl zbA.out.zN (by omega) (by omega) (by omega)).mono ?_
   rintro en zxs ⟨r1,hr1,rfl,hmk,hsi⟩
   have zeN:=qh (zbA.out.pick hmk hsi)
   clear hmk hsi
   refine hK.out _ _ zeN.out.zN.below (λ_=> ?_)
   obtain⟨n,hn⟩:∃n:Nat,(1:Int)+(r1:Int)=(n:Int):=⟨1+r1,by omega⟩
   have bn1:1<=n:=by omega
   have bn2:n<=3:=by omega
   have wn:=wrapN n (by omega)
   have zn:(0:Int)<=(n:Int):=by omega
   have yn:(n:Int)<=3:=by omega
   clear hK K
   refine xu 3 xJ (zeN.out.zN.below) ?_
   refine xu 4 xJ (zeN.out.zN.below) ?_
   refine yZ 6 rfl (λK hK=> ?_)
   go_simp
   refine(xZ.out zxs g _ 3 3 rfl zeN.out.zN (by omega) (by omega) (by omega)).mono ?_
   rintro en zoQ ⟨r2,hr2,rfl,hmk,hsi⟩
   have zeO:=qh (zeN.out.pick hmk hsi)
   clear hmk hsi
   refine hK.out _ _ zeO.out.zN.below (λ_=> ?_)
   obtain⟨dm,wN⟩:∃n:Nat,(2:Int)+(r2:Int)=(n:Int):=⟨2+r2,by omega⟩
   have zaO:2<=dm:=by omega
   have zaP:dm<=4:=by omega
   have wO:=wrapN dm (by omega)
   have zdm:(0:Int)<=(dm:Int):=by omega
   skip
   clear hK K
   refine xu 7 xJ (zeO.out.zN.below) ?_
   refine xu 8 xJ (zeO.out.zN.below) ?_
   refine yZ 10 rfl (λK hK=> ?_)
   obtain⟨hp, -, -, -⟩:=zeO.out.prog gp rfl
   have q0:zoQ.cell? ⟨gp,0,none⟩=some (.slice none 0 0):=ze hp 0
   have f0:=zK hp 0
   have q1:zoQ.cell? ⟨gp,1,none⟩=some (.int .i64 0):=ze hp 1
   have f1:=zK hp 1
   have q2:zoQ.cell? ⟨gp,2,none⟩=some (.slice none 0 0):=ze hp 2
   have f2:=zK hp 2
   clear hp
   go_simp
   have hend:=zeO.out.done (n:=n) (dm:=dm) (by omega)
   have zL:=qh hend
   refine hK.out _ _ (by obtain⟨a',hm, -⟩:=hend.2;exact hm.below) (λ_=> ?_)
   clear hend q0 q1 q2 f0 f1 f2
   clear hK K
   refine vN ?_
   clear hn wN wn wO
   go_wp2_with fail
   go_meet
   case rel=>exact⟨gv,gp,n,dm,rfl,by omega,by omega,by omega,by omega,zL.out.1,zL.out.2⟩
  ·skip
   go_simp
   refine(xZ.out V1 g _ 3 3 rfl hT0.out.zN (by omega) (by omega) (by omega)).mono ?_
   rintro en zhB ⟨r1,hr1,rfl,hmk,hsi⟩
   have zdp:=qh (hT0.out.pick hmk hsi)
   clear hmk hsi
   refine hK.out _ _ zdp.out.zN.below (λ_=> ?_)
   obtain⟨n,hn⟩:∃n:Nat,(1:Int)+(r1:Int)=(n:Int):=⟨1+r1,by omega⟩
   have bn1:1<=n:=by omega
   have bn2:n<=3:=by omega
   have wn:=wrapN n (by omega)
   have zn:(0:Int)<=(n:Int):=by omega
   have yn:(n:Int)<=3:=by omega
   clear hK K
   refine xu 3 xJ (zdp.out.zN.below) ?_
   refine wpAnyH_ready (rs:= [0,6,9]) (by kernel_rfl) (by simp) ?_
   refine AllReadyH.cons rfl (λK hK=> ?_) (AllReadyH.cons rfl (λK hK=> ?_) (AllReadyH.cons rfl (λK hK=> ?_) AllReadyH.nil))
   ·skip
    go_simp
    have bg:=zdp.out.names
    unfold jw at bg
    refine hK.out _ _ bg.zN.below (λ_=> ?_)
    obtain⟨gv,hgv⟩:∃n,n=zhB.heap.size:=⟨_,rfl⟩
    rw [<-hgv] at bg ⊢
    clear hgv
    generalize World.alloc zhB _=zoR at bg ⊢
    replace bg:=qh bg
    clear hK K
    refine xu 4 xJ (bg.out.zN.below) ?_
    refine wpAnyH_ready (rs:= [6,9]) (by kernel_rfl) (by simp) ?_
    refine AllReadyH.cons rfl (λK hK=> ?_) (AllReadyH.cons rfl (λK hK=> ?_) AllReadyH.nil)
    ·skip
     go_simp
     refine(xZ.out zoR g _ 3 3 rfl bg.out.zN (by omega) (by omega) (by omega)).mono ?_
     rintro en zsU ⟨r2,hr2,rfl,hmk,hsi⟩
     have zhl:=qh (bg.out.pick hmk hsi)
     clear hmk hsi
     refine hK.out _ _ zhl.out.zN.below (λ_=> ?_)
     obtain⟨dm,wN⟩:∃n:Nat,(2:Int)+(r2:Int)=(n:Int):=⟨2+r2,by omega⟩
     have zaO:2<=dm:=by omega
     have zaP:dm<=4:=by omega
     have wO:=wrapN dm (by omega)
     have zdm:(0:Int)<=(dm:Int):=by omega
     skip
     clear hK K
     refine xu 7 xJ (zhl.out.zN.below) ?_
     refine xu 8 xJ (zhl.out.zN.below) ?_
     refine yZ 9 rfl (λK hK=> ?_)
     go_simp
     have zbB:=zhl.out.box
     refine hK.out _ _ zbB.zN.below (λ_=> ?_)
     obtain⟨gp,jQ⟩:∃n,n=zsU.heap.size:=⟨_,rfl⟩
     rw [<-jQ] at zbB ⊢
     clear jQ
     generalize World.alloc zsU _=zoS at zbB ⊢
     replace zbB:=qh zbB
     clear hK K
     refine yZ 10 rfl (λK hK=> ?_)
     obtain⟨hp, -, -, -⟩:=zbB.out.prog gp rfl
     have q0:zoS.cell? ⟨gp,0,none⟩=some (.slice none 0 0):=ze hp 0
     have f0:=zK hp 0
     have q1:zoS.cell? ⟨gp,1,none⟩=some (.int .i64 0):=ze hp 1
     have f1:=zK hp 1
     have q2:zoS.cell? ⟨gp,2,none⟩=some (.slice none 0 0):=ze hp 2
     have f2:=zK hp 2
     clear hp
     go_simp
     have hend:=zbB.out.done (n:=n) (dm:=dm) (by omega)
     have zL:=qh hend
     refine hK.out _ _ (by obtain⟨a',hm, -⟩:=hend.2;exact hm.below) (λ_=> ?_)
     clear hend q0 q1 q2 f0 f1 f2
     clear hK K
     refine vN ?_
     clear hn wN wn wO
     go_wp2_with fail
     go_meet
     case rel=>exact⟨gv,gp,n,dm,rfl,by omega,by omega,by omega,by omega,zL.out.1,zL.out.2⟩
    skip
    go_simp
    have zbC:=bg.out.box
    refine hK.out _ _ zbC.zN.below (λ_=> ?_)
    obtain⟨gp,jQ⟩:∃n,n=zoR.heap.size:=⟨_,rfl⟩
    rw [<-jQ] at zbC ⊢
    clear jQ
    generalize World.alloc zoR _=zxt at zbC ⊢
    replace zbC:=qh zbC
    clear hK K
    refine yZ 6 rfl (λK hK=> ?_)
    go_simp
    refine(xZ.out zxt g _ 3 3 rfl zbC.out.zN (by omega) (by omega) (by omega)).mono ?_
    rintro en zoT ⟨r2,hr2,rfl,hmk,hsi⟩
    have zeP:=qh (zbC.out.pick hmk hsi)
    clear hmk hsi
    refine hK.out _ _ zeP.out.zN.below (λ_=> ?_)
    obtain⟨dm,wN⟩:∃n:Nat,(2:Int)+(r2:Int)=(n:Int):=⟨2+r2,by omega⟩
    have zaO:2<=dm:=by omega
    have zaP:dm<=4:=by omega
    have wO:=wrapN dm (by omega)
    have zdm:(0:Int)<=(dm:Int):=by omega
    skip
    clear hK K
    refine xu 7 xJ (zeP.out.zN.below) ?_
    refine xu 8 xJ (zeP.out.zN.below) ?_
    refine yZ 10 rfl (λK hK=> ?_)
    obtain⟨hp, -, -, -⟩:=zeP.out.prog gp rfl
    have q0:zoT.cell? ⟨gp,0,none⟩=some (.slice none 0 0):=ze hp 0
    have f0:=zK hp 0
    have q1:zoT.cell? ⟨gp,1,none⟩=some (.int .i64 0):=ze hp 1
    have f1:=zK hp 1
    have q2:zoT.cell? ⟨gp,2,none⟩=some (.slice none 0 0):=ze hp 2
    have f2:=zK hp 2
    clear hp
    go_simp
    have hend:=zeP.out.done (n:=n) (dm:=dm) (by omega)
    have zL:=qh hend
    refine hK.out _ _ (by obtain⟨a',hm, -⟩:=hend.2;exact hm.below) (λ_=> ?_)
    clear hend q0 q1 q2 f0 f1 f2
    clear hK K
    refine vN ?_
    clear hn wN wn wO
    go_wp2_with fail
    go_meet
    case rel=>exact⟨gv,gp,n,dm,rfl,by omega,by omega,by omega,by omega,zL.out.1,zL.out.2⟩
   ·skip
    go_simp
    refine(xZ.out zhB g _ 3 3 rfl zdp.out.zN (by omega) (by omega) (by omega)).mono ?_
    rintro en zkU ⟨r2,hr2,rfl,hmk,hsi⟩
    have zhm:=qh (zdp.out.pick hmk hsi)
    clear hmk hsi
    refine hK.out _ _ zhm.out.zN.below (λ_=> ?_)
    obtain⟨dm,wN⟩:∃n:Nat,(2:Int)+(r2:Int)=(n:Int):=⟨2+r2,by omega⟩
    have zaO:2<=dm:=by omega
    have zaP:dm<=4:=by omega
    have wO:=wrapN dm (by omega)
    have zdm:(0:Int)<=(dm:Int):=by omega
    skip
    clear hK K
    refine xu 7 xJ (zhm.out.zN.below) ?_
    refine wpAnyH_ready (rs:= [0,9]) (by kernel_rfl) (by simp) ?_
    refine AllReadyH.cons rfl (λK hK=> ?_) (AllReadyH.cons rfl (λK hK=> ?_) AllReadyH.nil)
    ·skip
     go_simp
     have pG:=zhm.out.names
     unfold jw at pG
     refine hK.out _ _ pG.zN.below (λ_=> ?_)
     obtain⟨gv,hgv⟩:∃n,n=zkU.heap.size:=⟨_,rfl⟩
     rw [<-hgv] at pG ⊢
     clear hgv
     generalize World.alloc zkU _=zsV at pG ⊢
     replace pG:=qh pG
     clear hK K
     refine xu 4 xJ (pG.out.zN.below) ?_
     refine xu 8 xJ (pG.out.zN.below) ?_
     refine yZ 9 rfl (λK hK=> ?_)
     go_simp
     have zbD:=pG.out.box
     refine hK.out _ _ zbD.zN.below (λ_=> ?_)
     obtain⟨gp,jQ⟩:∃n,n=zsV.heap.size:=⟨_,rfl⟩
     rw [<-jQ] at zbD ⊢
     clear jQ
     generalize World.alloc zsV _=zoU at zbD ⊢
     replace zbD:=qh zbD
     clear hK K
     refine yZ 10 rfl (λK hK=> ?_)
     obtain⟨hp, -, -, -⟩:=zbD.out.prog gp rfl
     have q0:zoU.cell? ⟨gp,0,none⟩=some (.slice none 0 0):=ze hp 0
     have f0:=zK hp 0
     have q1:zoU.cell? ⟨gp,1,none⟩=some (.int .i64 0):=ze hp 1
     have f1:=zK hp 1
     have q2:zoU.cell? ⟨gp,2,none⟩=some (.slice none 0 0):=ze hp 2
     have f2:=zK hp 2
     clear hp
     go_simp
     have hend:=zbD.out.done (n:=n) (dm:=dm) (by omega)
     have zL:=qh hend
     refine hK.out _ _ (by obtain⟨a',hm, -⟩:=hend.2;exact hm.below) (λ_=> ?_)
     clear hend q0 q1 q2 f0 f1 f2
     clear hK K
     refine vN ?_
     clear hn wN wn wO
     go_wp2_with fail
     go_meet
     case rel=>exact⟨gv,gp,n,dm,rfl,by omega,by omega,by omega,by omega,zL.out.1,zL.out.2⟩
    skip
    go_simp
    have zdq:=zhm.out.box
    refine hK.out _ _ zdq.zN.below (λ_=> ?_)
    obtain⟨gp,jQ⟩:∃n,n=zkU.heap.size:=⟨_,rfl⟩
    rw [<-jQ] at zdq ⊢
    clear jQ
    generalize World.alloc zkU _=zsW at zdq ⊢
    replace zdq:=qh zdq
    clear hK K
    refine yZ 0 rfl (λK hK=> ?_)
    go_simp
    have bq:=zdq.out.names
    unfold jw at bq
    refine hK.out _ _ bq.zN.below (λ_=> ?_)
    obtain⟨gv,hgv⟩:∃n,n=zsW.heap.size:=⟨_,rfl⟩
    rw [<-hgv] at bq ⊢
    clear hgv
    generalize World.alloc zsW _=zoV at bq ⊢
    replace bq:=qh bq
    clear hK K
    refine xu 4 xJ (bq.out.zN.below) ?_
    refine xu 8 xJ (bq.out.zN.below) ?_
    refine yZ 10 rfl (λK hK=> ?_)
    obtain⟨hp, -, -, -⟩:=bq.out.prog gp rfl
    have q0:zoV.cell? ⟨gp,0,none⟩=some (.slice none 0 0):=ze hp 0
    have f0:=zK hp 0
    have q1:zoV.cell? ⟨gp,1,none⟩=some (.int .i64 0):=ze hp 1
    have f1:=zK hp 1
    have q2:zoV.cell? ⟨gp,2,none⟩=some (.slice none 0 0):=ze hp 2
    have f2:=zK hp 2
    clear hp
    go_simp
    have hend:=bq.out.done (n:=n) (dm:=dm) (by omega)
    have zL:=qh hend
    refine hK.out _ _ (by obtain⟨a',hm, -⟩:=hend.2;exact hm.below) (λ_=> ?_)
    clear hend q0 q1 q2 f0 f1 f2
    clear hK K
    refine vN ?_
    clear hn wN wn wO
    go_wp2_with fail
    go_meet
    case rel=>exact⟨gv,gp,n,dm,rfl,by omega,by omega,by omega,by omega,zL.out.1,zL.out.2⟩
   skip
   go_simp
   have za7:=zdp.out.box
   refine hK.out _ _ za7.zN.below (λ_=> ?_)
   obtain⟨gp,jQ⟩:∃n,n=zhB.heap.size:=⟨_,rfl⟩
   rw [<-jQ] at za7 ⊢
   clear jQ
   generalize World.alloc zhB _=zoW at za7 ⊢
   replace za7:=qh za7
   clear hK K
   refine wpAnyH_ready (rs:= [0,6]) (by kernel_rfl) (by simp) ?_
   refine AllReadyH.cons rfl (λK hK=> ?_) (AllReadyH.cons rfl (λK hK=> ?_) AllReadyH.nil)
   ·skip
    go_simp
    have pI:=za7.out.names
    unfold jw at pI
    refine hK.out _ _ pI.zN.below (λ_=> ?_)
    obtain⟨gv,hgv⟩:∃n,n=zoW.heap.size:=⟨_,rfl⟩
    rw [<-hgv] at pI ⊢
    clear hgv
    generalize World.alloc zoW _=zxu at pI ⊢
    replace pI:=qh pI
    clear hK K
    refine xu 4 xJ (pI.out.zN.below) ?_
    refine yZ 6 rfl (λK hK=> ?_)
    go_simp
    refine(xZ.out zxu g _ 3 3 rfl pI.out.zN (by omega) (by omega) (by omega)).mono ?_
    rintro en zoX ⟨r2,hr2,rfl,hmk,hsi⟩
    have zeQ:=qh (pI.out.pick hmk hsi)
    clear hmk hsi
    refine hK.out _ _ zeQ.out.zN.below (λ_=> ?_)
    obtain⟨dm,wN⟩:∃n:Nat,(2:Int)+(r2:Int)=(n:Int):=⟨2+r2,by omega⟩
    have zaO:2<=dm:=by omega
    have zaP:dm<=4:=by omega
    have wO:=wrapN dm (by omega)
    have zdm:(0:Int)<=(dm:Int):=by omega
    skip
    clear hK K
    refine xu 7 xJ (zeQ.out.zN.below) ?_
    refine xu 8 xJ (zeQ.out.zN.below) ?_
    refine yZ 10 rfl (λK hK=> ?_)
    obtain⟨hp, -, -, -⟩:=zeQ.out.prog gp rfl
    have q0:zoX.cell? ⟨gp,0,none⟩=some (.slice none 0 0):=ze hp 0
    have f0:=zK hp 0
    have q1:zoX.cell? ⟨gp,1,none⟩=some (.int .i64 0):=ze hp 1
    have f1:=zK hp 1
    have q2:zoX.cell? ⟨gp,2,none⟩=some (.slice none 0 0):=ze hp 2
    have f2:=zK hp 2
    clear hp
    go_simp
    have hend:=zeQ.out.done (n:=n) (dm:=dm) (by omega)
    have zL:=qh hend
    refine hK.out _ _ (by obtain⟨a',hm, -⟩:=hend.2;exact hm.below) (λ_=> ?_)
    clear hend q0 q1 q2 f0 f1 f2
    clear hK K
    refine vN ?_
    clear hn wN wn wO
    go_wp2_with fail
    go_meet
    case rel=>exact⟨gv,gp,n,dm,rfl,by omega,by omega,by omega,by omega,zL.out.1,zL.out.2⟩
   skip
   go_simp
   refine(xZ.out zoW g _ 3 3 rfl za7.out.zN (by omega) (by omega) (by omega)).mono ?_
   rintro en zsX ⟨r2,hr2,rfl,hmk,hsi⟩
   have zkV:=qh (za7.out.pick hmk hsi)
   clear hmk hsi
   refine hK.out _ _ zkV.out.zN.below (λ_=> ?_)
   obtain⟨dm,wN⟩:∃n:Nat,(2:Int)+(r2:Int)=(n:Int):=⟨2+r2,by omega⟩
   have zaO:2<=dm:=by omega
   have zaP:dm<=4:=by omega
   have wO:=wrapN dm (by omega)
   have zdm:(0:Int)<=(dm:Int):=by omega
   skip
   clear hK K
   refine xu 7 xJ (zkV.out.zN.below) ?_
   refine yZ 0 rfl (λK hK=> ?_)
   go_simp
   have bA:=zkV.out.names
   unfold jw at bA
   refine hK.out _ _ bA.zN.below (λ_=> ?_)
   obtain⟨gv,hgv⟩:∃n,n=zsX.heap.size:=⟨_,rfl⟩
   rw [<-hgv] at bA ⊢
   clear hgv
   generalize World.alloc zsX _=zoY at bA ⊢
   replace bA:=qh bA
   clear hK K
   refine xu 4 xJ (bA.out.zN.below) ?_
   refine xu 8 xJ (bA.out.zN.below) ?_
   refine yZ 10 rfl (λK hK=> ?_)
   obtain⟨hp, -, -, -⟩:=bA.out.prog gp rfl
   have q0:zoY.cell? ⟨gp,0,none⟩=some (.slice none 0 0):=ze hp 0
   have f0:=zK hp 0
   have q1:zoY.cell? ⟨gp,1,none⟩=some (.int .i64 0):=ze hp 1
   have f1:=zK hp 1
   have q2:zoY.cell? ⟨gp,2,none⟩=some (.slice none 0 0):=ze hp 2
   have f2:=zK hp 2
   clear hp
   go_simp
   have hend:=bA.out.done (n:=n) (dm:=dm) (by omega)
   have zL:=qh hend
   refine hK.out _ _ (by obtain⟨a',hm, -⟩:=hend.2;exact hm.below) (λ_=> ?_)
   clear hend q0 q1 q2 f0 f1 f2
   clear hK K
   refine vN ?_
   clear hn wN wn wO
   go_wp2_with fail
   go_meet
   case rel=>exact⟨gv,gp,n,dm,rfl,by omega,by omega,by omega,by omega,zL.out.1,zL.out.2⟩
  skip
  go_simp
  have za8:=hT0.out.box
  refine hK.out _ _ za8.zN.below (λ_=> ?_)
  obtain⟨gp,jQ⟩:∃n,n=V1.heap.size:=⟨_,rfl⟩
  rw [<-jQ] at za8 ⊢
  clear jQ
  generalize World.alloc V1 _=zoZ at za8 ⊢
  replace za8:=qh za8
  clear hK K
  refine wpAnyH_ready (rs:= [0,2]) (by kernel_rfl) (by simp) ?_
  refine AllReadyH.cons rfl (λK hK=> ?_) (AllReadyH.cons rfl (λK hK=> ?_) AllReadyH.nil)
  ·skip
   go_simp
   have za9:=za8.out.names
   unfold jw at za9
   refine hK.out _ _ za9.zN.below (λ_=> ?_)
   obtain⟨gv,hgv⟩:∃n,n=zoZ.heap.size:=⟨_,rfl⟩
   rw [<-hgv] at za9 ⊢
   clear hgv
   generalize World.alloc zoZ _=zxv at za9 ⊢
   replace za9:=qh za9
   clear hK K
   refine yZ 2 rfl (λK hK=> ?_)
   go_simp
   refine(xZ.out zxv g _ 3 3 rfl za9.out.zN (by omega) (by omega) (by omega)).mono ?_
   rintro en zxw ⟨r1,hr1,rfl,hmk,hsi⟩
   have zeR:=qh (za9.out.pick hmk hsi)
   clear hmk hsi
   refine hK.out _ _ zeR.out.zN.below (λ_=> ?_)
   obtain⟨n,hn⟩:∃n:Nat,(1:Int)+(r1:Int)=(n:Int):=⟨1+r1,by omega⟩
   have bn1:1<=n:=by omega
   have bn2:n<=3:=by omega
   have wn:=wrapN n (by omega)
   have zn:(0:Int)<=(n:Int):=by omega
   have yn:(n:Int)<=3:=by omega
   clear hK K
   refine xu 3 xJ (zeR.out.zN.below) ?_
   refine xu 4 xJ (zeR.out.zN.below) ?_
   refine yZ 6 rfl (λK hK=> ?_)
   go_simp
   refine(xZ.out zxw g _ 3 3 rfl zeR.out.zN (by omega) (by omega) (by omega)).mono ?_
   rintro en zpa ⟨r2,hr2,rfl,hmk,hsi⟩
   have zeS:=qh (zeR.out.pick hmk hsi)
   clear hmk hsi
   refine hK.out _ _ zeS.out.zN.below (λ_=> ?_)
   obtain⟨dm,wN⟩:∃n:Nat,(2:Int)+(r2:Int)=(n:Int):=⟨2+r2,by omega⟩
   have zaO:2<=dm:=by omega
   have zaP:dm<=4:=by omega
   have wO:=wrapN dm (by omega)
   have zdm:(0:Int)<=(dm:Int):=by omega
   skip
   clear hK K
   refine xu 7 xJ (zeS.out.zN.below) ?_
   refine xu 8 xJ (zeS.out.zN.below) ?_
   refine yZ 10 rfl (λK hK=> ?_)
   obtain⟨hp, -, -, -⟩:=zeS.out.prog gp rfl
   have q0:zpa.cell? ⟨gp,0,none⟩=some (.slice none 0 0):=ze hp 0
   have f0:=zK hp 0
   have q1:zpa.cell? ⟨gp,1,none⟩=some (.int .i64 0):=ze hp 1
   have f1:=zK hp 1
   have q2:zpa.cell? ⟨gp,2,none⟩=some (.slice none 0 0):=ze hp 2
   have f2:=zK hp 2
   clear hp
   go_simp
   have hend:=zeS.out.done (n:=n) (dm:=dm) (by omega)
   have zL:=qh hend
   refine hK.out _ _ (by obtain⟨a',hm, -⟩:=hend.2;exact hm.below) (λ_=> ?_)
   clear hend q0 q1 q2 f0 f1 f2
   clear hK K
   refine vN ?_
   clear hn wN wn wO
   go_wp2_with fail
   go_meet
   case rel=>exact⟨gv,gp,n,dm,rfl,by omega,by omega,by omega,by omega,zL.out.1,zL.out.2⟩
  skip
  go_simp
  refine(xZ.out zoZ g _ 3 3 rfl za8.out.zN (by omega) (by omega) (by omega)).mono ?_
  rintro en zpb ⟨r1,hr1,rfl,hmk,hsi⟩
  have zeT:=qh (za8.out.pick hmk hsi)
  clear hmk hsi
  refine hK.out _ _ zeT.out.zN.below (λ_=> ?_)
  obtain⟨n,hn⟩:∃n:Nat,(1:Int)+(r1:Int)=(n:Int):=⟨1+r1,by omega⟩
  have bn1:1<=n:=by omega
  have bn2:n<=3:=by omega
  have wn:=wrapN n (by omega)
  have zn:(0:Int)<=(n:Int):=by omega
  have yn:(n:Int)<=3:=by omega
  clear hK K
  refine xu 3 xJ (zeT.out.zN.below) ?_
  refine wpAnyH_ready (rs:= [0,6]) (by kernel_rfl) (by simp) ?_
  refine AllReadyH.cons rfl (λK hK=> ?_) (AllReadyH.cons rfl (λK hK=> ?_) AllReadyH.nil)
  ·skip
   go_simp
   have pJ:=zeT.out.names
   unfold jw at pJ
   refine hK.out _ _ pJ.zN.below (λ_=> ?_)
   obtain⟨gv,hgv⟩:∃n,n=zpb.heap.size:=⟨_,rfl⟩
   rw [<-hgv] at pJ ⊢
   clear hgv
   generalize World.alloc zpb _=zxx at pJ ⊢
   replace pJ:=qh pJ
   clear hK K
   refine xu 4 xJ (pJ.out.zN.below) ?_
   refine yZ 6 rfl (λK hK=> ?_)
   go_simp
   refine(xZ.out zxx g _ 3 3 rfl pJ.out.zN (by omega) (by omega) (by omega)).mono ?_
   rintro en zpc ⟨r2,hr2,rfl,hmk,hsi⟩
   have zeU:=qh (pJ.out.pick hmk hsi)
   clear hmk hsi
   refine hK.out _ _ zeU.out.zN.below (λ_=> ?_)
   obtain⟨dm,wN⟩:∃n:Nat,(2:Int)+(r2:Int)=(n:Int):=⟨2+r2,by omega⟩
   have zaO:2<=dm:=by omega
   have zaP:dm<=4:=by omega
   have wO:=wrapN dm (by omega)
   have zdm:(0:Int)<=(dm:Int):=by omega
   skip
   clear hK K
   refine xu 7 xJ (zeU.out.zN.below) ?_
   refine xu 8 xJ (zeU.out.zN.below) ?_
   refine yZ 10 rfl (λK hK=> ?_)
   obtain⟨hp, -, -, -⟩:=zeU.out.prog gp rfl
   have q0:zpc.cell? ⟨gp,0,none⟩=some (.slice none 0 0):=ze hp 0
   have f0:=zK hp 0
   have q1:zpc.cell? ⟨gp,1,none⟩=some (.int .i64 0):=ze hp 1
   have f1:=zK hp 1
   have q2:zpc.cell? ⟨gp,2,none⟩=some (.slice none 0 0):=ze hp 2
   have f2:=zK hp 2
   clear hp
   go_simp
   have hend:=zeU.out.done (n:=n) (dm:=dm) (by omega)
   have zL:=qh hend
   refine hK.out _ _ (by obtain⟨a',hm, -⟩:=hend.2;exact hm.below) (λ_=> ?_)
   clear hend q0 q1 q2 f0 f1 f2
   clear hK K
   refine vN ?_
   clear hn wN wn wO
   go_wp2_with fail
   go_meet
   case rel=>exact⟨gv,gp,n,dm,rfl,by omega,by omega,by omega,by omega,zL.out.1,zL.out.2⟩
  skip
  go_simp
  refine(xZ.out zpb g _ 3 3 rfl zeT.out.zN (by omega) (by omega) (by omega)).mono ?_
  rintro en zsY ⟨r2,hr2,rfl,hmk,hsi⟩
  have zkW:=qh (zeT.out.pick hmk hsi)
  clear hmk hsi
  refine hK.out _ _ zkW.out.zN.below (λ_=> ?_)
  obtain⟨dm,wN⟩:∃n:Nat,(2:Int)+(r2:Int)=(n:Int):=⟨2+r2,by omega⟩
  have zaO:2<=dm:=by omega
  have zaP:dm<=4:=by omega
  have wO:=wrapN dm (by omega)
  have zdm:(0:Int)<=(dm:Int):=by omega
  skip
  clear hK K
  refine xu 7 xJ (zkW.out.zN.below) ?_
  refine yZ 0 rfl (λK hK=> ?_)
  go_simp
  have bB:=zkW.out.names
  unfold jw at bB
  refine hK.out _ _ bB.zN.below (λ_=> ?_)
  obtain⟨gv,hgv⟩:∃n,n=zsY.heap.size:=⟨_,rfl⟩
  rw [<-hgv] at bB ⊢
  clear hgv
  generalize World.alloc zsY _=zpd at bB ⊢
  replace bB:=qh bB
  clear hK K
  refine xu 4 xJ (bB.out.zN.below) ?_
  refine xu 8 xJ (bB.out.zN.below) ?_
  refine yZ 10 rfl (λK hK=> ?_)
  obtain⟨hp, -, -, -⟩:=bB.out.prog gp rfl
  have q0:zpd.cell? ⟨gp,0,none⟩=some (.slice none 0 0):=ze hp 0
  have f0:=zK hp 0
  have q1:zpd.cell? ⟨gp,1,none⟩=some (.int .i64 0):=ze hp 1
  have f1:=zK hp 1
  have q2:zpd.cell? ⟨gp,2,none⟩=some (.slice none 0 0):=ze hp 2
  have f2:=zK hp 2
  clear hp
  go_simp
  have hend:=bB.out.done (n:=n) (dm:=dm) (by omega)
  have zL:=qh hend
  refine hK.out _ _ (by obtain⟨a',hm, -⟩:=hend.2;exact hm.below) (λ_=> ?_)
  clear hend q0 q1 q2 f0 f1 f2
  clear hK K
  refine vN ?_
  clear hn wN wn wO
  go_wp2_with fail
  go_meet
  case rel=>exact⟨gv,gp,n,dm,rfl,by omega,by omega,by omega,by omega,zL.out.1,zL.out.2⟩
 case rest=>
 obtain⟨gv,gp,n,dm,rfl,hn1,hn3,hd2,hd4,HL,HMA⟩:=hcut
 clear HR
 obtain⟨X,rfl⟩:∃x:World,x=wc:=⟨_,rfl⟩
 obtain⟨a0,zsZ,ha0⟩:=HMA.out
 have zta:=qh zsZ
 clear zsZ
 go_upto_region 4 with(go_at_call 55;go_must(refine(xZ.out X g _ 3 3 rfl zta.out (by omega) (by omega) (by omega)).mono ?_);rintro en X2 ⟨r3,hr3,rfl,hmk,hsi⟩;(have HL2:=qh (HL.out.picked hsi hmk (by omega)));clear hmk hsi HL zta)
 obtain⟨m,hm⟩:∃m:Nat,(1:Int)+(r3:Int)=(m:Int):=⟨1+r3,by omega⟩
 have hm1:1<=m:=by omega
 have hm3:m<=3:=by omega
 rw [hm]
 clear hm hr3
 go_loopg [7] m (λgg s7 wr=>∃(j k:Nat) (oa:Option Addr) (oc:Nat) (T:List (List zF)) (css:List (List Value)),s7= .int .i64 k/\Hid (j+k=m)/\Hid (gg=k)/\Hid (jl w wr g gv gp gr (.slice sa ln sc) n dm j (.slice oa j oc) T css))
 case atStart=>exact⟨0,m,none,0, [], [],rfl,by rw [Hid];omega,rfl,HL2.out⟩
 case round=>
 obtain⟨j,k',oa,oc,T,css,rfl,HJK,HG,HL⟩:=hrel
 clear HL2
 have hj3:j<=3:=by have:=HJK.out;omega
 have hk3:k'<=3:=by have:=HJK.out;omega
 by_cases hk0:0<k'
 rotate_left
 ·obtain rfl:k'=0:=by omega
  have hj1:j=m:=by have:=HJK.out;omega
  obtain⟨hend,hset⟩:=zkQ HL.out hn1 hn3 hd2 (by omega) (by omega) hj3
  have zL:=qh hend
  have xg:=qh hset
  clear hend hset hj1
  have c0:wr.cell? ⟨gp,0,none⟩=some (.slice (some ⟨gv,0,none⟩) n 3):=ze HL.out.box 0
  have c1:wr.cell? ⟨gp,1,none⟩=some (.int .i64 dm):=ze HL.out.box 1
  have c2:wr.cell? ⟨gp,2,none⟩=some (.slice oa j oc):=ze HL.out.box 2
  have z0:wr.cell? ⟨gr,0,none⟩=some (.slice none 0 0):=ze HL.out.res 0
  have z1:wr.cell? ⟨gr,1,none⟩=some (.int .i64 0):=ze HL.out.res 1
  have z2:wr.cell? ⟨gr,2,none⟩=some (.slice none 0 0):=ze HL.out.res 2
  have f0:=zK HL.out.res 0
  have f1:=zK HL.out.res 1
  have f2:=zK HL.out.res 2
  go_wp2_with fail
  refine bodyPost_ret (yV rfl _ _ gr 87 _ (0,0) _ rfl xg.out Tryz.underlying87 rfl zhA) rfl ?_
  exact zL.out
 obtain⟨k,rfl⟩:∃k,k'=k+1:=⟨k' - 1,by omega⟩
 have hkI:(0:Int)<(k:Int)+1:=by omega
 have CC:Hid (∀x,Since (λy=>(Value.slice oa j oc).ownBlock=some y\/y=g) wr x->x.cell? ⟨gp,0,none⟩=some (.slice (some ⟨gv,0,none⟩) n 3)/\x.cell? ⟨gp,1,none⟩=some (.int .i64 dm)/\x.cell? ⟨gp,2,none⟩=some (.slice oa j oc)):=λx hx=>by
  have h:=(hx.block _ (zy HL.out.box) (λe=>by rcases e with e|e;exact(HL.out.own_ne _ e).2.1 rfl;have:=HL.out.lo;omega)).trans HL.out.box
  exact⟨ze h 0,ze h 1,ze h 2⟩
 go_upto_region 6 with fail
 refine wp_region_noPanic ?_
 refine yh (n0:=15) (S:=λx=>Since (λy=>(Value.slice oa j oc).ownBlock=some y\/y=g) wr x) (by kernel_rfl) (Since.drew _ (Since.refl _ wr)) (λ_=> ?_)
 obtain⟨V1,hV1⟩:∃V1,V1=wr.drew:=⟨_,rfl⟩
 have hT0:Hid (Since (λy=>(Value.slice oa j oc).ownBlock=some y\/y=g) wr V1):=by rw [hV1];exact Since.drew _ (Since.refl _ wr)
 have hl2:jl w V1 g gv gp gr (.slice sa ln sc) n dm j (.slice oa j oc) T css:=by rw [hV1];exact HL.out.drew
 rw [<-hV1]
 clear hV1
 have HL2:=qh hl2
 have pK:=hl2.row.row
 rw [hl2.len] at pK
 have zqQ:=qh pK
 have HOWN:Hid (∀k,(Value.slice oa j oc).ownBlock=some k->k≠g):=λk hk=>(hl2.own_ne k hk).1
 obtain⟨a1,hmk,ha1⟩:=hl2.zN
 have yH:=qh hmk.below.size
 have HMK:=qh (And.intro hmk ha1)
 clear hl2 pK hmk ha1
 refine zJ 0 (λ_=>hT0.out) ?_
 refine qP [13,14,15] 1 CC.out (hT0.out) ?_
 refine zJ 2 (λ_=>hT0.out) ?_
 refine zJ 3 (λ_=>hT0.out) ?_
 refine zJ 5 (λ_=>hT0.out) ?_
 refine qP [7,11,12,13,14,15] 6 CC.out (hT0.out) ?_
 refine zJ 7 (λ_=>hT0.out) ?_
 refine zJ 8 (λ_=>hT0.out) ?_
 refine qP [11,12,13,14,15] 9 CC.out (hT0.out) ?_
 refine zJ 10 (λ_=>hT0.out) ?_
 refine qx 4 rfl (λK hK=> ?_)
 go_simp
 refine(xZ.out V1 g _ 5 5 rfl HMK.out.1 (by omega) (by omega) (by have h5:=HMK.out.2;omega)).mono ?_
 rintro en V2 ⟨r5,hr5,rfl,hmk,hsi⟩
 have ztc:=qh hmk
 have zpe:=qh hsi
 have hT1:=qh (hT0.out.trans hsi (λy hy=> .inl (.inr hy)))
 clear hmk hsi
 refine hK.out _ _ (λ_ _=>hT1.out) ?_
 clear hK K
 refine qx 11 rfl (λK hK=> ?_)
 go_simp
 refine(zvI.out g n dm (by omega) (by omega) (by omega) (by omega) V2 _ r5 ztc.out (by omega) (by have h5:=HMK.out.2;omega)).mono ?_
 rintro en V3 ⟨L,na,nc,a2,rfl,hok,haw,hmk,ha2,hsi⟩
 have zc2:=qh hmk
 have zpf:=qh (And.intro hok haw)
 have zkX:=qh (zpe.out.trans hsi (λ_ h=> .inl h))
 have HSZ:=qh hsi.size
 have jR:=qh (hT1.out.trans hsi (λy hy=> .inl (.inr hy)))
 have hrow:=zkX.out.row zqQ.out (λk hk e=>(HOWN.out k hk) e)
 have zeX:=qh hrow
 clear hmk hsi hok haw hrow
 refine hK.out _ _ (λ_ _=>jR.out) ?_
 clear hK K
 refine qx 12 rfl (λK hK=> ?_)
 go_simp
 have qK:=qh (jR.out.alloc (.cells #[.slice na L.length nc] 115))
 refine hK.out _ _ (λ_ _=>qK.out) ?_
 clear hK K
 refine qx 13 rfl (λK hK=> ?_)
 refine zY (V3.alloc (.cells #[.slice na L.length nc] 115)) (by rfl) (.tmp 28) (.tmp 39) 85 rfl 115 (.slice none 0 0) 1 24 Tryz.underlying85 zkR rfl (by decide) w.heap.size (.slice oa j oc) j (css.flatten) (by rfl) (zeX.out.alloc _) ⟨V3.heap.size,0,none⟩ 1 1 [.slice na L.length nc] (by rfl) rfl (vP V3 _ _) (by simp [Value.oneCell']) (by unfold maxLen;omega) (by omega) (by have h5:=yH.out;have h6:=zkX.out.size;simp;omega) ?_
 intro xa xc V4 e1 e2 e3 e4 e5
 have yI:=qh (qK.out.trans e4 (λy hy=> .inl (.inl hy)))
 have hp:=HL2.out.push zkX.out zc2.out (by have:=HMK.out.2;omega) zpf.out.1 rfl (zpf.out.2.step (Since.refl (λ_=>False) V3) (λ_ h=>h.elim) (λk hk=> .inl (by have h5:=zpe.out.size;omega))) e1 e4 e5
 have HP:=qh hp
 clear e1 e2 e3 e4 e5 hp
 refine hK.out _ _ (λ_ _=>yI.out) ?_
 clear hK K
 change yM _ _ _ _ _ _ _ _ (Act.put _ (some 40) _) _
 simp only [Act.put,kT,kU,kV]
 refine zJ 14 (λ_=>yI.out) ?_
 refine qx 15 rfl (λK hK=> ?_)
 have q2:V4.cell? ⟨gp,2,none⟩=some (.slice oa j oc):=ze HP.out.1 2
 have f2:=zK HP.out.1 2
 go_simp
 refine hK.out _ _ (λh=>absurd rfl h) ?_
 clear q2 f2
 have hT5:=yI
 clear hK K
 refine yA (by kernel_rfl) ?_ _
 refine NoPanic.normal ?_
 have HP2:=qh HP.out.2
 clear HP ztc zc2 zpf zpe zkX zeX zqQ HOWN CC
 go_wp2_with fail
 go_roundg k
 case measure=>rw [HG.out];omega
 case rel=>exact⟨j+1,k,xa,xc,_,_,(by first|rfl|simp),by have:=HJK.out;rw [Hid];omega,rfl,HP2.out⟩
