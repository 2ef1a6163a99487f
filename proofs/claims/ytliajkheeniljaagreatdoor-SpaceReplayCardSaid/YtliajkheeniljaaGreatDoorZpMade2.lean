/- Steps. -/
import Derived.Test.YtliajkheeniljaaGreatDoorZpMakerL
import Derived.Test.YtliajkheeniljaaGreatDoorZpTail
set_option linter.all false
namespace Go.Proofs.YtliajkheeniljaaGreatDoor
open Go.RowKit
set_option maxRecDepth 100000
set_option maxHeartbeats 16000000
theorem zua (W0:World) (g:Nat) (lv:Value) (l:List Int) (hn:kG W0 .u8 lv l) (kv:Value) (ks:List Int) (hks:xJ W0 kv ks) (hk1:1<=ks.length) (hk2:ks.length<=100) (hk3:∀k∈ks,1<=k/\k<=11) (vars dom:Nat) (hv1:1<=vars) (hv2:vars<=10) (hd1:2<=dom) (hd2:dom<=16) (d:Nat) (hd:d<=10):
  zgB W0 g lv kv vars dom d:=by
 obtain⟨ka,kc,hkv, -⟩:=zh.slice hks
 induction d with
 |zero=>exact zln W0 g lv kv vars dom 0 (zlk W0 g lv l hn kv ks hks hk1 hk2 hk3 vars dom hv1 hv2 hd1 hd2 0 (by omega) (λh=>by omega)) ka _ kc hkv
 |succ d ih=>exact zln W0 g lv kv vars dom (d+1) (zlk W0 g lv l hn kv ks hks hk1 hk2 hk3 vars dom hv1 hv2 hd1 hd2 (d+1) hd (λ_=>ih (by omega))) ka _ kc hkv
def zeW:List Int:= [1,2,1,2,3,4,5,6,7,8,9,10,11]
theorem zqG (w:World):Calls Tryz.prog 21 #[] w λe w'=>(∃kv,e= .returned kv/\xJ w' kv zeW)/\Below w.heap.size w w':=by
 have hb:=(Below.refl w.heap.size w).alloc (Nat.le_refl _) (.cells #[.int .i64 1, .int .i64 2, .int .i64 1, .int .i64 2, .int .i64 3, .int .i64 4, .int .i64 5, .int .i64 6, .int .i64 7, .int .i64 8, .int .i64 9, .int .i64 10, .int .i64 11] 3)
 have hg:=yj w (.cells #[.int .i64 1, .int .i64 2, .int .i64 1, .int .i64 2, .int .i64 3, .int .i64 4, .int .i64 5, .int .i64 6, .int .i64 7, .int .i64 8, .int .i64 9, .int .i64 10, .int .i64 11] 3)
 have hr:=uo (w:=w.alloc (.cells #[.int .i64 1, .int .i64 2, .int .i64 1, .int .i64 2, .int .i64 3, .int .i64 4, .int .i64 5, .int .i64 6, .int .i64 7, .int .i64 8, .int .i64 9, .int .i64 10, .int .i64 11] 3)) (l:=zeW) (B:=0) (sv:= .slice (some ⟨w.heap.size,0,none⟩) 13 13) (uU (n:=13) (cs:=zo yR zeW) hg (Nat.zero_le _) rfl (by decide))
 have HB:=qh hb
 have HR:=qh hr
 clear hb hg hr
 go_enter Tryz.func21,Tryz.ntmps21
 go_wp2_with fail
 go_ret
 exact⟨⟨_,rfl,HR.out⟩,HB.out⟩
def wL:List Value:= [.string ⟨#[120]⟩, .string ⟨#[121]⟩, .string ⟨#[122]⟩]
theorem zue {X:World} {gv n:Nat} (h:X.heap[gv]? =some (.cells wL.toArray 9 (0,0))) (hn:n<=3):zd0 X (.slice (some ⟨gv,0,none⟩) n 3) (xyz.take n):=by
 have hl:(xyz.take n).length=n:=by rw [List.length_take];simp [xyz];omega
 refine⟨_,3,by rw [hl],by rw [hl];omega,λj hj=> ?_⟩
 rw [hl] at hj
 have e:(xyz.take n).getD j default=xyz.getD j default:=by simp only [List.getD_eq_getElem?_getD,List.getElem?_take_of_lt hj]
 have hj3:j=0\/j=1\/j=2:=by omega
 rw [e]
 rcases hj3 with rfl|rfl|rfl
 ·refine⟨gv,0, [.string ⟨#[120]⟩],rfl,zx h,rfl,λi hi=> ?_,rfl⟩
  obtain rfl:i=0:=by omega
  rw [ze h];rfl
 ·refine⟨gv,0, [.string ⟨#[121]⟩],rfl,zx h,rfl,λi hi=> ?_,rfl⟩
  obtain rfl:i=0:=by omega
  rw [ze h];rfl
 refine⟨gv,0, [.string ⟨#[122]⟩],rfl,zx h,rfl,λi hi=> ?_,rfl⟩
 obtain rfl:i=0:=by omega
 rw [ze h];rfl
def PF (va:Value) (g gp gr:Nat) (k:Nat):Prop:=va.ownBlock=some k\/k=g\/k=gp\/k=gr
structure wu (w X:World) (g gv gp gr:Nat) (sv:Value) (n dm i:Nat) (va:Value) (T:List (List zL)) (css:List (List Value)):Prop where
 yu:∃a',vI w X g sv a'/\a'<=10+i*5000
 box:X.heap[gp]? =some (.cells #[.slice (some ⟨gv,0,none⟩) n 3, .int .i64 dm,va] 92 (0,0))
 vars:X.heap[gv]? =some (.cells wL.toArray 9 (0,0))
 res:X.heap[gr]? =some (.cells #[.slice none 0 0, .int .i64 0, .slice none 0 0] 92 (0,0))
 lo:w.heap.size<=g/\w.heap.size<=gv/\w.heap.size<=gp/\w.heap.size<=gr/\g≠gp/\g≠gr/\gp≠gr/\gv≠g/\gv≠gp/\gv≠gr
 len:T.length=i
 ok:∀l∈T,xA n dm l 20=true/\yE l<=52
 row:xq (PF va g gp gr) X (zi9 3 4) 1 w.heap.size 129 va T css
section
variable {w X Y:World} {g gv gp gr:Nat} {sv:Value} {n dm i:Nat} {va:Value} {T:List (List zL)} {css:List (List Value)}
theorem wu.own_ne (h:wu w X g gv gp gr sv n dm i va T css):∀k,va.ownBlock=some k->k≠g/\k≠gp/\k≠gr/\k≠gv:=λk hk=>by
 obtain⟨a',hm, -⟩:=h.yu
 exact⟨λe=>by subst e;exact gT h.row.row hk hm.box (by decide),λe=>by subst e;exact gT h.row.row hk h.box (by decide),λe=>by subst e;exact gT h.row.row hk h.res (by decide),λe=>by subst e;exact gT h.row.row hk h.vars (by decide)⟩
theorem wu.lt (h:wu w X g gv gp gr sv n dm i va T css):∀k,PF va g gp gr k->k<X.heap.size:=λk hk=>by
 obtain⟨a',hm, -⟩:=h.yu
 rcases hk with hk|rfl|rfl|rfl
 ·exact(h.row.row.lt k hk).2
 ·exact zx hm.box
 ·exact zx h.box
 exact zx h.res
theorem wu.push {xc ln rc a1 oc:Nat} {Z:World} {oa ra xa:Option Addr} {l:List zL} {o:Obj} (h:wu w X g gv gp gr sv n dm i (.slice oa i oc) T css) (hs:Since (λk=>k=g) X Y) (hm:vI w Y g sv a1) (ha:a1<=10+i*5000+5000) (hok:xA n dm l 20=true/\yE l<=52) (hlen:l.length=ln)
  (haw:zZ (λk=>k<X.heap.size) Y (λy=>yC 3 4 y l (.slice ra ln rc))) (h1:Z.ownsRow w.heap.size 129 1 (.slice xa (i+1) xc) (i+1) (css.flatten++ [.slice ra ln rc])) (h4:Since (λk=>(Value.slice oa i oc).ownBlock=some k) (Y.alloc o) Z) (h5:∀k,(Value.slice xa (i+1) xc).ownBlock=some k->(Value.slice oa i oc).ownBlock=some k\/k=(Y.alloc o).heap.size):
  Z.heap[gp]? =some (.cells #[.slice (some ⟨gv,0,none⟩) n 3, .int .i64 dm, .slice oa i oc] 92 (0,0))/\wu w (Z.setCell ⟨gp,2,none⟩ (.slice xa (i+1) xc)) g gv gp gr sv n dm (i+1) (.slice xa (i+1) xc) (T++ [l]) (css++ [[.slice ra ln rc]]):=by
 have hlo:=h.lo
 have hne:=h.own_ne
 have hlt:=h.lt
 have s1:Since (λk=>(Value.slice oa i oc).ownBlock=some k) Y Z:=((Since.refl _ Y).alloc o).trans h4 (λk hk=> .inl hk)
 have s2:Since (λk=>k=gp) Z (Z.setCell ⟨gp,2,none⟩ (.slice xa (i+1) xc)):=Since.setCell (F:=λk=>k=gp) (p:=⟨gp,2,none⟩) (Since.refl _ _) (.inl rfl) _
 have s3:Since (λk=>(Value.slice oa i oc).ownBlock=some k\/k=gp) Y (Z.setCell ⟨gp,2,none⟩ (.slice xa (i+1) xc)):=(s1.mono (λk _ hk=> .inl hk)).trans s2 (λk hk=> .inl (.inr hk))
 have zuf:=(hs.block _ (zx h.box) (by omega)).trans h.box
 have zvQ:=(hs.block _ (zx h.vars) (by omega)).trans h.vars
 have zz7:=(hs.block _ (zx h.res) (by omega)).trans h.res
 have uV:=(s1.block _ (zx zuf) (λe=>(hne _ e).2.1 rfl)).trans zuf
 have hvars:=(s1.block _ (zx zvQ) (λe=>(hne _ e).2.2.2 rfl)).trans zvQ
 have hres:=(s1.block _ (zx zz7) (λe=>(hne _ e).2.2.1 rfl)).trans zz7
 have hnew:∀k,(Value.slice xa (i+1) xc).ownBlock=some k->k≠gp:=λk hk e=>by
  rcases h5 k hk with h1|h1
  ·exact(hne k h1).2.1 e
  have:=zx zuf;simp at h1;omega
 refine⟨uV,⟨⟨a1,hm.since s3 (λk hk=> ?_),by omega⟩, ?_,(s2.block _ (zx hvars) (by omega)).trans hvars,(s2.block _ (zx hres) (by omega)).trans hres,hlo,by simp [h.len],λy hy=> ?_, ?_⟩⟩
 ·rcases hk with hk|hk
  ·have:=(h.row.row.lt k hk).1;have:=(hne k hk).1;omega
  omega
 ·have:=zw uV 2 (.slice xa (i+1) xc);simpa using this
 ·rcases List.mem_append.1 hy with hy|hy
  ·exact h.ok y hy
  rw [List.mem_singleton] at hy;subst hy;exact hok
 have hrow:=h.row.step (F':=PF (.slice oa i oc) g gp gr) hs (λk hk e=>(hne k hk).1 e) (λk hk=> .inl (.inr (.inl hk))) (λk hk=> .inl hk)
 refine hrow.push s3 (λk hk=> ?_) (λk hk=> ?_) (λy hy=>⟨_,rfl,haw y (hy.mono (λk _ hk=>hlt k hk))⟩) rfl ?_
 ·rcases hk with hk|hk
  ·exact .inl (.inl hk)
  exact .inl (.inr (.inr (.inl hk)))
 ·rcases hk with hk|hk|hk|hk
  ·rcases h5 k hk with h1|h1
   ·exact .inl (.inl h1)
   exact .inr (by simp at h1;omega)
  ·exact .inl (.inr (.inl hk))
  ·exact .inl (.inr (.inr (.inl hk)))
  exact .inl (.inr (.inr (.inr hk)))
 rw [h.len];exact s2.row h1 hnew
end
def zn2 (w:World) (en:Ending) (w':World):Prop:=(∃p vv tv,en= .returned (zfz p vv tv)/\zf2 p/\zd1 3 4 w' p vv tv)/\Below w.heap.size w w'
theorem zz8 {T:List (List zL)} (h:∀l∈T,yE l<=52):(T.map yE).sum<=T.length*52:=by
 induction T with
 |nil=>simp
 |cons l T ih=>
 have h1:=h l (by simp)
 have h2:=ih (λx hx=>h x (by simp [hx]))
 simp only [List.map_cons,List.sum_cons,List.length_cons];omega
theorem zoO {w X:World} {g gv gp gr:Nat} {sv:Value} {n dm i oc:Nat} {oa:Option Addr} {T:List (List zL)} {css:List (List Value)} (h:wu w X g gv gp gr sv n dm i (.slice oa i oc) T css) (hn1:1<=n) (hn3:n<=3) (hd1:2<=dm) (hd2:dm<=16) (hi1:1<=i) (hi3:i<=3):
  zn2 w (.returned (.agg #[.slice (some ⟨gv,0,none⟩) n 3, .int .i64 dm, .slice oa i oc])) (yI X gr 0 [.slice (some ⟨gv,0,none⟩) n 3, .int .i64 dm, .slice oa i oc])/\
  (yI X gr 0 [.slice (some ⟨gv,0,none⟩) n 3, .int .i64 dm, .slice oa i oc]).heap[gr]? =some (.cells #[.slice (some ⟨gv,0,none⟩) n 3, .int .i64 dm, .slice oa i oc] 92 (0,0)):=by
 have hlo:=h.lo
 have s:=qd (g:=gr) [.slice (some ⟨gv,0,none⟩) n 3, .int .i64 dm, .slice oa i oc] X 0
 have hvl:(xyz.take n).length=n:=by rw [List.length_take];simp [xyz];omega
 obtain⟨a',hm, -⟩:=h.yu
 have hl:=h.len
 refine⟨⟨⟨⟨xyz.take n,dm,T⟩, .slice (some ⟨gv,0,none⟩) n 3, .slice oa i oc,rfl,⟨⟨n,hn1,hn3,rfl⟩,⟨by show(2:Int)<=(dm:Int);omega,by show(dm:Int)<=16;omega⟩,⟨by show 1<=T.length;omega,by show T.length<=3;omega⟩,λl hl=> ?_, ?_⟩,⟨?_, ?_⟩⟩,hm.below.trans (s.below hm.below.size (λk hk=>by omega))⟩, ?_⟩
 ·show xA ((xyz.take n).length:Nat) dm l 20=true
  rw [hvl];exact(h.ok l hl).1
 ·have:=zz8 (λl hl=>(h.ok l hl).2)
  show(T.map yE).sum<=200
  omega
 ·exact zue ((s.block _ (zx h.vars) (by omega)).trans h.vars) hn3
 ·exact(h.row.step (F':=λ_=>False) s (λk hk e=>(h.own_ne k hk).2.2.1 e) (λk hk=> .inl (.inr (.inr (.inr hk)))) (λ_ h=>h.elim)).slice
 exact qZ (cs:= [.slice none 0 0, .int .i64 0, .slice none 0 0]) _ rfl h.res
end Go.Proofs.YtliajkheeniljaaGreatDoor
namespace Go.Proofs.YtliajkheeniljaaGreatDoor
open Go.RowKit
set_option maxRecDepth 100000
set_option maxHeartbeats 16000000
structure R2 (w X:World) (g gr:Nat) (sv:Value) (a:Nat) (mv mp:Option Nat):Prop where
 yu:vI w X g sv a
 res:X.heap[gr]? =some (.cells #[.slice none 0 0, .int .i64 0, .slice none 0 0] 92 (0,0))
 lo:w.heap.size<=gr/\g≠gr
 vars:∀b,mv=some b->X.heap[b]? =some (.cells wL.toArray 9 (0,0))/\w.heap.size<=b/\b≠g/\b≠gr
 prog:∀b,mp=some b->X.heap[b]? =some (.cells #[.slice none 0 0, .int .i64 0, .slice none 0 0] 92 (0,0))/\w.heap.size<=b/\b≠g/\b≠gr
 ne:∀b c,mv=some b->mp=some c->b≠c
section
variable {w X Y:World} {g gr a b:Nat} {sv:Value} {mv mp:Option Nat}
theorem R2.pick (h:R2 w X g gr sv a mv mp) (hm:vI w Y g sv b) (hs:Since (λk=>k=g) X Y):R2 w Y g gr sv b mv mp:=
 ⟨hm,(hs.block _ (zx h.res) (λe=>h.lo.2 e.symm)).trans h.res,h.lo,λc hc=>⟨(hs.block _ (zx (h.vars c hc).1) (h.vars c hc).2.2.1).trans (h.vars c hc).1,(h.vars c hc).2⟩,λc hc=>⟨(hs.block _ (zx (h.prog c hc).1) (h.prog c hc).2.2.1).trans (h.prog c hc).1,(h.prog c hc).2⟩,h.ne⟩
theorem R2.names (h:R2 w X g gr sv a none mp):R2 w (X.alloc (.cells wL.toArray 9)) g gr sv a (some X.heap.size) mp:=by
 have hb:=(Below.refl X.heap.size X).alloc (Nat.le_refl _) (.cells wL.toArray 9)
 have h1:=h.yu.below.size
 have h2:=zx h.yu.box
 have h3:=zx h.res
 refine⟨h.yu.later hb,(hb.block _ h3).trans h.res,h.lo,λc hc=> ?_,λc hc=>⟨(hb.block _ (zx (h.prog c hc).1)).trans (h.prog c hc).1,(h.prog c hc).2⟩,λc e hc he=> ?_⟩
 ·cases hc;exact⟨yj X _,h1,by omega,by omega⟩
 cases hc;have:=zx (h.prog e he).1;omega
theorem R2.box (h:R2 w X g gr sv a mv none):R2 w (X.alloc (.cells #[.slice none 0 0, .int .i64 0, .slice none 0 0] 92)) g gr sv a mv (some X.heap.size):=by
 have hb:=(Below.refl X.heap.size X).alloc (Nat.le_refl _) (.cells #[.slice none 0 0, .int .i64 0, .slice none 0 0] 92)
 have h1:=h.yu.below.size
 have h2:=zx h.yu.box
 have h3:=zx h.res
 refine⟨h.yu.later hb,(hb.block _ h3).trans h.res,h.lo,λc hc=>⟨(hb.block _ (zx (h.vars c hc).1)).trans (h.vars c hc).1,(h.vars c hc).2⟩,λc hc=> ?_,λc e hc he=> ?_⟩
 ·cases hc;exact⟨yj X _,h1,by omega,by omega⟩
 cases he;have:=zx (h.vars c hc).1;omega
theorem R2.done {gv gp n dm:Nat} (h:R2 w X g gr sv a (some gv) (some gp)) (ha:a<=9):wu w (yI X gp 0 [.slice (some ⟨gv,0,none⟩) n 3, .int .i64 dm, .slice none 0 0]) g gv gp gr sv n dm 0 (.slice none 0 0) [] [] /\∃a,vI w (yI X gp 0 [.slice (some ⟨gv,0,none⟩) n 3, .int .i64 dm, .slice none 0 0]) g sv a/\a<=9:=by
 obtain⟨v1,v2,v3,v4⟩:=h.vars gv rfl
 obtain⟨p1,p2,p3,p4⟩:=h.prog gp rfl
 have hne:=h.ne gv gp rfl rfl
 have hlo:=h.lo
 have hg:=h.yu.lo
 have s:=qd (g:=gp) [.slice (some ⟨gv,0,none⟩) n 3, .int .i64 dm, .slice none 0 0] X 0
 exact⟨⟨⟨a,h.yu.since s (λk hk=>by omega),by omega⟩,qZ (cs:= [.slice none 0 0, .int .i64 0, .slice none 0 0]) _ rfl p1,(s.block _ (zx v1) hne).trans v1,(s.block _ (zx h.res) (by omega)).trans h.res,⟨hg,v2,p2,hlo.1,by omega,by omega,by omega,by omega,by omega,by omega⟩,rfl,λl hl=>by simp at hl,xq.nil _ _ _ _ _ _⟩,a,h.yu.since s (λk hk=>by omega),ha⟩
end
theorem wu.picked {w X Y:World} {g gv gp gr n dm i b:Nat} {sv va:Value} {T:List (List zL)} {css:List (List Value)} (h:wu w X g gv gp gr sv n dm i va T css) (hs:Since (λk=>k=g) X Y) (hm:vI w Y g sv b) (hb:b<=10+i*5000):wu w Y g gv gp gr sv n dm i va T css:=by
 have hlo:=h.lo
 exact⟨⟨b,hm,hb⟩,(hs.block _ (zx h.box) (by omega)).trans h.box,(hs.block _ (zx h.vars) (by omega)).trans h.vars,(hs.block _ (zx h.res) (by omega)).trans h.res,hlo,h.len,h.ok,h.row.step hs (λk hk e=>(h.own_ne k hk).1 e) (λk hk=> .inl (.inr (.inl hk))) (λk hk=> .inl hk)⟩
theorem wu.drew {w X:World} {g gv gp gr n dm i:Nat} {sv va:Value} {T:List (List zL)} {css:List (List Value)} (h:wu w X g gv gp gr sv n dm i va T css):wu w X.drew g gv gp gr sv n dm i va T css:=by
 obtain⟨a,hm,ha⟩:=h.yu
 exact h.picked (Since.drew _ (Since.refl _ X)) (hm.later (Below.refl _ _).drew) ha
theorem zlB:(Tryz.prog.info? 92).map (·.size)=some 3:=by kernel_rfl
theorem zoP:(Tryz.prog.info? 129).map (λi=>(i.zero,i.size,i.bytes))=some (some (.slice none 0 0),1,24):=by kernel_rfl
theorem wrapN (n:Nat) (h:n<=100):IntKind.i64.wrap (n:Int)=(n:Int):=IntWalk.i64_in _ (by omega)
theorem zr8 (w:World) (sv:Value) (l:List Int) (hn:kG w .u8 sv l) (kv:Value) (ks:List Int) (hks:xJ w kv ks) (hk1:1<=ks.length) (hk2:ks.length<=100) (hk3:∀k∈ks,1<=k/\k<=11):
  Calls Tryz.prog 48 #[sv,kv] w (zn2 w):=by
 have hpick:=λW g a n ni hni h n1 n2 ha=>zgA w W g sv l a n ni hni h hn n1 n2 ha
 have hlist:=λg vars dom hv1 hv2 hd1 hd2=>zua w g sv l hn kv ks hks hk1 hk2 hk3 vars dom hv1 hv2 hd1 hd2 2 (by omega)
 have zaT:4*jP 2=1040:=rfl
 have z4Q:4*pX 2=52:=rfl
 have zhQ:∀(g vars dom:Nat),1<=vars->vars<=10->2<=dom->dom<=16->∀(W:World) (a n:Nat),vI w W g sv a->n<=4->a<=100000->Calls Tryz.prog 78 #[.pointer (some ⟨g,0,none⟩), .int .i64 n, .int .i64 2, .int .i64 vars, .int .i64 dom,kv] W λe w'=>∃(L:List zL) (va:Option Addr) (vc a':Nat),e= .returned (.slice va L.length vc)/\(xA vars dom L 20=true/\yE L<=52)/\
   zZ (λk=>k<W.heap.size) w' (λy=>yC 3 4 y L (.slice va L.length vc))/\vI w w' g sv a'/\a'<=a+1040/\Since (λk=>k=g) W w':=λg vars dom hv1 hv2 hd1 hd2 W a n hm bg ha=>by
  refine(hlist g vars dom hv1 hv2 hd1 hd2 W a n 4 n rfl hm bg (by omega) (by omega)).mono ?_
  rintro e w' ⟨L,va,vc,a',h1,h2,h3,h4,h5,h6,h7⟩
  exact⟨L,va,vc,a',h1,⟨zoQ h2 (by omega),by omega⟩,h4,h5,by omega,h7⟩
 obtain⟨sa,sc,rfl, -⟩:∃a c,sv= .slice a l.length c/\True:=by obtain⟨a,c,h, -⟩:=hn;exact⟨a,c,h,trivial⟩
 obtain⟨ka,kc,rfl, -⟩:=zh.slice hks
 generalize l.length=ln at hpick zhQ ⊢
 generalize ks.length=kn at zhQ ⊢
 have vo:=qh hpick
 have z1E:=qh zhQ
 clear hpick hlist zhQ zaT z4Q hn hks hk1 hk2 hk3
 have hB:=((Below.refl w.heap.size w).alloc (Nat.le_refl _) (.cells #[.slice none 0 0, .int .i64 0, .slice none 0 0] 92)).alloc (by simp) (.cells #[.slice sa ln sc, .int .i64 0] 132)
 have H1:=xI w (.cells #[.slice none 0 0, .int .i64 0, .slice none 0 0] 92) (.cells #[.slice sa ln sc, .int .i64 0] 132)
 have H2:=xw w (.cells #[.slice none 0 0, .int .i64 0, .slice none 0 0] 92) (.cells #[.slice sa ln sc, .int .i64 0] 132)
 have HR:Hid (R2 w ((w.alloc (.cells #[.slice none 0 0, .int .i64 0, .slice none 0 0] 92)).alloc (.cells #[.slice sa ln sc, .int .i64 0] 132)) (w.heap.size+1) w.heap.size (.slice sa ln sc) 0 none none):=⟨⟨hB,by omega,H2⟩,H1,⟨Nat.le_refl _,by omega⟩,(λ_ h=>by cases h),(λ_ h=>by cases h),(λ_ _ h=>by cases h)⟩
 clear hB H1 H2
 go_enter Tryz.func48,Tryz.ntmps48
 go_upto_region 2 with fail
 generalize World.alloc (World.alloc w _) _=V at HR ⊢
 generalize w.heap.size+1=g at HR ⊢
 obtain⟨gr,hgr⟩:∃gr,gr=w.heap.size:=⟨_,rfl⟩
 rw [<-hgr] at HR ⊢
 have uG:=qh hgr
 clear hgr
 go_cut [6] (λs6 w'=>∃gv gp n dm:Nat,s6= .pointer (some ⟨gp,0,none⟩)/\1<=n/\n<=3/\2<=dm/\dm<=4/\Hid (wu w w' g gv gp gr (.slice sa ln sc) n dm 0 (.slice none 0 0) [] [])/\Hid (∃a,vI w w' g (.slice sa ln sc) a/\a<=9))
 case first=>
  have hT0:Hid (R2 w V.drew g w.heap.size (.slice sa ln sc) 0 none none):=by have h:=HR.out;rw [uG.out] at h;exact h.pick (h.yu.later (Below.refl _ _).drew) (Since.drew _ (Since.refl _ _))
  rw [<-uG.out] at hT0
  clear HR
  refine vV (S:=λx=>Below w.heap.size w x) hT0.out.yu.below (λ_=> ?_)
  obtain⟨V1,hV1⟩:∃V1,V1=V.drew:=⟨_,rfl⟩
  rw [<-hV1]
  rw [<-hV1] at hT0
  clear hV1
  refine zD 1 zQ (hT0.out.yu.below) ?_
  refine zD 5 zQ (hT0.out.yu.below) ?_
  refine wpAnyH_ready (rs:= [0,2,9]) (by kernel_rfl) (by simp) ?_
  refine AllReadyH.cons rfl (λK hK=> ?_) (AllReadyH.cons rfl (λK hK=> ?_) (AllReadyH.cons rfl (λK hK=> ?_) AllReadyH.nil))
  ·skip
   go_simp
   have zdY:=hT0.out.names
   unfold wL at zdY
   refine hK.out _ _ zdY.yu.below (λ_=> ?_)
   obtain⟨gv,hgv⟩:∃n,n=V1.heap.size:=⟨_,rfl⟩
   rw [<-hgv] at zdY ⊢
   clear hgv
   generalize World.alloc V1 _=Xp2 at zdY ⊢
   replace zdY:=qh zdY
   clear hK K
   refine wpAnyH_ready (rs:= [2,9]) (by kernel_rfl) (by simp) ?_
   refine AllReadyH.cons rfl (λK hK=> ?_) (AllReadyH.cons rfl (λK hK=> ?_) AllReadyH.nil)
   ·skip
    go_simp
    refine(vo.out Xp2 g _ 3 3 rfl zdY.out.yu (by omega) (by omega) (by omega)).mono ?_
    rintro en Xp4 ⟨r1,hr1,rfl,hmk,hsi⟩
    have ziA:=qh (zdY.out.pick hmk hsi)
    clear hmk hsi
    refine hK.out _ _ ziA.out.yu.below (λ_=> ?_)
    obtain⟨n,hn⟩:∃n:Nat,(1:Int)+(r1:Int)=(n:Int):=⟨1+r1,by omega⟩
    have bn1:1<=n:=by omega
    have bn2:n<=3:=by omega
    have wn:=wrapN n (by omega)
    have zn:(0:Int)<=(n:Int):=by omega
    have yn:(n:Int)<=3:=by omega
    clear hK K
    refine zD 3 zQ (ziA.out.yu.below) ?_
    refine zD 4 zQ (ziA.out.yu.below) ?_
    refine wpAnyH_ready (rs:= [6,9]) (by kernel_rfl) (by simp) ?_
    refine AllReadyH.cons rfl (λK hK=> ?_) (AllReadyH.cons rfl (λK hK=> ?_) AllReadyH.nil)
    ·skip
     go_simp
     refine(vo.out Xp4 g _ 3 3 rfl ziA.out.yu (by omega) (by omega) (by omega)).mono ?_
     rintro en Xp6 ⟨r2,hr2,rfl,hmk,hsi⟩
     have zoR:=qh (ziA.out.pick hmk hsi)
     clear hmk hsi
     refine hK.out _ _ zoR.out.yu.below (λ_=> ?_)
     obtain⟨dm,bS⟩:∃n:Nat,(2:Int)+(r2:Int)=(n:Int):=⟨2+r2,by omega⟩
     have zcX:2<=dm:=by omega
     have zcY:dm<=4:=by omega
     have bU:=wrapN dm (by omega)
     have zdm:(0:Int)<=(dm:Int):=by omega
     skip
     clear hK K
     refine zD 7 zQ (zoR.out.yu.below) ?_
     refine zD 8 zQ (zoR.out.yu.below) ?_
     refine yA 9 rfl (λK hK=> ?_)
     go_simp
     have zgG:=zoR.out.box
     refine hK.out _ _ zgG.yu.below (λ_=> ?_)
     obtain⟨gp,gP⟩:∃n,n=Xp6.heap.size:=⟨_,rfl⟩
     rw [<-gP] at zgG ⊢
     clear gP
     generalize World.alloc Xp6 _=Xp8 at zgG ⊢
     replace zgG:=qh zgG
     clear hK K
     refine yA 10 rfl (λK hK=> ?_)
     obtain⟨hp, -, -, -⟩:=zgG.out.prog gp rfl
     have q0:Xp8.cell? ⟨gp,0,none⟩=some (.slice none 0 0):=ze hp 0
     have f0:=zB hp 0
     have q1:Xp8.cell? ⟨gp,1,none⟩=some (.int .i64 0):=ze hp 1
     have f1:=zB hp 1
     have q2:Xp8.cell? ⟨gp,2,none⟩=some (.slice none 0 0):=ze hp 2
     have f2:=zB hp 2
     clear hp
     go_simp
     have hend:=zgG.out.done (n:=n) (dm:=dm) (by omega)
     have zV:=qh hend
     refine hK.out _ _ (by obtain⟨a',hm, -⟩:=hend.2;exact hm.below) (λ_=> ?_)
     clear hend q0 q1 q2 f0 f1 f2
     clear hK K
     refine xQ ?_
     clear hn bS wn bU
     go_wp2_with fail
     go_meet
     case rel=>exact⟨gv,gp,n,dm,rfl,by omega,by omega,by omega,by omega,zV.out.1,zV.out.2⟩
    skip
    go_simp
    have zgH:=ziA.out.box
    refine hK.out _ _ zgH.yu.below (λ_=> ?_)
    obtain⟨gp,gP⟩:∃n,n=Xp4.heap.size:=⟨_,rfl⟩
    rw [<-gP] at zgH ⊢
    clear gP
    generalize World.alloc Xp4 _=z4R at zgH ⊢
    replace zgH:=qh zgH
    clear hK K
    refine yA 6 rfl (λK hK=> ?_)
    go_simp
    refine(vo.out z4R g _ 3 3 rfl zgH.out.yu (by omega) (by omega) (by omega)).mono ?_
    rintro en zug ⟨r2,hr2,rfl,hmk,hsi⟩
    have zhR:=qh (zgH.out.pick hmk hsi)
    clear hmk hsi
    refine hK.out _ _ zhR.out.yu.below (λ_=> ?_)
    obtain⟨dm,bS⟩:∃n:Nat,(2:Int)+(r2:Int)=(n:Int):=⟨2+r2,by omega⟩
    have zcX:2<=dm:=by omega
    have zcY:dm<=4:=by omega
    have bU:=wrapN dm (by omega)
    have zdm:(0:Int)<=(dm:Int):=by omega
    skip
    clear hK K
    refine zD 7 zQ (zhR.out.yu.below) ?_
    refine zD 8 zQ (zhR.out.yu.below) ?_
    refine yA 10 rfl (λK hK=> ?_)
    obtain⟨hp, -, -, -⟩:=zhR.out.prog gp rfl
    have q0:zug.cell? ⟨gp,0,none⟩=some (.slice none 0 0):=ze hp 0
    have f0:=zB hp 0
    have q1:zug.cell? ⟨gp,1,none⟩=some (.int .i64 0):=ze hp 1
    have f1:=zB hp 1
    have q2:zug.cell? ⟨gp,2,none⟩=some (.slice none 0 0):=ze hp 2
    have f2:=zB hp 2
    clear hp
    go_simp
    have hend:=zhR.out.done (n:=n) (dm:=dm) (by omega)
    have zV:=qh hend
    refine hK.out _ _ (by obtain⟨a',hm, -⟩:=hend.2;exact hm.below) (λ_=> ?_)
    clear hend q0 q1 q2 f0 f1 f2
    clear hK K
    refine xQ ?_
    clear hn bS wn bU
    go_wp2_with fail
    go_meet
    case rel=>exact⟨gv,gp,n,dm,rfl,by omega,by omega,by omega,by omega,zV.out.1,zV.out.2⟩
   skip
   go_simp
   have zdZ:=zdY.out.box
   refine hK.out _ _ zdZ.yu.below (λ_=> ?_)
   obtain⟨gp,gP⟩:∃n,n=Xp2.heap.size:=⟨_,rfl⟩
   rw [<-gP] at zdZ ⊢
   clear gP
   generalize World.alloc Xp2 _=z4S at zdZ ⊢
   replace zdZ:=qh zdZ
   clear hK K
   refine yA 2 rfl (λK hK=> ?_)
   go_simp
   refine(vo.out z4S g _ 3 3 rfl zdZ.out.yu (by omega) (by omega) (by omega)).mono ?_
   rintro en z4T ⟨r1,hr1,rfl,hmk,hsi⟩
   have zhS:=qh (zdZ.out.pick hmk hsi)
   clear hmk hsi
   refine hK.out _ _ zhS.out.yu.below (λ_=> ?_)
   obtain⟨n,hn⟩:∃n:Nat,(1:Int)+(r1:Int)=(n:Int):=⟨1+r1,by omega⟩
   have bn1:1<=n:=by omega
   have bn2:n<=3:=by omega
   have wn:=wrapN n (by omega)
   have zn:(0:Int)<=(n:Int):=by omega
   have yn:(n:Int)<=3:=by omega
   clear hK K
   refine zD 3 zQ (zhS.out.yu.below) ?_
   refine zD 4 zQ (zhS.out.yu.below) ?_
   refine yA 6 rfl (λK hK=> ?_)
   go_simp
   refine(vo.out z4T g _ 3 3 rfl zhS.out.yu (by omega) (by omega) (by omega)).mono ?_
   rintro en zuh ⟨r2,hr2,rfl,hmk,hsi⟩
   have zhT:=qh (zhS.out.pick hmk hsi)
   clear hmk hsi
   refine hK.out _ _ zhT.out.yu.below (λ_=> ?_)
   obtain⟨dm,bS⟩:∃n:Nat,(2:Int)+(r2:Int)=(n:Int):=⟨2+r2,by omega⟩
   have zcX:2<=dm:=by omega
   have zcY:dm<=4:=by omega
   have bU:=wrapN dm (by omega)
   have zdm:(0:Int)<=(dm:Int):=by omega
   skip
   clear hK K
   refine zD 7 zQ (zhT.out.yu.below) ?_
   refine zD 8 zQ (zhT.out.yu.below) ?_
   refine yA 10 rfl (λK hK=> ?_)
   obtain⟨hp, -, -, -⟩:=zhT.out.prog gp rfl
   have q0:zuh.cell? ⟨gp,0,none⟩=some (.slice none 0 0):=ze hp 0
   have f0:=zB hp 0
   have q1:zuh.cell? ⟨gp,1,none⟩=some (.int .i64 0):=ze hp 1
   have f1:=zB hp 1
   have q2:zuh.cell? ⟨gp,2,none⟩=some (.slice none 0 0):=ze hp 2
   have f2:=zB hp 2
   clear hp
   go_simp
   have hend:=zhT.out.done (n:=n) (dm:=dm) (by omega)
   have zV:=qh hend
   refine hK.out _ _ (by obtain⟨a',hm, -⟩:=hend.2;exact hm.below) (λ_=> ?_)
   clear hend q0 q1 q2 f0 f1 f2
   clear hK K
   refine xQ ?_
   clear hn bS wn bU
   go_wp2_with fail
   go_meet
   case rel=>exact⟨gv,gp,n,dm,rfl,by omega,by omega,by omega,by omega,zV.out.1,zV.out.2⟩
  ·skip
   go_simp
   refine(vo.out V1 g _ 3 3 rfl hT0.out.yu (by omega) (by omega) (by omega)).mono ?_
   rintro en zlC ⟨r1,hr1,rfl,hmk,hsi⟩
   have zf3:=qh (hT0.out.pick hmk hsi)
   clear hmk hsi
   refine hK.out _ _ zf3.out.yu.below (λ_=> ?_)
   obtain⟨n,hn⟩:∃n:Nat,(1:Int)+(r1:Int)=(n:Int):=⟨1+r1,by omega⟩
   have bn1:1<=n:=by omega
   have bn2:n<=3:=by omega
   have wn:=wrapN n (by omega)
   have zn:(0:Int)<=(n:Int):=by omega
   have yn:(n:Int)<=3:=by omega
   clear hK K
   refine zD 3 zQ (zf3.out.yu.below) ?_
   refine wpAnyH_ready (rs:= [0,6,9]) (by kernel_rfl) (by simp) ?_
   refine AllReadyH.cons rfl (λK hK=> ?_) (AllReadyH.cons rfl (λK hK=> ?_) (AllReadyH.cons rfl (λK hK=> ?_) AllReadyH.nil))
   ·skip
    go_simp
    have zbe:=zf3.out.names
    unfold wL at zbe
    refine hK.out _ _ zbe.yu.below (λ_=> ?_)
    obtain⟨gv,hgv⟩:∃n,n=zlC.heap.size:=⟨_,rfl⟩
    rw [<-hgv] at zbe ⊢
    clear hgv
    generalize World.alloc zlC _=zui at zbe ⊢
    replace zbe:=qh zbe
    clear hK K
    refine zD 4 zQ (zbe.out.yu.below) ?_
    refine wpAnyH_ready (rs:= [6,9]) (by kernel_rfl) (by simp) ?_
    refine AllReadyH.cons rfl (λK hK=> ?_) (AllReadyH.cons rfl (λK hK=> ?_) AllReadyH.nil)
    ·skip
     go_simp
     refine(vo.out zui g _ 3 3 rfl zbe.out.yu (by omega) (by omega) (by omega)).mono ?_
     rintro en zzC ⟨r2,hr2,rfl,hmk,hsi⟩
     have zka:=qh (zbe.out.pick hmk hsi)
     clear hmk hsi
     refine hK.out _ _ zka.out.yu.below (λ_=> ?_)
     obtain⟨dm,bS⟩:∃n:Nat,(2:Int)+(r2:Int)=(n:Int):=⟨2+r2,by omega⟩
     have zcX:2<=dm:=by omega
     have zcY:dm<=4:=by omega
     have bU:=wrapN dm (by omega)
     have zdm:(0:Int)<=(dm:Int):=by omega
     skip
     clear hK K
     refine zD 7 zQ (zka.out.yu.below) ?_
     refine zD 8 zQ (zka.out.yu.below) ?_
     refine yA 9 rfl (λK hK=> ?_)
     go_simp
     have zea:=zka.out.box
     refine hK.out _ _ zea.yu.below (λ_=> ?_)
     obtain⟨gp,gP⟩:∃n,n=zzC.heap.size:=⟨_,rfl⟩
     rw [<-gP] at zea ⊢
     clear gP
     generalize World.alloc zzC _=zuj at zea ⊢
     replace zea:=qh zea
     clear hK K
     refine yA 10 rfl (λK hK=> ?_)
     obtain⟨hp, -, -, -⟩:=zea.out.prog gp rfl
     have q0:zuj.cell? ⟨gp,0,none⟩=some (.slice none 0 0):=ze hp 0
     have f0:=zB hp 0
     have q1:zuj.cell? ⟨gp,1,none⟩=some (.int .i64 0):=ze hp 1
     have f1:=zB hp 1
     have q2:zuj.cell? ⟨gp,2,none⟩=some (.slice none 0 0):=ze hp 2
     have f2:=zB hp 2
     clear hp
     go_simp
     have hend:=zea.out.done (n:=n) (dm:=dm) (by omega)
     have zV:=qh hend
     refine hK.out _ _ (by obtain⟨a',hm, -⟩:=hend.2;exact hm.below) (λ_=> ?_)
     clear hend q0 q1 q2 f0 f1 f2
     clear hK K
     refine xQ ?_
     clear hn bS wn bU
     go_wp2_with fail
     go_meet
     case rel=>exact⟨gv,gp,n,dm,rfl,by omega,by omega,by omega,by omega,zV.out.1,zV.out.2⟩
    skip
    go_simp
    have zeb:=zbe.out.box
    refine hK.out _ _ zeb.yu.below (λ_=> ?_)
    obtain⟨gp,gP⟩:∃n,n=zui.heap.size:=⟨_,rfl⟩
    rw [<-gP] at zeb ⊢
    clear gP
    generalize World.alloc zui _=z4U at zeb ⊢
    replace zeb:=qh zeb
    clear hK K
    refine yA 6 rfl (λK hK=> ?_)
    go_simp
    refine(vo.out z4U g _ 3 3 rfl zeb.out.yu (by omega) (by omega) (by omega)).mono ?_
    rintro en zuk ⟨r2,hr2,rfl,hmk,hsi⟩
    have zhU:=qh (zeb.out.pick hmk hsi)
    clear hmk hsi
    refine hK.out _ _ zhU.out.yu.below (λ_=> ?_)
    obtain⟨dm,bS⟩:∃n:Nat,(2:Int)+(r2:Int)=(n:Int):=⟨2+r2,by omega⟩
    have zcX:2<=dm:=by omega
    have zcY:dm<=4:=by omega
    have bU:=wrapN dm (by omega)
    have zdm:(0:Int)<=(dm:Int):=by omega
    skip
    clear hK K
    refine zD 7 zQ (zhU.out.yu.below) ?_
    refine zD 8 zQ (zhU.out.yu.below) ?_
    refine yA 10 rfl (λK hK=> ?_)
    obtain⟨hp, -, -, -⟩:=zhU.out.prog gp rfl
    have q0:zuk.cell? ⟨gp,0,none⟩=some (.slice none 0 0):=ze hp 0
    have f0:=zB hp 0
    have q1:zuk.cell? ⟨gp,1,none⟩=some (.int .i64 0):=ze hp 1
    have f1:=zB hp 1
    have q2:zuk.cell? ⟨gp,2,none⟩=some (.slice none 0 0):=ze hp 2
    have f2:=zB hp 2
    clear hp
    go_simp
    have hend:=zhU.out.done (n:=n) (dm:=dm) (by omega)
    have zV:=qh hend
    refine hK.out _ _ (by obtain⟨a',hm, -⟩:=hend.2;exact hm.below) (λ_=> ?_)
    clear hend q0 q1 q2 f0 f1 f2
    clear hK K
    refine xQ ?_
    clear hn bS wn bU
    go_wp2_with fail
    go_meet
    case rel=>exact⟨gv,gp,n,dm,rfl,by omega,by omega,by omega,by omega,zV.out.1,zV.out.2⟩
   ·skip
    go_simp
    refine(vo.out zlC g _ 3 3 rfl zf3.out.yu (by omega) (by omega) (by omega)).mono ?_
    rintro en zoS ⟨r2,hr2,rfl,hmk,hsi⟩
    have zkb:=qh (zf3.out.pick hmk hsi)
    clear hmk hsi
    refine hK.out _ _ zkb.out.yu.below (λ_=> ?_)
    obtain⟨dm,bS⟩:∃n:Nat,(2:Int)+(r2:Int)=(n:Int):=⟨2+r2,by omega⟩
    have zcX:2<=dm:=by omega
    have zcY:dm<=4:=by omega
    have bU:=wrapN dm (by omega)
    have zdm:(0:Int)<=(dm:Int):=by omega
    skip
    clear hK K
    refine zD 7 zQ (zkb.out.yu.below) ?_
    refine wpAnyH_ready (rs:= [0,9]) (by kernel_rfl) (by simp) ?_
    refine AllReadyH.cons rfl (λK hK=> ?_) (AllReadyH.cons rfl (λK hK=> ?_) AllReadyH.nil)
    ·skip
     go_simp
     have zbK:=zkb.out.names
     unfold wL at zbK
     refine hK.out _ _ zbK.yu.below (λ_=> ?_)
     obtain⟨gv,hgv⟩:∃n,n=zoS.heap.size:=⟨_,rfl⟩
     rw [<-hgv] at zbK ⊢
     clear hgv
     generalize World.alloc zoS _=zzD at zbK ⊢
     replace zbK:=qh zbK
     clear hK K
     refine zD 4 zQ (zbK.out.yu.below) ?_
     refine zD 8 zQ (zbK.out.yu.below) ?_
     refine yA 9 rfl (λK hK=> ?_)
     go_simp
     have zec:=zbK.out.box
     refine hK.out _ _ zec.yu.below (λ_=> ?_)
     obtain⟨gp,gP⟩:∃n,n=zzD.heap.size:=⟨_,rfl⟩
     rw [<-gP] at zec ⊢
     clear gP
     generalize World.alloc zzD _=zul at zec ⊢
     replace zec:=qh zec
     clear hK K
     refine yA 10 rfl (λK hK=> ?_)
     obtain⟨hp, -, -, -⟩:=zec.out.prog gp rfl
     have q0:zul.cell? ⟨gp,0,none⟩=some (.slice none 0 0):=ze hp 0
     have f0:=zB hp 0
     have q1:zul.cell? ⟨gp,1,none⟩=some (.int .i64 0):=ze hp 1
     have f1:=zB hp 1
     have q2:zul.cell? ⟨gp,2,none⟩=some (.slice none 0 0):=ze hp 2
     have f2:=zB hp 2
     clear hp
     go_simp
     have hend:=zec.out.done (n:=n) (dm:=dm) (by omega)
     have zV:=qh hend
     refine hK.out _ _ (by obtain⟨a',hm, -⟩:=hend.2;exact hm.below) (λ_=> ?_)
     clear hend q0 q1 q2 f0 f1 f2
     clear hK K
     refine xQ ?_
     clear hn bS wn bU
     go_wp2_with fail
     go_meet
     case rel=>exact⟨gv,gp,n,dm,rfl,by omega,by omega,by omega,by omega,zV.out.1,zV.out.2⟩
    skip
    go_simp
    have zf4:=zkb.out.box
    refine hK.out _ _ zf4.yu.below (λ_=> ?_)
    obtain⟨gp,gP⟩:∃n,n=zoS.heap.size:=⟨_,rfl⟩
    rw [<-gP] at zf4 ⊢
    clear gP
    generalize World.alloc zoS _=zzE at zf4 ⊢
    replace zf4:=qh zf4
    clear hK K
    refine yA 0 rfl (λK hK=> ?_)
    go_simp
    have zbf:=zf4.out.names
    unfold wL at zbf
    refine hK.out _ _ zbf.yu.below (λ_=> ?_)
    obtain⟨gv,hgv⟩:∃n,n=zzE.heap.size:=⟨_,rfl⟩
    rw [<-hgv] at zbf ⊢
    clear hgv
    generalize World.alloc zzE _=zum at zbf ⊢
    replace zbf:=qh zbf
    clear hK K
    refine zD 4 zQ (zbf.out.yu.below) ?_
    refine zD 8 zQ (zbf.out.yu.below) ?_
    refine yA 10 rfl (λK hK=> ?_)
    obtain⟨hp, -, -, -⟩:=zbf.out.prog gp rfl
    have q0:zum.cell? ⟨gp,0,none⟩=some (.slice none 0 0):=ze hp 0
    have f0:=zB hp 0
    have q1:zum.cell? ⟨gp,1,none⟩=some (.int .i64 0):=ze hp 1
    have f1:=zB hp 1
    have q2:zum.cell? ⟨gp,2,none⟩=some (.slice none 0 0):=ze hp 2
    have f2:=zB hp 2
    clear hp
    go_simp
    have hend:=zbf.out.done (n:=n) (dm:=dm) (by omega)
    have zV:=qh hend
    refine hK.out _ _ (by obtain⟨a',hm, -⟩:=hend.2;exact hm.below) (λ_=> ?_)
    clear hend q0 q1 q2 f0 f1 f2
    clear hK K
    refine xQ ?_
    clear hn bS wn bU
    go_wp2_with fail
    go_meet
    case rel=>exact⟨gv,gp,n,dm,rfl,by omega,by omega,by omega,by omega,zV.out.1,zV.out.2⟩
   skip
   go_simp
   have zcH:=zf3.out.box
   refine hK.out _ _ zcH.yu.below (λ_=> ?_)
   obtain⟨gp,gP⟩:∃n,n=zlC.heap.size:=⟨_,rfl⟩
   rw [<-gP] at zcH ⊢
   clear gP
   generalize World.alloc zlC _=zun at zcH ⊢
   replace zcH:=qh zcH
   clear hK K
   refine wpAnyH_ready (rs:= [0,6]) (by kernel_rfl) (by simp) ?_
   refine AllReadyH.cons rfl (λK hK=> ?_) (AllReadyH.cons rfl (λK hK=> ?_) AllReadyH.nil)
   ·skip
    go_simp
    have zbL:=zcH.out.names
    unfold wL at zbL
    refine hK.out _ _ zbL.yu.below (λ_=> ?_)
    obtain⟨gv,hgv⟩:∃n,n=zun.heap.size:=⟨_,rfl⟩
    rw [<-hgv] at zbL ⊢
    clear hgv
    generalize World.alloc zun _=z4V at zbL ⊢
    replace zbL:=qh zbL
    clear hK K
    refine zD 4 zQ (zbL.out.yu.below) ?_
    refine yA 6 rfl (λK hK=> ?_)
    go_simp
    refine(vo.out z4V g _ 3 3 rfl zbL.out.yu (by omega) (by omega) (by omega)).mono ?_
    rintro en zuo ⟨r2,hr2,rfl,hmk,hsi⟩
    have zhV:=qh (zbL.out.pick hmk hsi)
    clear hmk hsi
    refine hK.out _ _ zhV.out.yu.below (λ_=> ?_)
    obtain⟨dm,bS⟩:∃n:Nat,(2:Int)+(r2:Int)=(n:Int):=⟨2+r2,by omega⟩
    have zcX:2<=dm:=by omega
    have zcY:dm<=4:=by omega
    have bU:=wrapN dm (by omega)
    have zdm:(0:Int)<=(dm:Int):=by omega
    skip
    clear hK K
    refine zD 7 zQ (zhV.out.yu.below) ?_
    refine zD 8 zQ (zhV.out.yu.below) ?_
    refine yA 10 rfl (λK hK=> ?_)
    obtain⟨hp, -, -, -⟩:=zhV.out.prog gp rfl
    have q0:zuo.cell? ⟨gp,0,none⟩=some (.slice none 0 0):=ze hp 0
    have f0:=zB hp 0
    have q1:zuo.cell? ⟨gp,1,none⟩=some (.int .i64 0):=ze hp 1
    have f1:=zB hp 1
    have q2:zuo.cell? ⟨gp,2,none⟩=some (.slice none 0 0):=ze hp 2
    have f2:=zB hp 2
    clear hp
    go_simp
    have hend:=zhV.out.done (n:=n) (dm:=dm) (by omega)
    have zV:=qh hend
    refine hK.out _ _ (by obtain⟨a',hm, -⟩:=hend.2;exact hm.below) (λ_=> ?_)
    clear hend q0 q1 q2 f0 f1 f2
    clear hK K
    refine xQ ?_
    clear hn bS wn bU
    go_wp2_with fail
    go_meet
    case rel=>exact⟨gv,gp,n,dm,rfl,by omega,by omega,by omega,by omega,zV.out.1,zV.out.2⟩
   skip
   go_simp
   refine(vo.out zun g _ 3 3 rfl zcH.out.yu (by omega) (by omega) (by omega)).mono ?_
   rintro en zzF ⟨r2,hr2,rfl,hmk,hsi⟩
   have zoT:=qh (zcH.out.pick hmk hsi)
   clear hmk hsi
   refine hK.out _ _ zoT.out.yu.below (λ_=> ?_)
   obtain⟨dm,bS⟩:∃n:Nat,(2:Int)+(r2:Int)=(n:Int):=⟨2+r2,by omega⟩
   have zcX:2<=dm:=by omega
   have zcY:dm<=4:=by omega
   have bU:=wrapN dm (by omega)
   have zdm:(0:Int)<=(dm:Int):=by omega
   skip
   clear hK K
   refine zD 7 zQ (zoT.out.yu.below) ?_
   refine yA 0 rfl (λK hK=> ?_)
   go_simp
   have zbg:=zoT.out.names
   unfold wL at zbg
   refine hK.out _ _ zbg.yu.below (λ_=> ?_)
   obtain⟨gv,hgv⟩:∃n,n=zzF.heap.size:=⟨_,rfl⟩
   rw [<-hgv] at zbg ⊢
   clear hgv
   generalize World.alloc zzF _=zup at zbg ⊢
   replace zbg:=qh zbg
   clear hK K
   refine zD 4 zQ (zbg.out.yu.below) ?_
   refine zD 8 zQ (zbg.out.yu.below) ?_
   refine yA 10 rfl (λK hK=> ?_)
   obtain⟨hp, -, -, -⟩:=zbg.out.prog gp rfl
   have q0:zup.cell? ⟨gp,0,none⟩=some (.slice none 0 0):=ze hp 0
   have f0:=zB hp 0
   have q1:zup.cell? ⟨gp,1,none⟩=some (.int .i64 0):=ze hp 1
   have f1:=zB hp 1
   have q2:zup.cell? ⟨gp,2,none⟩=some (.slice none 0 0):=ze hp 2
   have f2:=zB hp 2
   clear hp
   go_simp
   have hend:=zbg.out.done (n:=n) (dm:=dm) (by omega)
   have zV:=qh hend
   refine hK.out _ _ (by obtain⟨a',hm, -⟩:=hend.2;exact hm.below) (λ_=> ?_)
   clear hend q0 q1 q2 f0 f1 f2
   clear hK K
   refine xQ ?_
   clear hn bS wn bU
   go_wp2_with fail
   go_meet
   case rel=>exact⟨gv,gp,n,dm,rfl,by omega,by omega,by omega,by omega,zV.out.1,zV.out.2⟩
  skip
  go_simp
  have zcI:=hT0.out.box
  refine hK.out _ _ zcI.yu.below (λ_=> ?_)
  obtain⟨gp,gP⟩:∃n,n=V1.heap.size:=⟨_,rfl⟩
  rw [<-gP] at zcI ⊢
  clear gP
  generalize World.alloc V1 _=zuq at zcI ⊢
  replace zcI:=qh zcI
  clear hK K
  refine wpAnyH_ready (rs:= [0,2]) (by kernel_rfl) (by simp) ?_
  refine AllReadyH.cons rfl (λK hK=> ?_) (AllReadyH.cons rfl (λK hK=> ?_) AllReadyH.nil)
  ·skip
   go_simp
   have zcJ:=zcI.out.names
   unfold wL at zcJ
   refine hK.out _ _ zcJ.yu.below (λ_=> ?_)
   obtain⟨gv,hgv⟩:∃n,n=zuq.heap.size:=⟨_,rfl⟩
   rw [<-hgv] at zcJ ⊢
   clear hgv
   generalize World.alloc zuq _=z4W at zcJ ⊢
   replace zcJ:=qh zcJ
   clear hK K
   refine yA 2 rfl (λK hK=> ?_)
   go_simp
   refine(vo.out z4W g _ 3 3 rfl zcJ.out.yu (by omega) (by omega) (by omega)).mono ?_
   rintro en z4X ⟨r1,hr1,rfl,hmk,hsi⟩
   have zhW:=qh (zcJ.out.pick hmk hsi)
   clear hmk hsi
   refine hK.out _ _ zhW.out.yu.below (λ_=> ?_)
   obtain⟨n,hn⟩:∃n:Nat,(1:Int)+(r1:Int)=(n:Int):=⟨1+r1,by omega⟩
   have bn1:1<=n:=by omega
   have bn2:n<=3:=by omega
   have wn:=wrapN n (by omega)
   have zn:(0:Int)<=(n:Int):=by omega
   have yn:(n:Int)<=3:=by omega
   clear hK K
   refine zD 3 zQ (zhW.out.yu.below) ?_
   refine zD 4 zQ (zhW.out.yu.below) ?_
   refine yA 6 rfl (λK hK=> ?_)
   go_simp
   refine(vo.out z4X g _ 3 3 rfl zhW.out.yu (by omega) (by omega) (by omega)).mono ?_
   rintro en zur ⟨r2,hr2,rfl,hmk,hsi⟩
   have zhX:=qh (zhW.out.pick hmk hsi)
   clear hmk hsi
   refine hK.out _ _ zhX.out.yu.below (λ_=> ?_)
   obtain⟨dm,bS⟩:∃n:Nat,(2:Int)+(r2:Int)=(n:Int):=⟨2+r2,by omega⟩
   have zcX:2<=dm:=by omega
   have zcY:dm<=4:=by omega
   have bU:=wrapN dm (by omega)
   have zdm:(0:Int)<=(dm:Int):=by omega
   skip
   clear hK K
   refine zD 7 zQ (zhX.out.yu.below) ?_
   refine zD 8 zQ (zhX.out.yu.below) ?_
   refine yA 10 rfl (λK hK=> ?_)
   obtain⟨hp, -, -, -⟩:=zhX.out.prog gp rfl
   have q0:zur.cell? ⟨gp,0,none⟩=some (.slice none 0 0):=ze hp 0
   have f0:=zB hp 0
   have q1:zur.cell? ⟨gp,1,none⟩=some (.int .i64 0):=ze hp 1
   have f1:=zB hp 1
   have q2:zur.cell? ⟨gp,2,none⟩=some (.slice none 0 0):=ze hp 2
   have f2:=zB hp 2
   clear hp
   go_simp
   have hend:=zhX.out.done (n:=n) (dm:=dm) (by omega)
   have zV:=qh hend
   refine hK.out _ _ (by obtain⟨a',hm, -⟩:=hend.2;exact hm.below) (λ_=> ?_)
   clear hend q0 q1 q2 f0 f1 f2
   clear hK K
   refine xQ ?_
   clear hn bS wn bU
   go_wp2_with fail
   go_meet
   case rel=>exact⟨gv,gp,n,dm,rfl,by omega,by omega,by omega,by omega,zV.out.1,zV.out.2⟩
  skip
  go_simp
  refine(vo.out zuq g _ 3 3 rfl zcI.out.yu (by omega) (by omega) (by omega)).mono ?_
  rintro en zus ⟨r1,hr1,rfl,hmk,hsi⟩
  have zhY:=qh (zcI.out.pick hmk hsi)
  clear hmk hsi
  refine hK.out _ _ zhY.out.yu.below (λ_=> ?_)
  obtain⟨n,hn⟩:∃n:Nat,(1:Int)+(r1:Int)=(n:Int):=⟨1+r1,by omega⟩
  have bn1:1<=n:=by omega
  have bn2:n<=3:=by omega
  have wn:=wrapN n (by omega)
  have zn:(0:Int)<=(n:Int):=by omega
  have yn:(n:Int)<=3:=by omega
  clear hK K
  refine zD 3 zQ (zhY.out.yu.below) ?_
  refine wpAnyH_ready (rs:= [0,6]) (by kernel_rfl) (by simp) ?_
  refine AllReadyH.cons rfl (λK hK=> ?_) (AllReadyH.cons rfl (λK hK=> ?_) AllReadyH.nil)
  ·skip
   go_simp
   have zbM:=zhY.out.names
   unfold wL at zbM
   refine hK.out _ _ zbM.yu.below (λ_=> ?_)
   obtain⟨gv,hgv⟩:∃n,n=zus.heap.size:=⟨_,rfl⟩
   rw [<-hgv] at zbM ⊢
   clear hgv
   generalize World.alloc zus _=z4Y at zbM ⊢
   replace zbM:=qh zbM
   clear hK K
   refine zD 4 zQ (zbM.out.yu.below) ?_
   refine yA 6 rfl (λK hK=> ?_)
   go_simp
   refine(vo.out z4Y g _ 3 3 rfl zbM.out.yu (by omega) (by omega) (by omega)).mono ?_
   rintro en zut ⟨r2,hr2,rfl,hmk,hsi⟩
   have zhZ:=qh (zbM.out.pick hmk hsi)
   clear hmk hsi
   refine hK.out _ _ zhZ.out.yu.below (λ_=> ?_)
   obtain⟨dm,bS⟩:∃n:Nat,(2:Int)+(r2:Int)=(n:Int):=⟨2+r2,by omega⟩
   have zcX:2<=dm:=by omega
   have zcY:dm<=4:=by omega
   have bU:=wrapN dm (by omega)
   have zdm:(0:Int)<=(dm:Int):=by omega
   skip
   clear hK K
   refine zD 7 zQ (zhZ.out.yu.below) ?_
   refine zD 8 zQ (zhZ.out.yu.below) ?_
   refine yA 10 rfl (λK hK=> ?_)
   obtain⟨hp, -, -, -⟩:=zhZ.out.prog gp rfl
   have q0:zut.cell? ⟨gp,0,none⟩=some (.slice none 0 0):=ze hp 0
   have f0:=zB hp 0
   have q1:zut.cell? ⟨gp,1,none⟩=some (.int .i64 0):=ze hp 1
   have f1:=zB hp 1
   have q2:zut.cell? ⟨gp,2,none⟩=some (.slice none 0 0):=ze hp 2
   have f2:=zB hp 2
   clear hp
   go_simp
   have hend:=zhZ.out.done (n:=n) (dm:=dm) (by omega)
   have zV:=qh hend
   refine hK.out _ _ (by obtain⟨a',hm, -⟩:=hend.2;exact hm.below) (λ_=> ?_)
   clear hend q0 q1 q2 f0 f1 f2
   clear hK K
   refine xQ ?_
   clear hn bS wn bU
   go_wp2_with fail
   go_meet
   case rel=>exact⟨gv,gp,n,dm,rfl,by omega,by omega,by omega,by omega,zV.out.1,zV.out.2⟩
  skip
  go_simp
  refine(vo.out zus g _ 3 3 rfl zhY.out.yu (by omega) (by omega) (by omega)).mono ?_
  rintro en zzG ⟨r2,hr2,rfl,hmk,hsi⟩
  have zoU:=qh (zhY.out.pick hmk hsi)
  clear hmk hsi
  refine hK.out _ _ zoU.out.yu.below (λ_=> ?_)
  obtain⟨dm,bS⟩:∃n:Nat,(2:Int)+(r2:Int)=(n:Int):=⟨2+r2,by omega⟩
  have zcX:2<=dm:=by omega
  have zcY:dm<=4:=by omega
  have bU:=wrapN dm (by omega)
  have zdm:(0:Int)<=(dm:Int):=by omega
  skip
  clear hK K
  refine zD 7 zQ (zoU.out.yu.below) ?_
  refine yA 0 rfl (λK hK=> ?_)
  go_simp
  have zbh:=zoU.out.names
  unfold wL at zbh
  refine hK.out _ _ zbh.yu.below (λ_=> ?_)
  obtain⟨gv,hgv⟩:∃n,n=zzG.heap.size:=⟨_,rfl⟩
  rw [<-hgv] at zbh ⊢
  clear hgv
  generalize World.alloc zzG _=zuu at zbh ⊢
  replace zbh:=qh zbh
  clear hK K
  refine zD 4 zQ (zbh.out.yu.below) ?_
  refine zD 8 zQ (zbh.out.yu.below) ?_
  refine yA 10 rfl (λK hK=> ?_)
  obtain⟨hp, -, -, -⟩:=zbh.out.prog gp rfl
  have q0:zuu.cell? ⟨gp,0,none⟩=some (.slice none 0 0):=ze hp 0
  have f0:=zB hp 0
  have q1:zuu.cell? ⟨gp,1,none⟩=some (.int .i64 0):=ze hp 1
  have f1:=zB hp 1
  have q2:zuu.cell? ⟨gp,2,none⟩=some (.slice none 0 0):=ze hp 2
  have f2:=zB hp 2
  clear hp
  go_simp
  have hend:=zbh.out.done (n:=n) (dm:=dm) (by omega)
  have zV:=qh hend
  refine hK.out _ _ (by obtain⟨a',hm, -⟩:=hend.2;exact hm.below) (λ_=> ?_)
  clear hend q0 q1 q2 f0 f1 f2
  clear hK K
  refine xQ ?_
  clear hn bS wn bU
  go_wp2_with fail
  go_meet
  case rel=>exact⟨gv,gp,n,dm,rfl,by omega,by omega,by omega,by omega,zV.out.1,zV.out.2⟩
 case rest=>
 obtain⟨gv,gp,n,dm,rfl,hn1,hn3,hd2,hd4,HL,HMA⟩:=hcut
 clear HR
 obtain⟨X,rfl⟩:∃x:World,x=wc:=⟨_,rfl⟩
 obtain⟨a0,zzH,ha0⟩:=HMA.out
 have zzI:=qh zzH
 clear zzH
 go_upto_region 4 with(go_at_call 77;go_must(refine(vo.out X g _ 3 3 rfl zzI.out (by omega) (by omega) (by omega)).mono ?_);rintro en X2 ⟨r3,hr3,rfl,hmk,hsi⟩;(have HL2:=qh (HL.out.picked hsi hmk (by omega)));clear hmk hsi HL zzI)
 obtain⟨m,hm⟩:∃m:Nat,(1:Int)+(r3:Int)=(m:Int):=⟨1+r3,by omega⟩
 have hm1:1<=m:=by omega
 have hm3:m<=3:=by omega
 rw [hm]
 clear hm hr3
 go_loopg [7] m (λgg s7 wr=>∃(j k:Nat) (oa:Option Addr) (oc:Nat) (T:List (List zL)) (css:List (List Value)),s7= .int .i64 k/\Hid (j+k=m)/\Hid (gg=k)/\Hid (wu w wr g gv gp gr (.slice sa ln sc) n dm j (.slice oa j oc) T css))
 case atStart=>exact⟨0,m,none,0, [], [],rfl,by rw [Hid];omega,rfl,HL2.out⟩
 case round=>
 obtain⟨j,k',oa,oc,T,css,rfl,HJK,HG,HL⟩:=hrel
 clear HL2
 have hj3:j<=3:=by have:=HJK.out;omega
 have hk3:k'<=3:=by have:=HJK.out;omega
 by_cases hk0:0<k'
 rotate_left
 ·obtain rfl:k'=0:=by omega
  have hj1:j=m:=by have:=HJK.out;omega
  obtain⟨hend,hset⟩:=zoO HL.out hn1 hn3 hd2 (by omega) (by omega) hj3
  have zV:=qh hend
  have zJ:=qh hset
  clear hend hset hj1
  have c0:wr.cell? ⟨gp,0,none⟩=some (.slice (some ⟨gv,0,none⟩) n 3):=ze HL.out.box 0
  have c1:wr.cell? ⟨gp,1,none⟩=some (.int .i64 dm):=ze HL.out.box 1
  have c2:wr.cell? ⟨gp,2,none⟩=some (.slice oa j oc):=ze HL.out.box 2
  have z0:wr.cell? ⟨gr,0,none⟩=some (.slice none 0 0):=ze HL.out.res 0
  have z1:wr.cell? ⟨gr,1,none⟩=some (.int .i64 0):=ze HL.out.res 1
  have z2:wr.cell? ⟨gr,2,none⟩=some (.slice none 0 0):=ze HL.out.res 2
  have f0:=zB HL.out.res 0
  have f1:=zB HL.out.res 1
  have f2:=zB HL.out.res 2
  go_wp2_with fail
  refine bodyPost_ret (xR rfl _ _ gr 92 _ (0,0) _ rfl zJ.out Tryz.underlying92 rfl zlB) rfl ?_
  exact zV.out
 obtain⟨k,rfl⟩:∃k,k'=k+1:=⟨k' - 1,by omega⟩
 have hkI:(0:Int)<(k:Int)+1:=by omega
 have CC:Hid (∀x,Since (λy=>(Value.slice oa j oc).ownBlock=some y\/y=g) wr x->x.cell? ⟨gp,0,none⟩=some (.slice (some ⟨gv,0,none⟩) n 3)/\x.cell? ⟨gp,1,none⟩=some (.int .i64 dm)/\x.cell? ⟨gp,2,none⟩=some (.slice oa j oc)):=λx hx=>by
  have h:=(hx.block _ (zx HL.out.box) (λe=>by rcases e with e|e;exact(HL.out.own_ne _ e).2.1 rfl;have:=HL.out.lo;omega)).trans HL.out.box
  exact⟨ze h 0,ze h 1,ze h 2⟩
 go_upto_region 6 with fail
 refine wp_region_noPanic ?_
 refine yL (n0:=15) (S:=λx=>Since (λy=>(Value.slice oa j oc).ownBlock=some y\/y=g) wr x) (by kernel_rfl) (Since.drew _ (Since.refl _ wr)) (λ_=> ?_)
 obtain⟨V1,hV1⟩:∃V1,V1=wr.drew:=⟨_,rfl⟩
 have hT0:Hid (Since (λy=>(Value.slice oa j oc).ownBlock=some y\/y=g) wr V1):=by rw [hV1];exact Since.drew _ (Since.refl _ wr)
 have hl2:wu w V1 g gv gp gr (.slice sa ln sc) n dm j (.slice oa j oc) T css:=by rw [hV1];exact HL.out.drew
 rw [<-hV1]
 clear hV1
 have HL2:=qh hl2
 have zc3:=hl2.row.row
 rw [hl2.len] at zc3
 have zvV:=qh zc3
 have HOWN:Hid (∀k,(Value.slice oa j oc).ownBlock=some k->k≠g):=λk hk=>(hl2.own_ne k hk).1
 obtain⟨a1,hmk,ha1⟩:=hl2.yu
 have yx:=qh hmk.below.size
 have HMK:=qh (And.intro hmk ha1)
 clear hl2 zc3 hmk ha1
 refine zO 0 (λ_=>hT0.out) ?_
 refine vL [13,14,15] 1 CC.out (hT0.out) ?_
 refine zO 2 (λ_=>hT0.out) ?_
 refine zO 3 (λ_=>hT0.out) ?_
 refine zO 5 (λ_=>hT0.out) ?_
 refine vL [7,11,12,13,14,15] 6 CC.out (hT0.out) ?_
 refine zO 7 (λ_=>hT0.out) ?_
 refine zO 8 (λ_=>hT0.out) ?_
 refine vL [11,12,13,14,15] 9 CC.out (hT0.out) ?_
 refine zO 10 (λ_=>hT0.out) ?_
 refine qW 4 rfl (λK hK=> ?_)
 go_simp
 refine(vo.out V1 g _ 5 5 rfl HMK.out.1 (by omega) (by omega) (by have h5:=HMK.out.2;omega)).mono ?_
 rintro en V2 ⟨r5,hr5,rfl,hmk,hsi⟩
 have zzJ:=qh hmk
 have zuv:=qh hsi
 have hT1:=qh (hT0.out.trans hsi (λy hy=> .inl (.inr hy)))
 clear hmk hsi
 refine hK.out _ _ (λ_ _=>hT1.out) ?_
 clear hK K
 refine qW 11 rfl (λK hK=> ?_)
 go_simp
 refine(z1E.out g n dm (by omega) (by omega) (by omega) (by omega) V2 _ r5 zzJ.out (by omega) (by have h5:=HMK.out.2;omega)).mono ?_
 rintro en V3 ⟨L,na,nc,a2,rfl,hok,haw,hmk,ha2,hsi⟩
 have zfl:=qh hmk
 have zuw:=qh (And.intro hok haw)
 have zoV:=qh (zuv.out.trans hsi (λ_ h=> .inl h))
 have HSZ:=qh hsi.size
 have gH:=qh (hT1.out.trans hsi (λy hy=> .inl (.inr hy)))
 have hrow:=zoV.out.row zvV.out (λk hk e=>(HOWN.out k hk) e)
 have zib:=qh hrow
 clear hmk hsi hok haw hrow
 refine hK.out _ _ (λ_ _=>gH.out) ?_
 clear hK K
 refine qW 12 rfl (λK hK=> ?_)
 go_simp
 have je:=qh (gH.out.alloc (.cells #[.slice na L.length nc] 129))
 refine hK.out _ _ (λ_ _=>je.out) ?_
 clear hK K
 refine qW 13 rfl (λK hK=> ?_)
 refine zK (V3.alloc (.cells #[.slice na L.length nc] 129)) (by rfl) (.tmp 28) (.tmp 39) 90 rfl 129 (.slice none 0 0) 1 24 Tryz.underlying90 zoP rfl (by decide) w.heap.size (.slice oa j oc) j (css.flatten) (by rfl) (zib.out.alloc _) ⟨V3.heap.size,0,none⟩ 1 1 [.slice na L.length nc] (by rfl) rfl (vZ V3 _ _) (by simp [Value.oneCell']) (by unfold maxLen;omega) (by omega) (by have h5:=yx.out;have h6:=zoV.out.size;simp;omega) ?_
 intro xa xc V4 e1 e2 e3 e4 e5
 have xU:=qh (je.out.trans e4 (λy hy=> .inl (.inl hy)))
 have hp:=HL2.out.push zoV.out zfl.out (by have:=HMK.out.2;omega) zuw.out.1 rfl (zuw.out.2.step (Since.refl (λ_=>False) V3) (λ_ h=>h.elim) (λk hk=> .inl (by have h5:=zuv.out.size;omega))) e1 e4 e5
 have HP:=qh hp
 clear e1 e2 e3 e4 e5 hp
 refine hK.out _ _ (λ_ _=>xU.out) ?_
 clear hK K
 change qg _ _ _ _ _ _ _ _ (Act.put _ (some 40) _) _
 simp only [Act.put,kD,kE,kF]
 refine zO 14 (λ_=>xU.out) ?_
 refine qW 15 rfl (λK hK=> ?_)
 have q2:V4.cell? ⟨gp,2,none⟩=some (.slice oa j oc):=ze HP.out.1 2
 have f2:=zB HP.out.1 2
 go_simp
 refine hK.out _ _ (λh=>absurd rfl h) ?_
 clear q2 f2
 have hT5:=xU
 clear hK K
 refine xg (by kernel_rfl) ?_ _
 refine NoPanic.normal ?_
 have HP2:=qh HP.out.2
 clear HP zzJ zfl zuw zuv zoV zib zvV HOWN CC
 go_wp2_with fail
 go_roundg k
 case measure=>rw [HG.out];omega
 case rel=>exact⟨j+1,k,xa,xc,_,_,(by first|rfl|simp),by have:=HJK.out;rw [Hid];omega,rfl,HP2.out⟩
