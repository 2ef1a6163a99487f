/- Steps. -/
import Derived.Test.YtliajkheeniljaaGreatDoorZtMakerL
import Derived.Test.YtliajkheeniljaaGreatDoorZtTail
set_option linter.all false
namespace Go.Proofs.YtliajkheeniljaaGreatDoor
open Go.RowKit
set_option maxRecDepth 100000
set_option maxHeartbeats 16000000
theorem zuJ (W0:World) (g:Nat) (lv:Value) (l:List Int) (hn:jJ W0 .u8 lv l) (kv:Value) (ks:List Int) (hks:xQ W0 kv ks) (hk1:1<=ks.length) (hk2:ks.length<=100) (hk3:∀k∈ks,1<=k/\k<=11) (vars dom:Nat) (hv1:1<=vars) (hv2:vars<=10) (hd1:2<=dom) (hd2:dom<=16) (d:Nat) (hd:d<=10):
  zgO W0 g lv kv vars dom d:=by
 obtain⟨ka,kc,hkv, -⟩:=zh.slice hks
 induction d with
 |zero=>exact zkQ W0 g lv kv vars dom 0 (zkN W0 g lv l hn kv ks hks hk1 hk2 hk3 vars dom hv1 hv2 hd1 hd2 0 (by omega) (λh=>by omega)) ka _ kc hkv
 |succ d ih=>exact zkQ W0 g lv kv vars dom (d+1) (zkN W0 g lv l hn kv ks hks hk1 hk2 hk3 vars dom hv1 hv2 hd1 hd2 (d+1) hd (λ_=>ih (by omega))) ka _ kc hkv
def zf4:List Int:= [1,2,1,2,3,4,5,6,7,8,9,10,11]
theorem zsc (w:World):Calls Tryz.prog 21 #[] w λe w'=>(∃kv,e= .returned kv/\xQ w' kv zf4)/\Below w.heap.size w w':=by
 have hb:=(Below.refl w.heap.size w).alloc (Nat.le_refl _) (.cells #[.int .i64 1, .int .i64 2, .int .i64 1, .int .i64 2, .int .i64 3, .int .i64 4, .int .i64 5, .int .i64 6, .int .i64 7, .int .i64 8, .int .i64 9, .int .i64 10, .int .i64 11] 3)
 have hg:=yh w (.cells #[.int .i64 1, .int .i64 2, .int .i64 1, .int .i64 2, .int .i64 3, .int .i64 4, .int .i64 5, .int .i64 6, .int .i64 7, .int .i64 8, .int .i64 9, .int .i64 10, .int .i64 11] 3)
 have hr:=uF (w:=w.alloc (.cells #[.int .i64 1, .int .i64 2, .int .i64 1, .int .i64 2, .int .i64 3, .int .i64 4, .int .i64 5, .int .i64 6, .int .i64 7, .int .i64 8, .int .i64 9, .int .i64 10, .int .i64 11] 3)) (l:=zf4) (B:=0) (sv:= .slice (some ⟨w.heap.size,0,none⟩) 13 13) (gI (n:=13) (cs:=zo yP zf4) hg (Nat.zero_le _) rfl (by decide))
 have HB:=qh hb
 have HR:=qh hr
 clear hb hg hr
 go_enter Tryz.func21,Tryz.ntmps21
 go_wp2_with fail
 go_ret
 exact⟨⟨_,rfl,HR.out⟩,HB.out⟩
def wP:List Value:= [.string ⟨#[120]⟩, .string ⟨#[121]⟩, .string ⟨#[122]⟩]
theorem zuK {X:World} {gv n:Nat} (h:X.heap[gv]? =some (.cells wP.toArray 9 (0,0))) (hn:n<=3):zdL X (.slice (some ⟨gv,0,none⟩) n 3) (xyz.take n):=by
 have hl:(xyz.take n).length=n:=by rw [List.length_take];simp [xyz];omega
 refine⟨_,3,by rw [hl],by rw [hl];omega,λj hj=> ?_⟩
 rw [hl] at hj
 have e:(xyz.take n).getD j default=xyz.getD j default:=by simp only [List.getD_eq_getElem?_getD,List.getElem?_take_of_lt hj]
 have hj3:j=0\/j=1\/j=2:=by omega
 rw [e]
 rcases hj3 with rfl|rfl|rfl
 ·refine⟨gv,0, [.string ⟨#[120]⟩],rfl,zx h,rfl,λi hi=> ?_,rfl⟩
  obtain rfl:i=0:=by omega
  rw [ze h];rfl
 ·refine⟨gv,0, [.string ⟨#[121]⟩],rfl,zx h,rfl,λi hi=> ?_,rfl⟩
  obtain rfl:i=0:=by omega
  rw [ze h];rfl
 refine⟨gv,0, [.string ⟨#[122]⟩],rfl,zx h,rfl,λi hi=> ?_,rfl⟩
 obtain rfl:i=0:=by omega
 rw [ze h];rfl
def PF (va:Value) (g gp gr:Nat) (k:Nat):Prop:=va.ownBlock=some k\/k=g\/k=gp\/k=gr
structure wC (w X:World) (g gv gp gr:Nat) (sv:Value) (n dm i:Nat) (va:Value) (T:List (List zL)) (css:List (List Value)):Prop where
 yt:∃a',vK w X g sv a'/\a'<=10+i*5000
 box:X.heap[gp]? =some (.cells #[.slice (some ⟨gv,0,none⟩) n 3, .int .i64 dm,va] 92 (0,0))
 vars:X.heap[gv]? =some (.cells wP.toArray 9 (0,0))
 res:X.heap[gr]? =some (.cells #[.slice none 0 0, .int .i64 0, .slice none 0 0] 92 (0,0))
 lo:w.heap.size<=g/\w.heap.size<=gv/\w.heap.size<=gp/\w.heap.size<=gr/\g≠gp/\g≠gr/\gp≠gr/\gv≠g/\gv≠gp/\gv≠gr
 len:T.length=i
 ok:∀l∈T,xB n dm l 20=true/\yF l<=52
 row:yU (PF va g gp gr) X (zjd 3 4) 1 w.heap.size 129 va T css
section
variable {w X Y:World} {g gv gp gr:Nat} {sv:Value} {n dm i:Nat} {va:Value} {T:List (List zL)} {css:List (List Value)}
theorem wC.own_ne (h:wC w X g gv gp gr sv n dm i va T css):∀k,va.ownBlock=some k->k≠g/\k≠gp/\k≠gr/\k≠gv:=λk hk=>by
 obtain⟨a',hm, -⟩:=h.yt
 exact⟨λe=>by subst e;exact gZ h.row.row hk hm.box (by decide),λe=>by subst e;exact gZ h.row.row hk h.box (by decide),λe=>by subst e;exact gZ h.row.row hk h.res (by decide),λe=>by subst e;exact gZ h.row.row hk h.vars (by decide)⟩
theorem wC.lt (h:wC w X g gv gp gr sv n dm i va T css):∀k,PF va g gp gr k->k<X.heap.size:=λk hk=>by
 obtain⟨a',hm, -⟩:=h.yt
 rcases hk with hk|rfl|rfl|rfl
 ·exact(h.row.row.lt k hk).2
 ·exact zx hm.box
 ·exact zx h.box
 exact zx h.res
theorem wC.push {xc ln rc a1 oc:Nat} {Z:World} {oa ra xa:Option Addr} {l:List zL} {o:Obj} (h:wC w X g gv gp gr sv n dm i (.slice oa i oc) T css) (hs:Since (λk=>k=g) X Y) (hm:vK w Y g sv a1) (ha:a1<=10+i*5000+5000) (hok:xB n dm l 20=true/\yF l<=52) (hlen:l.length=ln)
  (haw:zX (λk=>k<X.heap.size) Y (λy=>yD 3 4 y l (.slice ra ln rc))) (h1:Z.ownsRow w.heap.size 129 1 (.slice xa (i+1) xc) (i+1) (css.flatten++ [.slice ra ln rc])) (h4:Since (λk=>(Value.slice oa i oc).ownBlock=some k) (Y.alloc o) Z) (h5:∀k,(Value.slice xa (i+1) xc).ownBlock=some k->(Value.slice oa i oc).ownBlock=some k\/k=(Y.alloc o).heap.size):
  Z.heap[gp]? =some (.cells #[.slice (some ⟨gv,0,none⟩) n 3, .int .i64 dm, .slice oa i oc] 92 (0,0))/\wC w (Z.setCell ⟨gp,2,none⟩ (.slice xa (i+1) xc)) g gv gp gr sv n dm (i+1) (.slice xa (i+1) xc) (T++ [l]) (css++ [[.slice ra ln rc]]):=by
 have hlo:=h.lo
 have hne:=h.own_ne
 have hlt:=h.lt
 have s1:Since (λk=>(Value.slice oa i oc).ownBlock=some k) Y Z:=((Since.refl _ Y).alloc o).trans h4 (λk hk=> .inl hk)
 have s2:Since (λk=>k=gp) Z (Z.setCell ⟨gp,2,none⟩ (.slice xa (i+1) xc)):=Since.setCell (F:=λk=>k=gp) (p:=⟨gp,2,none⟩) (Since.refl _ _) (.inl rfl) _
 have s3:Since (λk=>(Value.slice oa i oc).ownBlock=some k\/k=gp) Y (Z.setCell ⟨gp,2,none⟩ (.slice xa (i+1) xc)):=(s1.mono (λk _ hk=> .inl hk)).trans s2 (λk hk=> .inl (.inr hk))
 have zuL:=(hs.block _ (zx h.box) (by omega)).trans h.box
 have zwF:=(hs.block _ (zx h.vars) (by omega)).trans h.vars
 have z0u:=(hs.block _ (zx h.res) (by omega)).trans h.res
 have uW:=(s1.block _ (zx zuL) (λe=>(hne _ e).2.1 rfl)).trans zuL
 have hvars:=(s1.block _ (zx zwF) (λe=>(hne _ e).2.2.2 rfl)).trans zwF
 have hres:=(s1.block _ (zx z0u) (λe=>(hne _ e).2.2.1 rfl)).trans z0u
 have hnew:∀k,(Value.slice xa (i+1) xc).ownBlock=some k->k≠gp:=λk hk e=>by
  rcases h5 k hk with h1|h1
  ·exact(hne k h1).2.1 e
  have:=zx zuL;simp at h1;omega
 refine⟨uW,⟨⟨a1,hm.since s3 (λk hk=> ?_),by omega⟩, ?_,(s2.block _ (zx hvars) (by omega)).trans hvars,(s2.block _ (zx hres) (by omega)).trans hres,hlo,by simp [h.len],λy hy=> ?_, ?_⟩⟩
 ·rcases hk with hk|hk
  ·have:=(h.row.row.lt k hk).1;have:=(hne k hk).1;omega
  omega
 ·have:=zw uW 2 (.slice xa (i+1) xc);simpa using this
 ·rcases List.mem_append.1 hy with hy|hy
  ·exact h.ok y hy
  rw [List.mem_singleton] at hy;subst hy;exact hok
 have hrow:=h.row.step (F':=PF (.slice oa i oc) g gp gr) hs (λk hk e=>(hne k hk).1 e) (λk hk=> .inl (.inr (.inl hk))) (λk hk=> .inl hk)
 refine hrow.push s3 (λk hk=> ?_) (λk hk=> ?_) (λy hy=>⟨_,rfl,haw y (hy.mono (λk _ hk=>hlt k hk))⟩) rfl ?_
 ·rcases hk with hk|hk
  ·exact .inl (.inl hk)
  exact .inl (.inr (.inr (.inl hk)))
 ·rcases hk with hk|hk|hk|hk
  ·rcases h5 k hk with h1|h1
   ·exact .inl (.inl h1)
   exact .inr (by simp at h1;omega)
  ·exact .inl (.inr (.inl hk))
  ·exact .inl (.inr (.inr (.inl hk)))
  exact .inl (.inr (.inr (.inr hk)))
 rw [h.len];exact s2.row h1 hnew
end
def znP (w:World) (en:Ending) (w':World):Prop:=(∃p vv tv,en= .returned (zfO p vv tv)/\zfN p/\zdA 3 4 w' p vv tv)/\Below w.heap.size w w'
theorem z0v {T:List (List zL)} (h:∀l∈T,yF l<=52):(T.map yF).sum<=T.length*52:=by
 induction T with
 |nil=>simp
 |cons l T ih=>
 have h1:=h l (by simp)
 have h2:=ih (λx hx=>h x (by simp [hx]))
 simp only [List.map_cons,List.sum_cons,List.length_cons];omega
theorem zpy {w X:World} {g gv gp gr:Nat} {sv:Value} {n dm i oc:Nat} {oa:Option Addr} {T:List (List zL)} {css:List (List Value)} (h:wC w X g gv gp gr sv n dm i (.slice oa i oc) T css) (hn1:1<=n) (hn3:n<=3) (hd1:2<=dm) (hd2:dm<=16) (hi1:1<=i) (hi3:i<=3):
  znP w (.returned (.agg #[.slice (some ⟨gv,0,none⟩) n 3, .int .i64 dm, .slice oa i oc])) (yx X gr 0 [.slice (some ⟨gv,0,none⟩) n 3, .int .i64 dm, .slice oa i oc])/\
  (yx X gr 0 [.slice (some ⟨gv,0,none⟩) n 3, .int .i64 dm, .slice oa i oc]).heap[gr]? =some (.cells #[.slice (some ⟨gv,0,none⟩) n 3, .int .i64 dm, .slice oa i oc] 92 (0,0)):=by
 have hlo:=h.lo
 have s:=xO (g:=gr) [.slice (some ⟨gv,0,none⟩) n 3, .int .i64 dm, .slice oa i oc] X 0
 have hvl:(xyz.take n).length=n:=by rw [List.length_take];simp [xyz];omega
 obtain⟨a',hm, -⟩:=h.yt
 have hl:=h.len
 refine⟨⟨⟨⟨xyz.take n,dm,T⟩, .slice (some ⟨gv,0,none⟩) n 3, .slice oa i oc,rfl,⟨⟨n,hn1,hn3,rfl⟩,⟨by show(2:Int)<=(dm:Int);omega,by show(dm:Int)<=16;omega⟩,⟨by show 1<=T.length;omega,by show T.length<=3;omega⟩,λl hl=> ?_, ?_⟩,⟨?_, ?_⟩⟩,hm.below.trans (s.below hm.below.size (λk hk=>by omega))⟩, ?_⟩
 ·show xB ((xyz.take n).length:Nat) dm l 20=true
  rw [hvl];exact(h.ok l hl).1
 ·have:=z0v (λl hl=>(h.ok l hl).2)
  show(T.map yF).sum<=200
  omega
 ·exact zuK ((s.block _ (zx h.vars) (by omega)).trans h.vars) hn3
 ·exact(h.row.step (F':=λ_=>False) s (λk hk e=>(h.own_ne k hk).2.2.1 e) (λk hk=> .inl (.inr (.inr (.inr hk)))) (λ_ h=>h.elim)).slice
 exact qI (cs:= [.slice none 0 0, .int .i64 0, .slice none 0 0]) _ rfl h.res
end Go.Proofs.YtliajkheeniljaaGreatDoor
namespace Go.Proofs.YtliajkheeniljaaGreatDoor
open Go.RowKit
set_option maxRecDepth 100000
set_option maxHeartbeats 16000000
structure R2 (w X:World) (g gr:Nat) (sv:Value) (a:Nat) (mv mp:Option Nat):Prop where
 yt:vK w X g sv a
 res:X.heap[gr]? =some (.cells #[.slice none 0 0, .int .i64 0, .slice none 0 0] 92 (0,0))
 lo:w.heap.size<=gr/\g≠gr
 vars:∀b,mv=some b->X.heap[b]? =some (.cells wP.toArray 9 (0,0))/\w.heap.size<=b/\b≠g/\b≠gr
 prog:∀b,mp=some b->X.heap[b]? =some (.cells #[.slice none 0 0, .int .i64 0, .slice none 0 0] 92 (0,0))/\w.heap.size<=b/\b≠g/\b≠gr
 ne:∀b c,mv=some b->mp=some c->b≠c
section
variable {w X Y:World} {g gr a b:Nat} {sv:Value} {mv mp:Option Nat}
theorem R2.pick (h:R2 w X g gr sv a mv mp) (hm:vK w Y g sv b) (hs:Since (λk=>k=g) X Y):R2 w Y g gr sv b mv mp:=
 ⟨hm,(hs.block _ (zx h.res) (λe=>h.lo.2 e.symm)).trans h.res,h.lo,λc hc=>⟨(hs.block _ (zx (h.vars c hc).1) (h.vars c hc).2.2.1).trans (h.vars c hc).1,(h.vars c hc).2⟩,λc hc=>⟨(hs.block _ (zx (h.prog c hc).1) (h.prog c hc).2.2.1).trans (h.prog c hc).1,(h.prog c hc).2⟩,h.ne⟩
theorem R2.names (h:R2 w X g gr sv a none mp):R2 w (X.alloc (.cells wP.toArray 9)) g gr sv a (some X.heap.size) mp:=by
 have hb:=(Below.refl X.heap.size X).alloc (Nat.le_refl _) (.cells wP.toArray 9)
 have h1:=h.yt.below.size
 have h2:=zx h.yt.box
 have h3:=zx h.res
 refine⟨h.yt.later hb,(hb.block _ h3).trans h.res,h.lo,λc hc=> ?_,λc hc=>⟨(hb.block _ (zx (h.prog c hc).1)).trans (h.prog c hc).1,(h.prog c hc).2⟩,λc e hc he=> ?_⟩
 ·cases hc;exact⟨yh X _,h1,by omega,by omega⟩
 cases hc;have:=zx (h.prog e he).1;omega
theorem R2.box (h:R2 w X g gr sv a mv none):R2 w (X.alloc (.cells #[.slice none 0 0, .int .i64 0, .slice none 0 0] 92)) g gr sv a mv (some X.heap.size):=by
 have hb:=(Below.refl X.heap.size X).alloc (Nat.le_refl _) (.cells #[.slice none 0 0, .int .i64 0, .slice none 0 0] 92)
 have h1:=h.yt.below.size
 have h2:=zx h.yt.box
 have h3:=zx h.res
 refine⟨h.yt.later hb,(hb.block _ h3).trans h.res,h.lo,λc hc=>⟨(hb.block _ (zx (h.vars c hc).1)).trans (h.vars c hc).1,(h.vars c hc).2⟩,λc hc=> ?_,λc e hc he=> ?_⟩
 ·cases hc;exact⟨yh X _,h1,by omega,by omega⟩
 cases he;have:=zx (h.vars c hc).1;omega
theorem R2.done {gv gp n dm:Nat} (h:R2 w X g gr sv a (some gv) (some gp)) (ha:a<=9):wC w (yx X gp 0 [.slice (some ⟨gv,0,none⟩) n 3, .int .i64 dm, .slice none 0 0]) g gv gp gr sv n dm 0 (.slice none 0 0) [] [] /\∃a,vK w (yx X gp 0 [.slice (some ⟨gv,0,none⟩) n 3, .int .i64 dm, .slice none 0 0]) g sv a/\a<=9:=by
 obtain⟨v1,v2,v3,v4⟩:=h.vars gv rfl
 obtain⟨p1,p2,p3,p4⟩:=h.prog gp rfl
 have hne:=h.ne gv gp rfl rfl
 have hlo:=h.lo
 have hg:=h.yt.lo
 have s:=xO (g:=gp) [.slice (some ⟨gv,0,none⟩) n 3, .int .i64 dm, .slice none 0 0] X 0
 exact⟨⟨⟨a,h.yt.since s (λk hk=>by omega),by omega⟩,qI (cs:= [.slice none 0 0, .int .i64 0, .slice none 0 0]) _ rfl p1,(s.block _ (zx v1) hne).trans v1,(s.block _ (zx h.res) (by omega)).trans h.res,⟨hg,v2,p2,hlo.1,by omega,by omega,by omega,by omega,by omega,by omega⟩,rfl,λl hl=>by simp at hl,yU.nil _ _ _ _ _ _⟩,a,h.yt.since s (λk hk=>by omega),ha⟩
end
theorem wC.picked {w X Y:World} {g gv gp gr n dm i b:Nat} {sv va:Value} {T:List (List zL)} {css:List (List Value)} (h:wC w X g gv gp gr sv n dm i va T css) (hs:Since (λk=>k=g) X Y) (hm:vK w Y g sv b) (hb:b<=10+i*5000):wC w Y g gv gp gr sv n dm i va T css:=by
 have hlo:=h.lo
 exact⟨⟨b,hm,hb⟩,(hs.block _ (zx h.box) (by omega)).trans h.box,(hs.block _ (zx h.vars) (by omega)).trans h.vars,(hs.block _ (zx h.res) (by omega)).trans h.res,hlo,h.len,h.ok,h.row.step hs (λk hk e=>(h.own_ne k hk).1 e) (λk hk=> .inl (.inr (.inl hk))) (λk hk=> .inl hk)⟩
theorem wC.drew {w X:World} {g gv gp gr n dm i:Nat} {sv va:Value} {T:List (List zL)} {css:List (List Value)} (h:wC w X g gv gp gr sv n dm i va T css):wC w X.drew g gv gp gr sv n dm i va T css:=by
 obtain⟨a,hm,ha⟩:=h.yt
 exact h.picked (Since.drew _ (Since.refl _ X)) (hm.later (Below.refl _ _).drew) ha
theorem zlO:(Tryz.prog.info? 92).map (·.size)=some 3:=by kernel_rfl
theorem zpz:(Tryz.prog.info? 129).map (λi=>(i.zero,i.size,i.bytes))=some (some (.slice none 0 0),1,24):=by kernel_rfl
theorem wrapN (n:Nat) (h:n<=100):IntKind.i64.wrap (n:Int)=(n:Int):=IntWalk.i64_in _ (by omega)
theorem zsa (w:World) (sv:Value) (l:List Int) (hn:jJ w .u8 sv l) (kv:Value) (ks:List Int) (hks:xQ w kv ks) (hk1:1<=ks.length) (hk2:ks.length<=100) (hk3:∀k∈ks,1<=k/\k<=11):
  Calls Tryz.prog 48 #[sv,kv] w (znP w):=by
 have hpick:=λW g a n ni hni h n1 n2 ha=>zgM w W g sv l a n ni hni h hn n1 n2 ha
 have hlist:=λg vars dom hv1 hv2 hd1 hd2=>zuJ w g sv l hn kv ks hks hk1 hk2 hk3 vars dom hv1 hv2 hd1 hd2 2 (by omega)
 have zbf:4*jT 2=1040:=rfl
 have z5U:4*zam 2=52:=rfl
 have zik:∀(g vars dom:Nat),1<=vars->vars<=10->2<=dom->dom<=16->∀(W:World) (a n:Nat),vK w W g sv a->n<=4->a<=100000->Calls Tryz.prog 78 #[.pointer (some ⟨g,0,none⟩), .int .i64 n, .int .i64 2, .int .i64 vars, .int .i64 dom,kv] W λe w'=>∃(L:List zL) (va:Option Addr) (vc a':Nat),e= .returned (.slice va L.length vc)/\(xB vars dom L 20=true/\yF L<=52)/\
   zX (λk=>k<W.heap.size) w' (λy=>yD 3 4 y L (.slice va L.length vc))/\vK w w' g sv a'/\a'<=a+1040/\Since (λk=>k=g) W w':=λg vars dom hv1 hv2 hd1 hd2 W a n hm bA ha=>by
  refine(hlist g vars dom hv1 hv2 hd1 hd2 W a n 4 n rfl hm bA (by omega) (by omega)).mono ?_
  rintro e w' ⟨L,va,vc,a',h1,h2,h3,h4,h5,h6,h7⟩
  exact⟨L,va,vc,a',h1,⟨zp0 h2 (by omega),by omega⟩,h4,h5,by omega,h7⟩
 obtain⟨sa,sc,rfl, -⟩:∃a c,sv= .slice a l.length c/\True:=by obtain⟨a,c,h, -⟩:=hn;exact⟨a,c,h,trivial⟩
 obtain⟨ka,kc,rfl, -⟩:=zh.slice hks
 generalize l.length=ln at hpick zik ⊢
 generalize ks.length=kn at zik ⊢
 have vo:=qh hpick
 have z2H:=qh zik
 clear hpick hlist zik zbf z5U hn hks hk1 hk2 hk3
 have hB:=((Below.refl w.heap.size w).alloc (Nat.le_refl _) (.cells #[.slice none 0 0, .int .i64 0, .slice none 0 0] 92)).alloc (by simp) (.cells #[.slice sa ln sc, .int .i64 0] 132)
 have H1:=xU w (.cells #[.slice none 0 0, .int .i64 0, .slice none 0 0] 92) (.cells #[.slice sa ln sc, .int .i64 0] 132)
 have H2:=xH w (.cells #[.slice none 0 0, .int .i64 0, .slice none 0 0] 92) (.cells #[.slice sa ln sc, .int .i64 0] 132)
 have HR:Hid (R2 w ((w.alloc (.cells #[.slice none 0 0, .int .i64 0, .slice none 0 0] 92)).alloc (.cells #[.slice sa ln sc, .int .i64 0] 132)) (w.heap.size+1) w.heap.size (.slice sa ln sc) 0 none none):=⟨⟨hB,by omega,H2⟩,H1,⟨Nat.le_refl _,by omega⟩,(λ_ h=>by cases h),(λ_ h=>by cases h),(λ_ _ h=>by cases h)⟩
 clear hB H1 H2
 go_enter Tryz.func48,Tryz.ntmps48
 go_upto_region 2 with fail
 generalize World.alloc (World.alloc w _) _=V at HR ⊢
 generalize w.heap.size+1=g at HR ⊢
 obtain⟨gr,hgr⟩:∃gr,gr=w.heap.size:=⟨_,rfl⟩
 rw [<-hgr] at HR ⊢
 have gP:=qh hgr
 clear hgr
 go_cut [6] (λs6 w'=>∃gv gp n dm:Nat,s6= .pointer (some ⟨gp,0,none⟩)/\1<=n/\n<=3/\2<=dm/\dm<=4/\Hid (wC w w' g gv gp gr (.slice sa ln sc) n dm 0 (.slice none 0 0) [] [])/\Hid (∃a,vK w w' g (.slice sa ln sc) a/\a<=9))
 case first=>
  have hT0:Hid (R2 w V.drew g w.heap.size (.slice sa ln sc) 0 none none):=by have h:=HR.out;rw [gP.out] at h;exact h.pick (h.yt.later (Below.refl _ _).drew) (Since.drew _ (Since.refl _ _))
  rw [<-gP.out] at hT0
  clear HR
  refine vg (S:=λx=>Below w.heap.size w x) hT0.out.yt.below (λ_=> ?_)
  obtain⟨V1,hV1⟩:∃V1,V1=V.drew:=⟨_,rfl⟩
  rw [<-hV1]
  rw [<-hV1] at hT0
  clear hV1
  refine zD 1 zN (hT0.out.yt.below) ?_
  refine zD 5 zN (hT0.out.yt.below) ?_
  refine wpAnyH_ready (rs:= [0,2,9]) (by kernel_rfl) (by simp) ?_
  refine AllReadyH.cons rfl (λK hK=> ?_) (AllReadyH.cons rfl (λK hK=> ?_) (AllReadyH.cons rfl (λK hK=> ?_) AllReadyH.nil))
  ·skip
   go_simp
   have zev:=hT0.out.names
   unfold wP at zev
   refine hK.out _ _ zev.yt.below (λ_=> ?_)
   obtain⟨gv,hgv⟩:∃n,n=V1.heap.size:=⟨_,rfl⟩
   rw [<-hgv] at zev ⊢
   clear hgv
   generalize World.alloc V1 _=Xp2 at zev ⊢
   replace zev:=qh zev
   clear hK K
   refine wpAnyH_ready (rs:= [2,9]) (by kernel_rfl) (by simp) ?_
   refine AllReadyH.cons rfl (λK hK=> ?_) (AllReadyH.cons rfl (λK hK=> ?_) AllReadyH.nil)
   ·skip
    go_simp
    refine(vo.out Xp2 g _ 3 3 rfl zev.out.yt (by omega) (by omega) (by omega)).mono ?_
    rintro en Xp4 ⟨r1,hr1,rfl,hmk,hsi⟩
    have zje:=qh (zev.out.pick hmk hsi)
    clear hmk hsi
    refine hK.out _ _ zje.out.yt.below (λ_=> ?_)
    obtain⟨n,hn⟩:∃n:Nat,(1:Int)+(r1:Int)=(n:Int):=⟨1+r1,by omega⟩
    have bn1:1<=n:=by omega
    have bn2:n<=3:=by omega
    have wn:=wrapN n (by omega)
    have zn:(0:Int)<=(n:Int):=by omega
    have yn:(n:Int)<=3:=by omega
    clear hK K
    refine zD 3 zN (zje.out.yt.below) ?_
    refine zD 4 zN (zje.out.yt.below) ?_
    refine wpAnyH_ready (rs:= [6,9]) (by kernel_rfl) (by simp) ?_
    refine AllReadyH.cons rfl (λK hK=> ?_) (AllReadyH.cons rfl (λK hK=> ?_) AllReadyH.nil)
    ·skip
     go_simp
     refine(vo.out Xp4 g _ 3 3 rfl zje.out.yt (by omega) (by omega) (by omega)).mono ?_
     rintro en Xp6 ⟨r2,hr2,rfl,hmk,hsi⟩
     have zp1:=qh (zje.out.pick hmk hsi)
     clear hmk hsi
     refine hK.out _ _ zp1.out.yt.below (λ_=> ?_)
     obtain⟨dm,pK⟩:∃n:Nat,(2:Int)+(r2:Int)=(n:Int):=⟨2+r2,by omega⟩
     have zdx:2<=dm:=by omega
     have zdy:dm<=4:=by omega
     have pO:=wrapN dm (by omega)
     have zdm:(0:Int)<=(dm:Int):=by omega
     skip
     clear hK K
     refine zD 7 zN (zp1.out.yt.below) ?_
     refine zD 8 zN (zp1.out.yt.below) ?_
     refine yu 9 rfl (λK hK=> ?_)
     go_simp
     have zhf:=zp1.out.box
     refine hK.out _ _ zhf.yt.below (λ_=> ?_)
     obtain⟨gp,gT⟩:∃n,n=Xp6.heap.size:=⟨_,rfl⟩
     rw [<-gT] at zhf ⊢
     clear gT
     generalize World.alloc Xp6 _=Xp8 at zhf ⊢
     replace zhf:=qh zhf
     clear hK K
     refine yu 10 rfl (λK hK=> ?_)
     obtain⟨hp, -, -, -⟩:=zhf.out.prog gp rfl
     have q0:Xp8.cell? ⟨gp,0,none⟩=some (.slice none 0 0):=ze hp 0
     have f0:=zy hp 0
     have q1:Xp8.cell? ⟨gp,1,none⟩=some (.int .i64 0):=ze hp 1
     have f1:=zy hp 1
     have q2:Xp8.cell? ⟨gp,2,none⟩=some (.slice none 0 0):=ze hp 2
     have f2:=zy hp 2
     clear hp
     go_simp
     have hend:=zhf.out.done (n:=n) (dm:=dm) (by omega)
     have zT:=qh hend
     refine hK.out _ _ (by obtain⟨a',hm, -⟩:=hend.2;exact hm.below) (λ_=> ?_)
     clear hend q0 q1 q2 f0 f1 f2
     clear hK K
     refine xL ?_
     clear hn pK wn pO
     go_wp2_with fail
     go_meet
     case rel=>exact⟨gv,gp,n,dm,rfl,by omega,by omega,by omega,by omega,zT.out.1,zT.out.2⟩
    skip
    go_simp
    have zhg:=zje.out.box
    refine hK.out _ _ zhg.yt.below (λ_=> ?_)
    obtain⟨gp,gT⟩:∃n,n=Xp4.heap.size:=⟨_,rfl⟩
    rw [<-gT] at zhg ⊢
    clear gT
    generalize World.alloc Xp4 _=z5V at zhg ⊢
    replace zhg:=qh zhg
    clear hK K
    refine yu 6 rfl (λK hK=> ?_)
    go_simp
    refine(vo.out z5V g _ 3 3 rfl zhg.out.yt (by omega) (by omega) (by omega)).mono ?_
    rintro en zuM ⟨r2,hr2,rfl,hmk,hsi⟩
    have zil:=qh (zhg.out.pick hmk hsi)
    clear hmk hsi
    refine hK.out _ _ zil.out.yt.below (λ_=> ?_)
    obtain⟨dm,pK⟩:∃n:Nat,(2:Int)+(r2:Int)=(n:Int):=⟨2+r2,by omega⟩
    have zdx:2<=dm:=by omega
    have zdy:dm<=4:=by omega
    have pO:=wrapN dm (by omega)
    have zdm:(0:Int)<=(dm:Int):=by omega
    skip
    clear hK K
    refine zD 7 zN (zil.out.yt.below) ?_
    refine zD 8 zN (zil.out.yt.below) ?_
    refine yu 10 rfl (λK hK=> ?_)
    obtain⟨hp, -, -, -⟩:=zil.out.prog gp rfl
    have q0:zuM.cell? ⟨gp,0,none⟩=some (.slice none 0 0):=ze hp 0
    have f0:=zy hp 0
    have q1:zuM.cell? ⟨gp,1,none⟩=some (.int .i64 0):=ze hp 1
    have f1:=zy hp 1
    have q2:zuM.cell? ⟨gp,2,none⟩=some (.slice none 0 0):=ze hp 2
    have f2:=zy hp 2
    clear hp
    go_simp
    have hend:=zil.out.done (n:=n) (dm:=dm) (by omega)
    have zT:=qh hend
    refine hK.out _ _ (by obtain⟨a',hm, -⟩:=hend.2;exact hm.below) (λ_=> ?_)
    clear hend q0 q1 q2 f0 f1 f2
    clear hK K
    refine xL ?_
    clear hn pK wn pO
    go_wp2_with fail
    go_meet
    case rel=>exact⟨gv,gp,n,dm,rfl,by omega,by omega,by omega,by omega,zT.out.1,zT.out.2⟩
   skip
   go_simp
   have zew:=zev.out.box
   refine hK.out _ _ zew.yt.below (λ_=> ?_)
   obtain⟨gp,gT⟩:∃n,n=Xp2.heap.size:=⟨_,rfl⟩
   rw [<-gT] at zew ⊢
   clear gT
   generalize World.alloc Xp2 _=z5W at zew ⊢
   replace zew:=qh zew
   clear hK K
   refine yu 2 rfl (λK hK=> ?_)
   go_simp
   refine(vo.out z5W g _ 3 3 rfl zew.out.yt (by omega) (by omega) (by omega)).mono ?_
   rintro en z5X ⟨r1,hr1,rfl,hmk,hsi⟩
   have zim:=qh (zew.out.pick hmk hsi)
   clear hmk hsi
   refine hK.out _ _ zim.out.yt.below (λ_=> ?_)
   obtain⟨n,hn⟩:∃n:Nat,(1:Int)+(r1:Int)=(n:Int):=⟨1+r1,by omega⟩
   have bn1:1<=n:=by omega
   have bn2:n<=3:=by omega
   have wn:=wrapN n (by omega)
   have zn:(0:Int)<=(n:Int):=by omega
   have yn:(n:Int)<=3:=by omega
   clear hK K
   refine zD 3 zN (zim.out.yt.below) ?_
   refine zD 4 zN (zim.out.yt.below) ?_
   refine yu 6 rfl (λK hK=> ?_)
   go_simp
   refine(vo.out z5X g _ 3 3 rfl zim.out.yt (by omega) (by omega) (by omega)).mono ?_
   rintro en zuN ⟨r2,hr2,rfl,hmk,hsi⟩
   have zin:=qh (zim.out.pick hmk hsi)
   clear hmk hsi
   refine hK.out _ _ zin.out.yt.below (λ_=> ?_)
   obtain⟨dm,pK⟩:∃n:Nat,(2:Int)+(r2:Int)=(n:Int):=⟨2+r2,by omega⟩
   have zdx:2<=dm:=by omega
   have zdy:dm<=4:=by omega
   have pO:=wrapN dm (by omega)
   have zdm:(0:Int)<=(dm:Int):=by omega
   skip
   clear hK K
   refine zD 7 zN (zin.out.yt.below) ?_
   refine zD 8 zN (zin.out.yt.below) ?_
   refine yu 10 rfl (λK hK=> ?_)
   obtain⟨hp, -, -, -⟩:=zin.out.prog gp rfl
   have q0:zuN.cell? ⟨gp,0,none⟩=some (.slice none 0 0):=ze hp 0
   have f0:=zy hp 0
   have q1:zuN.cell? ⟨gp,1,none⟩=some (.int .i64 0):=ze hp 1
   have f1:=zy hp 1
   have q2:zuN.cell? ⟨gp,2,none⟩=some (.slice none 0 0):=ze hp 2
   have f2:=zy hp 2
   clear hp
   go_simp
   have hend:=zin.out.done (n:=n) (dm:=dm) (by omega)
   have zT:=qh hend
   refine hK.out _ _ (by obtain⟨a',hm, -⟩:=hend.2;exact hm.below) (λ_=> ?_)
   clear hend q0 q1 q2 f0 f1 f2
   clear hK K
   refine xL ?_
   clear hn pK wn pO
   go_wp2_with fail
   go_meet
   case rel=>exact⟨gv,gp,n,dm,rfl,by omega,by omega,by omega,by omega,zT.out.1,zT.out.2⟩
  ·skip
   go_simp
   refine(vo.out V1 g _ 3 3 rfl hT0.out.yt (by omega) (by omega) (by omega)).mono ?_
   rintro en zlP ⟨r1,hr1,rfl,hmk,hsi⟩
   have zfY:=qh (hT0.out.pick hmk hsi)
   clear hmk hsi
   refine hK.out _ _ zfY.out.yt.below (λ_=> ?_)
   obtain⟨n,hn⟩:∃n:Nat,(1:Int)+(r1:Int)=(n:Int):=⟨1+r1,by omega⟩
   have bn1:1<=n:=by omega
   have bn2:n<=3:=by omega
   have wn:=wrapN n (by omega)
   have zn:(0:Int)<=(n:Int):=by omega
   have yn:(n:Int)<=3:=by omega
   clear hK K
   refine zD 3 zN (zfY.out.yt.below) ?_
   refine wpAnyH_ready (rs:= [0,6,9]) (by kernel_rfl) (by simp) ?_
   refine AllReadyH.cons rfl (λK hK=> ?_) (AllReadyH.cons rfl (λK hK=> ?_) (AllReadyH.cons rfl (λK hK=> ?_) AllReadyH.nil))
   ·skip
    go_simp
    have zbm:=zfY.out.names
    unfold wP at zbm
    refine hK.out _ _ zbm.yt.below (λ_=> ?_)
    obtain⟨gv,hgv⟩:∃n,n=zlP.heap.size:=⟨_,rfl⟩
    rw [<-hgv] at zbm ⊢
    clear hgv
    generalize World.alloc zlP _=zuO at zbm ⊢
    replace zbm:=qh zbm
    clear hK K
    refine zD 4 zN (zbm.out.yt.below) ?_
    refine wpAnyH_ready (rs:= [6,9]) (by kernel_rfl) (by simp) ?_
    refine AllReadyH.cons rfl (λK hK=> ?_) (AllReadyH.cons rfl (λK hK=> ?_) AllReadyH.nil)
    ·skip
     go_simp
     refine(vo.out zuO g _ 3 3 rfl zbm.out.yt (by omega) (by omega) (by omega)).mono ?_
     rintro en z0z ⟨r2,hr2,rfl,hmk,hsi⟩
     have zk3:=qh (zbm.out.pick hmk hsi)
     clear hmk hsi
     refine hK.out _ _ zk3.out.yt.below (λ_=> ?_)
     obtain⟨dm,pK⟩:∃n:Nat,(2:Int)+(r2:Int)=(n:Int):=⟨2+r2,by omega⟩
     have zdx:2<=dm:=by omega
     have zdy:dm<=4:=by omega
     have pO:=wrapN dm (by omega)
     have zdm:(0:Int)<=(dm:Int):=by omega
     skip
     clear hK K
     refine zD 7 zN (zk3.out.yt.below) ?_
     refine zD 8 zN (zk3.out.yt.below) ?_
     refine yu 9 rfl (λK hK=> ?_)
     go_simp
     have zex:=zk3.out.box
     refine hK.out _ _ zex.yt.below (λ_=> ?_)
     obtain⟨gp,gT⟩:∃n,n=z0z.heap.size:=⟨_,rfl⟩
     rw [<-gT] at zex ⊢
     clear gT
     generalize World.alloc z0z _=zuP at zex ⊢
     replace zex:=qh zex
     clear hK K
     refine yu 10 rfl (λK hK=> ?_)
     obtain⟨hp, -, -, -⟩:=zex.out.prog gp rfl
     have q0:zuP.cell? ⟨gp,0,none⟩=some (.slice none 0 0):=ze hp 0
     have f0:=zy hp 0
     have q1:zuP.cell? ⟨gp,1,none⟩=some (.int .i64 0):=ze hp 1
     have f1:=zy hp 1
     have q2:zuP.cell? ⟨gp,2,none⟩=some (.slice none 0 0):=ze hp 2
     have f2:=zy hp 2
     clear hp
     go_simp
     have hend:=zex.out.done (n:=n) (dm:=dm) (by omega)
     have zT:=qh hend
     refine hK.out _ _ (by obtain⟨a',hm, -⟩:=hend.2;exact hm.below) (λ_=> ?_)
     clear hend q0 q1 q2 f0 f1 f2
     clear hK K
     refine xL ?_
     clear hn pK wn pO
     go_wp2_with fail
     go_meet
     case rel=>exact⟨gv,gp,n,dm,rfl,by omega,by omega,by omega,by omega,zT.out.1,zT.out.2⟩
    skip
    go_simp
    have zey:=zbm.out.box
    refine hK.out _ _ zey.yt.below (λ_=> ?_)
    obtain⟨gp,gT⟩:∃n,n=zuO.heap.size:=⟨_,rfl⟩
    rw [<-gT] at zey ⊢
    clear gT
    generalize World.alloc zuO _=z5Y at zey ⊢
    replace zey:=qh zey
    clear hK K
    refine yu 6 rfl (λK hK=> ?_)
    go_simp
    refine(vo.out z5Y g _ 3 3 rfl zey.out.yt (by omega) (by omega) (by omega)).mono ?_
    rintro en zuQ ⟨r2,hr2,rfl,hmk,hsi⟩
    have zio:=qh (zey.out.pick hmk hsi)
    clear hmk hsi
    refine hK.out _ _ zio.out.yt.below (λ_=> ?_)
    obtain⟨dm,pK⟩:∃n:Nat,(2:Int)+(r2:Int)=(n:Int):=⟨2+r2,by omega⟩
    have zdx:2<=dm:=by omega
    have zdy:dm<=4:=by omega
    have pO:=wrapN dm (by omega)
    have zdm:(0:Int)<=(dm:Int):=by omega
    skip
    clear hK K
    refine zD 7 zN (zio.out.yt.below) ?_
    refine zD 8 zN (zio.out.yt.below) ?_
    refine yu 10 rfl (λK hK=> ?_)
    obtain⟨hp, -, -, -⟩:=zio.out.prog gp rfl
    have q0:zuQ.cell? ⟨gp,0,none⟩=some (.slice none 0 0):=ze hp 0
    have f0:=zy hp 0
    have q1:zuQ.cell? ⟨gp,1,none⟩=some (.int .i64 0):=ze hp 1
    have f1:=zy hp 1
    have q2:zuQ.cell? ⟨gp,2,none⟩=some (.slice none 0 0):=ze hp 2
    have f2:=zy hp 2
    clear hp
    go_simp
    have hend:=zio.out.done (n:=n) (dm:=dm) (by omega)
    have zT:=qh hend
    refine hK.out _ _ (by obtain⟨a',hm, -⟩:=hend.2;exact hm.below) (λ_=> ?_)
    clear hend q0 q1 q2 f0 f1 f2
    clear hK K
    refine xL ?_
    clear hn pK wn pO
    go_wp2_with fail
    go_meet
    case rel=>exact⟨gv,gp,n,dm,rfl,by omega,by omega,by omega,by omega,zT.out.1,zT.out.2⟩
   ·skip
    go_simp
    refine(vo.out zlP g _ 3 3 rfl zfY.out.yt (by omega) (by omega) (by omega)).mono ?_
    rintro en zp2 ⟨r2,hr2,rfl,hmk,hsi⟩
    have zk4:=qh (zfY.out.pick hmk hsi)
    clear hmk hsi
    refine hK.out _ _ zk4.out.yt.below (λ_=> ?_)
    obtain⟨dm,pK⟩:∃n:Nat,(2:Int)+(r2:Int)=(n:Int):=⟨2+r2,by omega⟩
    have zdx:2<=dm:=by omega
    have zdy:dm<=4:=by omega
    have pO:=wrapN dm (by omega)
    have zdm:(0:Int)<=(dm:Int):=by omega
    skip
    clear hK K
    refine zD 7 zN (zk4.out.yt.below) ?_
    refine wpAnyH_ready (rs:= [0,9]) (by kernel_rfl) (by simp) ?_
    refine AllReadyH.cons rfl (λK hK=> ?_) (AllReadyH.cons rfl (λK hK=> ?_) AllReadyH.nil)
    ·skip
     go_simp
     have zbX:=zk4.out.names
     unfold wP at zbX
     refine hK.out _ _ zbX.yt.below (λ_=> ?_)
     obtain⟨gv,hgv⟩:∃n,n=zp2.heap.size:=⟨_,rfl⟩
     rw [<-hgv] at zbX ⊢
     clear hgv
     generalize World.alloc zp2 _=z00 at zbX ⊢
     replace zbX:=qh zbX
     clear hK K
     refine zD 4 zN (zbX.out.yt.below) ?_
     refine zD 8 zN (zbX.out.yt.below) ?_
     refine yu 9 rfl (λK hK=> ?_)
     go_simp
     have zez:=zbX.out.box
     refine hK.out _ _ zez.yt.below (λ_=> ?_)
     obtain⟨gp,gT⟩:∃n,n=z00.heap.size:=⟨_,rfl⟩
     rw [<-gT] at zez ⊢
     clear gT
     generalize World.alloc z00 _=zuR at zez ⊢
     replace zez:=qh zez
     clear hK K
     refine yu 10 rfl (λK hK=> ?_)
     obtain⟨hp, -, -, -⟩:=zez.out.prog gp rfl
     have q0:zuR.cell? ⟨gp,0,none⟩=some (.slice none 0 0):=ze hp 0
     have f0:=zy hp 0
     have q1:zuR.cell? ⟨gp,1,none⟩=some (.int .i64 0):=ze hp 1
     have f1:=zy hp 1
     have q2:zuR.cell? ⟨gp,2,none⟩=some (.slice none 0 0):=ze hp 2
     have f2:=zy hp 2
     clear hp
     go_simp
     have hend:=zez.out.done (n:=n) (dm:=dm) (by omega)
     have zT:=qh hend
     refine hK.out _ _ (by obtain⟨a',hm, -⟩:=hend.2;exact hm.below) (λ_=> ?_)
     clear hend q0 q1 q2 f0 f1 f2
     clear hK K
     refine xL ?_
     clear hn pK wn pO
     go_wp2_with fail
     go_meet
     case rel=>exact⟨gv,gp,n,dm,rfl,by omega,by omega,by omega,by omega,zT.out.1,zT.out.2⟩
    skip
    go_simp
    have zfZ:=zk4.out.box
    refine hK.out _ _ zfZ.yt.below (λ_=> ?_)
    obtain⟨gp,gT⟩:∃n,n=zp2.heap.size:=⟨_,rfl⟩
    rw [<-gT] at zfZ ⊢
    clear gT
    generalize World.alloc zp2 _=z01 at zfZ ⊢
    replace zfZ:=qh zfZ
    clear hK K
    refine yu 0 rfl (λK hK=> ?_)
    go_simp
    have zbn:=zfZ.out.names
    unfold wP at zbn
    refine hK.out _ _ zbn.yt.below (λ_=> ?_)
    obtain⟨gv,hgv⟩:∃n,n=z01.heap.size:=⟨_,rfl⟩
    rw [<-hgv] at zbn ⊢
    clear hgv
    generalize World.alloc z01 _=zuS at zbn ⊢
    replace zbn:=qh zbn
    clear hK K
    refine zD 4 zN (zbn.out.yt.below) ?_
    refine zD 8 zN (zbn.out.yt.below) ?_
    refine yu 10 rfl (λK hK=> ?_)
    obtain⟨hp, -, -, -⟩:=zbn.out.prog gp rfl
    have q0:zuS.cell? ⟨gp,0,none⟩=some (.slice none 0 0):=ze hp 0
    have f0:=zy hp 0
    have q1:zuS.cell? ⟨gp,1,none⟩=some (.int .i64 0):=ze hp 1
    have f1:=zy hp 1
    have q2:zuS.cell? ⟨gp,2,none⟩=some (.slice none 0 0):=ze hp 2
    have f2:=zy hp 2
    clear hp
    go_simp
    have hend:=zbn.out.done (n:=n) (dm:=dm) (by omega)
    have zT:=qh hend
    refine hK.out _ _ (by obtain⟨a',hm, -⟩:=hend.2;exact hm.below) (λ_=> ?_)
    clear hend q0 q1 q2 f0 f1 f2
    clear hK K
    refine xL ?_
    clear hn pK wn pO
    go_wp2_with fail
    go_meet
    case rel=>exact⟨gv,gp,n,dm,rfl,by omega,by omega,by omega,by omega,zT.out.1,zT.out.2⟩
   skip
   go_simp
   have zdb:=zfY.out.box
   refine hK.out _ _ zdb.yt.below (λ_=> ?_)
   obtain⟨gp,gT⟩:∃n,n=zlP.heap.size:=⟨_,rfl⟩
   rw [<-gT] at zdb ⊢
   clear gT
   generalize World.alloc zlP _=zuT at zdb ⊢
   replace zdb:=qh zdb
   clear hK K
   refine wpAnyH_ready (rs:= [0,6]) (by kernel_rfl) (by simp) ?_
   refine AllReadyH.cons rfl (λK hK=> ?_) (AllReadyH.cons rfl (λK hK=> ?_) AllReadyH.nil)
   ·skip
    go_simp
    have zbY:=zdb.out.names
    unfold wP at zbY
    refine hK.out _ _ zbY.yt.below (λ_=> ?_)
    obtain⟨gv,hgv⟩:∃n,n=zuT.heap.size:=⟨_,rfl⟩
    rw [<-hgv] at zbY ⊢
    clear hgv
    generalize World.alloc zuT _=z5Z at zbY ⊢
    replace zbY:=qh zbY
    clear hK K
    refine zD 4 zN (zbY.out.yt.below) ?_
    refine yu 6 rfl (λK hK=> ?_)
    go_simp
    refine(vo.out z5Z g _ 3 3 rfl zbY.out.yt (by omega) (by omega) (by omega)).mono ?_
    rintro en zuU ⟨r2,hr2,rfl,hmk,hsi⟩
    have ziq:=qh (zbY.out.pick hmk hsi)
    clear hmk hsi
    refine hK.out _ _ ziq.out.yt.below (λ_=> ?_)
    obtain⟨dm,pK⟩:∃n:Nat,(2:Int)+(r2:Int)=(n:Int):=⟨2+r2,by omega⟩
    have zdx:2<=dm:=by omega
    have zdy:dm<=4:=by omega
    have pO:=wrapN dm (by omega)
    have zdm:(0:Int)<=(dm:Int):=by omega
    skip
    clear hK K
    refine zD 7 zN (ziq.out.yt.below) ?_
    refine zD 8 zN (ziq.out.yt.below) ?_
    refine yu 10 rfl (λK hK=> ?_)
    obtain⟨hp, -, -, -⟩:=ziq.out.prog gp rfl
    have q0:zuU.cell? ⟨gp,0,none⟩=some (.slice none 0 0):=ze hp 0
    have f0:=zy hp 0
    have q1:zuU.cell? ⟨gp,1,none⟩=some (.int .i64 0):=ze hp 1
    have f1:=zy hp 1
    have q2:zuU.cell? ⟨gp,2,none⟩=some (.slice none 0 0):=ze hp 2
    have f2:=zy hp 2
    clear hp
    go_simp
    have hend:=ziq.out.done (n:=n) (dm:=dm) (by omega)
    have zT:=qh hend
    refine hK.out _ _ (by obtain⟨a',hm, -⟩:=hend.2;exact hm.below) (λ_=> ?_)
    clear hend q0 q1 q2 f0 f1 f2
    clear hK K
    refine xL ?_
    clear hn pK wn pO
    go_wp2_with fail
    go_meet
    case rel=>exact⟨gv,gp,n,dm,rfl,by omega,by omega,by omega,by omega,zT.out.1,zT.out.2⟩
   skip
   go_simp
   refine(vo.out zuT g _ 3 3 rfl zdb.out.yt (by omega) (by omega) (by omega)).mono ?_
   rintro en z02 ⟨r2,hr2,rfl,hmk,hsi⟩
   have zp3:=qh (zdb.out.pick hmk hsi)
   clear hmk hsi
   refine hK.out _ _ zp3.out.yt.below (λ_=> ?_)
   obtain⟨dm,pK⟩:∃n:Nat,(2:Int)+(r2:Int)=(n:Int):=⟨2+r2,by omega⟩
   have zdx:2<=dm:=by omega
   have zdy:dm<=4:=by omega
   have pO:=wrapN dm (by omega)
   have zdm:(0:Int)<=(dm:Int):=by omega
   skip
   clear hK K
   refine zD 7 zN (zp3.out.yt.below) ?_
   refine yu 0 rfl (λK hK=> ?_)
   go_simp
   have zbo:=zp3.out.names
   unfold wP at zbo
   refine hK.out _ _ zbo.yt.below (λ_=> ?_)
   obtain⟨gv,hgv⟩:∃n,n=z02.heap.size:=⟨_,rfl⟩
   rw [<-hgv] at zbo ⊢
   clear hgv
   generalize World.alloc z02 _=zuV at zbo ⊢
   replace zbo:=qh zbo
   clear hK K
   refine zD 4 zN (zbo.out.yt.below) ?_
   refine zD 8 zN (zbo.out.yt.below) ?_
   refine yu 10 rfl (λK hK=> ?_)
   obtain⟨hp, -, -, -⟩:=zbo.out.prog gp rfl
   have q0:zuV.cell? ⟨gp,0,none⟩=some (.slice none 0 0):=ze hp 0
   have f0:=zy hp 0
   have q1:zuV.cell? ⟨gp,1,none⟩=some (.int .i64 0):=ze hp 1
   have f1:=zy hp 1
   have q2:zuV.cell? ⟨gp,2,none⟩=some (.slice none 0 0):=ze hp 2
   have f2:=zy hp 2
   clear hp
   go_simp
   have hend:=zbo.out.done (n:=n) (dm:=dm) (by omega)
   have zT:=qh hend
   refine hK.out _ _ (by obtain⟨a',hm, -⟩:=hend.2;exact hm.below) (λ_=> ?_)
   clear hend q0 q1 q2 f0 f1 f2
   clear hK K
   refine xL ?_
   clear hn pK wn pO
   go_wp2_with fail
   go_meet
   case rel=>exact⟨gv,gp,n,dm,rfl,by omega,by omega,by omega,by omega,zT.out.1,zT.out.2⟩
  skip
  go_simp
  have zdc:=hT0.out.box
  refine hK.out _ _ zdc.yt.below (λ_=> ?_)
  obtain⟨gp,gT⟩:∃n,n=V1.heap.size:=⟨_,rfl⟩
  rw [<-gT] at zdc ⊢
  clear gT
  generalize World.alloc V1 _=zuW at zdc ⊢
  replace zdc:=qh zdc
  clear hK K
  refine wpAnyH_ready (rs:= [0,2]) (by kernel_rfl) (by simp) ?_
  refine AllReadyH.cons rfl (λK hK=> ?_) (AllReadyH.cons rfl (λK hK=> ?_) AllReadyH.nil)
  ·skip
   go_simp
   have zdd:=zdc.out.names
   unfold wP at zdd
   refine hK.out _ _ zdd.yt.below (λ_=> ?_)
   obtain⟨gv,hgv⟩:∃n,n=zuW.heap.size:=⟨_,rfl⟩
   rw [<-hgv] at zdd ⊢
   clear hgv
   generalize World.alloc zuW _=z6a at zdd ⊢
   replace zdd:=qh zdd
   clear hK K
   refine yu 2 rfl (λK hK=> ?_)
   go_simp
   refine(vo.out z6a g _ 3 3 rfl zdd.out.yt (by omega) (by omega) (by omega)).mono ?_
   rintro en z6b ⟨r1,hr1,rfl,hmk,hsi⟩
   have zir:=qh (zdd.out.pick hmk hsi)
   clear hmk hsi
   refine hK.out _ _ zir.out.yt.below (λ_=> ?_)
   obtain⟨n,hn⟩:∃n:Nat,(1:Int)+(r1:Int)=(n:Int):=⟨1+r1,by omega⟩
   have bn1:1<=n:=by omega
   have bn2:n<=3:=by omega
   have wn:=wrapN n (by omega)
   have zn:(0:Int)<=(n:Int):=by omega
   have yn:(n:Int)<=3:=by omega
   clear hK K
   refine zD 3 zN (zir.out.yt.below) ?_
   refine zD 4 zN (zir.out.yt.below) ?_
   refine yu 6 rfl (λK hK=> ?_)
   go_simp
   refine(vo.out z6b g _ 3 3 rfl zir.out.yt (by omega) (by omega) (by omega)).mono ?_
   rintro en zuX ⟨r2,hr2,rfl,hmk,hsi⟩
   have zis:=qh (zir.out.pick hmk hsi)
   clear hmk hsi
   refine hK.out _ _ zis.out.yt.below (λ_=> ?_)
   obtain⟨dm,pK⟩:∃n:Nat,(2:Int)+(r2:Int)=(n:Int):=⟨2+r2,by omega⟩
   have zdx:2<=dm:=by omega
   have zdy:dm<=4:=by omega
   have pO:=wrapN dm (by omega)
   have zdm:(0:Int)<=(dm:Int):=by omega
   skip
   clear hK K
   refine zD 7 zN (zis.out.yt.below) ?_
   refine zD 8 zN (zis.out.yt.below) ?_
   refine yu 10 rfl (λK hK=> ?_)
   obtain⟨hp, -, -, -⟩:=zis.out.prog gp rfl
   have q0:zuX.cell? ⟨gp,0,none⟩=some (.slice none 0 0):=ze hp 0
   have f0:=zy hp 0
   have q1:zuX.cell? ⟨gp,1,none⟩=some (.int .i64 0):=ze hp 1
   have f1:=zy hp 1
   have q2:zuX.cell? ⟨gp,2,none⟩=some (.slice none 0 0):=ze hp 2
   have f2:=zy hp 2
   clear hp
   go_simp
   have hend:=zis.out.done (n:=n) (dm:=dm) (by omega)
   have zT:=qh hend
   refine hK.out _ _ (by obtain⟨a',hm, -⟩:=hend.2;exact hm.below) (λ_=> ?_)
   clear hend q0 q1 q2 f0 f1 f2
   clear hK K
   refine xL ?_
   clear hn pK wn pO
   go_wp2_with fail
   go_meet
   case rel=>exact⟨gv,gp,n,dm,rfl,by omega,by omega,by omega,by omega,zT.out.1,zT.out.2⟩
  skip
  go_simp
  refine(vo.out zuW g _ 3 3 rfl zdc.out.yt (by omega) (by omega) (by omega)).mono ?_
  rintro en zuY ⟨r1,hr1,rfl,hmk,hsi⟩
  have zit:=qh (zdc.out.pick hmk hsi)
  clear hmk hsi
  refine hK.out _ _ zit.out.yt.below (λ_=> ?_)
  obtain⟨n,hn⟩:∃n:Nat,(1:Int)+(r1:Int)=(n:Int):=⟨1+r1,by omega⟩
  have bn1:1<=n:=by omega
  have bn2:n<=3:=by omega
  have wn:=wrapN n (by omega)
  have zn:(0:Int)<=(n:Int):=by omega
  have yn:(n:Int)<=3:=by omega
  clear hK K
  refine zD 3 zN (zit.out.yt.below) ?_
  refine wpAnyH_ready (rs:= [0,6]) (by kernel_rfl) (by simp) ?_
  refine AllReadyH.cons rfl (λK hK=> ?_) (AllReadyH.cons rfl (λK hK=> ?_) AllReadyH.nil)
  ·skip
   go_simp
   have zbZ:=zit.out.names
   unfold wP at zbZ
   refine hK.out _ _ zbZ.yt.below (λ_=> ?_)
   obtain⟨gv,hgv⟩:∃n,n=zuY.heap.size:=⟨_,rfl⟩
   rw [<-hgv] at zbZ ⊢
   clear hgv
   generalize World.alloc zuY _=z6c at zbZ ⊢
   replace zbZ:=qh zbZ
   clear hK K
   refine zD 4 zN (zbZ.out.yt.below) ?_
   refine yu 6 rfl (λK hK=> ?_)
   go_simp
   refine(vo.out z6c g _ 3 3 rfl zbZ.out.yt (by omega) (by omega) (by omega)).mono ?_
   rintro en zuZ ⟨r2,hr2,rfl,hmk,hsi⟩
   have ziu:=qh (zbZ.out.pick hmk hsi)
   clear hmk hsi
   refine hK.out _ _ ziu.out.yt.below (λ_=> ?_)
   obtain⟨dm,pK⟩:∃n:Nat,(2:Int)+(r2:Int)=(n:Int):=⟨2+r2,by omega⟩
   have zdx:2<=dm:=by omega
   have zdy:dm<=4:=by omega
   have pO:=wrapN dm (by omega)
   have zdm:(0:Int)<=(dm:Int):=by omega
   skip
   clear hK K
   refine zD 7 zN (ziu.out.yt.below) ?_
   refine zD 8 zN (ziu.out.yt.below) ?_
   refine yu 10 rfl (λK hK=> ?_)
   obtain⟨hp, -, -, -⟩:=ziu.out.prog gp rfl
   have q0:zuZ.cell? ⟨gp,0,none⟩=some (.slice none 0 0):=ze hp 0
   have f0:=zy hp 0
   have q1:zuZ.cell? ⟨gp,1,none⟩=some (.int .i64 0):=ze hp 1
   have f1:=zy hp 1
   have q2:zuZ.cell? ⟨gp,2,none⟩=some (.slice none 0 0):=ze hp 2
   have f2:=zy hp 2
   clear hp
   go_simp
   have hend:=ziu.out.done (n:=n) (dm:=dm) (by omega)
   have zT:=qh hend
   refine hK.out _ _ (by obtain⟨a',hm, -⟩:=hend.2;exact hm.below) (λ_=> ?_)
   clear hend q0 q1 q2 f0 f1 f2
   clear hK K
   refine xL ?_
   clear hn pK wn pO
   go_wp2_with fail
   go_meet
   case rel=>exact⟨gv,gp,n,dm,rfl,by omega,by omega,by omega,by omega,zT.out.1,zT.out.2⟩
  skip
  go_simp
  refine(vo.out zuY g _ 3 3 rfl zit.out.yt (by omega) (by omega) (by omega)).mono ?_
  rintro en z03 ⟨r2,hr2,rfl,hmk,hsi⟩
  have zp4:=qh (zit.out.pick hmk hsi)
  clear hmk hsi
  refine hK.out _ _ zp4.out.yt.below (λ_=> ?_)
  obtain⟨dm,pK⟩:∃n:Nat,(2:Int)+(r2:Int)=(n:Int):=⟨2+r2,by omega⟩
  have zdx:2<=dm:=by omega
  have zdy:dm<=4:=by omega
  have pO:=wrapN dm (by omega)
  have zdm:(0:Int)<=(dm:Int):=by omega
  skip
  clear hK K
  refine zD 7 zN (zp4.out.yt.below) ?_
  refine yu 0 rfl (λK hK=> ?_)
  go_simp
  have zbp:=zp4.out.names
  unfold wP at zbp
  refine hK.out _ _ zbp.yt.below (λ_=> ?_)
  obtain⟨gv,hgv⟩:∃n,n=z03.heap.size:=⟨_,rfl⟩
  rw [<-hgv] at zbp ⊢
  clear hgv
  generalize World.alloc z03 _=zvb at zbp ⊢
  replace zbp:=qh zbp
  clear hK K
  refine zD 4 zN (zbp.out.yt.below) ?_
  refine zD 8 zN (zbp.out.yt.below) ?_
  refine yu 10 rfl (λK hK=> ?_)
  obtain⟨hp, -, -, -⟩:=zbp.out.prog gp rfl
  have q0:zvb.cell? ⟨gp,0,none⟩=some (.slice none 0 0):=ze hp 0
  have f0:=zy hp 0
  have q1:zvb.cell? ⟨gp,1,none⟩=some (.int .i64 0):=ze hp 1
  have f1:=zy hp 1
  have q2:zvb.cell? ⟨gp,2,none⟩=some (.slice none 0 0):=ze hp 2
  have f2:=zy hp 2
  clear hp
  go_simp
  have hend:=zbp.out.done (n:=n) (dm:=dm) (by omega)
  have zT:=qh hend
  refine hK.out _ _ (by obtain⟨a',hm, -⟩:=hend.2;exact hm.below) (λ_=> ?_)
  clear hend q0 q1 q2 f0 f1 f2
  clear hK K
  refine xL ?_
  clear hn pK wn pO
  go_wp2_with fail
  go_meet
  case rel=>exact⟨gv,gp,n,dm,rfl,by omega,by omega,by omega,by omega,zT.out.1,zT.out.2⟩
 case rest=>
 obtain⟨gv,gp,n,dm,rfl,hn1,hn3,hd2,hd4,HL,HMA⟩:=hcut
 clear HR
 obtain⟨X,rfl⟩:∃x:World,x=wc:=⟨_,rfl⟩
 obtain⟨a0,z04,ha0⟩:=HMA.out
 have z05:=qh z04
 clear z04
 go_upto_region 4 with(go_at_call 77;go_must(refine(vo.out X g _ 3 3 rfl z05.out (by omega) (by omega) (by omega)).mono ?_);rintro en X2 ⟨r3,hr3,rfl,hmk,hsi⟩;(have HL2:=qh (HL.out.picked hsi hmk (by omega)));clear hmk hsi HL z05)
 obtain⟨m,hm⟩:∃m:Nat,(1:Int)+(r3:Int)=(m:Int):=⟨1+r3,by omega⟩
 have hm1:1<=m:=by omega
 have hm3:m<=3:=by omega
 rw [hm]
 clear hm hr3
 go_loopg [7] m (λgg s7 wr=>∃(j k:Nat) (oa:Option Addr) (oc:Nat) (T:List (List zL)) (css:List (List Value)),s7= .int .i64 k/\Hid (j+k=m)/\Hid (gg=k)/\Hid (wC w wr g gv gp gr (.slice sa ln sc) n dm j (.slice oa j oc) T css))
 case atStart=>exact⟨0,m,none,0, [], [],rfl,by rw [Hid];omega,rfl,HL2.out⟩
 case round=>
 obtain⟨j,k',oa,oc,T,css,rfl,HJK,HG,HL⟩:=hrel
 clear HL2
 have hj3:j<=3:=by have:=HJK.out;omega
 have hk3:k'<=3:=by have:=HJK.out;omega
 by_cases hk0:0<k'
 rotate_left
 ·obtain rfl:k'=0:=by omega
  have hj1:j=m:=by have:=HJK.out;omega
  obtain⟨hend,hset⟩:=zpy HL.out hn1 hn3 hd2 (by omega) (by omega) hj3
  have zT:=qh hend
  have zJ:=qh hset
  clear hend hset hj1
  have c0:wr.cell? ⟨gp,0,none⟩=some (.slice (some ⟨gv,0,none⟩) n 3):=ze HL.out.box 0
  have c1:wr.cell? ⟨gp,1,none⟩=some (.int .i64 dm):=ze HL.out.box 1
  have c2:wr.cell? ⟨gp,2,none⟩=some (.slice oa j oc):=ze HL.out.box 2
  have z0:wr.cell? ⟨gr,0,none⟩=some (.slice none 0 0):=ze HL.out.res 0
  have z1:wr.cell? ⟨gr,1,none⟩=some (.int .i64 0):=ze HL.out.res 1
  have z2:wr.cell? ⟨gr,2,none⟩=some (.slice none 0 0):=ze HL.out.res 2
  have f0:=zy HL.out.res 0
  have f1:=zy HL.out.res 1
  have f2:=zy HL.out.res 2
  go_wp2_with fail
  refine bodyPost_ret (xP rfl _ _ gr 92 _ (0,0) _ rfl zJ.out Tryz.underlying92 rfl zlO) rfl ?_
  exact zT.out
 obtain⟨k,rfl⟩:∃k,k'=k+1:=⟨k' - 1,by omega⟩
 have hkI:(0:Int)<(k:Int)+1:=by omega
 have CC:Hid (∀x,Since (λy=>(Value.slice oa j oc).ownBlock=some y\/y=g) wr x->x.cell? ⟨gp,0,none⟩=some (.slice (some ⟨gv,0,none⟩) n 3)/\x.cell? ⟨gp,1,none⟩=some (.int .i64 dm)/\x.cell? ⟨gp,2,none⟩=some (.slice oa j oc)):=λx hx=>by
  have h:=(hx.block _ (zx HL.out.box) (λe=>by rcases e with e|e;exact(HL.out.own_ne _ e).2.1 rfl;have:=HL.out.lo;omega)).trans HL.out.box
  exact⟨ze h 0,ze h 1,ze h 2⟩
 go_upto_region 6 with fail
 refine wp_region_noPanic ?_
 refine yV (n0:=15) (S:=λx=>Since (λy=>(Value.slice oa j oc).ownBlock=some y\/y=g) wr x) (by kernel_rfl) (Since.drew _ (Since.refl _ wr)) (λ_=> ?_)
 obtain⟨V1,hV1⟩:∃V1,V1=wr.drew:=⟨_,rfl⟩
 have hT0:Hid (Since (λy=>(Value.slice oa j oc).ownBlock=some y\/y=g) wr V1):=by rw [hV1];exact Since.drew _ (Since.refl _ wr)
 have hl2:wC w V1 g gv gp gr (.slice sa ln sc) n dm j (.slice oa j oc) T css:=by rw [hV1];exact HL.out.drew
 rw [<-hV1]
 clear hV1
 have HL2:=qh hl2
 have uQ:=hl2.row.row
 rw [hl2.len] at uQ
 have zwJ:=qh uQ
 have HOWN:Hid (∀k,(Value.slice oa j oc).ownBlock=some k->k≠g):=λk hk=>(hl2.own_ne k hk).1
 obtain⟨a1,hmk,ha1⟩:=hl2.yt
 have yA:=qh hmk.below.size
 have HMK:=qh (And.intro hmk ha1)
 clear hl2 uQ hmk ha1
 refine zU 0 (λ_=>hT0.out) ?_
 refine jw [13,14,15] 1 CC.out (hT0.out) ?_
 refine zU 2 (λ_=>hT0.out) ?_
 refine zU 3 (λ_=>hT0.out) ?_
 refine zU 5 (λ_=>hT0.out) ?_
 refine jw [7,11,12,13,14,15] 6 CC.out (hT0.out) ?_
 refine zU 7 (λ_=>hT0.out) ?_
 refine zU 8 (λ_=>hT0.out) ?_
 refine jw [11,12,13,14,15] 9 CC.out (hT0.out) ?_
 refine zU 10 (λ_=>hT0.out) ?_
 refine vP 4 rfl (λK hK=> ?_)
 go_simp
 refine(vo.out V1 g _ 5 5 rfl HMK.out.1 (by omega) (by omega) (by have h5:=HMK.out.2;omega)).mono ?_
 rintro en V2 ⟨r5,hr5,rfl,hmk,hsi⟩
 have z06:=qh hmk
 have zvd:=qh hsi
 have hT1:=qh (hT0.out.trans hsi (λy hy=> .inl (.inr hy)))
 clear hmk hsi
 refine hK.out _ _ (λ_ _=>hT1.out) ?_
 clear hK K
 refine vP 11 rfl (λK hK=> ?_)
 go_simp
 refine(z2H.out g n dm (by omega) (by omega) (by omega) (by omega) V2 _ r5 z06.out (by omega) (by have h5:=HMK.out.2;omega)).mono ?_
 rintro en V3 ⟨L,na,nc,a2,rfl,hok,haw,hmk,ha2,hsi⟩
 have zf1:=qh hmk
 have zve:=qh (And.intro hok haw)
 have zp5:=qh (zvd.out.trans hsi (λ_ h=> .inl h))
 have HSZ:=qh hsi.size
 have gU:=qh (hT1.out.trans hsi (λy hy=> .inl (.inr hy)))
 have hrow:=zp5.out.row zwJ.out (λk hk e=>(HOWN.out k hk) e)
 have ziv:=qh hrow
 clear hmk hsi hok haw hrow
 refine hK.out _ _ (λ_ _=>gU.out) ?_
 clear hK K
 refine vP 12 rfl (λK hK=> ?_)
 go_simp
 have jl:=qh (gU.out.alloc (.cells #[.slice na L.length nc] 129))
 refine hK.out _ _ (λ_ _=>jl.out) ?_
 clear hK K
 refine vP 13 rfl (λK hK=> ?_)
 refine zK (V3.alloc (.cells #[.slice na L.length nc] 129)) (by rfl) (.tmp 28) (.tmp 39) 90 rfl 129 (.slice none 0 0) 1 24 Tryz.underlying90 zpz rfl (by decide) w.heap.size (.slice oa j oc) j (css.flatten) (by rfl) (ziv.out.alloc _) ⟨V3.heap.size,0,none⟩ 1 1 [.slice na L.length nc] (by rfl) rfl (jf V3 _ _) (by simp [Value.oneCell']) (by unfold maxLen;omega) (by omega) (by have h5:=yA.out;have h6:=zp5.out.size;simp;omega) ?_
 intro xa xc V4 e1 e2 e3 e4 e5
 have xY:=qh (jl.out.trans e4 (λy hy=> .inl (.inl hy)))
 have hp:=HL2.out.push zp5.out zf1.out (by have:=HMK.out.2;omega) zve.out.1 rfl (zve.out.2.step (Since.refl (λ_=>False) V3) (λ_ h=>h.elim) (λk hk=> .inl (by have h5:=zvd.out.size;omega))) e1 e4 e5
 have HP:=qh hp
 clear e1 e2 e3 e4 e5 hp
 refine hK.out _ _ (λ_ _=>xY.out) ?_
 clear hK K
 change qo _ _ _ _ _ _ _ _ (Act.put _ (some 40) _) _
 simp only [Act.put,kJ,kK,kL]
 refine zU 14 (λ_=>xY.out) ?_
 refine vP 15 rfl (λK hK=> ?_)
 have q2:V4.cell? ⟨gp,2,none⟩=some (.slice oa j oc):=ze HP.out.1 2
 have f2:=zy HP.out.1 2
 go_simp
 refine hK.out _ _ (λh=>absurd rfl h) ?_
 clear q2 f2
 have hT5:=xY
 clear hK K
 refine xE (by kernel_rfl) ?_ _
 refine NoPanic.normal ?_
 have HP2:=qh HP.out.2
 clear HP z06 zf1 zve zvd zp5 ziv zwJ HOWN CC
 go_wp2_with fail
 go_roundg k
 case measure=>rw [HG.out];omega
 case rel=>exact⟨j+1,k,xa,xc,_,_,(by first|rfl|simp),by have:=HJK.out;rw [Hid];omega,rfl,HP2.out⟩
