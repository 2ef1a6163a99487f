/- Steps. -/
import Derived.Test.YtnhahkiojbanfaaGreatDoorRyMakerL
import Derived.Test.YtnhahkiojbanfaaGreatDoorRyTail
set_option linter.all false
namespace Go.Proofs.YtnhahkiojbanfaaGreatDoor
open Go.RowKit
set_option maxRecDepth 100000
set_option maxHeartbeats 16000000
theorem zvd (W0:World) (g:Nat) (lv:Value) (l:List Int) (hn:jv W0 .u8 lv l) (kv:Value) (ks:List Int) (hks:xU W0 kv ks) (hk1:1<=ks.length) (hk2:ks.length<=100) (hk3:∀k∈ks,1<=k/\k<=11) (vars dom:Nat) (hv1:1<=vars) (hv2:vars<=10) (hd1:2<=dom) (hd2:dom<=16) (d:Nat) (hd:d<=10):
  zhp W0 g lv kv vars dom d:=by
 obtain⟨ka,kc,hkv, -⟩:=zh.slice hks
 induction d with
 |zero=>exact zmu W0 g lv kv vars dom 0 (zmv W0 g lv l hn kv ks hks hk1 hk2 hk3 vars dom hv1 hv2 hd1 hd2 0 (by omega) (λh=>by omega)) ka _ kc hkv
 |succ d ih=>exact zmu W0 g lv kv vars dom (d+1) (zmv W0 g lv l hn kv ks hks hk1 hk2 hk3 vars dom hv1 hv2 hd1 hd2 (d+1) hd (λ_=>ih (by omega))) ka _ kc hkv
def zfj:List Int:= [1,2,1,2,3,4,5,6,7,8,9,10,11]
theorem zr2 (w:World):Calls Tryz.prog 18 #[] w λe w'=>(∃kv,e= .returned kv/\xU w' kv zfj)/\Below w.heap.size w w':=by
 have hb:=(Below.refl w.heap.size w).alloc (Nat.le_refl _) (.cells #[.int .i64 1, .int .i64 2, .int .i64 1, .int .i64 2, .int .i64 3, .int .i64 4, .int .i64 5, .int .i64 6, .int .i64 7, .int .i64 8, .int .i64 9, .int .i64 10, .int .i64 11] 3)
 have hg:=yh w (.cells #[.int .i64 1, .int .i64 2, .int .i64 1, .int .i64 2, .int .i64 3, .int .i64 4, .int .i64 5, .int .i64 6, .int .i64 7, .int .i64 8, .int .i64 9, .int .i64 10, .int .i64 11] 3)
 have hr:=gH (w:=w.alloc (.cells #[.int .i64 1, .int .i64 2, .int .i64 1, .int .i64 2, .int .i64 3, .int .i64 4, .int .i64 5, .int .i64 6, .int .i64 7, .int .i64 8, .int .i64 9, .int .i64 10, .int .i64 11] 3)) (l:=zfj) (B:=0) (sv:= .slice (some ⟨w.heap.size,0,none⟩) 13 13) (gK (n:=13) (cs:=zo yP zfj) hg (Nat.zero_le _) rfl (by decide))
 have HB:=qh hb
 have HR:=qh hr
 clear hb hg hr
 go_enter Tryz.func18,Tryz.ntmps18
 go_wp2_with fail
 go_ret
 exact⟨⟨_,rfl,HR.out⟩,HB.out⟩
def wW:List Value:= [.string ⟨#[120]⟩, .string ⟨#[121]⟩, .string ⟨#[122]⟩]
theorem zve {X:World} {gv n:Nat} (h:X.heap[gv]? =some (.cells wW.toArray 9 (0,0))) (hn:n<=3):zd1 X (.slice (some ⟨gv,0,none⟩) n 3) (xyz.take n):=by
 have hl:(xyz.take n).length=n:=by rw [List.length_take];simp [xyz];omega
 refine⟨_,3,by rw [hl],by rw [hl];omega,λj hj=> ?_⟩
 rw [hl] at hj
 have e:(xyz.take n).getD j default=xyz.getD j default:=by simp only [List.getD_eq_getElem?_getD,List.getElem?_take_of_lt hj]
 have hj3:j=0\/j=1\/j=2:=by omega
 rw [e]
 rcases hj3 with rfl|rfl|rfl
 ·refine⟨gv,0, [.string ⟨#[120]⟩],rfl,zx h,rfl,λi hi=> ?_,rfl⟩
  obtain rfl:i=0:=by omega
  rw [ze h];rfl
 ·refine⟨gv,0, [.string ⟨#[121]⟩],rfl,zx h,rfl,λi hi=> ?_,rfl⟩
  obtain rfl:i=0:=by omega
  rw [ze h];rfl
 refine⟨gv,0, [.string ⟨#[122]⟩],rfl,zx h,rfl,λi hi=> ?_,rfl⟩
 obtain rfl:i=0:=by omega
 rw [ze h];rfl
def PF (va:Value) (g gp gr:Nat) (k:Nat):Prop:=va.ownBlock=some k\/k=g\/k=gp\/k=gr
structure wI (w X:World) (g gv gp gr:Nat) (sv:Value) (n dm i:Nat) (va:Value) (T:List (List zM)) (css:List (List Value)):Prop where
 yt:∃a',vJ w X g sv a'/\a'<=10+i*5000
 box:X.heap[gp]? =some (.cells #[.slice (some ⟨gv,0,none⟩) n 3, .int .i64 dm,va] 87 (0,0))
 vars:X.heap[gv]? =some (.cells wW.toArray 9 (0,0))
 res:X.heap[gr]? =some (.cells #[.slice none 0 0, .int .i64 0, .slice none 0 0] 87 (0,0))
 lo:w.heap.size<=g/\w.heap.size<=gv/\w.heap.size<=gp/\w.heap.size<=gr/\g≠gp/\g≠gr/\gp≠gr/\gv≠g/\gv≠gp/\gv≠gr
 len:T.length=i
 ok:∀l∈T,xC n dm l 20=true/\yG l<=52
 row:yX (PF va g gp gr) X (zjn 3 4) 1 w.heap.size 115 va T css
section
variable {w X Y:World} {g gv gp gr:Nat} {sv:Value} {n dm i:Nat} {va:Value} {T:List (List zM)} {css:List (List Value)}
theorem wI.own_ne (h:wI w X g gv gp gr sv n dm i va T css):∀k,va.ownBlock=some k->k≠g/\k≠gp/\k≠gr/\k≠gv:=λk hk=>by
 obtain⟨a',hm, -⟩:=h.yt
 exact⟨λe=>by subst e;exact uo h.row.row hk hm.box (by decide),λe=>by subst e;exact uo h.row.row hk h.box (by decide),λe=>by subst e;exact uo h.row.row hk h.res (by decide),λe=>by subst e;exact uo h.row.row hk h.vars (by decide)⟩
theorem wI.lt (h:wI w X g gv gp gr sv n dm i va T css):∀k,PF va g gp gr k->k<X.heap.size:=λk hk=>by
 obtain⟨a',hm, -⟩:=h.yt
 rcases hk with hk|rfl|rfl|rfl
 ·exact(h.row.row.lt k hk).2
 ·exact zx hm.box
 ·exact zx h.box
 exact zx h.res
theorem wI.push {xc ln rc a1 oc:Nat} {Z:World} {oa ra xa:Option Addr} {l:List zM} {o:Obj} (h:wI w X g gv gp gr sv n dm i (.slice oa i oc) T css) (hs:Since (λk=>k=g) X Y) (hm:vJ w Y g sv a1) (ha:a1<=10+i*5000+5000) (hok:xC n dm l 20=true/\yG l<=52) (hlen:l.length=ln)
  (haw:zW (λk=>k<X.heap.size) Y (λy=>yD 3 4 y l (.slice ra ln rc))) (h1:Z.ownsRow w.heap.size 115 1 (.slice xa (i+1) xc) (i+1) (css.flatten++ [.slice ra ln rc])) (h4:Since (λk=>(Value.slice oa i oc).ownBlock=some k) (Y.alloc o) Z) (h5:∀k,(Value.slice xa (i+1) xc).ownBlock=some k->(Value.slice oa i oc).ownBlock=some k\/k=(Y.alloc o).heap.size):
  Z.heap[gp]? =some (.cells #[.slice (some ⟨gv,0,none⟩) n 3, .int .i64 dm, .slice oa i oc] 87 (0,0))/\wI w (Z.setCell ⟨gp,2,none⟩ (.slice xa (i+1) xc)) g gv gp gr sv n dm (i+1) (.slice xa (i+1) xc) (T++ [l]) (css++ [[.slice ra ln rc]]):=by
 have hlo:=h.lo
 have hne:=h.own_ne
 have hlt:=h.lt
 have s1:Since (λk=>(Value.slice oa i oc).ownBlock=some k) Y Z:=((Since.refl _ Y).alloc o).trans h4 (λk hk=> .inl hk)
 have s2:Since (λk=>k=gp) Z (Z.setCell ⟨gp,2,none⟩ (.slice xa (i+1) xc)):=Since.setCell (F:=λk=>k=gp) (p:=⟨gp,2,none⟩) (Since.refl _ _) (.inl rfl) _
 have s3:Since (λk=>(Value.slice oa i oc).ownBlock=some k\/k=gp) Y (Z.setCell ⟨gp,2,none⟩ (.slice xa (i+1) xc)):=(s1.mono (λk _ hk=> .inl hk)).trans s2 (λk hk=> .inl (.inr hk))
 have zvf:=(hs.block _ (zx h.box) (by omega)).trans h.box
 have zxf:=(hs.block _ (zx h.vars) (by omega)).trans h.vars
 have z0H:=(hs.block _ (zx h.res) (by omega)).trans h.res
 have bL:=(s1.block _ (zx zvf) (λe=>(hne _ e).2.1 rfl)).trans zvf
 have hvars:=(s1.block _ (zx zxf) (λe=>(hne _ e).2.2.2 rfl)).trans zxf
 have hres:=(s1.block _ (zx z0H) (λe=>(hne _ e).2.2.1 rfl)).trans z0H
 have hnew:∀k,(Value.slice xa (i+1) xc).ownBlock=some k->k≠gp:=λk hk e=>by
  rcases h5 k hk with h1|h1
  ·exact(hne k h1).2.1 e
  have:=zx zvf;simp at h1;omega
 refine⟨bL,⟨⟨a1,hm.since s3 (λk hk=> ?_),by omega⟩, ?_,(s2.block _ (zx hvars) (by omega)).trans hvars,(s2.block _ (zx hres) (by omega)).trans hres,hlo,by simp [h.len],λy hy=> ?_, ?_⟩⟩
 ·rcases hk with hk|hk
  ·have:=(h.row.row.lt k hk).1;have:=(hne k hk).1;omega
  omega
 ·have:=zu bL 2 (.slice xa (i+1) xc);simpa using this
 ·rcases List.mem_append.1 hy with hy|hy
  ·exact h.ok y hy
  rw [List.mem_singleton] at hy;subst hy;exact hok
 have hrow:=h.row.step (F':=PF (.slice oa i oc) g gp gr) hs (λk hk e=>(hne k hk).1 e) (λk hk=> .inl (.inr (.inl hk))) (λk hk=> .inl hk)
 refine hrow.push s3 (λk hk=> ?_) (λk hk=> ?_) (λy hy=>⟨_,rfl,haw y (hy.mono (λk _ hk=>hlt k hk))⟩) rfl ?_
 ·rcases hk with hk|hk
  ·exact .inl (.inl hk)
  exact .inl (.inr (.inr (.inl hk)))
 ·rcases hk with hk|hk|hk|hk
  ·rcases h5 k hk with h1|h1
   ·exact .inl (.inl h1)
   exact .inr (by simp at h1;omega)
  ·exact .inl (.inr (.inl hk))
  ·exact .inl (.inr (.inr (.inl hk)))
  exact .inl (.inr (.inr (.inr hk)))
 rw [h.len];exact s2.row h1 hnew
end
def zox (w:World) (en:Ending) (w':World):Prop:=(∃p vv tv,en= .returned (zfP p vv tv)/\zfN p/\zd2 3 4 w' p vv tv)/\Below w.heap.size w w'
theorem z0I {T:List (List zM)} (h:∀l∈T,yG l<=52):(T.map yG).sum<=T.length*52:=by
 induction T with
 |nil=>simp
 |cons l T ih=>
 have h1:=h l (by simp)
 have h2:=ih (λx hx=>h x (by simp [hx]))
 simp only [List.map_cons,List.sum_cons,List.length_cons];omega
theorem zpX {w X:World} {g gv gp gr:Nat} {sv:Value} {n dm i oc:Nat} {oa:Option Addr} {T:List (List zM)} {css:List (List Value)} (h:wI w X g gv gp gr sv n dm i (.slice oa i oc) T css) (hn1:1<=n) (hn3:n<=3) (hd1:2<=dm) (hd2:dm<=16) (hi1:1<=i) (hi3:i<=3):
  zox w (.returned (.agg #[.slice (some ⟨gv,0,none⟩) n 3, .int .i64 dm, .slice oa i oc])) (yF X gr 0 [.slice (some ⟨gv,0,none⟩) n 3, .int .i64 dm, .slice oa i oc])/\
  (yF X gr 0 [.slice (some ⟨gv,0,none⟩) n 3, .int .i64 dm, .slice oa i oc]).heap[gr]? =some (.cells #[.slice (some ⟨gv,0,none⟩) n 3, .int .i64 dm, .slice oa i oc] 87 (0,0)):=by
 have hlo:=h.lo
 have s:=xW (g:=gr) [.slice (some ⟨gv,0,none⟩) n 3, .int .i64 dm, .slice oa i oc] X 0
 have hvl:(xyz.take n).length=n:=by rw [List.length_take];simp [xyz];omega
 obtain⟨a',hm, -⟩:=h.yt
 have hl:=h.len
 refine⟨⟨⟨⟨xyz.take n,dm,T⟩, .slice (some ⟨gv,0,none⟩) n 3, .slice oa i oc,rfl,⟨⟨n,hn1,hn3,rfl⟩,⟨by show(2:Int)<=(dm:Int);omega,by show(dm:Int)<=16;omega⟩,⟨by show 1<=T.length;omega,by show T.length<=3;omega⟩,λl hl=> ?_, ?_⟩,⟨?_, ?_⟩⟩,hm.below.trans (s.below hm.below.size (λk hk=>by omega))⟩, ?_⟩
 ·show xC ((xyz.take n).length:Nat) dm l 20=true
  rw [hvl];exact(h.ok l hl).1
 ·have:=z0I (λl hl=>(h.ok l hl).2)
  show(T.map yG).sum<=200
  omega
 ·exact zve ((s.block _ (zx h.vars) (by omega)).trans h.vars) hn3
 ·exact(h.row.step (F':=λ_=>False) s (λk hk e=>(h.own_ne k hk).2.2.1 e) (λk hk=> .inl (.inr (.inr (.inr hk)))) (λ_ h=>h.elim)).slice
 exact vO (cs:= [.slice none 0 0, .int .i64 0, .slice none 0 0]) _ rfl h.res
end Go.Proofs.YtnhahkiojbanfaaGreatDoor
namespace Go.Proofs.YtnhahkiojbanfaaGreatDoor
open Go.RowKit
set_option maxRecDepth 100000
set_option maxHeartbeats 16000000
structure R2 (w X:World) (g gr:Nat) (sv:Value) (a:Nat) (mv mp:Option Nat):Prop where
 yt:vJ w X g sv a
 res:X.heap[gr]? =some (.cells #[.slice none 0 0, .int .i64 0, .slice none 0 0] 87 (0,0))
 lo:w.heap.size<=gr/\g≠gr
 vars:∀b,mv=some b->X.heap[b]? =some (.cells wW.toArray 9 (0,0))/\w.heap.size<=b/\b≠g/\b≠gr
 prog:∀b,mp=some b->X.heap[b]? =some (.cells #[.slice none 0 0, .int .i64 0, .slice none 0 0] 87 (0,0))/\w.heap.size<=b/\b≠g/\b≠gr
 ne:∀b c,mv=some b->mp=some c->b≠c
section
variable {w X Y:World} {g gr a b:Nat} {sv:Value} {mv mp:Option Nat}
theorem R2.pick (h:R2 w X g gr sv a mv mp) (hm:vJ w Y g sv b) (hs:Since (λk=>k=g) X Y):R2 w Y g gr sv b mv mp:=
 ⟨hm,(hs.block _ (zx h.res) (λe=>h.lo.2 e.symm)).trans h.res,h.lo,λc hc=>⟨(hs.block _ (zx (h.vars c hc).1) (h.vars c hc).2.2.1).trans (h.vars c hc).1,(h.vars c hc).2⟩,λc hc=>⟨(hs.block _ (zx (h.prog c hc).1) (h.prog c hc).2.2.1).trans (h.prog c hc).1,(h.prog c hc).2⟩,h.ne⟩
theorem R2.names (h:R2 w X g gr sv a none mp):R2 w (X.alloc (.cells wW.toArray 9)) g gr sv a (some X.heap.size) mp:=by
 have hb:=(Below.refl X.heap.size X).alloc (Nat.le_refl _) (.cells wW.toArray 9)
 have h1:=h.yt.below.size
 have h2:=zx h.yt.box
 have h3:=zx h.res
 refine⟨h.yt.later hb,(hb.block _ h3).trans h.res,h.lo,λc hc=> ?_,λc hc=>⟨(hb.block _ (zx (h.prog c hc).1)).trans (h.prog c hc).1,(h.prog c hc).2⟩,λc e hc he=> ?_⟩
 ·cases hc;exact⟨yh X _,h1,by omega,by omega⟩
 cases hc;have:=zx (h.prog e he).1;omega
theorem R2.box (h:R2 w X g gr sv a mv none):R2 w (X.alloc (.cells #[.slice none 0 0, .int .i64 0, .slice none 0 0] 87)) g gr sv a mv (some X.heap.size):=by
 have hb:=(Below.refl X.heap.size X).alloc (Nat.le_refl _) (.cells #[.slice none 0 0, .int .i64 0, .slice none 0 0] 87)
 have h1:=h.yt.below.size
 have h2:=zx h.yt.box
 have h3:=zx h.res
 refine⟨h.yt.later hb,(hb.block _ h3).trans h.res,h.lo,λc hc=>⟨(hb.block _ (zx (h.vars c hc).1)).trans (h.vars c hc).1,(h.vars c hc).2⟩,λc hc=> ?_,λc e hc he=> ?_⟩
 ·cases hc;exact⟨yh X _,h1,by omega,by omega⟩
 cases he;have:=zx (h.vars c hc).1;omega
theorem R2.done {gv gp n dm:Nat} (h:R2 w X g gr sv a (some gv) (some gp)) (ha:a<=9):wI w (yF X gp 0 [.slice (some ⟨gv,0,none⟩) n 3, .int .i64 dm, .slice none 0 0]) g gv gp gr sv n dm 0 (.slice none 0 0) [] [] /\∃a,vJ w (yF X gp 0 [.slice (some ⟨gv,0,none⟩) n 3, .int .i64 dm, .slice none 0 0]) g sv a/\a<=9:=by
 obtain⟨v1,v2,v3,v4⟩:=h.vars gv rfl
 obtain⟨p1,p2,p3,p4⟩:=h.prog gp rfl
 have hne:=h.ne gv gp rfl rfl
 have hlo:=h.lo
 have hg:=h.yt.lo
 have s:=xW (g:=gp) [.slice (some ⟨gv,0,none⟩) n 3, .int .i64 dm, .slice none 0 0] X 0
 exact⟨⟨⟨a,h.yt.since s (λk hk=>by omega),by omega⟩,vO (cs:= [.slice none 0 0, .int .i64 0, .slice none 0 0]) _ rfl p1,(s.block _ (zx v1) hne).trans v1,(s.block _ (zx h.res) (by omega)).trans h.res,⟨hg,v2,p2,hlo.1,by omega,by omega,by omega,by omega,by omega,by omega⟩,rfl,λl hl=>by simp at hl,yX.nil _ _ _ _ _ _⟩,a,h.yt.since s (λk hk=>by omega),ha⟩
end
theorem wI.picked {w X Y:World} {g gv gp gr n dm i b:Nat} {sv va:Value} {T:List (List zM)} {css:List (List Value)} (h:wI w X g gv gp gr sv n dm i va T css) (hs:Since (λk=>k=g) X Y) (hm:vJ w Y g sv b) (hb:b<=10+i*5000):wI w Y g gv gp gr sv n dm i va T css:=by
 have hlo:=h.lo
 exact⟨⟨b,hm,hb⟩,(hs.block _ (zx h.box) (by omega)).trans h.box,(hs.block _ (zx h.vars) (by omega)).trans h.vars,(hs.block _ (zx h.res) (by omega)).trans h.res,hlo,h.len,h.ok,h.row.step hs (λk hk e=>(h.own_ne k hk).1 e) (λk hk=> .inl (.inr (.inl hk))) (λk hk=> .inl hk)⟩
theorem wI.drew {w X:World} {g gv gp gr n dm i:Nat} {sv va:Value} {T:List (List zM)} {css:List (List Value)} (h:wI w X g gv gp gr sv n dm i va T css):wI w X.drew g gv gp gr sv n dm i va T css:=by
 obtain⟨a,hm,ha⟩:=h.yt
 exact h.picked (Since.drew _ (Since.refl _ X)) (hm.later (Below.refl _ _).drew) ha
theorem zmw:(Tryz.prog.info? 87).map (·.size)=some 3:=by kernel_rfl
theorem zpY:(Tryz.prog.info? 115).map (λi=>(i.zero,i.size,i.bytes))=some (some (.slice none 0 0),1,24):=by kernel_rfl
theorem wrapN (n:Nat) (h:n<=100):IntKind.i64.wrap (n:Int)=(n:Int):=IntWalk.i64_in _ (by omega)
theorem zrx (w:World) (sv:Value) (l:List Int) (hn:jv w .u8 sv l) (kv:Value) (ks:List Int) (hks:xU w kv ks) (hk1:1<=ks.length) (hk2:ks.length<=100) (hk3:∀k∈ks,1<=k/\k<=11):
  Calls Tryz.prog 33 #[sv,kv] w (zox w):=by
 have hpick:=λW g a n ni hni h n1 n2 ha=>zhq w W g sv l a n ni hni h hn n1 n2 ha
 have hlist:=λg vars dom hv1 hv2 hd1 hd2=>zvd w g sv l hn kv ks hks hk1 hk2 hk3 vars dom hv1 hv2 hd1 hd2 2 (by omega)
 have zaj:4*jT 2=1040:=rfl
 have z6f:4*zay 2=52:=rfl
 have zi0:∀(g vars dom:Nat),1<=vars->vars<=10->2<=dom->dom<=16->∀(W:World) (a n:Nat),vJ w W g sv a->n<=4->a<=100000->Calls Tryz.prog 56 #[.pointer (some ⟨g,0,none⟩), .int .i64 n, .int .i64 2, .int .i64 vars, .int .i64 dom,kv] W λe w'=>∃(L:List zM) (va:Option Addr) (vc a':Nat),e= .returned (.slice va L.length vc)/\(xC vars dom L 20=true/\yG L<=52)/\
   zW (λk=>k<W.heap.size) w' (λy=>yD 3 4 y L (.slice va L.length vc))/\vJ w w' g sv a'/\a'<=a+1040/\Since (λk=>k=g) W w':=λg vars dom hv1 hv2 hd1 hd2 W a n hm bB ha=>by
  refine(hlist g vars dom hv1 hv2 hd1 hd2 W a n 4 n rfl hm bB (by omega) (by omega)).mono ?_
  rintro e w' ⟨L,va,vc,a',h1,h2,h3,h4,h5,h6,h7⟩
  exact⟨L,va,vc,a',h1,⟨zoV h2 (by omega),by omega⟩,h4,h5,by omega,h7⟩
 obtain⟨sa,sc,rfl, -⟩:∃a c,sv= .slice a l.length c/\True:=by obtain⟨a,c,h, -⟩:=hn;exact⟨a,c,h,trivial⟩
 obtain⟨ka,kc,rfl, -⟩:=zh.slice hks
 generalize l.length=ln at hpick zi0 ⊢
 generalize ks.length=kn at zi0 ⊢
 have vo:=qh hpick
 have z2S:=qh zi0
 clear hpick hlist zi0 zaj z6f hn hks hk1 hk2 hk3
 have hB:=((Below.refl w.heap.size w).alloc (Nat.le_refl _) (.cells #[.slice none 0 0, .int .i64 0, .slice none 0 0] 87)).alloc (by simp) (.cells #[.slice sa ln sc, .int .i64 0] 118)
 have H1:=xA w (.cells #[.slice none 0 0, .int .i64 0, .slice none 0 0] 87) (.cells #[.slice sa ln sc, .int .i64 0] 118)
 have H2:=xg w (.cells #[.slice none 0 0, .int .i64 0, .slice none 0 0] 87) (.cells #[.slice sa ln sc, .int .i64 0] 118)
 have HR:Hid (R2 w ((w.alloc (.cells #[.slice none 0 0, .int .i64 0, .slice none 0 0] 87)).alloc (.cells #[.slice sa ln sc, .int .i64 0] 118)) (w.heap.size+1) w.heap.size (.slice sa ln sc) 0 none none):=⟨⟨hB,by omega,H2⟩,H1,⟨Nat.le_refl _,by omega⟩,(λ_ h=>by cases h),(λ_ h=>by cases h),(λ_ _ h=>by cases h)⟩
 clear hB H1 H2
 go_enter Tryz.func33,Tryz.ntmps33
 go_upto_region 2 with fail
 generalize World.alloc (World.alloc w _) _=V at HR ⊢
 generalize w.heap.size+1=g at HR ⊢
 obtain⟨gr,hgr⟩:∃gr,gr=w.heap.size:=⟨_,rfl⟩
 rw [<-hgr] at HR ⊢
 have uh:=qh hgr
 clear hgr
 go_cut [6] (λs6 w'=>∃gv gp n dm:Nat,s6= .pointer (some ⟨gp,0,none⟩)/\1<=n/\n<=3/\2<=dm/\dm<=4/\Hid (wI w w' g gv gp gr (.slice sa ln sc) n dm 0 (.slice none 0 0) [] [])/\Hid (∃a,vJ w w' g (.slice sa ln sc) a/\a<=9))
 case first=>
  have hT0:Hid (R2 w V.drew g w.heap.size (.slice sa ln sc) 0 none none):=by have h:=HR.out;rw [uh.out] at h;exact h.pick (h.yt.later (Below.refl _ _).drew) (Since.drew _ (Since.refl _ _))
  rw [<-uh.out] at hT0
  clear HR
  refine vD (S:=λx=>Below w.heap.size w x) hT0.out.yt.below (λ_=> ?_)
  obtain⟨V1,hV1⟩:∃V1,V1=V.drew:=⟨_,rfl⟩
  rw [<-hV1]
  rw [<-hV1] at hT0
  clear hV1
  refine zC 1 zO (hT0.out.yt.below) ?_
  refine zC 5 zO (hT0.out.yt.below) ?_
  refine wpAnyH_ready (rs:= [0,2,9]) (by kernel_rfl) (by simp) ?_
  refine AllReadyH.cons rfl (λK hK=> ?_) (AllReadyH.cons rfl (λK hK=> ?_) (AllReadyH.cons rfl (λK hK=> ?_) AllReadyH.nil))
  ·skip
   go_simp
   have zew:=hT0.out.names
   unfold wW at zew
   refine hK.out _ _ zew.yt.below (λ_=> ?_)
   obtain⟨gv,hgv⟩:∃n,n=V1.heap.size:=⟨_,rfl⟩
   rw [<-hgv] at zew ⊢
   clear hgv
   generalize World.alloc V1 _=Xp2 at zew ⊢
   replace zew:=qh zew
   clear hK K
   refine wpAnyH_ready (rs:= [2,9]) (by kernel_rfl) (by simp) ?_
   refine AllReadyH.cons rfl (λK hK=> ?_) (AllReadyH.cons rfl (λK hK=> ?_) AllReadyH.nil)
   ·skip
    go_simp
    refine(vo.out Xp2 g _ 3 3 rfl zew.out.yt (by omega) (by omega) (by omega)).mono ?_
    rintro en Xp4 ⟨r1,hr1,rfl,hmk,hsi⟩
    have zj4:=qh (zew.out.pick hmk hsi)
    clear hmk hsi
    refine hK.out _ _ zj4.out.yt.below (λ_=> ?_)
    obtain⟨n,hn⟩:∃n:Nat,(1:Int)+(r1:Int)=(n:Int):=⟨1+r1,by omega⟩
    have bn1:1<=n:=by omega
    have bn2:n<=3:=by omega
    have wn:=wrapN n (by omega)
    have zn:(0:Int)<=(n:Int):=by omega
    have yn:(n:Int)<=3:=by omega
    clear hK K
    refine zC 3 zO (zj4.out.yt.below) ?_
    refine zC 4 zO (zj4.out.yt.below) ?_
    refine wpAnyH_ready (rs:= [6,9]) (by kernel_rfl) (by simp) ?_
    refine AllReadyH.cons rfl (λK hK=> ?_) (AllReadyH.cons rfl (λK hK=> ?_) AllReadyH.nil)
    ·skip
     go_simp
     refine(vo.out Xp4 g _ 3 3 rfl zj4.out.yt (by omega) (by omega) (by omega)).mono ?_
     rintro en Xp6 ⟨r2,hr2,rfl,hmk,hsi⟩
     have zpZ:=qh (zj4.out.pick hmk hsi)
     clear hmk hsi
     refine hK.out _ _ zpZ.out.yt.below (λ_=> ?_)
     obtain⟨dm,hdm⟩:∃n:Nat,(2:Int)+(r2:Int)=(n:Int):=⟨2+r2,by omega⟩
     have zdq:2<=dm:=by omega
     have zdr:dm<=4:=by omega
     have wdm:=wrapN dm (by omega)
     have zdm:(0:Int)<=(dm:Int):=by omega
     skip
     clear hK K
     refine zC 7 zO (zpZ.out.yt.below) ?_
     refine zC 8 zO (zpZ.out.yt.below) ?_
     refine yj 9 rfl (λK hK=> ?_)
     go_simp
     have zhr:=zpZ.out.box
     refine hK.out _ _ zhr.yt.below (λ_=> ?_)
     obtain⟨gp,uj⟩:∃n,n=Xp6.heap.size:=⟨_,rfl⟩
     rw [<-uj] at zhr ⊢
     clear uj
     generalize World.alloc Xp6 _=Xp8 at zhr ⊢
     replace zhr:=qh zhr
     clear hK K
     refine yj 10 rfl (λK hK=> ?_)
     obtain⟨hp, -, -, -⟩:=zhr.out.prog gp rfl
     have q0:Xp8.cell? ⟨gp,0,none⟩=some (.slice none 0 0):=ze hp 0
     have f0:=zA hp 0
     have q1:Xp8.cell? ⟨gp,1,none⟩=some (.int .i64 0):=ze hp 1
     have f1:=zA hp 1
     have q2:Xp8.cell? ⟨gp,2,none⟩=some (.slice none 0 0):=ze hp 2
     have f2:=zA hp 2
     clear hp
     go_simp
     have hend:=zhr.out.done (n:=n) (dm:=dm) (by omega)
     have zR:=qh hend
     refine hK.out _ _ (by obtain⟨a',hm, -⟩:=hend.2;exact hm.below) (λ_=> ?_)
     clear hend q0 q1 q2 f0 f1 f2
     clear hK K
     refine xP ?_
     clear hn hdm wn wdm
     go_wp2_with fail
     go_meet
     case rel=>exact⟨gv,gp,n,dm,rfl,by omega,by omega,by omega,by omega,zR.out.1,zR.out.2⟩
    skip
    go_simp
    have zhs:=zj4.out.box
    refine hK.out _ _ zhs.yt.below (λ_=> ?_)
    obtain⟨gp,uj⟩:∃n,n=Xp4.heap.size:=⟨_,rfl⟩
    rw [<-uj] at zhs ⊢
    clear uj
    generalize World.alloc Xp4 _=z6g at zhs ⊢
    replace zhs:=qh zhs
    clear hK K
    refine yj 6 rfl (λK hK=> ?_)
    go_simp
    refine(vo.out z6g g _ 3 3 rfl zhs.out.yt (by omega) (by omega) (by omega)).mono ?_
    rintro en zvg ⟨r2,hr2,rfl,hmk,hsi⟩
    have zi1:=qh (zhs.out.pick hmk hsi)
    clear hmk hsi
    refine hK.out _ _ zi1.out.yt.below (λ_=> ?_)
    obtain⟨dm,hdm⟩:∃n:Nat,(2:Int)+(r2:Int)=(n:Int):=⟨2+r2,by omega⟩
    have zdq:2<=dm:=by omega
    have zdr:dm<=4:=by omega
    have wdm:=wrapN dm (by omega)
    have zdm:(0:Int)<=(dm:Int):=by omega
    skip
    clear hK K
    refine zC 7 zO (zi1.out.yt.below) ?_
    refine zC 8 zO (zi1.out.yt.below) ?_
    refine yj 10 rfl (λK hK=> ?_)
    obtain⟨hp, -, -, -⟩:=zi1.out.prog gp rfl
    have q0:zvg.cell? ⟨gp,0,none⟩=some (.slice none 0 0):=ze hp 0
    have f0:=zA hp 0
    have q1:zvg.cell? ⟨gp,1,none⟩=some (.int .i64 0):=ze hp 1
    have f1:=zA hp 1
    have q2:zvg.cell? ⟨gp,2,none⟩=some (.slice none 0 0):=ze hp 2
    have f2:=zA hp 2
    clear hp
    go_simp
    have hend:=zi1.out.done (n:=n) (dm:=dm) (by omega)
    have zR:=qh hend
    refine hK.out _ _ (by obtain⟨a',hm, -⟩:=hend.2;exact hm.below) (λ_=> ?_)
    clear hend q0 q1 q2 f0 f1 f2
    clear hK K
    refine xP ?_
    clear hn hdm wn wdm
    go_wp2_with fail
    go_meet
    case rel=>exact⟨gv,gp,n,dm,rfl,by omega,by omega,by omega,by omega,zR.out.1,zR.out.2⟩
   skip
   go_simp
   have zex:=zew.out.box
   refine hK.out _ _ zex.yt.below (λ_=> ?_)
   obtain⟨gp,uj⟩:∃n,n=Xp2.heap.size:=⟨_,rfl⟩
   rw [<-uj] at zex ⊢
   clear uj
   generalize World.alloc Xp2 _=z6h at zex ⊢
   replace zex:=qh zex
   clear hK K
   refine yj 2 rfl (λK hK=> ?_)
   go_simp
   refine(vo.out z6h g _ 3 3 rfl zex.out.yt (by omega) (by omega) (by omega)).mono ?_
   rintro en z6i ⟨r1,hr1,rfl,hmk,hsi⟩
   have zi2:=qh (zex.out.pick hmk hsi)
   clear hmk hsi
   refine hK.out _ _ zi2.out.yt.below (λ_=> ?_)
   obtain⟨n,hn⟩:∃n:Nat,(1:Int)+(r1:Int)=(n:Int):=⟨1+r1,by omega⟩
   have bn1:1<=n:=by omega
   have bn2:n<=3:=by omega
   have wn:=wrapN n (by omega)
   have zn:(0:Int)<=(n:Int):=by omega
   have yn:(n:Int)<=3:=by omega
   clear hK K
   refine zC 3 zO (zi2.out.yt.below) ?_
   refine zC 4 zO (zi2.out.yt.below) ?_
   refine yj 6 rfl (λK hK=> ?_)
   go_simp
   refine(vo.out z6i g _ 3 3 rfl zi2.out.yt (by omega) (by omega) (by omega)).mono ?_
   rintro en zvh ⟨r2,hr2,rfl,hmk,hsi⟩
   have zi3:=qh (zi2.out.pick hmk hsi)
   clear hmk hsi
   refine hK.out _ _ zi3.out.yt.below (λ_=> ?_)
   obtain⟨dm,hdm⟩:∃n:Nat,(2:Int)+(r2:Int)=(n:Int):=⟨2+r2,by omega⟩
   have zdq:2<=dm:=by omega
   have zdr:dm<=4:=by omega
   have wdm:=wrapN dm (by omega)
   have zdm:(0:Int)<=(dm:Int):=by omega
   skip
   clear hK K
   refine zC 7 zO (zi3.out.yt.below) ?_
   refine zC 8 zO (zi3.out.yt.below) ?_
   refine yj 10 rfl (λK hK=> ?_)
   obtain⟨hp, -, -, -⟩:=zi3.out.prog gp rfl
   have q0:zvh.cell? ⟨gp,0,none⟩=some (.slice none 0 0):=ze hp 0
   have f0:=zA hp 0
   have q1:zvh.cell? ⟨gp,1,none⟩=some (.int .i64 0):=ze hp 1
   have f1:=zA hp 1
   have q2:zvh.cell? ⟨gp,2,none⟩=some (.slice none 0 0):=ze hp 2
   have f2:=zA hp 2
   clear hp
   go_simp
   have hend:=zi3.out.done (n:=n) (dm:=dm) (by omega)
   have zR:=qh hend
   refine hK.out _ _ (by obtain⟨a',hm, -⟩:=hend.2;exact hm.below) (λ_=> ?_)
   clear hend q0 q1 q2 f0 f1 f2
   clear hK K
   refine xP ?_
   clear hn hdm wn wdm
   go_wp2_with fail
   go_meet
   case rel=>exact⟨gv,gp,n,dm,rfl,by omega,by omega,by omega,by omega,zR.out.1,zR.out.2⟩
  ·skip
   go_simp
   refine(vo.out V1 g _ 3 3 rfl hT0.out.yt (by omega) (by omega) (by omega)).mono ?_
   rintro en zmx ⟨r1,hr1,rfl,hmk,hsi⟩
   have zfY:=qh (hT0.out.pick hmk hsi)
   clear hmk hsi
   refine hK.out _ _ zfY.out.yt.below (λ_=> ?_)
   obtain⟨n,hn⟩:∃n:Nat,(1:Int)+(r1:Int)=(n:Int):=⟨1+r1,by omega⟩
   have bn1:1<=n:=by omega
   have bn2:n<=3:=by omega
   have wn:=wrapN n (by omega)
   have zn:(0:Int)<=(n:Int):=by omega
   have yn:(n:Int)<=3:=by omega
   clear hK K
   refine zC 3 zO (zfY.out.yt.below) ?_
   refine wpAnyH_ready (rs:= [0,6,9]) (by kernel_rfl) (by simp) ?_
   refine AllReadyH.cons rfl (λK hK=> ?_) (AllReadyH.cons rfl (λK hK=> ?_) (AllReadyH.cons rfl (λK hK=> ?_) AllReadyH.nil))
   ·skip
    go_simp
    have zbu:=zfY.out.names
    unfold wW at zbu
    refine hK.out _ _ zbu.yt.below (λ_=> ?_)
    obtain⟨gv,hgv⟩:∃n,n=zmx.heap.size:=⟨_,rfl⟩
    rw [<-hgv] at zbu ⊢
    clear hgv
    generalize World.alloc zmx _=zvi at zbu ⊢
    replace zbu:=qh zbu
    clear hK K
    refine zC 4 zO (zbu.out.yt.below) ?_
    refine wpAnyH_ready (rs:= [6,9]) (by kernel_rfl) (by simp) ?_
    refine AllReadyH.cons rfl (λK hK=> ?_) (AllReadyH.cons rfl (λK hK=> ?_) AllReadyH.nil)
    ·skip
     go_simp
     refine(vo.out zvi g _ 3 3 rfl zbu.out.yt (by omega) (by omega) (by omega)).mono ?_
     rintro en z0M ⟨r2,hr2,rfl,hmk,hsi⟩
     have zkT:=qh (zbu.out.pick hmk hsi)
     clear hmk hsi
     refine hK.out _ _ zkT.out.yt.below (λ_=> ?_)
     obtain⟨dm,hdm⟩:∃n:Nat,(2:Int)+(r2:Int)=(n:Int):=⟨2+r2,by omega⟩
     have zdq:2<=dm:=by omega
     have zdr:dm<=4:=by omega
     have wdm:=wrapN dm (by omega)
     have zdm:(0:Int)<=(dm:Int):=by omega
     skip
     clear hK K
     refine zC 7 zO (zkT.out.yt.below) ?_
     refine zC 8 zO (zkT.out.yt.below) ?_
     refine yj 9 rfl (λK hK=> ?_)
     go_simp
     have zey:=zkT.out.box
     refine hK.out _ _ zey.yt.below (λ_=> ?_)
     obtain⟨gp,uj⟩:∃n,n=z0M.heap.size:=⟨_,rfl⟩
     rw [<-uj] at zey ⊢
     clear uj
     generalize World.alloc z0M _=zvj at zey ⊢
     replace zey:=qh zey
     clear hK K
     refine yj 10 rfl (λK hK=> ?_)
     obtain⟨hp, -, -, -⟩:=zey.out.prog gp rfl
     have q0:zvj.cell? ⟨gp,0,none⟩=some (.slice none 0 0):=ze hp 0
     have f0:=zA hp 0
     have q1:zvj.cell? ⟨gp,1,none⟩=some (.int .i64 0):=ze hp 1
     have f1:=zA hp 1
     have q2:zvj.cell? ⟨gp,2,none⟩=some (.slice none 0 0):=ze hp 2
     have f2:=zA hp 2
     clear hp
     go_simp
     have hend:=zey.out.done (n:=n) (dm:=dm) (by omega)
     have zR:=qh hend
     refine hK.out _ _ (by obtain⟨a',hm, -⟩:=hend.2;exact hm.below) (λ_=> ?_)
     clear hend q0 q1 q2 f0 f1 f2
     clear hK K
     refine xP ?_
     clear hn hdm wn wdm
     go_wp2_with fail
     go_meet
     case rel=>exact⟨gv,gp,n,dm,rfl,by omega,by omega,by omega,by omega,zR.out.1,zR.out.2⟩
    skip
    go_simp
    have zez:=zbu.out.box
    refine hK.out _ _ zez.yt.below (λ_=> ?_)
    obtain⟨gp,uj⟩:∃n,n=zvi.heap.size:=⟨_,rfl⟩
    rw [<-uj] at zez ⊢
    clear uj
    generalize World.alloc zvi _=z6j at zez ⊢
    replace zez:=qh zez
    clear hK K
    refine yj 6 rfl (λK hK=> ?_)
    go_simp
    refine(vo.out z6j g _ 3 3 rfl zez.out.yt (by omega) (by omega) (by omega)).mono ?_
    rintro en zvk ⟨r2,hr2,rfl,hmk,hsi⟩
    have zi4:=qh (zez.out.pick hmk hsi)
    clear hmk hsi
    refine hK.out _ _ zi4.out.yt.below (λ_=> ?_)
    obtain⟨dm,hdm⟩:∃n:Nat,(2:Int)+(r2:Int)=(n:Int):=⟨2+r2,by omega⟩
    have zdq:2<=dm:=by omega
    have zdr:dm<=4:=by omega
    have wdm:=wrapN dm (by omega)
    have zdm:(0:Int)<=(dm:Int):=by omega
    skip
    clear hK K
    refine zC 7 zO (zi4.out.yt.below) ?_
    refine zC 8 zO (zi4.out.yt.below) ?_
    refine yj 10 rfl (λK hK=> ?_)
    obtain⟨hp, -, -, -⟩:=zi4.out.prog gp rfl
    have q0:zvk.cell? ⟨gp,0,none⟩=some (.slice none 0 0):=ze hp 0
    have f0:=zA hp 0
    have q1:zvk.cell? ⟨gp,1,none⟩=some (.int .i64 0):=ze hp 1
    have f1:=zA hp 1
    have q2:zvk.cell? ⟨gp,2,none⟩=some (.slice none 0 0):=ze hp 2
    have f2:=zA hp 2
    clear hp
    go_simp
    have hend:=zi4.out.done (n:=n) (dm:=dm) (by omega)
    have zR:=qh hend
    refine hK.out _ _ (by obtain⟨a',hm, -⟩:=hend.2;exact hm.below) (λ_=> ?_)
    clear hend q0 q1 q2 f0 f1 f2
    clear hK K
    refine xP ?_
    clear hn hdm wn wdm
    go_wp2_with fail
    go_meet
    case rel=>exact⟨gv,gp,n,dm,rfl,by omega,by omega,by omega,by omega,zR.out.1,zR.out.2⟩
   ·skip
    go_simp
    refine(vo.out zmx g _ 3 3 rfl zfY.out.yt (by omega) (by omega) (by omega)).mono ?_
    rintro en zqa ⟨r2,hr2,rfl,hmk,hsi⟩
    have zkU:=qh (zfY.out.pick hmk hsi)
    clear hmk hsi
    refine hK.out _ _ zkU.out.yt.below (λ_=> ?_)
    obtain⟨dm,hdm⟩:∃n:Nat,(2:Int)+(r2:Int)=(n:Int):=⟨2+r2,by omega⟩
    have zdq:2<=dm:=by omega
    have zdr:dm<=4:=by omega
    have wdm:=wrapN dm (by omega)
    have zdm:(0:Int)<=(dm:Int):=by omega
    skip
    clear hK K
    refine zC 7 zO (zkU.out.yt.below) ?_
    refine wpAnyH_ready (rs:= [0,9]) (by kernel_rfl) (by simp) ?_
    refine AllReadyH.cons rfl (λK hK=> ?_) (AllReadyH.cons rfl (λK hK=> ?_) AllReadyH.nil)
    ·skip
     go_simp
     have zch:=zkU.out.names
     unfold wW at zch
     refine hK.out _ _ zch.yt.below (λ_=> ?_)
     obtain⟨gv,hgv⟩:∃n,n=zqa.heap.size:=⟨_,rfl⟩
     rw [<-hgv] at zch ⊢
     clear hgv
     generalize World.alloc zqa _=z0N at zch ⊢
     replace zch:=qh zch
     clear hK K
     refine zC 4 zO (zch.out.yt.below) ?_
     refine zC 8 zO (zch.out.yt.below) ?_
     refine yj 9 rfl (λK hK=> ?_)
     go_simp
     have ze0:=zch.out.box
     refine hK.out _ _ ze0.yt.below (λ_=> ?_)
     obtain⟨gp,uj⟩:∃n,n=z0N.heap.size:=⟨_,rfl⟩
     rw [<-uj] at ze0 ⊢
     clear uj
     generalize World.alloc z0N _=zvl at ze0 ⊢
     replace ze0:=qh ze0
     clear hK K
     refine yj 10 rfl (λK hK=> ?_)
     obtain⟨hp, -, -, -⟩:=ze0.out.prog gp rfl
     have q0:zvl.cell? ⟨gp,0,none⟩=some (.slice none 0 0):=ze hp 0
     have f0:=zA hp 0
     have q1:zvl.cell? ⟨gp,1,none⟩=some (.int .i64 0):=ze hp 1
     have f1:=zA hp 1
     have q2:zvl.cell? ⟨gp,2,none⟩=some (.slice none 0 0):=ze hp 2
     have f2:=zA hp 2
     clear hp
     go_simp
     have hend:=ze0.out.done (n:=n) (dm:=dm) (by omega)
     have zR:=qh hend
     refine hK.out _ _ (by obtain⟨a',hm, -⟩:=hend.2;exact hm.below) (λ_=> ?_)
     clear hend q0 q1 q2 f0 f1 f2
     clear hK K
     refine xP ?_
     clear hn hdm wn wdm
     go_wp2_with fail
     go_meet
     case rel=>exact⟨gv,gp,n,dm,rfl,by omega,by omega,by omega,by omega,zR.out.1,zR.out.2⟩
    skip
    go_simp
    have zfZ:=zkU.out.box
    refine hK.out _ _ zfZ.yt.below (λ_=> ?_)
    obtain⟨gp,uj⟩:∃n,n=zqa.heap.size:=⟨_,rfl⟩
    rw [<-uj] at zfZ ⊢
    clear uj
    generalize World.alloc zqa _=z0O at zfZ ⊢
    replace zfZ:=qh zfZ
    clear hK K
    refine yj 0 rfl (λK hK=> ?_)
    go_simp
    have zbv:=zfZ.out.names
    unfold wW at zbv
    refine hK.out _ _ zbv.yt.below (λ_=> ?_)
    obtain⟨gv,hgv⟩:∃n,n=z0O.heap.size:=⟨_,rfl⟩
    rw [<-hgv] at zbv ⊢
    clear hgv
    generalize World.alloc z0O _=zvm at zbv ⊢
    replace zbv:=qh zbv
    clear hK K
    refine zC 4 zO (zbv.out.yt.below) ?_
    refine zC 8 zO (zbv.out.yt.below) ?_
    refine yj 10 rfl (λK hK=> ?_)
    obtain⟨hp, -, -, -⟩:=zbv.out.prog gp rfl
    have q0:zvm.cell? ⟨gp,0,none⟩=some (.slice none 0 0):=ze hp 0
    have f0:=zA hp 0
    have q1:zvm.cell? ⟨gp,1,none⟩=some (.int .i64 0):=ze hp 1
    have f1:=zA hp 1
    have q2:zvm.cell? ⟨gp,2,none⟩=some (.slice none 0 0):=ze hp 2
    have f2:=zA hp 2
    clear hp
    go_simp
    have hend:=zbv.out.done (n:=n) (dm:=dm) (by omega)
    have zR:=qh hend
    refine hK.out _ _ (by obtain⟨a',hm, -⟩:=hend.2;exact hm.below) (λ_=> ?_)
    clear hend q0 q1 q2 f0 f1 f2
    clear hK K
    refine xP ?_
    clear hn hdm wn wdm
    go_wp2_with fail
    go_meet
    case rel=>exact⟨gv,gp,n,dm,rfl,by omega,by omega,by omega,by omega,zR.out.1,zR.out.2⟩
   skip
   go_simp
   have zcZ:=zfY.out.box
   refine hK.out _ _ zcZ.yt.below (λ_=> ?_)
   obtain⟨gp,uj⟩:∃n,n=zmx.heap.size:=⟨_,rfl⟩
   rw [<-uj] at zcZ ⊢
   clear uj
   generalize World.alloc zmx _=zvn at zcZ ⊢
   replace zcZ:=qh zcZ
   clear hK K
   refine wpAnyH_ready (rs:= [0,6]) (by kernel_rfl) (by simp) ?_
   refine AllReadyH.cons rfl (λK hK=> ?_) (AllReadyH.cons rfl (λK hK=> ?_) AllReadyH.nil)
   ·skip
    go_simp
    have zci:=zcZ.out.names
    unfold wW at zci
    refine hK.out _ _ zci.yt.below (λ_=> ?_)
    obtain⟨gv,hgv⟩:∃n,n=zvn.heap.size:=⟨_,rfl⟩
    rw [<-hgv] at zci ⊢
    clear hgv
    generalize World.alloc zvn _=z6k at zci ⊢
    replace zci:=qh zci
    clear hK K
    refine zC 4 zO (zci.out.yt.below) ?_
    refine yj 6 rfl (λK hK=> ?_)
    go_simp
    refine(vo.out z6k g _ 3 3 rfl zci.out.yt (by omega) (by omega) (by omega)).mono ?_
    rintro en zvo ⟨r2,hr2,rfl,hmk,hsi⟩
    have zi5:=qh (zci.out.pick hmk hsi)
    clear hmk hsi
    refine hK.out _ _ zi5.out.yt.below (λ_=> ?_)
    obtain⟨dm,hdm⟩:∃n:Nat,(2:Int)+(r2:Int)=(n:Int):=⟨2+r2,by omega⟩
    have zdq:2<=dm:=by omega
    have zdr:dm<=4:=by omega
    have wdm:=wrapN dm (by omega)
    have zdm:(0:Int)<=(dm:Int):=by omega
    skip
    clear hK K
    refine zC 7 zO (zi5.out.yt.below) ?_
    refine zC 8 zO (zi5.out.yt.below) ?_
    refine yj 10 rfl (λK hK=> ?_)
    obtain⟨hp, -, -, -⟩:=zi5.out.prog gp rfl
    have q0:zvo.cell? ⟨gp,0,none⟩=some (.slice none 0 0):=ze hp 0
    have f0:=zA hp 0
    have q1:zvo.cell? ⟨gp,1,none⟩=some (.int .i64 0):=ze hp 1
    have f1:=zA hp 1
    have q2:zvo.cell? ⟨gp,2,none⟩=some (.slice none 0 0):=ze hp 2
    have f2:=zA hp 2
    clear hp
    go_simp
    have hend:=zi5.out.done (n:=n) (dm:=dm) (by omega)
    have zR:=qh hend
    refine hK.out _ _ (by obtain⟨a',hm, -⟩:=hend.2;exact hm.below) (λ_=> ?_)
    clear hend q0 q1 q2 f0 f1 f2
    clear hK K
    refine xP ?_
    clear hn hdm wn wdm
    go_wp2_with fail
    go_meet
    case rel=>exact⟨gv,gp,n,dm,rfl,by omega,by omega,by omega,by omega,zR.out.1,zR.out.2⟩
   skip
   go_simp
   refine(vo.out zvn g _ 3 3 rfl zcZ.out.yt (by omega) (by omega) (by omega)).mono ?_
   rintro en z0P ⟨r2,hr2,rfl,hmk,hsi⟩
   have zqb:=qh (zcZ.out.pick hmk hsi)
   clear hmk hsi
   refine hK.out _ _ zqb.out.yt.below (λ_=> ?_)
   obtain⟨dm,hdm⟩:∃n:Nat,(2:Int)+(r2:Int)=(n:Int):=⟨2+r2,by omega⟩
   have zdq:2<=dm:=by omega
   have zdr:dm<=4:=by omega
   have wdm:=wrapN dm (by omega)
   have zdm:(0:Int)<=(dm:Int):=by omega
   skip
   clear hK K
   refine zC 7 zO (zqb.out.yt.below) ?_
   refine yj 0 rfl (λK hK=> ?_)
   go_simp
   have zbw:=zqb.out.names
   unfold wW at zbw
   refine hK.out _ _ zbw.yt.below (λ_=> ?_)
   obtain⟨gv,hgv⟩:∃n,n=z0P.heap.size:=⟨_,rfl⟩
   rw [<-hgv] at zbw ⊢
   clear hgv
   generalize World.alloc z0P _=zvp at zbw ⊢
   replace zbw:=qh zbw
   clear hK K
   refine zC 4 zO (zbw.out.yt.below) ?_
   refine zC 8 zO (zbw.out.yt.below) ?_
   refine yj 10 rfl (λK hK=> ?_)
   obtain⟨hp, -, -, -⟩:=zbw.out.prog gp rfl
   have q0:zvp.cell? ⟨gp,0,none⟩=some (.slice none 0 0):=ze hp 0
   have f0:=zA hp 0
   have q1:zvp.cell? ⟨gp,1,none⟩=some (.int .i64 0):=ze hp 1
   have f1:=zA hp 1
   have q2:zvp.cell? ⟨gp,2,none⟩=some (.slice none 0 0):=ze hp 2
   have f2:=zA hp 2
   clear hp
   go_simp
   have hend:=zbw.out.done (n:=n) (dm:=dm) (by omega)
   have zR:=qh hend
   refine hK.out _ _ (by obtain⟨a',hm, -⟩:=hend.2;exact hm.below) (λ_=> ?_)
   clear hend q0 q1 q2 f0 f1 f2
   clear hK K
   refine xP ?_
   clear hn hdm wn wdm
   go_wp2_with fail
   go_meet
   case rel=>exact⟨gv,gp,n,dm,rfl,by omega,by omega,by omega,by omega,zR.out.1,zR.out.2⟩
  skip
  go_simp
  have zda:=hT0.out.box
  refine hK.out _ _ zda.yt.below (λ_=> ?_)
  obtain⟨gp,uj⟩:∃n,n=V1.heap.size:=⟨_,rfl⟩
  rw [<-uj] at zda ⊢
  clear uj
  generalize World.alloc V1 _=zvq at zda ⊢
  replace zda:=qh zda
  clear hK K
  refine wpAnyH_ready (rs:= [0,2]) (by kernel_rfl) (by simp) ?_
  refine AllReadyH.cons rfl (λK hK=> ?_) (AllReadyH.cons rfl (λK hK=> ?_) AllReadyH.nil)
  ·skip
   go_simp
   have zdb:=zda.out.names
   unfold wW at zdb
   refine hK.out _ _ zdb.yt.below (λ_=> ?_)
   obtain⟨gv,hgv⟩:∃n,n=zvq.heap.size:=⟨_,rfl⟩
   rw [<-hgv] at zdb ⊢
   clear hgv
   generalize World.alloc zvq _=z6l at zdb ⊢
   replace zdb:=qh zdb
   clear hK K
   refine yj 2 rfl (λK hK=> ?_)
   go_simp
   refine(vo.out z6l g _ 3 3 rfl zdb.out.yt (by omega) (by omega) (by omega)).mono ?_
   rintro en z6m ⟨r1,hr1,rfl,hmk,hsi⟩
   have zi6:=qh (zdb.out.pick hmk hsi)
   clear hmk hsi
   refine hK.out _ _ zi6.out.yt.below (λ_=> ?_)
   obtain⟨n,hn⟩:∃n:Nat,(1:Int)+(r1:Int)=(n:Int):=⟨1+r1,by omega⟩
   have bn1:1<=n:=by omega
   have bn2:n<=3:=by omega
   have wn:=wrapN n (by omega)
   have zn:(0:Int)<=(n:Int):=by omega
   have yn:(n:Int)<=3:=by omega
   clear hK K
   refine zC 3 zO (zi6.out.yt.below) ?_
   refine zC 4 zO (zi6.out.yt.below) ?_
   refine yj 6 rfl (λK hK=> ?_)
   go_simp
   refine(vo.out z6m g _ 3 3 rfl zi6.out.yt (by omega) (by omega) (by omega)).mono ?_
   rintro en zvr ⟨r2,hr2,rfl,hmk,hsi⟩
   have zi7:=qh (zi6.out.pick hmk hsi)
   clear hmk hsi
   refine hK.out _ _ zi7.out.yt.below (λ_=> ?_)
   obtain⟨dm,hdm⟩:∃n:Nat,(2:Int)+(r2:Int)=(n:Int):=⟨2+r2,by omega⟩
   have zdq:2<=dm:=by omega
   have zdr:dm<=4:=by omega
   have wdm:=wrapN dm (by omega)
   have zdm:(0:Int)<=(dm:Int):=by omega
   skip
   clear hK K
   refine zC 7 zO (zi7.out.yt.below) ?_
   refine zC 8 zO (zi7.out.yt.below) ?_
   refine yj 10 rfl (λK hK=> ?_)
   obtain⟨hp, -, -, -⟩:=zi7.out.prog gp rfl
   have q0:zvr.cell? ⟨gp,0,none⟩=some (.slice none 0 0):=ze hp 0
   have f0:=zA hp 0
   have q1:zvr.cell? ⟨gp,1,none⟩=some (.int .i64 0):=ze hp 1
   have f1:=zA hp 1
   have q2:zvr.cell? ⟨gp,2,none⟩=some (.slice none 0 0):=ze hp 2
   have f2:=zA hp 2
   clear hp
   go_simp
   have hend:=zi7.out.done (n:=n) (dm:=dm) (by omega)
   have zR:=qh hend
   refine hK.out _ _ (by obtain⟨a',hm, -⟩:=hend.2;exact hm.below) (λ_=> ?_)
   clear hend q0 q1 q2 f0 f1 f2
   clear hK K
   refine xP ?_
   clear hn hdm wn wdm
   go_wp2_with fail
   go_meet
   case rel=>exact⟨gv,gp,n,dm,rfl,by omega,by omega,by omega,by omega,zR.out.1,zR.out.2⟩
  skip
  go_simp
  refine(vo.out zvq g _ 3 3 rfl zda.out.yt (by omega) (by omega) (by omega)).mono ?_
  rintro en zvs ⟨r1,hr1,rfl,hmk,hsi⟩
  have zi8:=qh (zda.out.pick hmk hsi)
  clear hmk hsi
  refine hK.out _ _ zi8.out.yt.below (λ_=> ?_)
  obtain⟨n,hn⟩:∃n:Nat,(1:Int)+(r1:Int)=(n:Int):=⟨1+r1,by omega⟩
  have bn1:1<=n:=by omega
  have bn2:n<=3:=by omega
  have wn:=wrapN n (by omega)
  have zn:(0:Int)<=(n:Int):=by omega
  have yn:(n:Int)<=3:=by omega
  clear hK K
  refine zC 3 zO (zi8.out.yt.below) ?_
  refine wpAnyH_ready (rs:= [0,6]) (by kernel_rfl) (by simp) ?_
  refine AllReadyH.cons rfl (λK hK=> ?_) (AllReadyH.cons rfl (λK hK=> ?_) AllReadyH.nil)
  ·skip
   go_simp
   have zcj:=zi8.out.names
   unfold wW at zcj
   refine hK.out _ _ zcj.yt.below (λ_=> ?_)
   obtain⟨gv,hgv⟩:∃n,n=zvs.heap.size:=⟨_,rfl⟩
   rw [<-hgv] at zcj ⊢
   clear hgv
   generalize World.alloc zvs _=z6n at zcj ⊢
   replace zcj:=qh zcj
   clear hK K
   refine zC 4 zO (zcj.out.yt.below) ?_
   refine yj 6 rfl (λK hK=> ?_)
   go_simp
   refine(vo.out z6n g _ 3 3 rfl zcj.out.yt (by omega) (by omega) (by omega)).mono ?_
   rintro en zvt ⟨r2,hr2,rfl,hmk,hsi⟩
   have zi9:=qh (zcj.out.pick hmk hsi)
   clear hmk hsi
   refine hK.out _ _ zi9.out.yt.below (λ_=> ?_)
   obtain⟨dm,hdm⟩:∃n:Nat,(2:Int)+(r2:Int)=(n:Int):=⟨2+r2,by omega⟩
   have zdq:2<=dm:=by omega
   have zdr:dm<=4:=by omega
   have wdm:=wrapN dm (by omega)
   have zdm:(0:Int)<=(dm:Int):=by omega
   skip
   clear hK K
   refine zC 7 zO (zi9.out.yt.below) ?_
   refine zC 8 zO (zi9.out.yt.below) ?_
   refine yj 10 rfl (λK hK=> ?_)
   obtain⟨hp, -, -, -⟩:=zi9.out.prog gp rfl
   have q0:zvt.cell? ⟨gp,0,none⟩=some (.slice none 0 0):=ze hp 0
   have f0:=zA hp 0
   have q1:zvt.cell? ⟨gp,1,none⟩=some (.int .i64 0):=ze hp 1
   have f1:=zA hp 1
   have q2:zvt.cell? ⟨gp,2,none⟩=some (.slice none 0 0):=ze hp 2
   have f2:=zA hp 2
   clear hp
   go_simp
   have hend:=zi9.out.done (n:=n) (dm:=dm) (by omega)
   have zR:=qh hend
   refine hK.out _ _ (by obtain⟨a',hm, -⟩:=hend.2;exact hm.below) (λ_=> ?_)
   clear hend q0 q1 q2 f0 f1 f2
   clear hK K
   refine xP ?_
   clear hn hdm wn wdm
   go_wp2_with fail
   go_meet
   case rel=>exact⟨gv,gp,n,dm,rfl,by omega,by omega,by omega,by omega,zR.out.1,zR.out.2⟩
  skip
  go_simp
  refine(vo.out zvs g _ 3 3 rfl zi8.out.yt (by omega) (by omega) (by omega)).mono ?_
  rintro en z0Q ⟨r2,hr2,rfl,hmk,hsi⟩
  have zqc:=qh (zi8.out.pick hmk hsi)
  clear hmk hsi
  refine hK.out _ _ zqc.out.yt.below (λ_=> ?_)
  obtain⟨dm,hdm⟩:∃n:Nat,(2:Int)+(r2:Int)=(n:Int):=⟨2+r2,by omega⟩
  have zdq:2<=dm:=by omega
  have zdr:dm<=4:=by omega
  have wdm:=wrapN dm (by omega)
  have zdm:(0:Int)<=(dm:Int):=by omega
  skip
  clear hK K
  refine zC 7 zO (zqc.out.yt.below) ?_
  refine yj 0 rfl (λK hK=> ?_)
  go_simp
  have zbx:=zqc.out.names
  unfold wW at zbx
  refine hK.out _ _ zbx.yt.below (λ_=> ?_)
  obtain⟨gv,hgv⟩:∃n,n=z0Q.heap.size:=⟨_,rfl⟩
  rw [<-hgv] at zbx ⊢
  clear hgv
  generalize World.alloc z0Q _=zvu at zbx ⊢
  replace zbx:=qh zbx
  clear hK K
  refine zC 4 zO (zbx.out.yt.below) ?_
  refine zC 8 zO (zbx.out.yt.below) ?_
  refine yj 10 rfl (λK hK=> ?_)
  obtain⟨hp, -, -, -⟩:=zbx.out.prog gp rfl
  have q0:zvu.cell? ⟨gp,0,none⟩=some (.slice none 0 0):=ze hp 0
  have f0:=zA hp 0
  have q1:zvu.cell? ⟨gp,1,none⟩=some (.int .i64 0):=ze hp 1
  have f1:=zA hp 1
  have q2:zvu.cell? ⟨gp,2,none⟩=some (.slice none 0 0):=ze hp 2
  have f2:=zA hp 2
  clear hp
  go_simp
  have hend:=zbx.out.done (n:=n) (dm:=dm) (by omega)
  have zR:=qh hend
  refine hK.out _ _ (by obtain⟨a',hm, -⟩:=hend.2;exact hm.below) (λ_=> ?_)
  clear hend q0 q1 q2 f0 f1 f2
  clear hK K
  refine xP ?_
  clear hn hdm wn wdm
  go_wp2_with fail
  go_meet
  case rel=>exact⟨gv,gp,n,dm,rfl,by omega,by omega,by omega,by omega,zR.out.1,zR.out.2⟩
 case rest=>
 obtain⟨gv,gp,n,dm,rfl,hn1,hn3,hd2,hd4,HL,HMA⟩:=hcut
 clear HR
 obtain⟨X,rfl⟩:∃x:World,x=wc:=⟨_,rfl⟩
 obtain⟨a0,z0R,ha0⟩:=HMA.out
 have z0S:=qh z0R
 clear z0R
 go_upto_region 4 with(go_at_call 55;go_must(refine(vo.out X g _ 3 3 rfl z0S.out (by omega) (by omega) (by omega)).mono ?_);rintro en X2 ⟨r3,hr3,rfl,hmk,hsi⟩;(have HL2:=qh (HL.out.picked hsi hmk (by omega)));clear hmk hsi HL z0S)
 obtain⟨m,hm⟩:∃m:Nat,(1:Int)+(r3:Int)=(m:Int):=⟨1+r3,by omega⟩
 have hm1:1<=m:=by omega
 have hm3:m<=3:=by omega
 rw [hm]
 clear hm hr3
 go_loopg [7] m (λgg s7 wr=>∃(j k:Nat) (oa:Option Addr) (oc:Nat) (T:List (List zM)) (css:List (List Value)),s7= .int .i64 k/\Hid (j+k=m)/\Hid (gg=k)/\Hid (wI w wr g gv gp gr (.slice sa ln sc) n dm j (.slice oa j oc) T css))
 case atStart=>exact⟨0,m,none,0, [], [],rfl,by rw [Hid];omega,rfl,HL2.out⟩
 case round=>
 obtain⟨j,k',oa,oc,T,css,rfl,HJK,HG,HL⟩:=hrel
 clear HL2
 have hj3:j<=3:=by have:=HJK.out;omega
 have hk3:k'<=3:=by have:=HJK.out;omega
 by_cases hk0:0<k'
 rotate_left
 ·obtain rfl:k'=0:=by omega
  have hj1:j=m:=by have:=HJK.out;omega
  obtain⟨hend,hset⟩:=zpX HL.out hn1 hn3 hd2 (by omega) (by omega) hj3
  have zR:=qh hend
  have zL:=qh hset
  clear hend hset hj1
  have c0:wr.cell? ⟨gp,0,none⟩=some (.slice (some ⟨gv,0,none⟩) n 3):=ze HL.out.box 0
  have c1:wr.cell? ⟨gp,1,none⟩=some (.int .i64 dm):=ze HL.out.box 1
  have c2:wr.cell? ⟨gp,2,none⟩=some (.slice oa j oc):=ze HL.out.box 2
  have z0:wr.cell? ⟨gr,0,none⟩=some (.slice none 0 0):=ze HL.out.res 0
  have z1:wr.cell? ⟨gr,1,none⟩=some (.int .i64 0):=ze HL.out.res 1
  have z2:wr.cell? ⟨gr,2,none⟩=some (.slice none 0 0):=ze HL.out.res 2
  have f0:=zA HL.out.res 0
  have f1:=zA HL.out.res 1
  have f2:=zA HL.out.res 2
  go_wp2_with fail
  refine bodyPost_ret (xI rfl _ _ gr 87 _ (0,0) _ rfl zL.out Tryz.underlying87 rfl zmw) rfl ?_
  exact zR.out
 obtain⟨k,rfl⟩:∃k,k'=k+1:=⟨k' - 1,by omega⟩
 have hkI:(0:Int)<(k:Int)+1:=by omega
 have CC:Hid (∀x,Since (λy=>(Value.slice oa j oc).ownBlock=some y\/y=g) wr x->x.cell? ⟨gp,0,none⟩=some (.slice (some ⟨gv,0,none⟩) n 3)/\x.cell? ⟨gp,1,none⟩=some (.int .i64 dm)/\x.cell? ⟨gp,2,none⟩=some (.slice oa j oc)):=λx hx=>by
  have h:=(hx.block _ (zx HL.out.box) (λe=>by rcases e with e|e;exact(HL.out.own_ne _ e).2.1 rfl;have:=HL.out.lo;omega)).trans HL.out.box
  exact⟨ze h 0,ze h 1,ze h 2⟩
 go_upto_region 6 with fail
 refine wp_region_noPanic ?_
 refine yY (n0:=15) (S:=λx=>Since (λy=>(Value.slice oa j oc).ownBlock=some y\/y=g) wr x) (by kernel_rfl) (Since.drew _ (Since.refl _ wr)) (λ_=> ?_)
 obtain⟨V1,hV1⟩:∃V1,V1=wr.drew:=⟨_,rfl⟩
 have hT0:Hid (Since (λy=>(Value.slice oa j oc).ownBlock=some y\/y=g) wr V1):=by rw [hV1];exact Since.drew _ (Since.refl _ wr)
 have hl2:wI w V1 g gv gp gr (.slice sa ln sc) n dm j (.slice oa j oc) T css:=by rw [hV1];exact HL.out.drew
 rw [<-hV1]
 clear hV1
 have HL2:=qh hl2
 have uW:=hl2.row.row
 rw [hl2.len] at uW
 have zxj:=qh uW
 have HOWN:Hid (∀k,(Value.slice oa j oc).ownBlock=some k->k≠g):=λk hk=>(hl2.own_ne k hk).1
 obtain⟨a1,hmk,ha1⟩:=hl2.yt
 have yQ:=qh hmk.below.size
 have HMK:=qh (And.intro hmk ha1)
 clear hl2 uW hmk ha1
 refine zU 0 (λ_=>hT0.out) ?_
 refine jr [13,14,15] 1 CC.out (hT0.out) ?_
 refine zU 2 (λ_=>hT0.out) ?_
 refine zU 3 (λ_=>hT0.out) ?_
 refine zU 5 (λ_=>hT0.out) ?_
 refine jr [7,11,12,13,14,15] 6 CC.out (hT0.out) ?_
 refine zU 7 (λ_=>hT0.out) ?_
 refine zU 8 (λ_=>hT0.out) ?_
 refine jr [11,12,13,14,15] 9 CC.out (hT0.out) ?_
 refine zU 10 (λ_=>hT0.out) ?_
 refine vM 4 rfl (λK hK=> ?_)
 go_simp
 refine(vo.out V1 g _ 5 5 rfl HMK.out.1 (by omega) (by omega) (by have h5:=HMK.out.2;omega)).mono ?_
 rintro en V2 ⟨r5,hr5,rfl,hmk,hsi⟩
 have z0T:=qh hmk
 have zvv:=qh hsi
 have hT1:=qh (hT0.out.trans hsi (λy hy=> .inl (.inr hy)))
 clear hmk hsi
 refine hK.out _ _ (λ_ _=>hT1.out) ?_
 clear hK K
 refine vM 11 rfl (λK hK=> ?_)
 go_simp
 refine(z2S.out g n dm (by omega) (by omega) (by omega) (by omega) V2 _ r5 z0T.out (by omega) (by have h5:=HMK.out.2;omega)).mono ?_
 rintro en V3 ⟨L,na,nc,a2,rfl,hok,haw,hmk,ha2,hsi⟩
 have zfA:=qh hmk
 have zvw:=qh (And.intro hok haw)
 have zqd:=qh (zvv.out.trans hsi (λ_ h=> .inl h))
 have HSZ:=qh hsi.size
 have um:=qh (hT1.out.trans hsi (λy hy=> .inl (.inr hy)))
 have hrow:=zqd.out.row zxj.out (λk hk e=>(HOWN.out k hk) e)
 have ziB:=qh hrow
 clear hmk hsi hok haw hrow
 refine hK.out _ _ (λ_ _=>um.out) ?_
 clear hK K
 refine vM 12 rfl (λK hK=> ?_)
 go_simp
 have je:=qh (um.out.alloc (.cells #[.slice na L.length nc] 115))
 refine hK.out _ _ (λ_ _=>je.out) ?_
 clear hK K
 refine vM 13 rfl (λK hK=> ?_)
 refine zJ (V3.alloc (.cells #[.slice na L.length nc] 115)) (by rfl) (.tmp 28) (.tmp 39) 85 rfl 115 (.slice none 0 0) 1 24 Tryz.underlying85 zpY rfl (by decide) w.heap.size (.slice oa j oc) j (css.flatten) (by rfl) (ziB.out.alloc _) ⟨V3.heap.size,0,none⟩ 1 1 [.slice na L.length nc] (by rfl) rfl (qJ V3 _ _) (by simp [Value.oneCell']) (by unfold maxLen;omega) (by omega) (by have h5:=yQ.out;have h6:=zqd.out.size;simp;omega) ?_
 intro xa xc V4 e1 e2 e3 e4 e5
 have xY:=qh (je.out.trans e4 (λy hy=> .inl (.inl hy)))
 have hp:=HL2.out.push zqd.out zfA.out (by have:=HMK.out.2;omega) zvw.out.1 rfl (zvw.out.2.step (Since.refl (λ_=>False) V3) (λ_ h=>h.elim) (λk hk=> .inl (by have h5:=zvv.out.size;omega))) e1 e4 e5
 have HP:=qh hp
 clear e1 e2 e3 e4 e5 hp
 refine hK.out _ _ (λ_ _=>xY.out) ?_
 clear hK K
 change qj _ _ _ _ _ _ _ _ (Act.put _ (some 40) _) _
 simp only [Act.put,kL,kM,kN]
 refine zU 14 (λ_=>xY.out) ?_
 refine vM 15 rfl (λK hK=> ?_)
 have q2:V4.cell? ⟨gp,2,none⟩=some (.slice oa j oc):=ze HP.out.1 2
 have f2:=zA HP.out.1 2
 go_simp
 refine hK.out _ _ (λh=>absurd rfl h) ?_
 clear q2 f2
 have hT5:=xY
 clear hK K
 refine xG (by kernel_rfl) ?_ _
 refine NoPanic.normal ?_
 have HP2:=qh HP.out.2
 clear HP z0T zfA zvw zvv zqd ziB zxj HOWN CC
 go_wp2_with fail
 go_roundg k
 case measure=>rw [HG.out];omega
 case rel=>exact⟨j+1,k,xa,xc,_,_,(by first|rfl|simp),by have:=HJK.out;rw [Hid];omega,rfl,HP2.out⟩
