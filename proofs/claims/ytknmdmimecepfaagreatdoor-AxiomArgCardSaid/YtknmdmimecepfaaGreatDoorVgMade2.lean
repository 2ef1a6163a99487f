/- Steps. -/
import Derived.Test.YtknmdmimecepfaaGreatDoorVgMakerL
import Derived.Test.YtknmdmimecepfaaGreatDoorVgTail
set_option linter.all false
namespace Go.Proofs.YtknmdmimecepfaaGreatDoor
open Go.RowKit
set_option maxRecDepth 100000
set_option maxHeartbeats 16000000
theorem znG (W0:World) (g:Nat) (lv:Value) (l:List Int) (hn:vU W0 .u8 lv l) (kv:Value) (ks:List Int) (hks:xX W0 kv ks) (hk1:1<=ks.length) (hk2:ks.length<=100) (hk3:∀k∈ks,1<=k/\k<=11) (vars dom:Nat) (hv1:1<=vars) (hv2:vars<=10) (hd1:2<=dom) (hd2:dom<=16) (d:Nat) (hd:d<=10):
  zdR W0 g lv kv vars dom d:=by
 obtain⟨ka,kc,hkv, -⟩:=zh.slice hks
 induction d with
 |zero=>exact zh1 W0 g lv kv vars dom 0 (zh2 W0 g lv l hn kv ks hks hk1 hk2 hk3 vars dom hv1 hv2 hd1 hd2 0 (by omega) (λh=>by omega)) ka _ kc hkv
 |succ d ih=>exact zh1 W0 g lv kv vars dom (d+1) (zh2 W0 g lv l hn kv ks hks hk1 hk2 hk3 vars dom hv1 hv2 hd1 hd2 (d+1) hd (λ_=>ih (by omega))) ka _ kc hkv
def zcc:List Int:= [1,2,1,2,3,4,5,6,7,8,9,10,11]
theorem zmc (w:World):Calls Tryz.prog 13 #[] w λe w'=>(∃kv,e= .returned kv/\xX w' kv zcc)/\Below w.heap.size w w':=by
 have hb:=(Below.refl w.heap.size w).alloc (Nat.le_refl _) (.cells #[.int .i64 1, .int .i64 2, .int .i64 1, .int .i64 2, .int .i64 3, .int .i64 4, .int .i64 5, .int .i64 6, .int .i64 7, .int .i64 8, .int .i64 9, .int .i64 10, .int .i64 11] 3)
 have hg:=zT w (.cells #[.int .i64 1, .int .i64 2, .int .i64 1, .int .i64 2, .int .i64 3, .int .i64 4, .int .i64 5, .int .i64 6, .int .i64 7, .int .i64 8, .int .i64 9, .int .i64 10, .int .i64 11] 3)
 have hr:=zcK (w:=w.alloc (.cells #[.int .i64 1, .int .i64 2, .int .i64 1, .int .i64 2, .int .i64 3, .int .i64 4, .int .i64 5, .int .i64 6, .int .i64 7, .int .i64 8, .int .i64 9, .int .i64 10, .int .i64 11] 3)) (l:=zcc) (B:=0) (sv:= .slice (some ⟨w.heap.size,0,none⟩) 13 13) (gL (n:=13) (cs:=zD yG zcc) hg (Nat.zero_le _) rfl (by decide))
 have HB:=qh hb
 have HR:=qh hr
 clear hb hg hr
 go_enter Tryz.func13,Tryz.ntmps13
 go_wp2_with fail
 go_ret
 exact⟨⟨_,rfl,HR.out⟩,HB.out⟩
def vZ:List Value:= [.string ⟨#[120]⟩, .string ⟨#[121]⟩, .string ⟨#[122]⟩]
theorem znH {X:World} {gv n:Nat} (h:X.heap[gv]? =some (.cells vZ.toArray 9 (0,0))) (hn:n<=3):zbe X (.slice (some ⟨gv,0,none⟩) n 3) (xyz.take n):=by
 have hl:(xyz.take n).length=n:=by rw [List.length_take];simp [xyz];omega
 refine⟨_,3,by rw [hl],by rw [hl];omega,λj hj=> ?_⟩
 rw [hl] at hj
 have e:(xyz.take n).getD j default=xyz.getD j default:=by simp only [List.getD_eq_getElem?_getD,List.getElem?_take_of_lt hj]
 have hj3:j=0\/j=1\/j=2:=by omega
 rw [e]
 rcases hj3 with rfl|rfl|rfl
 ·refine⟨gv,0, [.string ⟨#[120]⟩],rfl,zB h,rfl,λi hi=> ?_,rfl⟩
  obtain rfl:i=0:=by omega
  rw [za h];rfl
 ·refine⟨gv,0, [.string ⟨#[121]⟩],rfl,zB h,rfl,λi hi=> ?_,rfl⟩
  obtain rfl:i=0:=by omega
  rw [za h];rfl
 refine⟨gv,0, [.string ⟨#[122]⟩],rfl,zB h,rfl,λi hi=> ?_,rfl⟩
 obtain rfl:i=0:=by omega
 rw [za h];rfl
def PF (va:Value) (g gp gr:Nat) (k:Nat):Prop:=va.ownBlock=some k\/k=g\/k=gp\/k=gr
structure vQ (w X:World) (g gv gp gr:Nat) (sv:Value) (n dm i:Nat) (va:Value) (T:List (List zq)) (css:List (List Value)):Prop where
 zG:∃a',xR w X g sv a'/\a'<=10+i*5000
 box:X.heap[gp]? =some (.cells #[.slice (some ⟨gv,0,none⟩) n 3, .int .i64 dm,va] 93 (0,0))
 vars:X.heap[gv]? =some (.cells vZ.toArray 9 (0,0))
 res:X.heap[gr]? =some (.cells #[.slice none 0 0, .int .i64 0, .slice none 0 0] 93 (0,0))
 lo:w.heap.size<=g/\w.heap.size<=gv/\w.heap.size<=gp/\w.heap.size<=gr/\g≠gp/\g≠gr/\gp≠gr/\gv≠g/\gv≠gp/\gv≠gr
 len:T.length=i
 ok:∀l∈T,zX n dm l 20=true/\zM l<=52
 row:xC (PF va g gp gr) X (zf3 3 4) 1 w.heap.size 124 va T css
section
variable {w X Y:World} {g gv gp gr:Nat} {sv:Value} {n dm i:Nat} {va:Value} {T:List (List zq)} {css:List (List Value)}
theorem vQ.own_ne (h:vQ w X g gv gp gr sv n dm i va T css):∀k,va.ownBlock=some k->k≠g/\k≠gp/\k≠gr/\k≠gv:=λk hk=>by
 obtain⟨a',hm, -⟩:=h.zG
 exact⟨λe=>by subst e;exact jw h.row.row hk hm.box (by decide),λe=>by subst e;exact jw h.row.row hk h.box (by decide),λe=>by subst e;exact jw h.row.row hk h.res (by decide),λe=>by subst e;exact jw h.row.row hk h.vars (by decide)⟩
theorem vQ.lt (h:vQ w X g gv gp gr sv n dm i va T css):∀k,PF va g gp gr k->k<X.heap.size:=λk hk=>by
 obtain⟨a',hm, -⟩:=h.zG
 rcases hk with hk|rfl|rfl|rfl
 ·exact(h.row.row.lt k hk).2
 ·exact zB hm.box
 ·exact zB h.box
 exact zB h.res
theorem vQ.push {xc ln rc a1 oc:Nat} {Z:World} {oa ra xa:Option Addr} {l:List zq} {o:Obj} (h:vQ w X g gv gp gr sv n dm i (.slice oa i oc) T css) (hs:Since (λk=>k=g) X Y) (hm:xR w Y g sv a1) (ha:a1<=10+i*5000+5000) (hok:zX n dm l 20=true/\zM l<=52) (hlen:l.length=ln)
  (haw:yA (λk=>k<X.heap.size) Y (λy=>zJ 3 4 y l (.slice ra ln rc))) (h1:Z.ownsRow w.heap.size 124 1 (.slice xa (i+1) xc) (i+1) (css.flatten++ [.slice ra ln rc])) (h4:Since (λk=>(Value.slice oa i oc).ownBlock=some k) (Y.alloc o) Z) (h5:∀k,(Value.slice xa (i+1) xc).ownBlock=some k->(Value.slice oa i oc).ownBlock=some k\/k=(Y.alloc o).heap.size):
  Z.heap[gp]? =some (.cells #[.slice (some ⟨gv,0,none⟩) n 3, .int .i64 dm, .slice oa i oc] 93 (0,0))/\vQ w (Z.setCell ⟨gp,2,none⟩ (.slice xa (i+1) xc)) g gv gp gr sv n dm (i+1) (.slice xa (i+1) xc) (T++ [l]) (css++ [[.slice ra ln rc]]):=by
 have hlo:=h.lo
 have hne:=h.own_ne
 have hlt:=h.lt
 have s1:Since (λk=>(Value.slice oa i oc).ownBlock=some k) Y Z:=((Since.refl _ Y).alloc o).trans h4 (λk hk=> .inl hk)
 have s2:Since (λk=>k=gp) Z (Z.setCell ⟨gp,2,none⟩ (.slice xa (i+1) xc)):=Since.setCell (F:=λk=>k=gp) (p:=⟨gp,2,none⟩) (Since.refl _ _) (.inl rfl) _
 have s3:Since (λk=>(Value.slice oa i oc).ownBlock=some k\/k=gp) Y (Z.setCell ⟨gp,2,none⟩ (.slice xa (i+1) xc)):=(s1.mono (λk _ hk=> .inl hk)).trans s2 (λk hk=> .inl (.inr hk))
 have znI:=(hs.block _ (zB h.box) (by omega)).trans h.box
 have zpE:=(hs.block _ (zB h.vars) (by omega)).trans h.vars
 have zr5:=(hs.block _ (zB h.res) (by omega)).trans h.res
 have zhj:=(s1.block _ (zB znI) (λe=>(hne _ e).2.1 rfl)).trans znI
 have hvars:=(s1.block _ (zB zpE) (λe=>(hne _ e).2.2.2 rfl)).trans zpE
 have hres:=(s1.block _ (zB zr5) (λe=>(hne _ e).2.2.1 rfl)).trans zr5
 have hnew:∀k,(Value.slice xa (i+1) xc).ownBlock=some k->k≠gp:=λk hk e=>by
  rcases h5 k hk with h1|h1
  ·exact(hne k h1).2.1 e
  have:=zB znI;simp at h1;omega
 refine⟨zhj,⟨⟨a1,hm.since s3 (λk hk=> ?_),by omega⟩, ?_,(s2.block _ (zB hvars) (by omega)).trans hvars,(s2.block _ (zB hres) (by omega)).trans hres,hlo,by simp [h.len],λy hy=> ?_, ?_⟩⟩
 ·rcases hk with hk|hk
  ·have:=(h.row.row.lt k hk).1;have:=(hne k hk).1;omega
  omega
 ·have:=zw zhj 2 (.slice xa (i+1) xc);simpa using this
 ·rcases List.mem_append.1 hy with hy|hy
  ·exact h.ok y hy
  rw [List.mem_singleton] at hy;subst hy;exact hok
 have hrow:=h.row.step (F':=PF (.slice oa i oc) g gp gr) hs (λk hk e=>(hne k hk).1 e) (λk hk=> .inl (.inr (.inl hk))) (λk hk=> .inl hk)
 refine hrow.push s3 (λk hk=> ?_) (λk hk=> ?_) (λy hy=>⟨_,rfl,haw y (hy.mono (λk _ hk=>hlt k hk))⟩) rfl ?_
 ·rcases hk with hk|hk
  ·exact .inl (.inl hk)
  exact .inl (.inr (.inr (.inl hk)))
 ·rcases hk with hk|hk|hk|hk
  ·rcases h5 k hk with h1|h1
   ·exact .inl (.inl h1)
   exact .inr (by simp at h1;omega)
  ·exact .inl (.inr (.inl hk))
  ·exact .inl (.inr (.inr (.inl hk)))
  exact .inl (.inr (.inr (.inr hk)))
 rw [h.len];exact s2.row h1 hnew
end
def zjm (w:World) (en:Ending) (w':World):Prop:=(∃p vv tv,en= .returned (zcJ p vv tv)/\zcP p/\zbb 3 4 w' p vv tv)/\Below w.heap.size w w'
theorem zr6 {T:List (List zq)} (h:∀l∈T,zM l<=52):(T.map zM).sum<=T.length*52:=by
 induction T with
 |nil=>simp
 |cons l T ih=>
 have h1:=h l (by simp)
 have h2:=ih (λx hx=>h x (by simp [hx]))
 simp only [List.map_cons,List.sum_cons,List.length_cons];omega
theorem zkh {w X:World} {g gv gp gr:Nat} {sv:Value} {n dm i oc:Nat} {oa:Option Addr} {T:List (List zq)} {css:List (List Value)} (h:vQ w X g gv gp gr sv n dm i (.slice oa i oc) T css) (hn1:1<=n) (hn3:n<=3) (hd1:2<=dm) (hd2:dm<=16) (hi1:1<=i) (hi3:i<=3):
  zjm w (.returned (.agg #[.slice (some ⟨gv,0,none⟩) n 3, .int .i64 dm, .slice oa i oc])) (qE X gr 0 [.slice (some ⟨gv,0,none⟩) n 3, .int .i64 dm, .slice oa i oc])/\
  (qE X gr 0 [.slice (some ⟨gv,0,none⟩) n 3, .int .i64 dm, .slice oa i oc]).heap[gr]? =some (.cells #[.slice (some ⟨gv,0,none⟩) n 3, .int .i64 dm, .slice oa i oc] 93 (0,0)):=by
 have hlo:=h.lo
 have s:=vN (g:=gr) [.slice (some ⟨gv,0,none⟩) n 3, .int .i64 dm, .slice oa i oc] X 0
 have hvl:(xyz.take n).length=n:=by rw [List.length_take];simp [xyz];omega
 obtain⟨a',hm, -⟩:=h.zG
 have hl:=h.len
 refine⟨⟨⟨⟨xyz.take n,dm,T⟩, .slice (some ⟨gv,0,none⟩) n 3, .slice oa i oc,rfl,⟨⟨n,hn1,hn3,rfl⟩,⟨by show(2:Int)<=(dm:Int);omega,by show(dm:Int)<=16;omega⟩,⟨by show 1<=T.length;omega,by show T.length<=3;omega⟩,λl hl=> ?_, ?_⟩,⟨?_, ?_⟩⟩,hm.below.trans (s.below hm.below.size (λk hk=>by omega))⟩, ?_⟩
 ·show zX ((xyz.take n).length:Nat) dm l 20=true
  rw [hvl];exact(h.ok l hl).1
 ·have:=zr6 (λl hl=>(h.ok l hl).2)
  show(T.map zM).sum<=200
  omega
 ·exact znH ((s.block _ (zB h.vars) (by omega)).trans h.vars) hn3
 ·exact(h.row.step (F':=λ_=>False) s (λk hk e=>(h.own_ne k hk).2.2.1 e) (λk hk=> .inl (.inr (.inr (.inr hk)))) (λ_ h=>h.elim)).slice
 exact vG (cs:= [.slice none 0 0, .int .i64 0, .slice none 0 0]) _ rfl h.res
end Go.Proofs.YtknmdmimecepfaaGreatDoor
namespace Go.Proofs.YtknmdmimecepfaaGreatDoor
open Go.RowKit
set_option maxRecDepth 100000
set_option maxHeartbeats 16000000
structure R2 (w X:World) (g gr:Nat) (sv:Value) (a:Nat) (mv mp:Option Nat):Prop where
 zG:xR w X g sv a
 res:X.heap[gr]? =some (.cells #[.slice none 0 0, .int .i64 0, .slice none 0 0] 93 (0,0))
 lo:w.heap.size<=gr/\g≠gr
 vars:∀b,mv=some b->X.heap[b]? =some (.cells vZ.toArray 9 (0,0))/\w.heap.size<=b/\b≠g/\b≠gr
 prog:∀b,mp=some b->X.heap[b]? =some (.cells #[.slice none 0 0, .int .i64 0, .slice none 0 0] 93 (0,0))/\w.heap.size<=b/\b≠g/\b≠gr
 ne:∀b c,mv=some b->mp=some c->b≠c
section
variable {w X Y:World} {g gr a b:Nat} {sv:Value} {mv mp:Option Nat}
theorem R2.pick (h:R2 w X g gr sv a mv mp) (hm:xR w Y g sv b) (hs:Since (λk=>k=g) X Y):R2 w Y g gr sv b mv mp:=
 ⟨hm,(hs.block _ (zB h.res) (λe=>h.lo.2 e.symm)).trans h.res,h.lo,λc hc=>⟨(hs.block _ (zB (h.vars c hc).1) (h.vars c hc).2.2.1).trans (h.vars c hc).1,(h.vars c hc).2⟩,λc hc=>⟨(hs.block _ (zB (h.prog c hc).1) (h.prog c hc).2.2.1).trans (h.prog c hc).1,(h.prog c hc).2⟩,h.ne⟩
theorem R2.names (h:R2 w X g gr sv a none mp):R2 w (X.alloc (.cells vZ.toArray 9)) g gr sv a (some X.heap.size) mp:=by
 have hb:=(Below.refl X.heap.size X).alloc (Nat.le_refl _) (.cells vZ.toArray 9)
 have h1:=h.zG.below.size
 have h2:=zB h.zG.box
 have h3:=zB h.res
 refine⟨h.zG.later hb,(hb.block _ h3).trans h.res,h.lo,λc hc=> ?_,λc hc=>⟨(hb.block _ (zB (h.prog c hc).1)).trans (h.prog c hc).1,(h.prog c hc).2⟩,λc e hc he=> ?_⟩
 ·cases hc;exact⟨zT X _,h1,by omega,by omega⟩
 cases hc;have:=zB (h.prog e he).1;omega
theorem R2.box (h:R2 w X g gr sv a mv none):R2 w (X.alloc (.cells #[.slice none 0 0, .int .i64 0, .slice none 0 0] 93)) g gr sv a mv (some X.heap.size):=by
 have hb:=(Below.refl X.heap.size X).alloc (Nat.le_refl _) (.cells #[.slice none 0 0, .int .i64 0, .slice none 0 0] 93)
 have h1:=h.zG.below.size
 have h2:=zB h.zG.box
 have h3:=zB h.res
 refine⟨h.zG.later hb,(hb.block _ h3).trans h.res,h.lo,λc hc=>⟨(hb.block _ (zB (h.vars c hc).1)).trans (h.vars c hc).1,(h.vars c hc).2⟩,λc hc=> ?_,λc e hc he=> ?_⟩
 ·cases hc;exact⟨zT X _,h1,by omega,by omega⟩
 cases he;have:=zB (h.vars c hc).1;omega
theorem R2.done {gv gp n dm:Nat} (h:R2 w X g gr sv a (some gv) (some gp)) (ha:a<=9):vQ w (qE X gp 0 [.slice (some ⟨gv,0,none⟩) n 3, .int .i64 dm, .slice none 0 0]) g gv gp gr sv n dm 0 (.slice none 0 0) [] [] /\∃a,xR w (qE X gp 0 [.slice (some ⟨gv,0,none⟩) n 3, .int .i64 dm, .slice none 0 0]) g sv a/\a<=9:=by
 obtain⟨v1,v2,v3,v4⟩:=h.vars gv rfl
 obtain⟨p1,p2,p3,p4⟩:=h.prog gp rfl
 have hne:=h.ne gv gp rfl rfl
 have hlo:=h.lo
 have hg:=h.zG.lo
 have s:=vN (g:=gp) [.slice (some ⟨gv,0,none⟩) n 3, .int .i64 dm, .slice none 0 0] X 0
 exact⟨⟨⟨a,h.zG.since s (λk hk=>by omega),by omega⟩,vG (cs:= [.slice none 0 0, .int .i64 0, .slice none 0 0]) _ rfl p1,(s.block _ (zB v1) hne).trans v1,(s.block _ (zB h.res) (by omega)).trans h.res,⟨hg,v2,p2,hlo.1,by omega,by omega,by omega,by omega,by omega,by omega⟩,rfl,λl hl=>by simp at hl,xC.nil _ _ _ _ _ _⟩,a,h.zG.since s (λk hk=>by omega),ha⟩
end
theorem vQ.picked {w X Y:World} {g gv gp gr n dm i b:Nat} {sv va:Value} {T:List (List zq)} {css:List (List Value)} (h:vQ w X g gv gp gr sv n dm i va T css) (hs:Since (λk=>k=g) X Y) (hm:xR w Y g sv b) (hb:b<=10+i*5000):vQ w Y g gv gp gr sv n dm i va T css:=by
 have hlo:=h.lo
 exact⟨⟨b,hm,hb⟩,(hs.block _ (zB h.box) (by omega)).trans h.box,(hs.block _ (zB h.vars) (by omega)).trans h.vars,(hs.block _ (zB h.res) (by omega)).trans h.res,hlo,h.len,h.ok,h.row.step hs (λk hk e=>(h.own_ne k hk).1 e) (λk hk=> .inl (.inr (.inl hk))) (λk hk=> .inl hk)⟩
theorem vQ.drew {w X:World} {g gv gp gr n dm i:Nat} {sv va:Value} {T:List (List zq)} {css:List (List Value)} (h:vQ w X g gv gp gr sv n dm i va T css):vQ w X.drew g gv gp gr sv n dm i va T css:=by
 obtain⟨a,hm,ha⟩:=h.zG
 exact h.picked (Since.drew _ (Since.refl _ X)) (hm.later (Below.refl _ _).drew) ha
theorem zh3:(Tryz.prog.info? 93).map (·.size)=some 3:=by kernel_rfl
theorem zki:(Tryz.prog.info? 124).map (λi=>(i.zero,i.size,i.bytes))=some (some (.slice none 0 0),1,24):=by kernel_rfl
theorem wrapN (n:Nat) (h:n<=100):IntKind.i64.wrap (n:Int)=(n:Int):=IntWalk.i64_in _ (by omega)
theorem zlx (w:World) (sv:Value) (l:List Int) (hn:vU w .u8 sv l) (kv:Value) (ks:List Int) (hks:xX w kv ks) (hk1:1<=ks.length) (hk2:ks.length<=100) (hk3:∀k∈ks,1<=k/\k<=11):
  Calls Tryz.prog 33 #[sv,kv] w (zjm w):=by
 have hpick:=λW g a n ni hni h n1 n2 ha=>zdS w W g sv l a n ni hni h hn n1 n2 ha
 have hlist:=λg vars dom hv1 hv2 hd1 hd2=>znG w g sv l hn kv ks hks hk1 hk2 hk3 vars dom hv1 hv2 hd1 hd2 2 (by omega)
 have zvw:4*qY 2=1040:=rfl
 have zvx:4*kV 2=52:=rfl
 have zeD:∀(g vars dom:Nat),1<=vars->vars<=10->2<=dom->dom<=16->∀(W:World) (a n:Nat),xR w W g sv a->n<=4->a<=100000->Calls Tryz.prog 57 #[.pointer (some ⟨g,0,none⟩), .int .i64 n, .int .i64 2, .int .i64 vars, .int .i64 dom,kv] W λe w'=>∃(L:List zq) (va:Option Addr) (vc a':Nat),e= .returned (.slice va L.length vc)/\(zX vars dom L 20=true/\zM L<=52)/\
   yA (λk=>k<W.heap.size) w' (λy=>zJ 3 4 y L (.slice va L.length vc))/\xR w w' g sv a'/\a'<=a+1040/\Since (λk=>k=g) W w':=λg vars dom hv1 hv2 hd1 hd2 W a n hm hn4 ha=>by
  refine(hlist g vars dom hv1 hv2 hd1 hd2 W a n 4 n rfl hm hn4 (by omega) (by omega)).mono ?_
  rintro e w' ⟨L,va,vc,a',h1,h2,h3,h4,h5,h6,h7⟩
  exact⟨L,va,vc,a',h1,⟨zkj h2 (by omega),by omega⟩,h4,h5,by omega,h7⟩
 obtain⟨sa,sc,rfl, -⟩:∃a c,sv= .slice a l.length c/\True:=by obtain⟨a,c,h, -⟩:=hn;exact⟨a,c,h,trivial⟩
 obtain⟨ka,kc,rfl, -⟩:=zh.slice hks
 generalize l.length=ln at hpick zeD ⊢
 generalize ks.length=kn at zeD ⊢
 have xM:=qh hpick
 have zt4:=qh zeD
 clear hpick hlist zeD zvw zvx hn hks hk1 hk2 hk3
 have hB:=((Below.refl w.heap.size w).alloc (Nat.le_refl _) (.cells #[.slice none 0 0, .int .i64 0, .slice none 0 0] 93)).alloc (by simp) (.cells #[.slice sa ln sc, .int .i64 0] 127)
 have H1:=qm w (.cells #[.slice none 0 0, .int .i64 0, .slice none 0 0] 93) (.cells #[.slice sa ln sc, .int .i64 0] 127)
 have H2:=xA w (.cells #[.slice none 0 0, .int .i64 0, .slice none 0 0] 93) (.cells #[.slice sa ln sc, .int .i64 0] 127)
 have HR:Hid (R2 w ((w.alloc (.cells #[.slice none 0 0, .int .i64 0, .slice none 0 0] 93)).alloc (.cells #[.slice sa ln sc, .int .i64 0] 127)) (w.heap.size+1) w.heap.size (.slice sa ln sc) 0 none none):=⟨⟨hB,by omega,H2⟩,H1,⟨Nat.le_refl _,by omega⟩,(λ_ h=>by cases h),(λ_ h=>by cases h),(λ_ _ h=>by cases h)⟩
 clear hB H1 H2
 go_enter Tryz.func33,Tryz.ntmps33
 go_upto_region 2 with fail
 generalize World.alloc (World.alloc w _) _=V at HR ⊢
 generalize w.heap.size+1=g at HR ⊢
 obtain⟨gr,hgr⟩:∃gr,gr=w.heap.size:=⟨_,rfl⟩
 rw [<-hgr] at HR ⊢
 have HGR:=qh hgr
 clear hgr
 go_cut [6] (λs6 w'=>∃gv gp n dm:Nat,s6= .pointer (some ⟨gp,0,none⟩)/\1<=n/\n<=3/\2<=dm/\dm<=4/\Hid (vQ w w' g gv gp gr (.slice sa ln sc) n dm 0 (.slice none 0 0) [] [])/\Hid (∃a,xR w w' g (.slice sa ln sc) a/\a<=9))
 case first=>
  have hT0:Hid (R2 w V.drew g w.heap.size (.slice sa ln sc) 0 none none):=by have h:=HR.out;rw [HGR.out] at h;exact h.pick (h.zG.later (Below.refl _ _).drew) (Since.drew _ (Since.refl _ _))
  rw [<-HGR.out] at hT0
  clear HR
  refine kP (S:=λx=>Below w.heap.size w x) hT0.out.zG.below (λ_=> ?_)
  obtain⟨V1,hV1⟩:∃V1,V1=V.drew:=⟨_,rfl⟩
  rw [<-hV1]
  rw [<-hV1] at hT0
  clear hV1
  refine xw 1 xG (hT0.out.zG.below) ?_
  refine xw 5 xG (hT0.out.zG.below) ?_
  refine wpAnyH_ready (rs:= [0,2,9]) (by kernel_rfl) (by simp) ?_
  refine AllReadyH.cons rfl (λK hK=> ?_) (AllReadyH.cons rfl (λK hK=> ?_) (AllReadyH.cons rfl (λK hK=> ?_) AllReadyH.nil))
  ·skip
   go_simp
   have zb1:=hT0.out.names
   unfold vZ at zb1
   refine hK.out _ _ zb1.zG.below (λ_=> ?_)
   obtain⟨gv,hgv⟩:∃n,n=V1.heap.size:=⟨_,rfl⟩
   rw [<-hgv] at zb1 ⊢
   clear hgv
   generalize World.alloc V1 _=Xp2 at zb1 ⊢
   replace zb1:=qh zb1
   clear hK K
   refine wpAnyH_ready (rs:= [2,9]) (by kernel_rfl) (by simp) ?_
   refine AllReadyH.cons rfl (λK hK=> ?_) (AllReadyH.cons rfl (λK hK=> ?_) AllReadyH.nil)
   ·skip
    go_simp
    refine(xM.out Xp2 g _ 3 3 rfl zb1.out.zG (by omega) (by omega) (by omega)).mono ?_
    rintro en Xp4 ⟨r1,hr1,rfl,hmk,hsi⟩
    have zf4:=qh (zb1.out.pick hmk hsi)
    clear hmk hsi
    refine hK.out _ _ zf4.out.zG.below (λ_=> ?_)
    obtain⟨n,hn⟩:∃n:Nat,(1:Int)+(r1:Int)=(n:Int):=⟨1+r1,by omega⟩
    have bn1:1<=n:=by omega
    have bn2:n<=3:=by omega
    have wn:=wrapN n (by omega)
    have zn:(0:Int)<=(n:Int):=by omega
    have yn:(n:Int)<=3:=by omega
    clear hK K
    refine xw 3 xG (zf4.out.zG.below) ?_
    refine xw 4 xG (zf4.out.zG.below) ?_
    refine wpAnyH_ready (rs:= [6,9]) (by kernel_rfl) (by simp) ?_
    refine AllReadyH.cons rfl (λK hK=> ?_) (AllReadyH.cons rfl (λK hK=> ?_) AllReadyH.nil)
    ·skip
     go_simp
     refine(xM.out Xp4 g _ 3 3 rfl zf4.out.zG (by omega) (by omega) (by omega)).mono ?_
     rintro en Xp6 ⟨r2,hr2,rfl,hmk,hsi⟩
     have zkk:=qh (zf4.out.pick hmk hsi)
     clear hmk hsi
     refine hK.out _ _ zkk.out.zG.below (λ_=> ?_)
     obtain⟨dm,kG⟩:∃n:Nat,(2:Int)+(r2:Int)=(n:Int):=⟨2+r2,by omega⟩
     have zaB:2<=dm:=by omega
     have zaC:dm<=4:=by omega
     have kH:=wrapN dm (by omega)
     have zdm:(0:Int)<=(dm:Int):=by omega
     skip
     clear hK K
     refine xw 7 xG (zkk.out.zG.below) ?_
     refine xw 8 xG (zkk.out.zG.below) ?_
     refine yZ 9 rfl (λK hK=> ?_)
     go_simp
     have zdT:=zkk.out.box
     refine hK.out _ _ zdT.zG.below (λ_=> ?_)
     obtain⟨gp,jo⟩:∃n,n=Xp6.heap.size:=⟨_,rfl⟩
     rw [<-jo] at zdT ⊢
     clear jo
     generalize World.alloc Xp6 _=Xp8 at zdT ⊢
     replace zdT:=qh zdT
     clear hK K
     refine yZ 10 rfl (λK hK=> ?_)
     obtain⟨hp, -, -, -⟩:=zdT.out.prog gp rfl
     have q0:Xp8.cell? ⟨gp,0,none⟩=some (.slice none 0 0):=za hp 0
     have f0:=zF hp 0
     have q1:Xp8.cell? ⟨gp,1,none⟩=some (.int .i64 0):=za hp 1
     have f1:=zF hp 1
     have q2:Xp8.cell? ⟨gp,2,none⟩=some (.slice none 0 0):=za hp 2
     have f2:=zF hp 2
     clear hp
     go_simp
     have hend:=zdT.out.done (n:=n) (dm:=dm) (by omega)
     have zS:=qh hend
     refine hK.out _ _ (by obtain⟨a',hm, -⟩:=hend.2;exact hm.below) (λ_=> ?_)
     clear hend q0 q1 q2 f0 f1 f2
     clear hK K
     refine vE ?_
     clear hn kG wn kH
     go_wp2_with fail
     go_meet
     case rel=>exact⟨gv,gp,n,dm,rfl,by omega,by omega,by omega,by omega,zS.out.1,zS.out.2⟩
    skip
    go_simp
    have zdU:=zf4.out.box
    refine hK.out _ _ zdU.zG.below (λ_=> ?_)
    obtain⟨gp,jo⟩:∃n,n=Xp4.heap.size:=⟨_,rfl⟩
    rw [<-jo] at zdU ⊢
    clear jo
    generalize World.alloc Xp4 _=zvy at zdU ⊢
    replace zdU:=qh zdU
    clear hK K
    refine yZ 6 rfl (λK hK=> ?_)
    go_simp
    refine(xM.out zvy g _ 3 3 rfl zdU.out.zG (by omega) (by omega) (by omega)).mono ?_
    rintro en znJ ⟨r2,hr2,rfl,hmk,hsi⟩
    have zeE:=qh (zdU.out.pick hmk hsi)
    clear hmk hsi
    refine hK.out _ _ zeE.out.zG.below (λ_=> ?_)
    obtain⟨dm,kG⟩:∃n:Nat,(2:Int)+(r2:Int)=(n:Int):=⟨2+r2,by omega⟩
    have zaB:2<=dm:=by omega
    have zaC:dm<=4:=by omega
    have kH:=wrapN dm (by omega)
    have zdm:(0:Int)<=(dm:Int):=by omega
    skip
    clear hK K
    refine xw 7 xG (zeE.out.zG.below) ?_
    refine xw 8 xG (zeE.out.zG.below) ?_
    refine yZ 10 rfl (λK hK=> ?_)
    obtain⟨hp, -, -, -⟩:=zeE.out.prog gp rfl
    have q0:znJ.cell? ⟨gp,0,none⟩=some (.slice none 0 0):=za hp 0
    have f0:=zF hp 0
    have q1:znJ.cell? ⟨gp,1,none⟩=some (.int .i64 0):=za hp 1
    have f1:=zF hp 1
    have q2:znJ.cell? ⟨gp,2,none⟩=some (.slice none 0 0):=za hp 2
    have f2:=zF hp 2
    clear hp
    go_simp
    have hend:=zeE.out.done (n:=n) (dm:=dm) (by omega)
    have zS:=qh hend
    refine hK.out _ _ (by obtain⟨a',hm, -⟩:=hend.2;exact hm.below) (λ_=> ?_)
    clear hend q0 q1 q2 f0 f1 f2
    clear hK K
    refine vE ?_
    clear hn kG wn kH
    go_wp2_with fail
    go_meet
    case rel=>exact⟨gv,gp,n,dm,rfl,by omega,by omega,by omega,by omega,zS.out.1,zS.out.2⟩
   skip
   go_simp
   have zb2:=zb1.out.box
   refine hK.out _ _ zb2.zG.below (λ_=> ?_)
   obtain⟨gp,jo⟩:∃n,n=Xp2.heap.size:=⟨_,rfl⟩
   rw [<-jo] at zb2 ⊢
   clear jo
   generalize World.alloc Xp2 _=zvz at zb2 ⊢
   replace zb2:=qh zb2
   clear hK K
   refine yZ 2 rfl (λK hK=> ?_)
   go_simp
   refine(xM.out zvz g _ 3 3 rfl zb2.out.zG (by omega) (by omega) (by omega)).mono ?_
   rintro en zv0 ⟨r1,hr1,rfl,hmk,hsi⟩
   have zeF:=qh (zb2.out.pick hmk hsi)
   clear hmk hsi
   refine hK.out _ _ zeF.out.zG.below (λ_=> ?_)
   obtain⟨n,hn⟩:∃n:Nat,(1:Int)+(r1:Int)=(n:Int):=⟨1+r1,by omega⟩
   have bn1:1<=n:=by omega
   have bn2:n<=3:=by omega
   have wn:=wrapN n (by omega)
   have zn:(0:Int)<=(n:Int):=by omega
   have yn:(n:Int)<=3:=by omega
   clear hK K
   refine xw 3 xG (zeF.out.zG.below) ?_
   refine xw 4 xG (zeF.out.zG.below) ?_
   refine yZ 6 rfl (λK hK=> ?_)
   go_simp
   refine(xM.out zv0 g _ 3 3 rfl zeF.out.zG (by omega) (by omega) (by omega)).mono ?_
   rintro en znK ⟨r2,hr2,rfl,hmk,hsi⟩
   have zeG:=qh (zeF.out.pick hmk hsi)
   clear hmk hsi
   refine hK.out _ _ zeG.out.zG.below (λ_=> ?_)
   obtain⟨dm,kG⟩:∃n:Nat,(2:Int)+(r2:Int)=(n:Int):=⟨2+r2,by omega⟩
   have zaB:2<=dm:=by omega
   have zaC:dm<=4:=by omega
   have kH:=wrapN dm (by omega)
   have zdm:(0:Int)<=(dm:Int):=by omega
   skip
   clear hK K
   refine xw 7 xG (zeG.out.zG.below) ?_
   refine xw 8 xG (zeG.out.zG.below) ?_
   refine yZ 10 rfl (λK hK=> ?_)
   obtain⟨hp, -, -, -⟩:=zeG.out.prog gp rfl
   have q0:znK.cell? ⟨gp,0,none⟩=some (.slice none 0 0):=za hp 0
   have f0:=zF hp 0
   have q1:znK.cell? ⟨gp,1,none⟩=some (.int .i64 0):=za hp 1
   have f1:=zF hp 1
   have q2:znK.cell? ⟨gp,2,none⟩=some (.slice none 0 0):=za hp 2
   have f2:=zF hp 2
   clear hp
   go_simp
   have hend:=zeG.out.done (n:=n) (dm:=dm) (by omega)
   have zS:=qh hend
   refine hK.out _ _ (by obtain⟨a',hm, -⟩:=hend.2;exact hm.below) (λ_=> ?_)
   clear hend q0 q1 q2 f0 f1 f2
   clear hK K
   refine vE ?_
   clear hn kG wn kH
   go_wp2_with fail
   go_meet
   case rel=>exact⟨gv,gp,n,dm,rfl,by omega,by omega,by omega,by omega,zS.out.1,zS.out.2⟩
  ·skip
   go_simp
   refine(xM.out V1 g _ 3 3 rfl hT0.out.zG (by omega) (by omega) (by omega)).mono ?_
   rintro en zh4 ⟨r1,hr1,rfl,hmk,hsi⟩
   have zcS:=qh (hT0.out.pick hmk hsi)
   clear hmk hsi
   refine hK.out _ _ zcS.out.zG.below (λ_=> ?_)
   obtain⟨n,hn⟩:∃n:Nat,(1:Int)+(r1:Int)=(n:Int):=⟨1+r1,by omega⟩
   have bn1:1<=n:=by omega
   have bn2:n<=3:=by omega
   have wn:=wrapN n (by omega)
   have zn:(0:Int)<=(n:Int):=by omega
   have yn:(n:Int)<=3:=by omega
   clear hK K
   refine xw 3 xG (zcS.out.zG.below) ?_
   refine wpAnyH_ready (rs:= [0,6,9]) (by kernel_rfl) (by simp) ?_
   refine AllReadyH.cons rfl (λK hK=> ?_) (AllReadyH.cons rfl (λK hK=> ?_) (AllReadyH.cons rfl (λK hK=> ?_) AllReadyH.nil))
   ·skip
    go_simp
    have uK:=zcS.out.names
    unfold vZ at uK
    refine hK.out _ _ uK.zG.below (λ_=> ?_)
    obtain⟨gv,hgv⟩:∃n,n=zh4.heap.size:=⟨_,rfl⟩
    rw [<-hgv] at uK ⊢
    clear hgv
    generalize World.alloc zh4 _=znL at uK ⊢
    replace uK:=qh uK
    clear hK K
    refine xw 4 xG (uK.out.zG.below) ?_
    refine wpAnyH_ready (rs:= [6,9]) (by kernel_rfl) (by simp) ?_
    refine AllReadyH.cons rfl (λK hK=> ?_) (AllReadyH.cons rfl (λK hK=> ?_) AllReadyH.nil)
    ·skip
     go_simp
     refine(xM.out znL g _ 3 3 rfl uK.out.zG (by omega) (by omega) (by omega)).mono ?_
     rintro en zrA ⟨r2,hr2,rfl,hmk,hsi⟩
     have zg0:=qh (uK.out.pick hmk hsi)
     clear hmk hsi
     refine hK.out _ _ zg0.out.zG.below (λ_=> ?_)
     obtain⟨dm,kG⟩:∃n:Nat,(2:Int)+(r2:Int)=(n:Int):=⟨2+r2,by omega⟩
     have zaB:2<=dm:=by omega
     have zaC:dm<=4:=by omega
     have kH:=wrapN dm (by omega)
     have zdm:(0:Int)<=(dm:Int):=by omega
     skip
     clear hK K
     refine xw 7 xG (zg0.out.zG.below) ?_
     refine xw 8 xG (zg0.out.zG.below) ?_
     refine yZ 9 rfl (λK hK=> ?_)
     go_simp
     have zb3:=zg0.out.box
     refine hK.out _ _ zb3.zG.below (λ_=> ?_)
     obtain⟨gp,jo⟩:∃n,n=zrA.heap.size:=⟨_,rfl⟩
     rw [<-jo] at zb3 ⊢
     clear jo
     generalize World.alloc zrA _=znM at zb3 ⊢
     replace zb3:=qh zb3
     clear hK K
     refine yZ 10 rfl (λK hK=> ?_)
     obtain⟨hp, -, -, -⟩:=zb3.out.prog gp rfl
     have q0:znM.cell? ⟨gp,0,none⟩=some (.slice none 0 0):=za hp 0
     have f0:=zF hp 0
     have q1:znM.cell? ⟨gp,1,none⟩=some (.int .i64 0):=za hp 1
     have f1:=zF hp 1
     have q2:znM.cell? ⟨gp,2,none⟩=some (.slice none 0 0):=za hp 2
     have f2:=zF hp 2
     clear hp
     go_simp
     have hend:=zb3.out.done (n:=n) (dm:=dm) (by omega)
     have zS:=qh hend
     refine hK.out _ _ (by obtain⟨a',hm, -⟩:=hend.2;exact hm.below) (λ_=> ?_)
     clear hend q0 q1 q2 f0 f1 f2
     clear hK K
     refine vE ?_
     clear hn kG wn kH
     go_wp2_with fail
     go_meet
     case rel=>exact⟨gv,gp,n,dm,rfl,by omega,by omega,by omega,by omega,zS.out.1,zS.out.2⟩
    skip
    go_simp
    have zb4:=uK.out.box
    refine hK.out _ _ zb4.zG.below (λ_=> ?_)
    obtain⟨gp,jo⟩:∃n,n=znL.heap.size:=⟨_,rfl⟩
    rw [<-jo] at zb4 ⊢
    clear jo
    generalize World.alloc znL _=zv1 at zb4 ⊢
    replace zb4:=qh zb4
    clear hK K
    refine yZ 6 rfl (λK hK=> ?_)
    go_simp
    refine(xM.out zv1 g _ 3 3 rfl zb4.out.zG (by omega) (by omega) (by omega)).mono ?_
    rintro en znN ⟨r2,hr2,rfl,hmk,hsi⟩
    have zeH:=qh (zb4.out.pick hmk hsi)
    clear hmk hsi
    refine hK.out _ _ zeH.out.zG.below (λ_=> ?_)
    obtain⟨dm,kG⟩:∃n:Nat,(2:Int)+(r2:Int)=(n:Int):=⟨2+r2,by omega⟩
    have zaB:2<=dm:=by omega
    have zaC:dm<=4:=by omega
    have kH:=wrapN dm (by omega)
    have zdm:(0:Int)<=(dm:Int):=by omega
    skip
    clear hK K
    refine xw 7 xG (zeH.out.zG.below) ?_
    refine xw 8 xG (zeH.out.zG.below) ?_
    refine yZ 10 rfl (λK hK=> ?_)
    obtain⟨hp, -, -, -⟩:=zeH.out.prog gp rfl
    have q0:znN.cell? ⟨gp,0,none⟩=some (.slice none 0 0):=za hp 0
    have f0:=zF hp 0
    have q1:znN.cell? ⟨gp,1,none⟩=some (.int .i64 0):=za hp 1
    have f1:=zF hp 1
    have q2:znN.cell? ⟨gp,2,none⟩=some (.slice none 0 0):=za hp 2
    have f2:=zF hp 2
    clear hp
    go_simp
    have hend:=zeH.out.done (n:=n) (dm:=dm) (by omega)
    have zS:=qh hend
    refine hK.out _ _ (by obtain⟨a',hm, -⟩:=hend.2;exact hm.below) (λ_=> ?_)
    clear hend q0 q1 q2 f0 f1 f2
    clear hK K
    refine vE ?_
    clear hn kG wn kH
    go_wp2_with fail
    go_meet
    case rel=>exact⟨gv,gp,n,dm,rfl,by omega,by omega,by omega,by omega,zS.out.1,zS.out.2⟩
   ·skip
    go_simp
    refine(xM.out zh4 g _ 3 3 rfl zcS.out.zG (by omega) (by omega) (by omega)).mono ?_
    rintro en zkl ⟨r2,hr2,rfl,hmk,hsi⟩
    have zg1:=qh (zcS.out.pick hmk hsi)
    clear hmk hsi
    refine hK.out _ _ zg1.out.zG.below (λ_=> ?_)
    obtain⟨dm,kG⟩:∃n:Nat,(2:Int)+(r2:Int)=(n:Int):=⟨2+r2,by omega⟩
    have zaB:2<=dm:=by omega
    have zaC:dm<=4:=by omega
    have kH:=wrapN dm (by omega)
    have zdm:(0:Int)<=(dm:Int):=by omega
    skip
    clear hK K
    refine xw 7 xG (zg1.out.zG.below) ?_
    refine wpAnyH_ready (rs:= [0,9]) (by kernel_rfl) (by simp) ?_
    refine AllReadyH.cons rfl (λK hK=> ?_) (AllReadyH.cons rfl (λK hK=> ?_) AllReadyH.nil)
    ·skip
     go_simp
     have bL:=zg1.out.names
     unfold vZ at bL
     refine hK.out _ _ bL.zG.below (λ_=> ?_)
     obtain⟨gv,hgv⟩:∃n,n=zkl.heap.size:=⟨_,rfl⟩
     rw [<-hgv] at bL ⊢
     clear hgv
     generalize World.alloc zkl _=zrB at bL ⊢
     replace bL:=qh bL
     clear hK K
     refine xw 4 xG (bL.out.zG.below) ?_
     refine xw 8 xG (bL.out.zG.below) ?_
     refine yZ 9 rfl (λK hK=> ?_)
     go_simp
     have zb5:=bL.out.box
     refine hK.out _ _ zb5.zG.below (λ_=> ?_)
     obtain⟨gp,jo⟩:∃n,n=zrB.heap.size:=⟨_,rfl⟩
     rw [<-jo] at zb5 ⊢
     clear jo
     generalize World.alloc zrB _=znO at zb5 ⊢
     replace zb5:=qh zb5
     clear hK K
     refine yZ 10 rfl (λK hK=> ?_)
     obtain⟨hp, -, -, -⟩:=zb5.out.prog gp rfl
     have q0:znO.cell? ⟨gp,0,none⟩=some (.slice none 0 0):=za hp 0
     have f0:=zF hp 0
     have q1:znO.cell? ⟨gp,1,none⟩=some (.int .i64 0):=za hp 1
     have f1:=zF hp 1
     have q2:znO.cell? ⟨gp,2,none⟩=some (.slice none 0 0):=za hp 2
     have f2:=zF hp 2
     clear hp
     go_simp
     have hend:=zb5.out.done (n:=n) (dm:=dm) (by omega)
     have zS:=qh hend
     refine hK.out _ _ (by obtain⟨a',hm, -⟩:=hend.2;exact hm.below) (λ_=> ?_)
     clear hend q0 q1 q2 f0 f1 f2
     clear hK K
     refine vE ?_
     clear hn kG wn kH
     go_wp2_with fail
     go_meet
     case rel=>exact⟨gv,gp,n,dm,rfl,by omega,by omega,by omega,by omega,zS.out.1,zS.out.2⟩
    skip
    go_simp
    have zcT:=zg1.out.box
    refine hK.out _ _ zcT.zG.below (λ_=> ?_)
    obtain⟨gp,jo⟩:∃n,n=zkl.heap.size:=⟨_,rfl⟩
    rw [<-jo] at zcT ⊢
    clear jo
    generalize World.alloc zkl _=zrC at zcT ⊢
    replace zcT:=qh zcT
    clear hK K
    refine yZ 0 rfl (λK hK=> ?_)
    go_simp
    have uL:=zcT.out.names
    unfold vZ at uL
    refine hK.out _ _ uL.zG.below (λ_=> ?_)
    obtain⟨gv,hgv⟩:∃n,n=zrC.heap.size:=⟨_,rfl⟩
    rw [<-hgv] at uL ⊢
    clear hgv
    generalize World.alloc zrC _=znP at uL ⊢
    replace uL:=qh uL
    clear hK K
    refine xw 4 xG (uL.out.zG.below) ?_
    refine xw 8 xG (uL.out.zG.below) ?_
    refine yZ 10 rfl (λK hK=> ?_)
    obtain⟨hp, -, -, -⟩:=uL.out.prog gp rfl
    have q0:znP.cell? ⟨gp,0,none⟩=some (.slice none 0 0):=za hp 0
    have f0:=zF hp 0
    have q1:znP.cell? ⟨gp,1,none⟩=some (.int .i64 0):=za hp 1
    have f1:=zF hp 1
    have q2:znP.cell? ⟨gp,2,none⟩=some (.slice none 0 0):=za hp 2
    have f2:=zF hp 2
    clear hp
    go_simp
    have hend:=uL.out.done (n:=n) (dm:=dm) (by omega)
    have zS:=qh hend
    refine hK.out _ _ (by obtain⟨a',hm, -⟩:=hend.2;exact hm.below) (λ_=> ?_)
    clear hend q0 q1 q2 f0 f1 f2
    clear hK K
    refine vE ?_
    clear hn kG wn kH
    go_wp2_with fail
    go_meet
    case rel=>exact⟨gv,gp,n,dm,rfl,by omega,by omega,by omega,by omega,zS.out.1,zS.out.2⟩
   skip
   go_simp
   have zas:=zcS.out.box
   refine hK.out _ _ zas.zG.below (λ_=> ?_)
   obtain⟨gp,jo⟩:∃n,n=zh4.heap.size:=⟨_,rfl⟩
   rw [<-jo] at zas ⊢
   clear jo
   generalize World.alloc zh4 _=znQ at zas ⊢
   replace zas:=qh zas
   clear hK K
   refine wpAnyH_ready (rs:= [0,6]) (by kernel_rfl) (by simp) ?_
   refine AllReadyH.cons rfl (λK hK=> ?_) (AllReadyH.cons rfl (λK hK=> ?_) AllReadyH.nil)
   ·skip
    go_simp
    have bM:=zas.out.names
    unfold vZ at bM
    refine hK.out _ _ bM.zG.below (λ_=> ?_)
    obtain⟨gv,hgv⟩:∃n,n=znQ.heap.size:=⟨_,rfl⟩
    rw [<-hgv] at bM ⊢
    clear hgv
    generalize World.alloc znQ _=zv2 at bM ⊢
    replace bM:=qh bM
    clear hK K
    refine xw 4 xG (bM.out.zG.below) ?_
    refine yZ 6 rfl (λK hK=> ?_)
    go_simp
    refine(xM.out zv2 g _ 3 3 rfl bM.out.zG (by omega) (by omega) (by omega)).mono ?_
    rintro en znR ⟨r2,hr2,rfl,hmk,hsi⟩
    have zeI:=qh (bM.out.pick hmk hsi)
    clear hmk hsi
    refine hK.out _ _ zeI.out.zG.below (λ_=> ?_)
    obtain⟨dm,kG⟩:∃n:Nat,(2:Int)+(r2:Int)=(n:Int):=⟨2+r2,by omega⟩
    have zaB:2<=dm:=by omega
    have zaC:dm<=4:=by omega
    have kH:=wrapN dm (by omega)
    have zdm:(0:Int)<=(dm:Int):=by omega
    skip
    clear hK K
    refine xw 7 xG (zeI.out.zG.below) ?_
    refine xw 8 xG (zeI.out.zG.below) ?_
    refine yZ 10 rfl (λK hK=> ?_)
    obtain⟨hp, -, -, -⟩:=zeI.out.prog gp rfl
    have q0:znR.cell? ⟨gp,0,none⟩=some (.slice none 0 0):=za hp 0
    have f0:=zF hp 0
    have q1:znR.cell? ⟨gp,1,none⟩=some (.int .i64 0):=za hp 1
    have f1:=zF hp 1
    have q2:znR.cell? ⟨gp,2,none⟩=some (.slice none 0 0):=za hp 2
    have f2:=zF hp 2
    clear hp
    go_simp
    have hend:=zeI.out.done (n:=n) (dm:=dm) (by omega)
    have zS:=qh hend
    refine hK.out _ _ (by obtain⟨a',hm, -⟩:=hend.2;exact hm.below) (λ_=> ?_)
    clear hend q0 q1 q2 f0 f1 f2
    clear hK K
    refine vE ?_
    clear hn kG wn kH
    go_wp2_with fail
    go_meet
    case rel=>exact⟨gv,gp,n,dm,rfl,by omega,by omega,by omega,by omega,zS.out.1,zS.out.2⟩
   skip
   go_simp
   refine(xM.out znQ g _ 3 3 rfl zas.out.zG (by omega) (by omega) (by omega)).mono ?_
   rintro en zrD ⟨r2,hr2,rfl,hmk,hsi⟩
   have zkm:=qh (zas.out.pick hmk hsi)
   clear hmk hsi
   refine hK.out _ _ zkm.out.zG.below (λ_=> ?_)
   obtain⟨dm,kG⟩:∃n:Nat,(2:Int)+(r2:Int)=(n:Int):=⟨2+r2,by omega⟩
   have zaB:2<=dm:=by omega
   have zaC:dm<=4:=by omega
   have kH:=wrapN dm (by omega)
   have zdm:(0:Int)<=(dm:Int):=by omega
   skip
   clear hK K
   refine xw 7 xG (zkm.out.zG.below) ?_
   refine yZ 0 rfl (λK hK=> ?_)
   go_simp
   have uM:=zkm.out.names
   unfold vZ at uM
   refine hK.out _ _ uM.zG.below (λ_=> ?_)
   obtain⟨gv,hgv⟩:∃n,n=zrD.heap.size:=⟨_,rfl⟩
   rw [<-hgv] at uM ⊢
   clear hgv
   generalize World.alloc zrD _=znS at uM ⊢
   replace uM:=qh uM
   clear hK K
   refine xw 4 xG (uM.out.zG.below) ?_
   refine xw 8 xG (uM.out.zG.below) ?_
   refine yZ 10 rfl (λK hK=> ?_)
   obtain⟨hp, -, -, -⟩:=uM.out.prog gp rfl
   have q0:znS.cell? ⟨gp,0,none⟩=some (.slice none 0 0):=za hp 0
   have f0:=zF hp 0
   have q1:znS.cell? ⟨gp,1,none⟩=some (.int .i64 0):=za hp 1
   have f1:=zF hp 1
   have q2:znS.cell? ⟨gp,2,none⟩=some (.slice none 0 0):=za hp 2
   have f2:=zF hp 2
   clear hp
   go_simp
   have hend:=uM.out.done (n:=n) (dm:=dm) (by omega)
   have zS:=qh hend
   refine hK.out _ _ (by obtain⟨a',hm, -⟩:=hend.2;exact hm.below) (λ_=> ?_)
   clear hend q0 q1 q2 f0 f1 f2
   clear hK K
   refine vE ?_
   clear hn kG wn kH
   go_wp2_with fail
   go_meet
   case rel=>exact⟨gv,gp,n,dm,rfl,by omega,by omega,by omega,by omega,zS.out.1,zS.out.2⟩
  skip
  go_simp
  have zat:=hT0.out.box
  refine hK.out _ _ zat.zG.below (λ_=> ?_)
  obtain⟨gp,jo⟩:∃n,n=V1.heap.size:=⟨_,rfl⟩
  rw [<-jo] at zat ⊢
  clear jo
  generalize World.alloc V1 _=znT at zat ⊢
  replace zat:=qh zat
  clear hK K
  refine wpAnyH_ready (rs:= [0,2]) (by kernel_rfl) (by simp) ?_
  refine AllReadyH.cons rfl (λK hK=> ?_) (AllReadyH.cons rfl (λK hK=> ?_) AllReadyH.nil)
  ·skip
   go_simp
   have zau:=zat.out.names
   unfold vZ at zau
   refine hK.out _ _ zau.zG.below (λ_=> ?_)
   obtain⟨gv,hgv⟩:∃n,n=znT.heap.size:=⟨_,rfl⟩
   rw [<-hgv] at zau ⊢
   clear hgv
   generalize World.alloc znT _=zv3 at zau ⊢
   replace zau:=qh zau
   clear hK K
   refine yZ 2 rfl (λK hK=> ?_)
   go_simp
   refine(xM.out zv3 g _ 3 3 rfl zau.out.zG (by omega) (by omega) (by omega)).mono ?_
   rintro en zv4 ⟨r1,hr1,rfl,hmk,hsi⟩
   have zeJ:=qh (zau.out.pick hmk hsi)
   clear hmk hsi
   refine hK.out _ _ zeJ.out.zG.below (λ_=> ?_)
   obtain⟨n,hn⟩:∃n:Nat,(1:Int)+(r1:Int)=(n:Int):=⟨1+r1,by omega⟩
   have bn1:1<=n:=by omega
   have bn2:n<=3:=by omega
   have wn:=wrapN n (by omega)
   have zn:(0:Int)<=(n:Int):=by omega
   have yn:(n:Int)<=3:=by omega
   clear hK K
   refine xw 3 xG (zeJ.out.zG.below) ?_
   refine xw 4 xG (zeJ.out.zG.below) ?_
   refine yZ 6 rfl (λK hK=> ?_)
   go_simp
   refine(xM.out zv4 g _ 3 3 rfl zeJ.out.zG (by omega) (by omega) (by omega)).mono ?_
   rintro en znU ⟨r2,hr2,rfl,hmk,hsi⟩
   have zeK:=qh (zeJ.out.pick hmk hsi)
   clear hmk hsi
   refine hK.out _ _ zeK.out.zG.below (λ_=> ?_)
   obtain⟨dm,kG⟩:∃n:Nat,(2:Int)+(r2:Int)=(n:Int):=⟨2+r2,by omega⟩
   have zaB:2<=dm:=by omega
   have zaC:dm<=4:=by omega
   have kH:=wrapN dm (by omega)
   have zdm:(0:Int)<=(dm:Int):=by omega
   skip
   clear hK K
   refine xw 7 xG (zeK.out.zG.below) ?_
   refine xw 8 xG (zeK.out.zG.below) ?_
   refine yZ 10 rfl (λK hK=> ?_)
   obtain⟨hp, -, -, -⟩:=zeK.out.prog gp rfl
   have q0:znU.cell? ⟨gp,0,none⟩=some (.slice none 0 0):=za hp 0
   have f0:=zF hp 0
   have q1:znU.cell? ⟨gp,1,none⟩=some (.int .i64 0):=za hp 1
   have f1:=zF hp 1
   have q2:znU.cell? ⟨gp,2,none⟩=some (.slice none 0 0):=za hp 2
   have f2:=zF hp 2
   clear hp
   go_simp
   have hend:=zeK.out.done (n:=n) (dm:=dm) (by omega)
   have zS:=qh hend
   refine hK.out _ _ (by obtain⟨a',hm, -⟩:=hend.2;exact hm.below) (λ_=> ?_)
   clear hend q0 q1 q2 f0 f1 f2
   clear hK K
   refine vE ?_
   clear hn kG wn kH
   go_wp2_with fail
   go_meet
   case rel=>exact⟨gv,gp,n,dm,rfl,by omega,by omega,by omega,by omega,zS.out.1,zS.out.2⟩
  skip
  go_simp
  refine(xM.out znT g _ 3 3 rfl zat.out.zG (by omega) (by omega) (by omega)).mono ?_
  rintro en znV ⟨r1,hr1,rfl,hmk,hsi⟩
  have zeL:=qh (zat.out.pick hmk hsi)
  clear hmk hsi
  refine hK.out _ _ zeL.out.zG.below (λ_=> ?_)
  obtain⟨n,hn⟩:∃n:Nat,(1:Int)+(r1:Int)=(n:Int):=⟨1+r1,by omega⟩
  have bn1:1<=n:=by omega
  have bn2:n<=3:=by omega
  have wn:=wrapN n (by omega)
  have zn:(0:Int)<=(n:Int):=by omega
  have yn:(n:Int)<=3:=by omega
  clear hK K
  refine xw 3 xG (zeL.out.zG.below) ?_
  refine wpAnyH_ready (rs:= [0,6]) (by kernel_rfl) (by simp) ?_
  refine AllReadyH.cons rfl (λK hK=> ?_) (AllReadyH.cons rfl (λK hK=> ?_) AllReadyH.nil)
  ·skip
   go_simp
   have bN:=zeL.out.names
   unfold vZ at bN
   refine hK.out _ _ bN.zG.below (λ_=> ?_)
   obtain⟨gv,hgv⟩:∃n,n=znV.heap.size:=⟨_,rfl⟩
   rw [<-hgv] at bN ⊢
   clear hgv
   generalize World.alloc znV _=zv5 at bN ⊢
   replace bN:=qh bN
   clear hK K
   refine xw 4 xG (bN.out.zG.below) ?_
   refine yZ 6 rfl (λK hK=> ?_)
   go_simp
   refine(xM.out zv5 g _ 3 3 rfl bN.out.zG (by omega) (by omega) (by omega)).mono ?_
   rintro en znW ⟨r2,hr2,rfl,hmk,hsi⟩
   have zeM:=qh (bN.out.pick hmk hsi)
   clear hmk hsi
   refine hK.out _ _ zeM.out.zG.below (λ_=> ?_)
   obtain⟨dm,kG⟩:∃n:Nat,(2:Int)+(r2:Int)=(n:Int):=⟨2+r2,by omega⟩
   have zaB:2<=dm:=by omega
   have zaC:dm<=4:=by omega
   have kH:=wrapN dm (by omega)
   have zdm:(0:Int)<=(dm:Int):=by omega
   skip
   clear hK K
   refine xw 7 xG (zeM.out.zG.below) ?_
   refine xw 8 xG (zeM.out.zG.below) ?_
   refine yZ 10 rfl (λK hK=> ?_)
   obtain⟨hp, -, -, -⟩:=zeM.out.prog gp rfl
   have q0:znW.cell? ⟨gp,0,none⟩=some (.slice none 0 0):=za hp 0
   have f0:=zF hp 0
   have q1:znW.cell? ⟨gp,1,none⟩=some (.int .i64 0):=za hp 1
   have f1:=zF hp 1
   have q2:znW.cell? ⟨gp,2,none⟩=some (.slice none 0 0):=za hp 2
   have f2:=zF hp 2
   clear hp
   go_simp
   have hend:=zeM.out.done (n:=n) (dm:=dm) (by omega)
   have zS:=qh hend
   refine hK.out _ _ (by obtain⟨a',hm, -⟩:=hend.2;exact hm.below) (λ_=> ?_)
   clear hend q0 q1 q2 f0 f1 f2
   clear hK K
   refine vE ?_
   clear hn kG wn kH
   go_wp2_with fail
   go_meet
   case rel=>exact⟨gv,gp,n,dm,rfl,by omega,by omega,by omega,by omega,zS.out.1,zS.out.2⟩
  skip
  go_simp
  refine(xM.out znV g _ 3 3 rfl zeL.out.zG (by omega) (by omega) (by omega)).mono ?_
  rintro en zrE ⟨r2,hr2,rfl,hmk,hsi⟩
  have zkn:=qh (zeL.out.pick hmk hsi)
  clear hmk hsi
  refine hK.out _ _ zkn.out.zG.below (λ_=> ?_)
  obtain⟨dm,kG⟩:∃n:Nat,(2:Int)+(r2:Int)=(n:Int):=⟨2+r2,by omega⟩
  have zaB:2<=dm:=by omega
  have zaC:dm<=4:=by omega
  have kH:=wrapN dm (by omega)
  have zdm:(0:Int)<=(dm:Int):=by omega
  skip
  clear hK K
  refine xw 7 xG (zkn.out.zG.below) ?_
  refine yZ 0 rfl (λK hK=> ?_)
  go_simp
  have uN:=zkn.out.names
  unfold vZ at uN
  refine hK.out _ _ uN.zG.below (λ_=> ?_)
  obtain⟨gv,hgv⟩:∃n,n=zrE.heap.size:=⟨_,rfl⟩
  rw [<-hgv] at uN ⊢
  clear hgv
  generalize World.alloc zrE _=znX at uN ⊢
  replace uN:=qh uN
  clear hK K
  refine xw 4 xG (uN.out.zG.below) ?_
  refine xw 8 xG (uN.out.zG.below) ?_
  refine yZ 10 rfl (λK hK=> ?_)
  obtain⟨hp, -, -, -⟩:=uN.out.prog gp rfl
  have q0:znX.cell? ⟨gp,0,none⟩=some (.slice none 0 0):=za hp 0
  have f0:=zF hp 0
  have q1:znX.cell? ⟨gp,1,none⟩=some (.int .i64 0):=za hp 1
  have f1:=zF hp 1
  have q2:znX.cell? ⟨gp,2,none⟩=some (.slice none 0 0):=za hp 2
  have f2:=zF hp 2
  clear hp
  go_simp
  have hend:=uN.out.done (n:=n) (dm:=dm) (by omega)
  have zS:=qh hend
  refine hK.out _ _ (by obtain⟨a',hm, -⟩:=hend.2;exact hm.below) (λ_=> ?_)
  clear hend q0 q1 q2 f0 f1 f2
  clear hK K
  refine vE ?_
  clear hn kG wn kH
  go_wp2_with fail
  go_meet
  case rel=>exact⟨gv,gp,n,dm,rfl,by omega,by omega,by omega,by omega,zS.out.1,zS.out.2⟩
 case rest=>
 obtain⟨gv,gp,n,dm,rfl,hn1,hn3,hd2,hd4,HL,HMA⟩:=hcut
 clear HR
 obtain⟨X,rfl⟩:∃x:World,x=wc:=⟨_,rfl⟩
 obtain⟨a0,zrF,ha0⟩:=HMA.out
 have zrG:=qh zrF
 clear zrF
 go_upto_region 4 with(go_at_call 56;go_must(refine(xM.out X g _ 3 3 rfl zrG.out (by omega) (by omega) (by omega)).mono ?_);rintro en X2 ⟨r3,hr3,rfl,hmk,hsi⟩;(have HL2:=qh (HL.out.picked hsi hmk (by omega)));clear hmk hsi HL zrG)
 obtain⟨m,hm⟩:∃m:Nat,(1:Int)+(r3:Int)=(m:Int):=⟨1+r3,by omega⟩
 have hm1:1<=m:=by omega
 have kQ:m<=3:=by omega
 rw [hm]
 clear hm hr3
 go_loopg [7] m (λgg s7 wr=>∃(j k:Nat) (oa:Option Addr) (oc:Nat) (T:List (List zq)) (css:List (List Value)),s7= .int .i64 k/\Hid (j+k=m)/\Hid (gg=k)/\Hid (vQ w wr g gv gp gr (.slice sa ln sc) n dm j (.slice oa j oc) T css))
 case atStart=>exact⟨0,m,none,0, [], [],rfl,by rw [Hid];omega,rfl,HL2.out⟩
 case round=>
 obtain⟨j,k',oa,oc,T,css,rfl,HJK,HG,HL⟩:=hrel
 clear HL2
 have hj3:j<=3:=by have:=HJK.out;omega
 have hk3:k'<=3:=by have:=HJK.out;omega
 by_cases hk0:0<k'
 rotate_left
 ·obtain rfl:k'=0:=by omega
  have hj1:j=m:=by have:=HJK.out;omega
  obtain⟨hend,hset⟩:=zkh HL.out hn1 hn3 hd2 (by omega) (by omega) hj3
  have zS:=qh hend
  have jM:=qh hset
  clear hend hset hj1
  have c0:wr.cell? ⟨gp,0,none⟩=some (.slice (some ⟨gv,0,none⟩) n 3):=za HL.out.box 0
  have c1:wr.cell? ⟨gp,1,none⟩=some (.int .i64 dm):=za HL.out.box 1
  have c2:wr.cell? ⟨gp,2,none⟩=some (.slice oa j oc):=za HL.out.box 2
  have z0:wr.cell? ⟨gr,0,none⟩=some (.slice none 0 0):=za HL.out.res 0
  have z1:wr.cell? ⟨gr,1,none⟩=some (.int .i64 0):=za HL.out.res 1
  have z2:wr.cell? ⟨gr,2,none⟩=some (.slice none 0 0):=za HL.out.res 2
  have f0:=zF HL.out.res 0
  have f1:=zF HL.out.res 1
  have f2:=zF HL.out.res 2
  go_wp2_with fail
  refine bodyPost_ret (yB rfl _ _ gr 93 _ (0,0) _ rfl jM.out Tryz.underlying93 rfl zh3) rfl ?_
  exact zS.out
 obtain⟨k,rfl⟩:∃k,k'=k+1:=⟨k' - 1,by omega⟩
 have hkI:(0:Int)<(k:Int)+1:=by omega
 have CC:Hid (∀x,Since (λy=>(Value.slice oa j oc).ownBlock=some y\/y=g) wr x->x.cell? ⟨gp,0,none⟩=some (.slice (some ⟨gv,0,none⟩) n 3)/\x.cell? ⟨gp,1,none⟩=some (.int .i64 dm)/\x.cell? ⟨gp,2,none⟩=some (.slice oa j oc)):=λx hx=>by
  have h:=(hx.block _ (zB HL.out.box) (λe=>by rcases e with e|e;exact(HL.out.own_ne _ e).2.1 rfl;have:=HL.out.lo;omega)).trans HL.out.box
  exact⟨za h 0,za h 1,za h 2⟩
 go_upto_region 6 with fail
 refine wp_region_noPanic ?_
 refine xD (n0:=15) (S:=λx=>Since (λy=>(Value.slice oa j oc).ownBlock=some y\/y=g) wr x) (by kernel_rfl) (Since.drew _ (Since.refl _ wr)) (λ_=> ?_)
 obtain⟨V1,hV1⟩:∃V1,V1=wr.drew:=⟨_,rfl⟩
 have hT0:Hid (Since (λy=>(Value.slice oa j oc).ownBlock=some y\/y=g) wr V1):=by rw [hV1];exact Since.drew _ (Since.refl _ wr)
 have hl2:vQ w V1 g gv gp gr (.slice sa ln sc) n dm j (.slice oa j oc) T css:=by rw [hV1];exact HL.out.drew
 rw [<-hV1]
 clear hV1
 have HL2:=qh hl2
 have zbz:=hl2.row.row
 rw [hl2.len] at zbz
 have zpJ:=qh zbz
 have HOWN:Hid (∀k,(Value.slice oa j oc).ownBlock=some k->k≠g):=λk hk=>(hl2.own_ne k hk).1
 obtain⟨a1,hmk,ha1⟩:=hl2.zG
 have qM:=qh hmk.below.size
 have bY:=qh (And.intro hmk ha1)
 clear hl2 zbz hmk ha1
 refine yC 0 (λ_=>hT0.out) ?_
 refine wZ [13,14,15] 1 CC.out (hT0.out) ?_
 refine yC 2 (λ_=>hT0.out) ?_
 refine yC 3 (λ_=>hT0.out) ?_
 refine yC 5 (λ_=>hT0.out) ?_
 refine wZ [7,11,12,13,14,15] 6 CC.out (hT0.out) ?_
 refine yC 7 (λ_=>hT0.out) ?_
 refine yC 8 (λ_=>hT0.out) ?_
 refine wZ [11,12,13,14,15] 9 CC.out (hT0.out) ?_
 refine yC 10 (λ_=>hT0.out) ?_
 refine gy 4 rfl (λK hK=> ?_)
 go_simp
 refine(xM.out V1 g _ 5 5 rfl bY.out.1 (by omega) (by omega) (by have h5:=bY.out.2;omega)).mono ?_
 rintro en V2 ⟨r5,hr5,rfl,hmk,hsi⟩
 have zrI:=qh hmk
 have znY:=qh hsi
 have hT1:=qh (hT0.out.trans hsi (λy hy=> .inl (.inr hy)))
 clear hmk hsi
 refine hK.out _ _ (λ_ _=>hT1.out) ?_
 clear hK K
 refine gy 11 rfl (λK hK=> ?_)
 go_simp
 refine(zt4.out g n dm (by omega) (by omega) (by omega) (by omega) V2 _ r5 zrI.out (by omega) (by have h5:=bY.out.2;omega)).mono ?_
 rintro en V3 ⟨L,na,nc,a2,rfl,hok,haw,hmk,ha2,hsi⟩
 have zrJ:=qh hmk
 have znZ:=qh (And.intro hok haw)
 have zko:=qh (znY.out.trans hsi (λ_ h=> .inl h))
 have HSZ:=qh hsi.size
 have hT2:=qh (hT1.out.trans hsi (λy hy=> .inl (.inr hy)))
 have hrow:=zko.out.row zpJ.out (λk hk e=>(HOWN.out k hk) e)
 have zeN:=qh hrow
 clear hmk hsi hok haw hrow
 refine hK.out _ _ (λ_ _=>hT2.out) ?_
 clear hK K
 refine gy 12 rfl (λK hK=> ?_)
 go_simp
 have hT3:=qh (hT2.out.alloc (.cells #[.slice na L.length nc] 124))
 refine hK.out _ _ (λ_ _=>hT3.out) ?_
 clear hK K
 refine gy 13 rfl (λK hK=> ?_)
 refine vY (V3.alloc (.cells #[.slice na L.length nc] 124)) (by rfl) (.tmp 28) (.tmp 39) 91 rfl 124 (.slice none 0 0) 1 24 Tryz.underlying91 zki rfl (by decide) w.heap.size (.slice oa j oc) j (css.flatten) (by rfl) (zeN.out.alloc _) ⟨V3.heap.size,0,none⟩ 1 1 [.slice na L.length nc] (by rfl) rfl (wC V3 _ _) (by simp [Value.oneCell']) (by unfold maxLen;omega) (by omega) (by have h5:=qM.out;have h6:=zko.out.size;simp;omega) ?_
 intro xa xc V4 e1 e2 e3 e4 e5
 have hT4:=qh (hT3.out.trans e4 (λy hy=> .inl (.inl hy)))
 have hp:=HL2.out.push zko.out zrJ.out (by have:=bY.out.2;omega) znZ.out.1 rfl (znZ.out.2.step (Since.refl (λ_=>False) V3) (λ_ h=>h.elim) (λk hk=> .inl (by have h5:=znY.out.size;omega))) e1 e4 e5
 have HP:=qh hp
 clear e1 e2 e3 e4 e5 hp
 refine hK.out _ _ (λ_ _=>hT4.out) ?_
 clear hK K
 change yU _ _ _ _ _ _ _ _ (Act.put _ (some 40) _) _
 simp only [Act.put,qz1,qz2,qz3]
 refine yC 14 (λ_=>hT4.out) ?_
 refine gy 15 rfl (λK hK=> ?_)
 have q2:V4.cell? ⟨gp,2,none⟩=some (.slice oa j oc):=za HP.out.1 2
 have f2:=zF HP.out.1 2
 go_simp
 refine hK.out _ _ (λh=>absurd rfl h) ?_
 clear q2 f2
 have hT5:=hT4
 clear hK K
 refine qI (by kernel_rfl) ?_ _
 refine NoPanic.normal ?_
 have HP2:=qh HP.out.2
 clear HP zrI zrJ znZ znY zko zeN zpJ HOWN CC
 go_wp2_with fail
 go_roundg k
 case measure=>rw [HG.out];omega
 case rel=>exact⟨j+1,k,xa,xc,_,_,(by first|rfl|simp),by have:=HJK.out;rw [Hid];omega,rfl,HP2.out⟩
