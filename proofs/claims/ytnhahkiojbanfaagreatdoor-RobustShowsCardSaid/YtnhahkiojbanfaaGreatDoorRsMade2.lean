/- Steps. -/
import Derived.Test.YtnhahkiojbanfaaGreatDoorRsMakerL
import Derived.Test.YtnhahkiojbanfaaGreatDoorRsTail
set_option linter.all false
namespace Go.Proofs.YtnhahkiojbanfaaGreatDoor
open Go.RowKit
set_option maxRecDepth 100000
set_option maxHeartbeats 16000000
theorem ztC (W0:World) (g:Nat) (lv:Value) (l:List Int) (hn:jG W0 .u8 lv l) (kv:Value) (ks:List Int) (hks:qm W0 kv ks) (hk1:1<=ks.length) (hk2:ks.length<=100) (hk3:∀k∈ks,1<=k/\k<=11) (vars dom:Nat) (hv1:1<=vars) (hv2:vars<=10) (hd1:2<=dom) (hd2:dom<=16) (d:Nat) (hd:d<=10):
  zhe W0 g lv kv vars dom d:=by
 obtain⟨ka,kc,hkv, -⟩:=zh.slice hks
 induction d with
 |zero=>exact zkZ W0 g lv kv vars dom 0 (zla W0 g lv l hn kv ks hks hk1 hk2 hk3 vars dom hv1 hv2 hd1 hd2 0 (by omega) (λh=>by omega)) ka _ kc hkv
 |succ d ih=>exact zkZ W0 g lv kv vars dom (d+1) (zla W0 g lv l hn kv ks hks hk1 hk2 hk3 vars dom hv1 hv2 hd1 hd2 (d+1) hd (λ_=>ih (by omega))) ka _ kc hkv
def zfk:List Int:= [1,2,1,2,3,4,5,6,7,8,9,10,11]
theorem zqX (w:World):Calls Tryz.prog 18 #[] w λe w'=>(∃kv,e= .returned kv/\qm w' kv zfk)/\Below w.heap.size w w':=by
 have hb:=(Below.refl w.heap.size w).alloc (Nat.le_refl _) (.cells #[.int .i64 1, .int .i64 2, .int .i64 1, .int .i64 2, .int .i64 3, .int .i64 4, .int .i64 5, .int .i64 6, .int .i64 7, .int .i64 8, .int .i64 9, .int .i64 10, .int .i64 11] 3)
 have hg:=yj w (.cells #[.int .i64 1, .int .i64 2, .int .i64 1, .int .i64 2, .int .i64 3, .int .i64 4, .int .i64 5, .int .i64 6, .int .i64 7, .int .i64 8, .int .i64 9, .int .i64 10, .int .i64 11] 3)
 have hr:=gN (w:=w.alloc (.cells #[.int .i64 1, .int .i64 2, .int .i64 1, .int .i64 2, .int .i64 3, .int .i64 4, .int .i64 5, .int .i64 6, .int .i64 7, .int .i64 8, .int .i64 9, .int .i64 10, .int .i64 11] 3)) (l:=zfk) (B:=0) (sv:= .slice (some ⟨w.heap.size,0,none⟩) 13 13) (gM (n:=13) (cs:=zo yM zfk) hg (Nat.zero_le _) rfl (by decide))
 have HB:=qh hb
 have HR:=qh hr
 clear hb hg hr
 go_enter Tryz.func18,Tryz.ntmps18
 go_wp2_with fail
 go_ret
 exact⟨⟨_,rfl,HR.out⟩,HB.out⟩
def wT:List Value:= [.string ⟨#[120]⟩, .string ⟨#[121]⟩, .string ⟨#[122]⟩]
theorem ztD {X:World} {gv n:Nat} (h:X.heap[gv]? =some (.cells wT.toArray 9 (0,0))) (hn:n<=3):zd5 X (.slice (some ⟨gv,0,none⟩) n 3) (xyz.take n):=by
 have hl:(xyz.take n).length=n:=by rw [List.length_take];simp [xyz];omega
 refine⟨_,3,by rw [hl],by rw [hl];omega,λj hj=> ?_⟩
 rw [hl] at hj
 have e:(xyz.take n).getD j default=xyz.getD j default:=by simp only [List.getD_eq_getElem?_getD,List.getElem?_take_of_lt hj]
 have hj3:j=0\/j=1\/j=2:=by omega
 rw [e]
 rcases hj3 with rfl|rfl|rfl
 ·refine⟨gv,0, [.string ⟨#[120]⟩],rfl,zw h,rfl,λi hi=> ?_,rfl⟩
  obtain rfl:i=0:=by omega
  rw [ze h];rfl
 ·refine⟨gv,0, [.string ⟨#[121]⟩],rfl,zw h,rfl,λi hi=> ?_,rfl⟩
  obtain rfl:i=0:=by omega
  rw [ze h];rfl
 refine⟨gv,0, [.string ⟨#[122]⟩],rfl,zw h,rfl,λi hi=> ?_,rfl⟩
 obtain rfl:i=0:=by omega
 rw [ze h];rfl
def PF (va:Value) (g gp gr:Nat) (k:Nat):Prop:=va.ownBlock=some k\/k=g\/k=gp\/k=gr
structure wH (w X:World) (g gv gp gr:Nat) (sv:Value) (n dm i:Nat) (va:Value) (T:List (List zN)) (css:List (List Value)):Prop where
 yu:∃a',vL w X g sv a'/\a'<=10+i*5000
 box:X.heap[gp]? =some (.cells #[.slice (some ⟨gv,0,none⟩) n 3, .int .i64 dm,va] 87 (0,0))
 vars:X.heap[gv]? =some (.cells wT.toArray 9 (0,0))
 res:X.heap[gr]? =some (.cells #[.slice none 0 0, .int .i64 0, .slice none 0 0] 87 (0,0))
 lo:w.heap.size<=g/\w.heap.size<=gv/\w.heap.size<=gp/\w.heap.size<=gr/\g≠gp/\g≠gr/\gp≠gr/\gv≠g/\gv≠gp/\gv≠gr
 len:T.length=i
 ok:∀l∈T,xB n dm l 20=true/\yI l<=52
 row:yV (PF va g gp gr) X (zjl 3 4) 1 w.heap.size 115 va T css
section
variable {w X Y:World} {g gv gp gr:Nat} {sv:Value} {n dm i:Nat} {va:Value} {T:List (List zN)} {css:List (List Value)}
theorem wH.own_ne (h:wH w X g gv gp gr sv n dm i va T css):∀k,va.ownBlock=some k->k≠g/\k≠gp/\k≠gr/\k≠gv:=λk hk=>by
 obtain⟨a',hm, -⟩:=h.yu
 exact⟨λe=>by subst e;exact uD h.row.row hk hm.box (by decide),λe=>by subst e;exact uD h.row.row hk h.box (by decide),λe=>by subst e;exact uD h.row.row hk h.res (by decide),λe=>by subst e;exact uD h.row.row hk h.vars (by decide)⟩
theorem wH.lt (h:wH w X g gv gp gr sv n dm i va T css):∀k,PF va g gp gr k->k<X.heap.size:=λk hk=>by
 obtain⟨a',hm, -⟩:=h.yu
 rcases hk with hk|rfl|rfl|rfl
 ·exact(h.row.row.lt k hk).2
 ·exact zw hm.box
 ·exact zw h.box
 exact zw h.res
theorem wH.push {xc ln rc a1 oc:Nat} {Z:World} {oa ra xa:Option Addr} {l:List zN} {o:Obj} (h:wH w X g gv gp gr sv n dm i (.slice oa i oc) T css) (hs:Since (λk=>k=g) X Y) (hm:vL w Y g sv a1) (ha:a1<=10+i*5000+5000) (hok:xB n dm l 20=true/\yI l<=52) (hlen:l.length=ln)
  (haw:zW (λk=>k<X.heap.size) Y (λy=>yF 3 4 y l (.slice ra ln rc))) (h1:Z.ownsRow w.heap.size 115 1 (.slice xa (i+1) xc) (i+1) (css.flatten++ [.slice ra ln rc])) (h4:Since (λk=>(Value.slice oa i oc).ownBlock=some k) (Y.alloc o) Z) (h5:∀k,(Value.slice xa (i+1) xc).ownBlock=some k->(Value.slice oa i oc).ownBlock=some k\/k=(Y.alloc o).heap.size):
  Z.heap[gp]? =some (.cells #[.slice (some ⟨gv,0,none⟩) n 3, .int .i64 dm, .slice oa i oc] 87 (0,0))/\wH w (Z.setCell ⟨gp,2,none⟩ (.slice xa (i+1) xc)) g gv gp gr sv n dm (i+1) (.slice xa (i+1) xc) (T++ [l]) (css++ [[.slice ra ln rc]]):=by
 have hlo:=h.lo
 have hne:=h.own_ne
 have hlt:=h.lt
 have s1:Since (λk=>(Value.slice oa i oc).ownBlock=some k) Y Z:=((Since.refl _ Y).alloc o).trans h4 (λk hk=> .inl hk)
 have s2:Since (λk=>k=gp) Z (Z.setCell ⟨gp,2,none⟩ (.slice xa (i+1) xc)):=Since.setCell (F:=λk=>k=gp) (p:=⟨gp,2,none⟩) (Since.refl _ _) (.inl rfl) _
 have s3:Since (λk=>(Value.slice oa i oc).ownBlock=some k\/k=gp) Y (Z.setCell ⟨gp,2,none⟩ (.slice xa (i+1) xc)):=(s1.mono (λk _ hk=> .inl hk)).trans s2 (λk hk=> .inl (.inr hk))
 have ztE:=(hs.block _ (zw h.box) (by omega)).trans h.box
 have zwt:=(hs.block _ (zw h.vars) (by omega)).trans h.vars
 have zy4:=(hs.block _ (zw h.res) (by omega)).trans h.res
 have bG:=(s1.block _ (zw ztE) (λe=>(hne _ e).2.1 rfl)).trans ztE
 have hvars:=(s1.block _ (zw zwt) (λe=>(hne _ e).2.2.2 rfl)).trans zwt
 have hres:=(s1.block _ (zw zy4) (λe=>(hne _ e).2.2.1 rfl)).trans zy4
 have hnew:∀k,(Value.slice xa (i+1) xc).ownBlock=some k->k≠gp:=λk hk e=>by
  rcases h5 k hk with h1|h1
  ·exact(hne k h1).2.1 e
  have:=zw ztE;simp at h1;omega
 refine⟨bG,⟨⟨a1,hm.since s3 (λk hk=> ?_),by omega⟩, ?_,(s2.block _ (zw hvars) (by omega)).trans hvars,(s2.block _ (zw hres) (by omega)).trans hres,hlo,by simp [h.len],λy hy=> ?_, ?_⟩⟩
 ·rcases hk with hk|hk
  ·have:=(h.row.row.lt k hk).1;have:=(hne k hk).1;omega
  omega
 ·have:=zu bG 2 (.slice xa (i+1) xc);simpa using this
 ·rcases List.mem_append.1 hy with hy|hy
  ·exact h.ok y hy
  rw [List.mem_singleton] at hy;subst hy;exact hok
 have hrow:=h.row.step (F':=PF (.slice oa i oc) g gp gr) hs (λk hk e=>(hne k hk).1 e) (λk hk=> .inl (.inr (.inl hk))) (λk hk=> .inl hk)
 refine hrow.push s3 (λk hk=> ?_) (λk hk=> ?_) (λy hy=>⟨_,rfl,haw y (hy.mono (λk _ hk=>hlt k hk))⟩) rfl ?_
 ·rcases hk with hk|hk
  ·exact .inl (.inl hk)
  exact .inl (.inr (.inr (.inl hk)))
 ·rcases hk with hk|hk|hk|hk
  ·rcases h5 k hk with h1|h1
   ·exact .inl (.inl h1)
   exact .inr (by simp at h1;omega)
  ·exact .inl (.inr (.inl hk))
  ·exact .inl (.inr (.inr (.inl hk)))
  exact .inl (.inr (.inr (.inr hk)))
 rw [h.len];exact s2.row h1 hnew
end
def znW (w:World) (en:Ending) (w':World):Prop:=(∃p vv tv,en= .returned (zga p vv tv)/\zgb p/\zd6 3 4 w' p vv tv)/\Below w.heap.size w w'
theorem zy5 {T:List (List zN)} (h:∀l∈T,yI l<=52):(T.map yI).sum<=T.length*52:=by
 induction T with
 |nil=>simp
 |cons l T ih=>
 have h1:=h l (by simp)
 have h2:=ih (λx hx=>h x (by simp [hx]))
 simp only [List.map_cons,List.sum_cons,List.length_cons];omega
theorem zoY {w X:World} {g gv gp gr:Nat} {sv:Value} {n dm i oc:Nat} {oa:Option Addr} {T:List (List zN)} {css:List (List Value)} (h:wH w X g gv gp gr sv n dm i (.slice oa i oc) T css) (hn1:1<=n) (hn3:n<=3) (hd1:2<=dm) (hd2:dm<=16) (hi1:1<=i) (hi3:i<=3):
  znW w (.returned (.agg #[.slice (some ⟨gv,0,none⟩) n 3, .int .i64 dm, .slice oa i oc])) (yx X gr 0 [.slice (some ⟨gv,0,none⟩) n 3, .int .i64 dm, .slice oa i oc])/\
  (yx X gr 0 [.slice (some ⟨gv,0,none⟩) n 3, .int .i64 dm, .slice oa i oc]).heap[gr]? =some (.cells #[.slice (some ⟨gv,0,none⟩) n 3, .int .i64 dm, .slice oa i oc] 87 (0,0)):=by
 have hlo:=h.lo
 have s:=xR (g:=gr) [.slice (some ⟨gv,0,none⟩) n 3, .int .i64 dm, .slice oa i oc] X 0
 have hvl:(xyz.take n).length=n:=by rw [List.length_take];simp [xyz];omega
 obtain⟨a',hm, -⟩:=h.yu
 have hl:=h.len
 refine⟨⟨⟨⟨xyz.take n,dm,T⟩, .slice (some ⟨gv,0,none⟩) n 3, .slice oa i oc,rfl,⟨⟨n,hn1,hn3,rfl⟩,⟨by show(2:Int)<=(dm:Int);omega,by show(dm:Int)<=16;omega⟩,⟨by show 1<=T.length;omega,by show T.length<=3;omega⟩,λl hl=> ?_, ?_⟩,⟨?_, ?_⟩⟩,hm.below.trans (s.below hm.below.size (λk hk=>by omega))⟩, ?_⟩
 ·show xB ((xyz.take n).length:Nat) dm l 20=true
  rw [hvl];exact(h.ok l hl).1
 ·have:=zy5 (λl hl=>(h.ok l hl).2)
  show(T.map yI).sum<=200
  omega
 ·exact ztD ((s.block _ (zw h.vars) (by omega)).trans h.vars) hn3
 ·exact(h.row.step (F':=λ_=>False) s (λk hk e=>(h.own_ne k hk).2.2.1 e) (λk hk=> .inl (.inr (.inr (.inr hk)))) (λ_ h=>h.elim)).slice
 exact vw (cs:= [.slice none 0 0, .int .i64 0, .slice none 0 0]) _ rfl h.res
end Go.Proofs.YtnhahkiojbanfaaGreatDoor
namespace Go.Proofs.YtnhahkiojbanfaaGreatDoor
open Go.RowKit
set_option maxRecDepth 100000
set_option maxHeartbeats 16000000
structure R2 (w X:World) (g gr:Nat) (sv:Value) (a:Nat) (mv mp:Option Nat):Prop where
 yu:vL w X g sv a
 res:X.heap[gr]? =some (.cells #[.slice none 0 0, .int .i64 0, .slice none 0 0] 87 (0,0))
 lo:w.heap.size<=gr/\g≠gr
 vars:∀b,mv=some b->X.heap[b]? =some (.cells wT.toArray 9 (0,0))/\w.heap.size<=b/\b≠g/\b≠gr
 prog:∀b,mp=some b->X.heap[b]? =some (.cells #[.slice none 0 0, .int .i64 0, .slice none 0 0] 87 (0,0))/\w.heap.size<=b/\b≠g/\b≠gr
 ne:∀b c,mv=some b->mp=some c->b≠c
section
variable {w X Y:World} {g gr a b:Nat} {sv:Value} {mv mp:Option Nat}
theorem R2.pick (h:R2 w X g gr sv a mv mp) (hm:vL w Y g sv b) (hs:Since (λk=>k=g) X Y):R2 w Y g gr sv b mv mp:=
 ⟨hm,(hs.block _ (zw h.res) (λe=>h.lo.2 e.symm)).trans h.res,h.lo,λc hc=>⟨(hs.block _ (zw (h.vars c hc).1) (h.vars c hc).2.2.1).trans (h.vars c hc).1,(h.vars c hc).2⟩,λc hc=>⟨(hs.block _ (zw (h.prog c hc).1) (h.prog c hc).2.2.1).trans (h.prog c hc).1,(h.prog c hc).2⟩,h.ne⟩
theorem R2.names (h:R2 w X g gr sv a none mp):R2 w (X.alloc (.cells wT.toArray 9)) g gr sv a (some X.heap.size) mp:=by
 have hb:=(Below.refl X.heap.size X).alloc (Nat.le_refl _) (.cells wT.toArray 9)
 have h1:=h.yu.below.size
 have h2:=zw h.yu.box
 have h3:=zw h.res
 refine⟨h.yu.later hb,(hb.block _ h3).trans h.res,h.lo,λc hc=> ?_,λc hc=>⟨(hb.block _ (zw (h.prog c hc).1)).trans (h.prog c hc).1,(h.prog c hc).2⟩,λc e hc he=> ?_⟩
 ·cases hc;exact⟨yj X _,h1,by omega,by omega⟩
 cases hc;have:=zw (h.prog e he).1;omega
theorem R2.box (h:R2 w X g gr sv a mv none):R2 w (X.alloc (.cells #[.slice none 0 0, .int .i64 0, .slice none 0 0] 87)) g gr sv a mv (some X.heap.size):=by
 have hb:=(Below.refl X.heap.size X).alloc (Nat.le_refl _) (.cells #[.slice none 0 0, .int .i64 0, .slice none 0 0] 87)
 have h1:=h.yu.below.size
 have h2:=zw h.yu.box
 have h3:=zw h.res
 refine⟨h.yu.later hb,(hb.block _ h3).trans h.res,h.lo,λc hc=>⟨(hb.block _ (zw (h.vars c hc).1)).trans (h.vars c hc).1,(h.vars c hc).2⟩,λc hc=> ?_,λc e hc he=> ?_⟩
 ·cases hc;exact⟨yj X _,h1,by omega,by omega⟩
 cases he;have:=zw (h.vars c hc).1;omega
theorem R2.done {gv gp n dm:Nat} (h:R2 w X g gr sv a (some gv) (some gp)) (ha:a<=9):wH w (yx X gp 0 [.slice (some ⟨gv,0,none⟩) n 3, .int .i64 dm, .slice none 0 0]) g gv gp gr sv n dm 0 (.slice none 0 0) [] [] /\∃a,vL w (yx X gp 0 [.slice (some ⟨gv,0,none⟩) n 3, .int .i64 dm, .slice none 0 0]) g sv a/\a<=9:=by
 obtain⟨v1,v2,v3,v4⟩:=h.vars gv rfl
 obtain⟨p1,p2,p3,p4⟩:=h.prog gp rfl
 have hne:=h.ne gv gp rfl rfl
 have hlo:=h.lo
 have hg:=h.yu.lo
 have s:=xR (g:=gp) [.slice (some ⟨gv,0,none⟩) n 3, .int .i64 dm, .slice none 0 0] X 0
 exact⟨⟨⟨a,h.yu.since s (λk hk=>by omega),by omega⟩,vw (cs:= [.slice none 0 0, .int .i64 0, .slice none 0 0]) _ rfl p1,(s.block _ (zw v1) hne).trans v1,(s.block _ (zw h.res) (by omega)).trans h.res,⟨hg,v2,p2,hlo.1,by omega,by omega,by omega,by omega,by omega,by omega⟩,rfl,λl hl=>by simp at hl,yV.nil _ _ _ _ _ _⟩,a,h.yu.since s (λk hk=>by omega),ha⟩
end
theorem wH.picked {w X Y:World} {g gv gp gr n dm i b:Nat} {sv va:Value} {T:List (List zN)} {css:List (List Value)} (h:wH w X g gv gp gr sv n dm i va T css) (hs:Since (λk=>k=g) X Y) (hm:vL w Y g sv b) (hb:b<=10+i*5000):wH w Y g gv gp gr sv n dm i va T css:=by
 have hlo:=h.lo
 exact⟨⟨b,hm,hb⟩,(hs.block _ (zw h.box) (by omega)).trans h.box,(hs.block _ (zw h.vars) (by omega)).trans h.vars,(hs.block _ (zw h.res) (by omega)).trans h.res,hlo,h.len,h.ok,h.row.step hs (λk hk e=>(h.own_ne k hk).1 e) (λk hk=> .inl (.inr (.inl hk))) (λk hk=> .inl hk)⟩
theorem wH.drew {w X:World} {g gv gp gr n dm i:Nat} {sv va:Value} {T:List (List zN)} {css:List (List Value)} (h:wH w X g gv gp gr sv n dm i va T css):wH w X.drew g gv gp gr sv n dm i va T css:=by
 obtain⟨a,hm,ha⟩:=h.yu
 exact h.picked (Since.drew _ (Since.refl _ X)) (hm.later (Below.refl _ _).drew) ha
theorem zlb:(Tryz.prog.info? 87).map (·.size)=some 3:=by kernel_rfl
theorem zoZ:(Tryz.prog.info? 115).map (λi=>(i.zero,i.size,i.bytes))=some (some (.slice none 0 0),1,24):=by kernel_rfl
theorem wrapN (n:Nat) (h:n<=100):IntKind.i64.wrap (n:Int)=(n:Int):=IntWalk.i64_in _ (by omega)
theorem zqY (w:World) (sv:Value) (l:List Int) (hn:jG w .u8 sv l) (kv:Value) (ks:List Int) (hks:qm w kv ks) (hk1:1<=ks.length) (hk2:ks.length<=100) (hk3:∀k∈ks,1<=k/\k<=11):
  Calls Tryz.prog 33 #[sv,kv] w (znW w):=by
 have hpick:=λW g a n ni hni h n1 n2 ha=>zhf w W g sv l a n ni hni h hn n1 n2 ha
 have hlist:=λg vars dom hv1 hv2 hd1 hd2=>ztC w g sv l hn kv ks hks hk1 hk2 hk3 vars dom hv1 hv2 hd1 hd2 2 (by omega)
 have zah:4*jU 2=1040:=rfl
 have z5l:4*zav 2=52:=rfl
 have zhJ:∀(g vars dom:Nat),1<=vars->vars<=10->2<=dom->dom<=16->∀(W:World) (a n:Nat),vL w W g sv a->n<=4->a<=100000->Calls Tryz.prog 56 #[.pointer (some ⟨g,0,none⟩), .int .i64 n, .int .i64 2, .int .i64 vars, .int .i64 dom,kv] W λe w'=>∃(L:List zN) (va:Option Addr) (vc a':Nat),e= .returned (.slice va L.length vc)/\(xB vars dom L 20=true/\yI L<=52)/\
   zW (λk=>k<W.heap.size) w' (λy=>yF 3 4 y L (.slice va L.length vc))/\vL w w' g sv a'/\a'<=a+1040/\Since (λk=>k=g) W w':=λg vars dom hv1 hv2 hd1 hd2 W a n hm bH ha=>by
  refine(hlist g vars dom hv1 hv2 hd1 hd2 W a n 4 n rfl hm bH (by omega) (by omega)).mono ?_
  rintro e w' ⟨L,va,vc,a',h1,h2,h3,h4,h5,h6,h7⟩
  exact⟨L,va,vc,a',h1,⟨zpa h2 (by omega),by omega⟩,h4,h5,by omega,h7⟩
 obtain⟨sa,sc,rfl, -⟩:∃a c,sv= .slice a l.length c/\True:=by obtain⟨a,c,h, -⟩:=hn;exact⟨a,c,h,trivial⟩
 obtain⟨ka,kc,rfl, -⟩:=zh.slice hks
 generalize l.length=ln at hpick zhJ ⊢
 generalize ks.length=kn at zhJ ⊢
 have vB:=qh hpick
 have z2L:=qh zhJ
 clear hpick hlist zhJ zah z5l hn hks hk1 hk2 hk3
 have hB:=((Below.refl w.heap.size w).alloc (Nat.le_refl _) (.cells #[.slice none 0 0, .int .i64 0, .slice none 0 0] 87)).alloc (by simp) (.cells #[.slice sa ln sc, .int .i64 0] 118)
 have H1:=xP w (.cells #[.slice none 0 0, .int .i64 0, .slice none 0 0] 87) (.cells #[.slice sa ln sc, .int .i64 0] 118)
 have H2:=xw w (.cells #[.slice none 0 0, .int .i64 0, .slice none 0 0] 87) (.cells #[.slice sa ln sc, .int .i64 0] 118)
 have HR:Hid (R2 w ((w.alloc (.cells #[.slice none 0 0, .int .i64 0, .slice none 0 0] 87)).alloc (.cells #[.slice sa ln sc, .int .i64 0] 118)) (w.heap.size+1) w.heap.size (.slice sa ln sc) 0 none none):=⟨⟨hB,by omega,H2⟩,H1,⟨Nat.le_refl _,by omega⟩,(λ_ h=>by cases h),(λ_ h=>by cases h),(λ_ _ h=>by cases h)⟩
 clear hB H1 H2
 go_enter Tryz.func33,Tryz.ntmps33
 go_upto_region 2 with fail
 generalize World.alloc (World.alloc w _) _=V at HR ⊢
 generalize w.heap.size+1=g at HR ⊢
 obtain⟨gr,hgr⟩:∃gr,gr=w.heap.size:=⟨_,rfl⟩
 rw [<-hgr] at HR ⊢
 have ug:=qh hgr
 clear hgr
 go_cut [6] (λs6 w'=>∃gv gp n dm:Nat,s6= .pointer (some ⟨gp,0,none⟩)/\1<=n/\n<=3/\2<=dm/\dm<=4/\Hid (wH w w' g gv gp gr (.slice sa ln sc) n dm 0 (.slice none 0 0) [] [])/\Hid (∃a,vL w w' g (.slice sa ln sc) a/\a<=9))
 case first=>
  have hT0:Hid (R2 w V.drew g w.heap.size (.slice sa ln sc) 0 none none):=by have h:=HR.out;rw [ug.out] at h;exact h.pick (h.yu.later (Below.refl _ _).drew) (Since.drew _ (Since.refl _ _))
  rw [<-ug.out] at hT0
  clear HR
  refine jf (S:=λx=>Below w.heap.size w x) hT0.out.yu.below (λ_=> ?_)
  obtain⟨V1,hV1⟩:∃V1,V1=V.drew:=⟨_,rfl⟩
  rw [<-hV1]
  rw [<-hV1] at hT0
  clear hV1
  refine zF 1 zP (hT0.out.yu.below) ?_
  refine zF 5 zP (hT0.out.yu.below) ?_
  refine wpAnyH_ready (rs:= [0,2,9]) (by kernel_rfl) (by simp) ?_
  refine AllReadyH.cons rfl (λK hK=> ?_) (AllReadyH.cons rfl (λK hK=> ?_) (AllReadyH.cons rfl (λK hK=> ?_) AllReadyH.nil))
  ·skip
   go_simp
   have zef:=hT0.out.names
   unfold wT at zef
   refine hK.out _ _ zef.yu.below (λ_=> ?_)
   obtain⟨gv,hgv⟩:∃n,n=V1.heap.size:=⟨_,rfl⟩
   rw [<-hgv] at zef ⊢
   clear hgv
   generalize World.alloc V1 _=Xp2 at zef ⊢
   replace zef:=qh zef
   clear hK K
   refine wpAnyH_ready (rs:= [2,9]) (by kernel_rfl) (by simp) ?_
   refine AllReadyH.cons rfl (λK hK=> ?_) (AllReadyH.cons rfl (λK hK=> ?_) AllReadyH.nil)
   ·skip
    go_simp
    refine(vB.out Xp2 g _ 3 3 rfl zef.out.yu (by omega) (by omega) (by omega)).mono ?_
    rintro en Xp4 ⟨r1,hr1,rfl,hmk,hsi⟩
    have zjm:=qh (zef.out.pick hmk hsi)
    clear hmk hsi
    refine hK.out _ _ zjm.out.yu.below (λ_=> ?_)
    obtain⟨n,hn⟩:∃n:Nat,(1:Int)+(r1:Int)=(n:Int):=⟨1+r1,by omega⟩
    have bn1:1<=n:=by omega
    have bn2:n<=3:=by omega
    have wn:=wrapN n (by omega)
    have zn:(0:Int)<=(n:Int):=by omega
    have yn:(n:Int)<=3:=by omega
    clear hK K
    refine zF 3 zP (zjm.out.yu.below) ?_
    refine zF 4 zP (zjm.out.yu.below) ?_
    refine wpAnyH_ready (rs:= [6,9]) (by kernel_rfl) (by simp) ?_
    refine AllReadyH.cons rfl (λK hK=> ?_) (AllReadyH.cons rfl (λK hK=> ?_) AllReadyH.nil)
    ·skip
     go_simp
     refine(vB.out Xp4 g _ 3 3 rfl zjm.out.yu (by omega) (by omega) (by omega)).mono ?_
     rintro en Xp6 ⟨r2,hr2,rfl,hmk,hsi⟩
     have zpb:=qh (zjm.out.pick hmk hsi)
     clear hmk hsi
     refine hK.out _ _ zpb.out.yu.below (λ_=> ?_)
     obtain⟨dm,pX⟩:∃n:Nat,(2:Int)+(r2:Int)=(n:Int):=⟨2+r2,by omega⟩
     have zdy:2<=dm:=by omega
     have zdz:dm<=4:=by omega
     have pY:=wrapN dm (by omega)
     have zdm:(0:Int)<=(dm:Int):=by omega
     skip
     clear hK K
     refine zF 7 zP (zpb.out.yu.below) ?_
     refine zF 8 zP (zpb.out.yu.below) ?_
     refine yC 9 rfl (λK hK=> ?_)
     go_simp
     have zhg:=zpb.out.box
     refine hK.out _ _ zhg.yu.below (λ_=> ?_)
     obtain⟨gp,uh⟩:∃n,n=Xp6.heap.size:=⟨_,rfl⟩
     rw [<-uh] at zhg ⊢
     clear uh
     generalize World.alloc Xp6 _=Xp8 at zhg ⊢
     replace zhg:=qh zhg
     clear hK K
     refine yC 10 rfl (λK hK=> ?_)
     obtain⟨hp, -, -, -⟩:=zhg.out.prog gp rfl
     have q0:Xp8.cell? ⟨gp,0,none⟩=some (.slice none 0 0):=ze hp 0
     have f0:=zA hp 0
     have q1:Xp8.cell? ⟨gp,1,none⟩=some (.int .i64 0):=ze hp 1
     have f1:=zA hp 1
     have q2:Xp8.cell? ⟨gp,2,none⟩=some (.slice none 0 0):=ze hp 2
     have f2:=zA hp 2
     clear hp
     go_simp
     have hend:=zhg.out.done (n:=n) (dm:=dm) (by omega)
     have zR:=qh hend
     refine hK.out _ _ (by obtain⟨a',hm, -⟩:=hend.2;exact hm.below) (λ_=> ?_)
     clear hend q0 q1 q2 f0 f1 f2
     clear hK K
     refine xW ?_
     clear hn pX wn pY
     go_wp2_with fail
     go_meet
     case rel=>exact⟨gv,gp,n,dm,rfl,by omega,by omega,by omega,by omega,zR.out.1,zR.out.2⟩
    skip
    go_simp
    have zhh:=zjm.out.box
    refine hK.out _ _ zhh.yu.below (λ_=> ?_)
    obtain⟨gp,uh⟩:∃n,n=Xp4.heap.size:=⟨_,rfl⟩
    rw [<-uh] at zhh ⊢
    clear uh
    generalize World.alloc Xp4 _=z5m at zhh ⊢
    replace zhh:=qh zhh
    clear hK K
    refine yC 6 rfl (λK hK=> ?_)
    go_simp
    refine(vB.out z5m g _ 3 3 rfl zhh.out.yu (by omega) (by omega) (by omega)).mono ?_
    rintro en ztF ⟨r2,hr2,rfl,hmk,hsi⟩
    have zhK:=qh (zhh.out.pick hmk hsi)
    clear hmk hsi
    refine hK.out _ _ zhK.out.yu.below (λ_=> ?_)
    obtain⟨dm,pX⟩:∃n:Nat,(2:Int)+(r2:Int)=(n:Int):=⟨2+r2,by omega⟩
    have zdy:2<=dm:=by omega
    have zdz:dm<=4:=by omega
    have pY:=wrapN dm (by omega)
    have zdm:(0:Int)<=(dm:Int):=by omega
    skip
    clear hK K
    refine zF 7 zP (zhK.out.yu.below) ?_
    refine zF 8 zP (zhK.out.yu.below) ?_
    refine yC 10 rfl (λK hK=> ?_)
    obtain⟨hp, -, -, -⟩:=zhK.out.prog gp rfl
    have q0:ztF.cell? ⟨gp,0,none⟩=some (.slice none 0 0):=ze hp 0
    have f0:=zA hp 0
    have q1:ztF.cell? ⟨gp,1,none⟩=some (.int .i64 0):=ze hp 1
    have f1:=zA hp 1
    have q2:ztF.cell? ⟨gp,2,none⟩=some (.slice none 0 0):=ze hp 2
    have f2:=zA hp 2
    clear hp
    go_simp
    have hend:=zhK.out.done (n:=n) (dm:=dm) (by omega)
    have zR:=qh hend
    refine hK.out _ _ (by obtain⟨a',hm, -⟩:=hend.2;exact hm.below) (λ_=> ?_)
    clear hend q0 q1 q2 f0 f1 f2
    clear hK K
    refine xW ?_
    clear hn pX wn pY
    go_wp2_with fail
    go_meet
    case rel=>exact⟨gv,gp,n,dm,rfl,by omega,by omega,by omega,by omega,zR.out.1,zR.out.2⟩
   skip
   go_simp
   have zeg:=zef.out.box
   refine hK.out _ _ zeg.yu.below (λ_=> ?_)
   obtain⟨gp,uh⟩:∃n,n=Xp2.heap.size:=⟨_,rfl⟩
   rw [<-uh] at zeg ⊢
   clear uh
   generalize World.alloc Xp2 _=z5n at zeg ⊢
   replace zeg:=qh zeg
   clear hK K
   refine yC 2 rfl (λK hK=> ?_)
   go_simp
   refine(vB.out z5n g _ 3 3 rfl zeg.out.yu (by omega) (by omega) (by omega)).mono ?_
   rintro en z5o ⟨r1,hr1,rfl,hmk,hsi⟩
   have zhL:=qh (zeg.out.pick hmk hsi)
   clear hmk hsi
   refine hK.out _ _ zhL.out.yu.below (λ_=> ?_)
   obtain⟨n,hn⟩:∃n:Nat,(1:Int)+(r1:Int)=(n:Int):=⟨1+r1,by omega⟩
   have bn1:1<=n:=by omega
   have bn2:n<=3:=by omega
   have wn:=wrapN n (by omega)
   have zn:(0:Int)<=(n:Int):=by omega
   have yn:(n:Int)<=3:=by omega
   clear hK K
   refine zF 3 zP (zhL.out.yu.below) ?_
   refine zF 4 zP (zhL.out.yu.below) ?_
   refine yC 6 rfl (λK hK=> ?_)
   go_simp
   refine(vB.out z5o g _ 3 3 rfl zhL.out.yu (by omega) (by omega) (by omega)).mono ?_
   rintro en ztG ⟨r2,hr2,rfl,hmk,hsi⟩
   have zhM:=qh (zhL.out.pick hmk hsi)
   clear hmk hsi
   refine hK.out _ _ zhM.out.yu.below (λ_=> ?_)
   obtain⟨dm,pX⟩:∃n:Nat,(2:Int)+(r2:Int)=(n:Int):=⟨2+r2,by omega⟩
   have zdy:2<=dm:=by omega
   have zdz:dm<=4:=by omega
   have pY:=wrapN dm (by omega)
   have zdm:(0:Int)<=(dm:Int):=by omega
   skip
   clear hK K
   refine zF 7 zP (zhM.out.yu.below) ?_
   refine zF 8 zP (zhM.out.yu.below) ?_
   refine yC 10 rfl (λK hK=> ?_)
   obtain⟨hp, -, -, -⟩:=zhM.out.prog gp rfl
   have q0:ztG.cell? ⟨gp,0,none⟩=some (.slice none 0 0):=ze hp 0
   have f0:=zA hp 0
   have q1:ztG.cell? ⟨gp,1,none⟩=some (.int .i64 0):=ze hp 1
   have f1:=zA hp 1
   have q2:ztG.cell? ⟨gp,2,none⟩=some (.slice none 0 0):=ze hp 2
   have f2:=zA hp 2
   clear hp
   go_simp
   have hend:=zhM.out.done (n:=n) (dm:=dm) (by omega)
   have zR:=qh hend
   refine hK.out _ _ (by obtain⟨a',hm, -⟩:=hend.2;exact hm.below) (λ_=> ?_)
   clear hend q0 q1 q2 f0 f1 f2
   clear hK K
   refine xW ?_
   clear hn pX wn pY
   go_wp2_with fail
   go_meet
   case rel=>exact⟨gv,gp,n,dm,rfl,by omega,by omega,by omega,by omega,zR.out.1,zR.out.2⟩
  ·skip
   go_simp
   refine(vB.out V1 g _ 3 3 rfl hT0.out.yu (by omega) (by omega) (by omega)).mono ?_
   rintro en zlc ⟨r1,hr1,rfl,hmk,hsi⟩
   have zgc:=qh (hT0.out.pick hmk hsi)
   clear hmk hsi
   refine hK.out _ _ zgc.out.yu.below (λ_=> ?_)
   obtain⟨n,hn⟩:∃n:Nat,(1:Int)+(r1:Int)=(n:Int):=⟨1+r1,by omega⟩
   have bn1:1<=n:=by omega
   have bn2:n<=3:=by omega
   have wn:=wrapN n (by omega)
   have zn:(0:Int)<=(n:Int):=by omega
   have yn:(n:Int)<=3:=by omega
   clear hK K
   refine zF 3 zP (zgc.out.yu.below) ?_
   refine wpAnyH_ready (rs:= [0,6,9]) (by kernel_rfl) (by simp) ?_
   refine AllReadyH.cons rfl (λK hK=> ?_) (AllReadyH.cons rfl (λK hK=> ?_) (AllReadyH.cons rfl (λK hK=> ?_) AllReadyH.nil))
   ·skip
    go_simp
    have zbs:=zgc.out.names
    unfold wT at zbs
    refine hK.out _ _ zbs.yu.below (λ_=> ?_)
    obtain⟨gv,hgv⟩:∃n,n=zlc.heap.size:=⟨_,rfl⟩
    rw [<-hgv] at zbs ⊢
    clear hgv
    generalize World.alloc zlc _=ztH at zbs ⊢
    replace zbs:=qh zbs
    clear hK K
    refine zF 4 zP (zbs.out.yu.below) ?_
    refine wpAnyH_ready (rs:= [6,9]) (by kernel_rfl) (by simp) ?_
    refine AllReadyH.cons rfl (λK hK=> ?_) (AllReadyH.cons rfl (λK hK=> ?_) AllReadyH.nil)
    ·skip
     go_simp
     refine(vB.out ztH g _ 3 3 rfl zbs.out.yu (by omega) (by omega) (by omega)).mono ?_
     rintro en zy9 ⟨r2,hr2,rfl,hmk,hsi⟩
     have zkI:=qh (zbs.out.pick hmk hsi)
     clear hmk hsi
     refine hK.out _ _ zkI.out.yu.below (λ_=> ?_)
     obtain⟨dm,pX⟩:∃n:Nat,(2:Int)+(r2:Int)=(n:Int):=⟨2+r2,by omega⟩
     have zdy:2<=dm:=by omega
     have zdz:dm<=4:=by omega
     have pY:=wrapN dm (by omega)
     have zdm:(0:Int)<=(dm:Int):=by omega
     skip
     clear hK K
     refine zF 7 zP (zkI.out.yu.below) ?_
     refine zF 8 zP (zkI.out.yu.below) ?_
     refine yC 9 rfl (λK hK=> ?_)
     go_simp
     have zeh:=zkI.out.box
     refine hK.out _ _ zeh.yu.below (λ_=> ?_)
     obtain⟨gp,uh⟩:∃n,n=zy9.heap.size:=⟨_,rfl⟩
     rw [<-uh] at zeh ⊢
     clear uh
     generalize World.alloc zy9 _=ztI at zeh ⊢
     replace zeh:=qh zeh
     clear hK K
     refine yC 10 rfl (λK hK=> ?_)
     obtain⟨hp, -, -, -⟩:=zeh.out.prog gp rfl
     have q0:ztI.cell? ⟨gp,0,none⟩=some (.slice none 0 0):=ze hp 0
     have f0:=zA hp 0
     have q1:ztI.cell? ⟨gp,1,none⟩=some (.int .i64 0):=ze hp 1
     have f1:=zA hp 1
     have q2:ztI.cell? ⟨gp,2,none⟩=some (.slice none 0 0):=ze hp 2
     have f2:=zA hp 2
     clear hp
     go_simp
     have hend:=zeh.out.done (n:=n) (dm:=dm) (by omega)
     have zR:=qh hend
     refine hK.out _ _ (by obtain⟨a',hm, -⟩:=hend.2;exact hm.below) (λ_=> ?_)
     clear hend q0 q1 q2 f0 f1 f2
     clear hK K
     refine xW ?_
     clear hn pX wn pY
     go_wp2_with fail
     go_meet
     case rel=>exact⟨gv,gp,n,dm,rfl,by omega,by omega,by omega,by omega,zR.out.1,zR.out.2⟩
    skip
    go_simp
    have zei:=zbs.out.box
    refine hK.out _ _ zei.yu.below (λ_=> ?_)
    obtain⟨gp,uh⟩:∃n,n=ztH.heap.size:=⟨_,rfl⟩
    rw [<-uh] at zei ⊢
    clear uh
    generalize World.alloc ztH _=z5p at zei ⊢
    replace zei:=qh zei
    clear hK K
    refine yC 6 rfl (λK hK=> ?_)
    go_simp
    refine(vB.out z5p g _ 3 3 rfl zei.out.yu (by omega) (by omega) (by omega)).mono ?_
    rintro en ztJ ⟨r2,hr2,rfl,hmk,hsi⟩
    have zhN:=qh (zei.out.pick hmk hsi)
    clear hmk hsi
    refine hK.out _ _ zhN.out.yu.below (λ_=> ?_)
    obtain⟨dm,pX⟩:∃n:Nat,(2:Int)+(r2:Int)=(n:Int):=⟨2+r2,by omega⟩
    have zdy:2<=dm:=by omega
    have zdz:dm<=4:=by omega
    have pY:=wrapN dm (by omega)
    have zdm:(0:Int)<=(dm:Int):=by omega
    skip
    clear hK K
    refine zF 7 zP (zhN.out.yu.below) ?_
    refine zF 8 zP (zhN.out.yu.below) ?_
    refine yC 10 rfl (λK hK=> ?_)
    obtain⟨hp, -, -, -⟩:=zhN.out.prog gp rfl
    have q0:ztJ.cell? ⟨gp,0,none⟩=some (.slice none 0 0):=ze hp 0
    have f0:=zA hp 0
    have q1:ztJ.cell? ⟨gp,1,none⟩=some (.int .i64 0):=ze hp 1
    have f1:=zA hp 1
    have q2:ztJ.cell? ⟨gp,2,none⟩=some (.slice none 0 0):=ze hp 2
    have f2:=zA hp 2
    clear hp
    go_simp
    have hend:=zhN.out.done (n:=n) (dm:=dm) (by omega)
    have zR:=qh hend
    refine hK.out _ _ (by obtain⟨a',hm, -⟩:=hend.2;exact hm.below) (λ_=> ?_)
    clear hend q0 q1 q2 f0 f1 f2
    clear hK K
    refine xW ?_
    clear hn pX wn pY
    go_wp2_with fail
    go_meet
    case rel=>exact⟨gv,gp,n,dm,rfl,by omega,by omega,by omega,by omega,zR.out.1,zR.out.2⟩
   ·skip
    go_simp
    refine(vB.out zlc g _ 3 3 rfl zgc.out.yu (by omega) (by omega) (by omega)).mono ?_
    rintro en zpc ⟨r2,hr2,rfl,hmk,hsi⟩
    have zkJ:=qh (zgc.out.pick hmk hsi)
    clear hmk hsi
    refine hK.out _ _ zkJ.out.yu.below (λ_=> ?_)
    obtain⟨dm,pX⟩:∃n:Nat,(2:Int)+(r2:Int)=(n:Int):=⟨2+r2,by omega⟩
    have zdy:2<=dm:=by omega
    have zdz:dm<=4:=by omega
    have pY:=wrapN dm (by omega)
    have zdm:(0:Int)<=(dm:Int):=by omega
    skip
    clear hK K
    refine zF 7 zP (zkJ.out.yu.below) ?_
    refine wpAnyH_ready (rs:= [0,9]) (by kernel_rfl) (by simp) ?_
    refine AllReadyH.cons rfl (λK hK=> ?_) (AllReadyH.cons rfl (λK hK=> ?_) AllReadyH.nil)
    ·skip
     go_simp
     have zbX:=zkJ.out.names
     unfold wT at zbX
     refine hK.out _ _ zbX.yu.below (λ_=> ?_)
     obtain⟨gv,hgv⟩:∃n,n=zpc.heap.size:=⟨_,rfl⟩
     rw [<-hgv] at zbX ⊢
     clear hgv
     generalize World.alloc zpc _=zyA at zbX ⊢
     replace zbX:=qh zbX
     clear hK K
     refine zF 4 zP (zbX.out.yu.below) ?_
     refine zF 8 zP (zbX.out.yu.below) ?_
     refine yC 9 rfl (λK hK=> ?_)
     go_simp
     have zej:=zbX.out.box
     refine hK.out _ _ zej.yu.below (λ_=> ?_)
     obtain⟨gp,uh⟩:∃n,n=zyA.heap.size:=⟨_,rfl⟩
     rw [<-uh] at zej ⊢
     clear uh
     generalize World.alloc zyA _=ztK at zej ⊢
     replace zej:=qh zej
     clear hK K
     refine yC 10 rfl (λK hK=> ?_)
     obtain⟨hp, -, -, -⟩:=zej.out.prog gp rfl
     have q0:ztK.cell? ⟨gp,0,none⟩=some (.slice none 0 0):=ze hp 0
     have f0:=zA hp 0
     have q1:ztK.cell? ⟨gp,1,none⟩=some (.int .i64 0):=ze hp 1
     have f1:=zA hp 1
     have q2:ztK.cell? ⟨gp,2,none⟩=some (.slice none 0 0):=ze hp 2
     have f2:=zA hp 2
     clear hp
     go_simp
     have hend:=zej.out.done (n:=n) (dm:=dm) (by omega)
     have zR:=qh hend
     refine hK.out _ _ (by obtain⟨a',hm, -⟩:=hend.2;exact hm.below) (λ_=> ?_)
     clear hend q0 q1 q2 f0 f1 f2
     clear hK K
     refine xW ?_
     clear hn pX wn pY
     go_wp2_with fail
     go_meet
     case rel=>exact⟨gv,gp,n,dm,rfl,by omega,by omega,by omega,by omega,zR.out.1,zR.out.2⟩
    skip
    go_simp
    have zgd:=zkJ.out.box
    refine hK.out _ _ zgd.yu.below (λ_=> ?_)
    obtain⟨gp,uh⟩:∃n,n=zpc.heap.size:=⟨_,rfl⟩
    rw [<-uh] at zgd ⊢
    clear uh
    generalize World.alloc zpc _=zyB at zgd ⊢
    replace zgd:=qh zgd
    clear hK K
    refine yC 0 rfl (λK hK=> ?_)
    go_simp
    have zbt:=zgd.out.names
    unfold wT at zbt
    refine hK.out _ _ zbt.yu.below (λ_=> ?_)
    obtain⟨gv,hgv⟩:∃n,n=zyB.heap.size:=⟨_,rfl⟩
    rw [<-hgv] at zbt ⊢
    clear hgv
    generalize World.alloc zyB _=ztL at zbt ⊢
    replace zbt:=qh zbt
    clear hK K
    refine zF 4 zP (zbt.out.yu.below) ?_
    refine zF 8 zP (zbt.out.yu.below) ?_
    refine yC 10 rfl (λK hK=> ?_)
    obtain⟨hp, -, -, -⟩:=zbt.out.prog gp rfl
    have q0:ztL.cell? ⟨gp,0,none⟩=some (.slice none 0 0):=ze hp 0
    have f0:=zA hp 0
    have q1:ztL.cell? ⟨gp,1,none⟩=some (.int .i64 0):=ze hp 1
    have f1:=zA hp 1
    have q2:ztL.cell? ⟨gp,2,none⟩=some (.slice none 0 0):=ze hp 2
    have f2:=zA hp 2
    clear hp
    go_simp
    have hend:=zbt.out.done (n:=n) (dm:=dm) (by omega)
    have zR:=qh hend
    refine hK.out _ _ (by obtain⟨a',hm, -⟩:=hend.2;exact hm.below) (λ_=> ?_)
    clear hend q0 q1 q2 f0 f1 f2
    clear hK K
    refine xW ?_
    clear hn pX wn pY
    go_wp2_with fail
    go_meet
    case rel=>exact⟨gv,gp,n,dm,rfl,by omega,by omega,by omega,by omega,zR.out.1,zR.out.2⟩
   skip
   go_simp
   have zcV:=zgc.out.box
   refine hK.out _ _ zcV.yu.below (λ_=> ?_)
   obtain⟨gp,uh⟩:∃n,n=zlc.heap.size:=⟨_,rfl⟩
   rw [<-uh] at zcV ⊢
   clear uh
   generalize World.alloc zlc _=ztM at zcV ⊢
   replace zcV:=qh zcV
   clear hK K
   refine wpAnyH_ready (rs:= [0,6]) (by kernel_rfl) (by simp) ?_
   refine AllReadyH.cons rfl (λK hK=> ?_) (AllReadyH.cons rfl (λK hK=> ?_) AllReadyH.nil)
   ·skip
    go_simp
    have zbY:=zcV.out.names
    unfold wT at zbY
    refine hK.out _ _ zbY.yu.below (λ_=> ?_)
    obtain⟨gv,hgv⟩:∃n,n=ztM.heap.size:=⟨_,rfl⟩
    rw [<-hgv] at zbY ⊢
    clear hgv
    generalize World.alloc ztM _=z5q at zbY ⊢
    replace zbY:=qh zbY
    clear hK K
    refine zF 4 zP (zbY.out.yu.below) ?_
    refine yC 6 rfl (λK hK=> ?_)
    go_simp
    refine(vB.out z5q g _ 3 3 rfl zbY.out.yu (by omega) (by omega) (by omega)).mono ?_
    rintro en ztN ⟨r2,hr2,rfl,hmk,hsi⟩
    have zhO:=qh (zbY.out.pick hmk hsi)
    clear hmk hsi
    refine hK.out _ _ zhO.out.yu.below (λ_=> ?_)
    obtain⟨dm,pX⟩:∃n:Nat,(2:Int)+(r2:Int)=(n:Int):=⟨2+r2,by omega⟩
    have zdy:2<=dm:=by omega
    have zdz:dm<=4:=by omega
    have pY:=wrapN dm (by omega)
    have zdm:(0:Int)<=(dm:Int):=by omega
    skip
    clear hK K
    refine zF 7 zP (zhO.out.yu.below) ?_
    refine zF 8 zP (zhO.out.yu.below) ?_
    refine yC 10 rfl (λK hK=> ?_)
    obtain⟨hp, -, -, -⟩:=zhO.out.prog gp rfl
    have q0:ztN.cell? ⟨gp,0,none⟩=some (.slice none 0 0):=ze hp 0
    have f0:=zA hp 0
    have q1:ztN.cell? ⟨gp,1,none⟩=some (.int .i64 0):=ze hp 1
    have f1:=zA hp 1
    have q2:ztN.cell? ⟨gp,2,none⟩=some (.slice none 0 0):=ze hp 2
    have f2:=zA hp 2
    clear hp
    go_simp
    have hend:=zhO.out.done (n:=n) (dm:=dm) (by omega)
    have zR:=qh hend
    refine hK.out _ _ (by obtain⟨a',hm, -⟩:=hend.2;exact hm.below) (λ_=> ?_)
    clear hend q0 q1 q2 f0 f1 f2
    clear hK K
    refine xW ?_
    clear hn pX wn pY
    go_wp2_with fail
    go_meet
    case rel=>exact⟨gv,gp,n,dm,rfl,by omega,by omega,by omega,by omega,zR.out.1,zR.out.2⟩
   skip
   go_simp
   refine(vB.out ztM g _ 3 3 rfl zcV.out.yu (by omega) (by omega) (by omega)).mono ?_
   rintro en zyC ⟨r2,hr2,rfl,hmk,hsi⟩
   have zpd:=qh (zcV.out.pick hmk hsi)
   clear hmk hsi
   refine hK.out _ _ zpd.out.yu.below (λ_=> ?_)
   obtain⟨dm,pX⟩:∃n:Nat,(2:Int)+(r2:Int)=(n:Int):=⟨2+r2,by omega⟩
   have zdy:2<=dm:=by omega
   have zdz:dm<=4:=by omega
   have pY:=wrapN dm (by omega)
   have zdm:(0:Int)<=(dm:Int):=by omega
   skip
   clear hK K
   refine zF 7 zP (zpd.out.yu.below) ?_
   refine yC 0 rfl (λK hK=> ?_)
   go_simp
   have zbu:=zpd.out.names
   unfold wT at zbu
   refine hK.out _ _ zbu.yu.below (λ_=> ?_)
   obtain⟨gv,hgv⟩:∃n,n=zyC.heap.size:=⟨_,rfl⟩
   rw [<-hgv] at zbu ⊢
   clear hgv
   generalize World.alloc zyC _=ztO at zbu ⊢
   replace zbu:=qh zbu
   clear hK K
   refine zF 4 zP (zbu.out.yu.below) ?_
   refine zF 8 zP (zbu.out.yu.below) ?_
   refine yC 10 rfl (λK hK=> ?_)
   obtain⟨hp, -, -, -⟩:=zbu.out.prog gp rfl
   have q0:ztO.cell? ⟨gp,0,none⟩=some (.slice none 0 0):=ze hp 0
   have f0:=zA hp 0
   have q1:ztO.cell? ⟨gp,1,none⟩=some (.int .i64 0):=ze hp 1
   have f1:=zA hp 1
   have q2:ztO.cell? ⟨gp,2,none⟩=some (.slice none 0 0):=ze hp 2
   have f2:=zA hp 2
   clear hp
   go_simp
   have hend:=zbu.out.done (n:=n) (dm:=dm) (by omega)
   have zR:=qh hend
   refine hK.out _ _ (by obtain⟨a',hm, -⟩:=hend.2;exact hm.below) (λ_=> ?_)
   clear hend q0 q1 q2 f0 f1 f2
   clear hK K
   refine xW ?_
   clear hn pX wn pY
   go_wp2_with fail
   go_meet
   case rel=>exact⟨gv,gp,n,dm,rfl,by omega,by omega,by omega,by omega,zR.out.1,zR.out.2⟩
  skip
  go_simp
  have zcW:=hT0.out.box
  refine hK.out _ _ zcW.yu.below (λ_=> ?_)
  obtain⟨gp,uh⟩:∃n,n=V1.heap.size:=⟨_,rfl⟩
  rw [<-uh] at zcW ⊢
  clear uh
  generalize World.alloc V1 _=ztP at zcW ⊢
  replace zcW:=qh zcW
  clear hK K
  refine wpAnyH_ready (rs:= [0,2]) (by kernel_rfl) (by simp) ?_
  refine AllReadyH.cons rfl (λK hK=> ?_) (AllReadyH.cons rfl (λK hK=> ?_) AllReadyH.nil)
  ·skip
   go_simp
   have zcX:=zcW.out.names
   unfold wT at zcX
   refine hK.out _ _ zcX.yu.below (λ_=> ?_)
   obtain⟨gv,hgv⟩:∃n,n=ztP.heap.size:=⟨_,rfl⟩
   rw [<-hgv] at zcX ⊢
   clear hgv
   generalize World.alloc ztP _=z5r at zcX ⊢
   replace zcX:=qh zcX
   clear hK K
   refine yC 2 rfl (λK hK=> ?_)
   go_simp
   refine(vB.out z5r g _ 3 3 rfl zcX.out.yu (by omega) (by omega) (by omega)).mono ?_
   rintro en z5s ⟨r1,hr1,rfl,hmk,hsi⟩
   have zhP:=qh (zcX.out.pick hmk hsi)
   clear hmk hsi
   refine hK.out _ _ zhP.out.yu.below (λ_=> ?_)
   obtain⟨n,hn⟩:∃n:Nat,(1:Int)+(r1:Int)=(n:Int):=⟨1+r1,by omega⟩
   have bn1:1<=n:=by omega
   have bn2:n<=3:=by omega
   have wn:=wrapN n (by omega)
   have zn:(0:Int)<=(n:Int):=by omega
   have yn:(n:Int)<=3:=by omega
   clear hK K
   refine zF 3 zP (zhP.out.yu.below) ?_
   refine zF 4 zP (zhP.out.yu.below) ?_
   refine yC 6 rfl (λK hK=> ?_)
   go_simp
   refine(vB.out z5s g _ 3 3 rfl zhP.out.yu (by omega) (by omega) (by omega)).mono ?_
   rintro en ztQ ⟨r2,hr2,rfl,hmk,hsi⟩
   have zhQ:=qh (zhP.out.pick hmk hsi)
   clear hmk hsi
   refine hK.out _ _ zhQ.out.yu.below (λ_=> ?_)
   obtain⟨dm,pX⟩:∃n:Nat,(2:Int)+(r2:Int)=(n:Int):=⟨2+r2,by omega⟩
   have zdy:2<=dm:=by omega
   have zdz:dm<=4:=by omega
   have pY:=wrapN dm (by omega)
   have zdm:(0:Int)<=(dm:Int):=by omega
   skip
   clear hK K
   refine zF 7 zP (zhQ.out.yu.below) ?_
   refine zF 8 zP (zhQ.out.yu.below) ?_
   refine yC 10 rfl (λK hK=> ?_)
   obtain⟨hp, -, -, -⟩:=zhQ.out.prog gp rfl
   have q0:ztQ.cell? ⟨gp,0,none⟩=some (.slice none 0 0):=ze hp 0
   have f0:=zA hp 0
   have q1:ztQ.cell? ⟨gp,1,none⟩=some (.int .i64 0):=ze hp 1
   have f1:=zA hp 1
   have q2:ztQ.cell? ⟨gp,2,none⟩=some (.slice none 0 0):=ze hp 2
   have f2:=zA hp 2
   clear hp
   go_simp
   have hend:=zhQ.out.done (n:=n) (dm:=dm) (by omega)
   have zR:=qh hend
   refine hK.out _ _ (by obtain⟨a',hm, -⟩:=hend.2;exact hm.below) (λ_=> ?_)
   clear hend q0 q1 q2 f0 f1 f2
   clear hK K
   refine xW ?_
   clear hn pX wn pY
   go_wp2_with fail
   go_meet
   case rel=>exact⟨gv,gp,n,dm,rfl,by omega,by omega,by omega,by omega,zR.out.1,zR.out.2⟩
  skip
  go_simp
  refine(vB.out ztP g _ 3 3 rfl zcW.out.yu (by omega) (by omega) (by omega)).mono ?_
  rintro en ztR ⟨r1,hr1,rfl,hmk,hsi⟩
  have zhR:=qh (zcW.out.pick hmk hsi)
  clear hmk hsi
  refine hK.out _ _ zhR.out.yu.below (λ_=> ?_)
  obtain⟨n,hn⟩:∃n:Nat,(1:Int)+(r1:Int)=(n:Int):=⟨1+r1,by omega⟩
  have bn1:1<=n:=by omega
  have bn2:n<=3:=by omega
  have wn:=wrapN n (by omega)
  have zn:(0:Int)<=(n:Int):=by omega
  have yn:(n:Int)<=3:=by omega
  clear hK K
  refine zF 3 zP (zhR.out.yu.below) ?_
  refine wpAnyH_ready (rs:= [0,6]) (by kernel_rfl) (by simp) ?_
  refine AllReadyH.cons rfl (λK hK=> ?_) (AllReadyH.cons rfl (λK hK=> ?_) AllReadyH.nil)
  ·skip
   go_simp
   have zbZ:=zhR.out.names
   unfold wT at zbZ
   refine hK.out _ _ zbZ.yu.below (λ_=> ?_)
   obtain⟨gv,hgv⟩:∃n,n=ztR.heap.size:=⟨_,rfl⟩
   rw [<-hgv] at zbZ ⊢
   clear hgv
   generalize World.alloc ztR _=z5t at zbZ ⊢
   replace zbZ:=qh zbZ
   clear hK K
   refine zF 4 zP (zbZ.out.yu.below) ?_
   refine yC 6 rfl (λK hK=> ?_)
   go_simp
   refine(vB.out z5t g _ 3 3 rfl zbZ.out.yu (by omega) (by omega) (by omega)).mono ?_
   rintro en ztS ⟨r2,hr2,rfl,hmk,hsi⟩
   have zhS:=qh (zbZ.out.pick hmk hsi)
   clear hmk hsi
   refine hK.out _ _ zhS.out.yu.below (λ_=> ?_)
   obtain⟨dm,pX⟩:∃n:Nat,(2:Int)+(r2:Int)=(n:Int):=⟨2+r2,by omega⟩
   have zdy:2<=dm:=by omega
   have zdz:dm<=4:=by omega
   have pY:=wrapN dm (by omega)
   have zdm:(0:Int)<=(dm:Int):=by omega
   skip
   clear hK K
   refine zF 7 zP (zhS.out.yu.below) ?_
   refine zF 8 zP (zhS.out.yu.below) ?_
   refine yC 10 rfl (λK hK=> ?_)
   obtain⟨hp, -, -, -⟩:=zhS.out.prog gp rfl
   have q0:ztS.cell? ⟨gp,0,none⟩=some (.slice none 0 0):=ze hp 0
   have f0:=zA hp 0
   have q1:ztS.cell? ⟨gp,1,none⟩=some (.int .i64 0):=ze hp 1
   have f1:=zA hp 1
   have q2:ztS.cell? ⟨gp,2,none⟩=some (.slice none 0 0):=ze hp 2
   have f2:=zA hp 2
   clear hp
   go_simp
   have hend:=zhS.out.done (n:=n) (dm:=dm) (by omega)
   have zR:=qh hend
   refine hK.out _ _ (by obtain⟨a',hm, -⟩:=hend.2;exact hm.below) (λ_=> ?_)
   clear hend q0 q1 q2 f0 f1 f2
   clear hK K
   refine xW ?_
   clear hn pX wn pY
   go_wp2_with fail
   go_meet
   case rel=>exact⟨gv,gp,n,dm,rfl,by omega,by omega,by omega,by omega,zR.out.1,zR.out.2⟩
  skip
  go_simp
  refine(vB.out ztR g _ 3 3 rfl zhR.out.yu (by omega) (by omega) (by omega)).mono ?_
  rintro en zyD ⟨r2,hr2,rfl,hmk,hsi⟩
  have zpe:=qh (zhR.out.pick hmk hsi)
  clear hmk hsi
  refine hK.out _ _ zpe.out.yu.below (λ_=> ?_)
  obtain⟨dm,pX⟩:∃n:Nat,(2:Int)+(r2:Int)=(n:Int):=⟨2+r2,by omega⟩
  have zdy:2<=dm:=by omega
  have zdz:dm<=4:=by omega
  have pY:=wrapN dm (by omega)
  have zdm:(0:Int)<=(dm:Int):=by omega
  skip
  clear hK K
  refine zF 7 zP (zpe.out.yu.below) ?_
  refine yC 0 rfl (λK hK=> ?_)
  go_simp
  have zbv:=zpe.out.names
  unfold wT at zbv
  refine hK.out _ _ zbv.yu.below (λ_=> ?_)
  obtain⟨gv,hgv⟩:∃n,n=zyD.heap.size:=⟨_,rfl⟩
  rw [<-hgv] at zbv ⊢
  clear hgv
  generalize World.alloc zyD _=ztT at zbv ⊢
  replace zbv:=qh zbv
  clear hK K
  refine zF 4 zP (zbv.out.yu.below) ?_
  refine zF 8 zP (zbv.out.yu.below) ?_
  refine yC 10 rfl (λK hK=> ?_)
  obtain⟨hp, -, -, -⟩:=zbv.out.prog gp rfl
  have q0:ztT.cell? ⟨gp,0,none⟩=some (.slice none 0 0):=ze hp 0
  have f0:=zA hp 0
  have q1:ztT.cell? ⟨gp,1,none⟩=some (.int .i64 0):=ze hp 1
  have f1:=zA hp 1
  have q2:ztT.cell? ⟨gp,2,none⟩=some (.slice none 0 0):=ze hp 2
  have f2:=zA hp 2
  clear hp
  go_simp
  have hend:=zbv.out.done (n:=n) (dm:=dm) (by omega)
  have zR:=qh hend
  refine hK.out _ _ (by obtain⟨a',hm, -⟩:=hend.2;exact hm.below) (λ_=> ?_)
  clear hend q0 q1 q2 f0 f1 f2
  clear hK K
  refine xW ?_
  clear hn pX wn pY
  go_wp2_with fail
  go_meet
  case rel=>exact⟨gv,gp,n,dm,rfl,by omega,by omega,by omega,by omega,zR.out.1,zR.out.2⟩
 case rest=>
 obtain⟨gv,gp,n,dm,rfl,hn1,hn3,hd2,hd4,HL,HMA⟩:=hcut
 clear HR
 obtain⟨X,rfl⟩:∃x:World,x=wc:=⟨_,rfl⟩
 obtain⟨a0,zyE,ha0⟩:=HMA.out
 have zyF:=qh zyE
 clear zyE
 go_upto_region 4 with(go_at_call 55;go_must(refine(vB.out X g _ 3 3 rfl zyF.out (by omega) (by omega) (by omega)).mono ?_);rintro en X2 ⟨r3,hr3,rfl,hmk,hsi⟩;(have HL2:=qh (HL.out.picked hsi hmk (by omega)));clear hmk hsi HL zyF)
 obtain⟨m,hm⟩:∃m:Nat,(1:Int)+(r3:Int)=(m:Int):=⟨1+r3,by omega⟩
 have hm1:1<=m:=by omega
 have hm3:m<=3:=by omega
 rw [hm]
 clear hm hr3
 go_loopg [7] m (λgg s7 wr=>∃(j k:Nat) (oa:Option Addr) (oc:Nat) (T:List (List zN)) (css:List (List Value)),s7= .int .i64 k/\Hid (j+k=m)/\Hid (gg=k)/\Hid (wH w wr g gv gp gr (.slice sa ln sc) n dm j (.slice oa j oc) T css))
 case atStart=>exact⟨0,m,none,0, [], [],rfl,by rw [Hid];omega,rfl,HL2.out⟩
 case round=>
 obtain⟨j,k',oa,oc,T,css,rfl,HJK,HG,HL⟩:=hrel
 clear HL2
 have hj3:j<=3:=by have:=HJK.out;omega
 have hk3:k'<=3:=by have:=HJK.out;omega
 by_cases hk0:0<k'
 rotate_left
 ·obtain rfl:k'=0:=by omega
  have hj1:j=m:=by have:=HJK.out;omega
  obtain⟨hend,hset⟩:=zoY HL.out hn1 hn3 hd2 (by omega) (by omega) hj3
  have zR:=qh hend
  have zJ:=qh hset
  clear hend hset hj1
  have c0:wr.cell? ⟨gp,0,none⟩=some (.slice (some ⟨gv,0,none⟩) n 3):=ze HL.out.box 0
  have c1:wr.cell? ⟨gp,1,none⟩=some (.int .i64 dm):=ze HL.out.box 1
  have c2:wr.cell? ⟨gp,2,none⟩=some (.slice oa j oc):=ze HL.out.box 2
  have z0:wr.cell? ⟨gr,0,none⟩=some (.slice none 0 0):=ze HL.out.res 0
  have z1:wr.cell? ⟨gr,1,none⟩=some (.int .i64 0):=ze HL.out.res 1
  have z2:wr.cell? ⟨gr,2,none⟩=some (.slice none 0 0):=ze HL.out.res 2
  have f0:=zA HL.out.res 0
  have f1:=zA HL.out.res 1
  have f2:=zA HL.out.res 2
  go_wp2_with fail
  refine bodyPost_ret (xQ rfl _ _ gr 87 _ (0,0) _ rfl zJ.out Tryz.underlying87 rfl zlb) rfl ?_
  exact zR.out
 obtain⟨k,rfl⟩:∃k,k'=k+1:=⟨k' - 1,by omega⟩
 have hkI:(0:Int)<(k:Int)+1:=by omega
 have CC:Hid (∀x,Since (λy=>(Value.slice oa j oc).ownBlock=some y\/y=g) wr x->x.cell? ⟨gp,0,none⟩=some (.slice (some ⟨gv,0,none⟩) n 3)/\x.cell? ⟨gp,1,none⟩=some (.int .i64 dm)/\x.cell? ⟨gp,2,none⟩=some (.slice oa j oc)):=λx hx=>by
  have h:=(hx.block _ (zw HL.out.box) (λe=>by rcases e with e|e;exact(HL.out.own_ne _ e).2.1 rfl;have:=HL.out.lo;omega)).trans HL.out.box
  exact⟨ze h 0,ze h 1,ze h 2⟩
 go_upto_region 6 with fail
 refine wp_region_noPanic ?_
 refine yX (n0:=15) (S:=λx=>Since (λy=>(Value.slice oa j oc).ownBlock=some y\/y=g) wr x) (by kernel_rfl) (Since.drew _ (Since.refl _ wr)) (λ_=> ?_)
 obtain⟨V1,hV1⟩:∃V1,V1=wr.drew:=⟨_,rfl⟩
 have hT0:Hid (Since (λy=>(Value.slice oa j oc).ownBlock=some y\/y=g) wr V1):=by rw [hV1];exact Since.drew _ (Since.refl _ wr)
 have hl2:wH w V1 g gv gp gr (.slice sa ln sc) n dm j (.slice oa j oc) T css:=by rw [hV1];exact HL.out.drew
 rw [<-hV1]
 clear hV1
 have HL2:=qh hl2
 have uX:=hl2.row.row
 rw [hl2.len] at uX
 have zwx:=qh uX
 have HOWN:Hid (∀k,(Value.slice oa j oc).ownBlock=some k->k≠g):=λk hk=>(hl2.own_ne k hk).1
 obtain⟨a1,hmk,ha1⟩:=hl2.yu
 have yR:=qh hmk.below.size
 have HMK:=qh (And.intro hmk ha1)
 clear hl2 uX hmk ha1
 refine zV 0 (λ_=>hT0.out) ?_
 refine jr [13,14,15] 1 CC.out (hT0.out) ?_
 refine zV 2 (λ_=>hT0.out) ?_
 refine zV 3 (λ_=>hT0.out) ?_
 refine zV 5 (λ_=>hT0.out) ?_
 refine jr [7,11,12,13,14,15] 6 CC.out (hT0.out) ?_
 refine zV 7 (λ_=>hT0.out) ?_
 refine zV 8 (λ_=>hT0.out) ?_
 refine jr [11,12,13,14,15] 9 CC.out (hT0.out) ?_
 refine zV 10 (λ_=>hT0.out) ?_
 refine vO 4 rfl (λK hK=> ?_)
 go_simp
 refine(vB.out V1 g _ 5 5 rfl HMK.out.1 (by omega) (by omega) (by have h5:=HMK.out.2;omega)).mono ?_
 rintro en V2 ⟨r5,hr5,rfl,hmk,hsi⟩
 have zyG:=qh hmk
 have ztU:=qh hsi
 have hT1:=qh (hT0.out.trans hsi (λy hy=> .inl (.inr hy)))
 clear hmk hsi
 refine hK.out _ _ (λ_ _=>hT1.out) ?_
 clear hK K
 refine vO 11 rfl (λK hK=> ?_)
 go_simp
 refine(z2L.out g n dm (by omega) (by omega) (by omega) (by omega) V2 _ r5 zyG.out (by omega) (by have h5:=HMK.out.2;omega)).mono ?_
 rintro en V3 ⟨L,na,nc,a2,rfl,hok,haw,hmk,ha2,hsi⟩
 have zfm:=qh hmk
 have ztV:=qh (And.intro hok haw)
 have zpf:=qh (ztU.out.trans hsi (λ_ h=> .inl h))
 have HSZ:=qh hsi.size
 have uj:=qh (hT1.out.trans hsi (λy hy=> .inl (.inr hy)))
 have hrow:=zpf.out.row zwx.out (λk hk e=>(HOWN.out k hk) e)
 have zhU:=qh hrow
 clear hmk hsi hok haw hrow
 refine hK.out _ _ (λ_ _=>uj.out) ?_
 clear hK K
 refine vO 12 rfl (λK hK=> ?_)
 go_simp
 have jg:=qh (uj.out.alloc (.cells #[.slice na L.length nc] 115))
 refine hK.out _ _ (λ_ _=>jg.out) ?_
 clear hK K
 refine vO 13 rfl (λK hK=> ?_)
 refine zK (V3.alloc (.cells #[.slice na L.length nc] 115)) (by rfl) (.tmp 28) (.tmp 39) 85 rfl 115 (.slice none 0 0) 1 24 Tryz.underlying85 zoZ rfl (by decide) w.heap.size (.slice oa j oc) j (css.flatten) (by rfl) (zhU.out.alloc _) ⟨V3.heap.size,0,none⟩ 1 1 [.slice na L.length nc] (by rfl) rfl (qY V3 _ _) (by simp [Value.oneCell']) (by unfold maxLen;omega) (by omega) (by have h5:=yR.out;have h6:=zpf.out.size;simp;omega) ?_
 intro xa xc V4 e1 e2 e3 e4 e5
 have qd:=qh (jg.out.trans e4 (λy hy=> .inl (.inl hy)))
 have hp:=HL2.out.push zpf.out zfm.out (by have:=HMK.out.2;omega) ztV.out.1 rfl (ztV.out.2.step (Since.refl (λ_=>False) V3) (λ_ h=>h.elim) (λk hk=> .inl (by have h5:=ztU.out.size;omega))) e1 e4 e5
 have HP:=qh hp
 clear e1 e2 e3 e4 e5 hp
 refine hK.out _ _ (λ_ _=>qd.out) ?_
 clear hK K
 change qz _ _ _ _ _ _ _ _ (Act.put _ (some 40) _) _
 simp only [Act.put,kJ,kK,kL]
 refine zV 14 (λ_=>qd.out) ?_
 refine vO 15 rfl (λK hK=> ?_)
 have q2:V4.cell? ⟨gp,2,none⟩=some (.slice oa j oc):=ze HP.out.1 2
 have f2:=zA HP.out.1 2
 go_simp
 refine hK.out _ _ (λh=>absurd rfl h) ?_
 clear q2 f2
 have hT5:=qd
 clear hK K
 refine xE (by kernel_rfl) ?_ _
 refine NoPanic.normal ?_
 have HP2:=qh HP.out.2
 clear HP zyG zfm ztV ztU zpf zhU zwx HOWN CC
 go_wp2_with fail
 go_roundg k
 case measure=>rw [HG.out];omega
 case rel=>exact⟨j+1,k,xa,xc,_,_,(by first|rfl|simp),by have:=HJK.out;rw [Hid];omega,rfl,HP2.out⟩
