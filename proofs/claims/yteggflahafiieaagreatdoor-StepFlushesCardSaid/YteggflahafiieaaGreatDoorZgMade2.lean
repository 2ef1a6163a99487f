/- Steps. -/
import Derived.Test.YteggflahafiieaaGreatDoorZgMakerL
import Derived.Test.YteggflahafiieaaGreatDoorZgTail
set_option linter.all false
namespace Go.Proofs.YteggflahafiieaaGreatDoor
open Go.RowKit
set_option maxRecDepth 100000
set_option maxHeartbeats 16000000
theorem ztG (W0:World) (g:Nat) (lv:Value) (l:List Int) (hn:vY W0 .u8 lv l) (kv:Value) (ks:List Int) (hks:xI W0 kv ks) (hk1:1<=ks.length) (hk2:ks.length<=100) (hk3:∀k∈ks,1<=k/\k<=11) (vars dom:Nat) (hv1:1<=vars) (hv2:vars<=10) (hd1:2<=dom) (hd2:dom<=16) (d:Nat) (hd:d<=10):
  zfc W0 g lv kv vars dom d:=by
 obtain⟨ka,kc,hkv, -⟩:=ze.slice hks
 induction d with
 |zero=>exact zld W0 g lv kv vars dom 0 (zle W0 g lv l hn kv ks hks hk1 hk2 hk3 vars dom hv1 hv2 hd1 hd2 0 (by omega) (λh=>by omega)) ka _ kc hkv
 |succ d ih=>exact zld W0 g lv kv vars dom (d+1) (zle W0 g lv l hn kv ks hks hk1 hk2 hk3 vars dom hv1 hv2 hd1 hd2 (d+1) hd (λ_=>ih (by omega))) ka _ kc hkv
def zda:List Int:= [1,2,1,2,3,4,5,6,7,8,9,10,11]
theorem zrs (w:World):Calls Tryz.prog 10 #[] w λe w'=>(∃kv,e= .returned kv/\xI w' kv zda)/\Below w.heap.size w w':=by
 have hb:=(Below.refl w.heap.size w).alloc (Nat.le_refl _) (.cells #[.int .i64 1, .int .i64 2, .int .i64 1, .int .i64 2, .int .i64 3, .int .i64 4, .int .i64 5, .int .i64 6, .int .i64 7, .int .i64 8, .int .i64 9, .int .i64 10, .int .i64 11] 3)
 have hg:=yE w (.cells #[.int .i64 1, .int .i64 2, .int .i64 1, .int .i64 2, .int .i64 3, .int .i64 4, .int .i64 5, .int .i64 6, .int .i64 7, .int .i64 8, .int .i64 9, .int .i64 10, .int .i64 11] 3)
 have hr:=gQ (w:=w.alloc (.cells #[.int .i64 1, .int .i64 2, .int .i64 1, .int .i64 2, .int .i64 3, .int .i64 4, .int .i64 5, .int .i64 6, .int .i64 7, .int .i64 8, .int .i64 9, .int .i64 10, .int .i64 11] 3)) (l:=zda) (B:=0) (sv:= .slice (some ⟨w.heap.size,0,none⟩) 13 13) (zaL (n:=13) (cs:=zl yO zda) hg (Nat.zero_le _) rfl (by decide))
 have HB:=qh hb
 have HR:=qh hr
 clear hb hg hr
 go_enter Tryz.func10,Tryz.ntmps10
 go_wp2_with fail
 go_ret
 exact⟨⟨_,rfl,HR.out⟩,HB.out⟩
def jU:List Value:= [.string ⟨#[120]⟩, .string ⟨#[121]⟩, .string ⟨#[122]⟩]
theorem ztH {X:World} {gv n:Nat} (h:X.heap[gv]? =some (.cells jU.toArray 9 (0,0))) (hn:n<=3):zbM X (.slice (some ⟨gv,0,none⟩) n 3) (xyz.take n):=by
 have hl:(xyz.take n).length=n:=by rw [List.length_take];simp [xyz];omega
 refine⟨_,3,by rw [hl],by rw [hl];omega,λj hj=> ?_⟩
 rw [hl] at hj
 have e:(xyz.take n).getD j default=xyz.getD j default:=by simp only [List.getD_eq_getElem?_getD,List.getElem?_take_of_lt hj]
 have hj3:j=0\/j=1\/j=2:=by omega
 rw [e]
 rcases hj3 with rfl|rfl|rfl
 ·refine⟨gv,0, [.string ⟨#[120]⟩],rfl,zq h,rfl,λi hi=> ?_,rfl⟩
  obtain rfl:i=0:=by omega
  rw [za h];rfl
 ·refine⟨gv,0, [.string ⟨#[121]⟩],rfl,zq h,rfl,λi hi=> ?_,rfl⟩
  obtain rfl:i=0:=by omega
  rw [za h];rfl
 refine⟨gv,0, [.string ⟨#[122]⟩],rfl,zq h,rfl,λi hi=> ?_,rfl⟩
 obtain rfl:i=0:=by omega
 rw [za h];rfl
def PF (va:Value) (g gp gr:Nat) (k:Nat):Prop:=va.ownBlock=some k\/k=g\/k=gp\/k=gr
structure jN (w X:World) (g gv gp gr:Nat) (sv:Value) (n dm i:Nat) (va:Value) (T:List (List zG)) (css:List (List Value)):Prop where
 yg:∃a',qL w X g sv a'/\a'<=10+i*5000
 box:X.heap[gp]? =some (.cells #[.slice (some ⟨gv,0,none⟩) n 3, .int .i64 dm,va] 78 (0,0))
 vars:X.heap[gv]? =some (.cells jU.toArray 9 (0,0))
 res:X.heap[gr]? =some (.cells #[.slice none 0 0, .int .i64 0, .slice none 0 0] 78 (0,0))
 lo:w.heap.size<=g/\w.heap.size<=gv/\w.heap.size<=gp/\w.heap.size<=gr/\g≠gp/\g≠gr/\gp≠gr/\gv≠g/\gv≠gp/\gv≠gr
 len:T.length=i
 ok:∀l∈T,xg n dm l 20=true/\yB l<=52
 row:qp (PF va g gp gr) X (zgQ 3 4) 1 w.heap.size 126 va T css
section
variable {w X Y:World} {g gv gp gr:Nat} {sv:Value} {n dm i:Nat} {va:Value} {T:List (List zG)} {css:List (List Value)}
theorem jN.own_ne (h:jN w X g gv gp gr sv n dm i va T css):∀k,va.ownBlock=some k->k≠g/\k≠gp/\k≠gr/\k≠gv:=λk hk=>by
 obtain⟨a',hm, -⟩:=h.yg
 exact⟨λe=>by subst e;exact gy h.row.row hk hm.box (by decide),λe=>by subst e;exact gy h.row.row hk h.box (by decide),λe=>by subst e;exact gy h.row.row hk h.res (by decide),λe=>by subst e;exact gy h.row.row hk h.vars (by decide)⟩
theorem jN.lt (h:jN w X g gv gp gr sv n dm i va T css):∀k,PF va g gp gr k->k<X.heap.size:=λk hk=>by
 obtain⟨a',hm, -⟩:=h.yg
 rcases hk with hk|rfl|rfl|rfl
 ·exact(h.row.row.lt k hk).2
 ·exact zq hm.box
 ·exact zq h.box
 exact zq h.res
theorem jN.push {xc ln rc a1 oc:Nat} {Z:World} {oa ra xa:Option Addr} {l:List zG} {o:Obj} (h:jN w X g gv gp gr sv n dm i (.slice oa i oc) T css) (hs:Since (λk=>k=g) X Y) (hm:qL w Y g sv a1) (ha:a1<=10+i*5000+5000) (hok:xg n dm l 20=true/\yB l<=52) (hlen:l.length=ln)
  (haw:yK (λk=>k<X.heap.size) Y (λy=>yu 3 4 y l (.slice ra ln rc))) (h1:Z.ownsRow w.heap.size 126 1 (.slice xa (i+1) xc) (i+1) (css.flatten++ [.slice ra ln rc])) (h4:Since (λk=>(Value.slice oa i oc).ownBlock=some k) (Y.alloc o) Z) (h5:∀k,(Value.slice xa (i+1) xc).ownBlock=some k->(Value.slice oa i oc).ownBlock=some k\/k=(Y.alloc o).heap.size):
  Z.heap[gp]? =some (.cells #[.slice (some ⟨gv,0,none⟩) n 3, .int .i64 dm, .slice oa i oc] 78 (0,0))/\jN w (Z.setCell ⟨gp,2,none⟩ (.slice xa (i+1) xc)) g gv gp gr sv n dm (i+1) (.slice xa (i+1) xc) (T++ [l]) (css++ [[.slice ra ln rc]]):=by
 have hlo:=h.lo
 have hne:=h.own_ne
 have hlt:=h.lt
 have s1:Since (λk=>(Value.slice oa i oc).ownBlock=some k) Y Z:=((Since.refl _ Y).alloc o).trans h4 (λk hk=> .inl hk)
 have s2:Since (λk=>k=gp) Z (Z.setCell ⟨gp,2,none⟩ (.slice xa (i+1) xc)):=Since.setCell (F:=λk=>k=gp) (p:=⟨gp,2,none⟩) (Since.refl _ _) (.inl rfl) _
 have s3:Since (λk=>(Value.slice oa i oc).ownBlock=some k\/k=gp) Y (Z.setCell ⟨gp,2,none⟩ (.slice xa (i+1) xc)):=(s1.mono (λk _ hk=> .inl hk)).trans s2 (λk hk=> .inl (.inr hk))
 have ztI:=(hs.block _ (zq h.box) (by omega)).trans h.box
 have zwa:=(hs.block _ (zq h.vars) (by omega)).trans h.vars
 have zxQ:=(hs.block _ (zq h.res) (by omega)).trans h.res
 have gB:=(s1.block _ (zq ztI) (λe=>(hne _ e).2.1 rfl)).trans ztI
 have hvars:=(s1.block _ (zq zwa) (λe=>(hne _ e).2.2.2 rfl)).trans zwa
 have hres:=(s1.block _ (zq zxQ) (λe=>(hne _ e).2.2.1 rfl)).trans zxQ
 have hnew:∀k,(Value.slice xa (i+1) xc).ownBlock=some k->k≠gp:=λk hk e=>by
  rcases h5 k hk with h1|h1
  ·exact(hne k h1).2.1 e
  have:=zq ztI;simp at h1;omega
 refine⟨gB,⟨⟨a1,hm.since s3 (λk hk=> ?_),by omega⟩, ?_,(s2.block _ (zq hvars) (by omega)).trans hvars,(s2.block _ (zq hres) (by omega)).trans hres,hlo,by simp [h.len],λy hy=> ?_, ?_⟩⟩
 ·rcases hk with hk|hk
  ·have:=(h.row.row.lt k hk).1;have:=(hne k hk).1;omega
  omega
 ·have:=zu gB 2 (.slice xa (i+1) xc);simpa using this
 ·rcases List.mem_append.1 hy with hy|hy
  ·exact h.ok y hy
  rw [List.mem_singleton] at hy;subst hy;exact hok
 have hrow:=h.row.step (F':=PF (.slice oa i oc) g gp gr) hs (λk hk e=>(hne k hk).1 e) (λk hk=> .inl (.inr (.inl hk))) (λk hk=> .inl hk)
 refine hrow.push s3 (λk hk=> ?_) (λk hk=> ?_) (λy hy=>⟨_,rfl,haw y (hy.mono (λk _ hk=>hlt k hk))⟩) rfl ?_
 ·rcases hk with hk|hk
  ·exact .inl (.inl hk)
  exact .inl (.inr (.inr (.inl hk)))
 ·rcases hk with hk|hk|hk|hk
  ·rcases h5 k hk with h1|h1
   ·exact .inl (.inl h1)
   exact .inr (by simp at h1;omega)
  ·exact .inl (.inr (.inl hk))
  ·exact .inl (.inr (.inr (.inl hk)))
  exact .inl (.inr (.inr (.inr hk)))
 rw [h.len];exact s2.row h1 hnew
end
def zoS (w:World) (en:Ending) (w':World):Prop:=(∃p vv tv,en= .returned (zed p vv tv)/\zee p/\zbN 3 4 w' p vv tv)/\Below w.heap.size w w'
theorem zxR {T:List (List zG)} (h:∀l∈T,yB l<=52):(T.map yB).sum<=T.length*52:=by
 induction T with
 |nil=>simp
 |cons l T ih=>
 have h1:=h l (by simp)
 have h2:=ih (λx hx=>h x (by simp [hx]))
 simp only [List.map_cons,List.sum_cons,List.length_cons];omega
theorem zpE {w X:World} {g gv gp gr:Nat} {sv:Value} {n dm i oc:Nat} {oa:Option Addr} {T:List (List zG)} {css:List (List Value)} (h:jN w X g gv gp gr sv n dm i (.slice oa i oc) T css) (hn1:1<=n) (hn3:n<=3) (hd1:2<=dm) (hd2:dm<=16) (hi1:1<=i) (hi3:i<=3):
  zoS w (.returned (.agg #[.slice (some ⟨gv,0,none⟩) n 3, .int .i64 dm, .slice oa i oc])) (zY X gr 0 [.slice (some ⟨gv,0,none⟩) n 3, .int .i64 dm, .slice oa i oc])/\
  (zY X gr 0 [.slice (some ⟨gv,0,none⟩) n 3, .int .i64 dm, .slice oa i oc]).heap[gr]? =some (.cells #[.slice (some ⟨gv,0,none⟩) n 3, .int .i64 dm, .slice oa i oc] 78 (0,0)):=by
 have hlo:=h.lo
 have s:=yX (g:=gr) [.slice (some ⟨gv,0,none⟩) n 3, .int .i64 dm, .slice oa i oc] X 0
 have hvl:(xyz.take n).length=n:=by rw [List.length_take];simp [xyz];omega
 obtain⟨a',hm, -⟩:=h.yg
 have hl:=h.len
 refine⟨⟨⟨⟨xyz.take n,dm,T⟩, .slice (some ⟨gv,0,none⟩) n 3, .slice oa i oc,rfl,⟨⟨n,hn1,hn3,rfl⟩,⟨by show(2:Int)<=(dm:Int);omega,by show(dm:Int)<=16;omega⟩,⟨by show 1<=T.length;omega,by show T.length<=3;omega⟩,λl hl=> ?_, ?_⟩,⟨?_, ?_⟩⟩,hm.below.trans (s.below hm.below.size (λk hk=>by omega))⟩, ?_⟩
 ·show xg ((xyz.take n).length:Nat) dm l 20=true
  rw [hvl];exact(h.ok l hl).1
 ·have:=zxR (λl hl=>(h.ok l hl).2)
  show(T.map yB).sum<=200
  omega
 ·exact ztH ((s.block _ (zq h.vars) (by omega)).trans h.vars) hn3
 ·exact(h.row.step (F':=λ_=>False) s (λk hk e=>(h.own_ne k hk).2.2.1 e) (λk hk=> .inl (.inr (.inr (.inr hk)))) (λ_ h=>h.elim)).slice
 exact xS (cs:= [.slice none 0 0, .int .i64 0, .slice none 0 0]) _ rfl h.res
end Go.Proofs.YteggflahafiieaaGreatDoor
namespace Go.Proofs.YteggflahafiieaaGreatDoor
open Go.RowKit
set_option maxRecDepth 100000
set_option maxHeartbeats 16000000
structure R2 (w X:World) (g gr:Nat) (sv:Value) (a:Nat) (mv mp:Option Nat):Prop where
 yg:qL w X g sv a
 res:X.heap[gr]? =some (.cells #[.slice none 0 0, .int .i64 0, .slice none 0 0] 78 (0,0))
 lo:w.heap.size<=gr/\g≠gr
 vars:∀b,mv=some b->X.heap[b]? =some (.cells jU.toArray 9 (0,0))/\w.heap.size<=b/\b≠g/\b≠gr
 prog:∀b,mp=some b->X.heap[b]? =some (.cells #[.slice none 0 0, .int .i64 0, .slice none 0 0] 78 (0,0))/\w.heap.size<=b/\b≠g/\b≠gr
 ne:∀b c,mv=some b->mp=some c->b≠c
section
variable {w X Y:World} {g gr a b:Nat} {sv:Value} {mv mp:Option Nat}
theorem R2.pick (h:R2 w X g gr sv a mv mp) (hm:qL w Y g sv b) (hs:Since (λk=>k=g) X Y):R2 w Y g gr sv b mv mp:=
 ⟨hm,(hs.block _ (zq h.res) (λe=>h.lo.2 e.symm)).trans h.res,h.lo,λc hc=>⟨(hs.block _ (zq (h.vars c hc).1) (h.vars c hc).2.2.1).trans (h.vars c hc).1,(h.vars c hc).2⟩,λc hc=>⟨(hs.block _ (zq (h.prog c hc).1) (h.prog c hc).2.2.1).trans (h.prog c hc).1,(h.prog c hc).2⟩,h.ne⟩
theorem R2.names (h:R2 w X g gr sv a none mp):R2 w (X.alloc (.cells jU.toArray 9)) g gr sv a (some X.heap.size) mp:=by
 have hb:=(Below.refl X.heap.size X).alloc (Nat.le_refl _) (.cells jU.toArray 9)
 have h1:=h.yg.below.size
 have h2:=zq h.yg.box
 have h3:=zq h.res
 refine⟨h.yg.later hb,(hb.block _ h3).trans h.res,h.lo,λc hc=> ?_,λc hc=>⟨(hb.block _ (zq (h.prog c hc).1)).trans (h.prog c hc).1,(h.prog c hc).2⟩,λc e hc he=> ?_⟩
 ·cases hc;exact⟨yE X _,h1,by omega,by omega⟩
 cases hc;have:=zq (h.prog e he).1;omega
theorem R2.box (h:R2 w X g gr sv a mv none):R2 w (X.alloc (.cells #[.slice none 0 0, .int .i64 0, .slice none 0 0] 78)) g gr sv a mv (some X.heap.size):=by
 have hb:=(Below.refl X.heap.size X).alloc (Nat.le_refl _) (.cells #[.slice none 0 0, .int .i64 0, .slice none 0 0] 78)
 have h1:=h.yg.below.size
 have h2:=zq h.yg.box
 have h3:=zq h.res
 refine⟨h.yg.later hb,(hb.block _ h3).trans h.res,h.lo,λc hc=>⟨(hb.block _ (zq (h.vars c hc).1)).trans (h.vars c hc).1,(h.vars c hc).2⟩,λc hc=> ?_,λc e hc he=> ?_⟩
 ·cases hc;exact⟨yE X _,h1,by omega,by omega⟩
 cases he;have:=zq (h.vars c hc).1;omega
theorem R2.done {gv gp n dm:Nat} (h:R2 w X g gr sv a (some gv) (some gp)) (ha:a<=9):jN w (zY X gp 0 [.slice (some ⟨gv,0,none⟩) n 3, .int .i64 dm, .slice none 0 0]) g gv gp gr sv n dm 0 (.slice none 0 0) [] [] /\∃a,qL w (zY X gp 0 [.slice (some ⟨gv,0,none⟩) n 3, .int .i64 dm, .slice none 0 0]) g sv a/\a<=9:=by
 obtain⟨v1,v2,v3,v4⟩:=h.vars gv rfl
 obtain⟨p1,p2,p3,p4⟩:=h.prog gp rfl
 have hne:=h.ne gv gp rfl rfl
 have hlo:=h.lo
 have hg:=h.yg.lo
 have s:=yX (g:=gp) [.slice (some ⟨gv,0,none⟩) n 3, .int .i64 dm, .slice none 0 0] X 0
 exact⟨⟨⟨a,h.yg.since s (λk hk=>by omega),by omega⟩,xS (cs:= [.slice none 0 0, .int .i64 0, .slice none 0 0]) _ rfl p1,(s.block _ (zq v1) hne).trans v1,(s.block _ (zq h.res) (by omega)).trans h.res,⟨hg,v2,p2,hlo.1,by omega,by omega,by omega,by omega,by omega,by omega⟩,rfl,λl hl=>by simp at hl,qp.nil _ _ _ _ _ _⟩,a,h.yg.since s (λk hk=>by omega),ha⟩
end
theorem jN.picked {w X Y:World} {g gv gp gr n dm i b:Nat} {sv va:Value} {T:List (List zG)} {css:List (List Value)} (h:jN w X g gv gp gr sv n dm i va T css) (hs:Since (λk=>k=g) X Y) (hm:qL w Y g sv b) (hb:b<=10+i*5000):jN w Y g gv gp gr sv n dm i va T css:=by
 have hlo:=h.lo
 exact⟨⟨b,hm,hb⟩,(hs.block _ (zq h.box) (by omega)).trans h.box,(hs.block _ (zq h.vars) (by omega)).trans h.vars,(hs.block _ (zq h.res) (by omega)).trans h.res,hlo,h.len,h.ok,h.row.step hs (λk hk e=>(h.own_ne k hk).1 e) (λk hk=> .inl (.inr (.inl hk))) (λk hk=> .inl hk)⟩
theorem jN.drew {w X:World} {g gv gp gr n dm i:Nat} {sv va:Value} {T:List (List zG)} {css:List (List Value)} (h:jN w X g gv gp gr sv n dm i va T css):jN w X.drew g gv gp gr sv n dm i va T css:=by
 obtain⟨a,hm,ha⟩:=h.yg
 exact h.picked (Since.drew _ (Since.refl _ X)) (hm.later (Below.refl _ _).drew) ha
theorem zlf:(Tryz.prog.info? 78).map (·.size)=some 3:=by kernel_rfl
theorem zpF:(Tryz.prog.info? 126).map (λi=>(i.zero,i.size,i.bytes))=some (some (.slice none 0 0),1,24):=by kernel_rfl
theorem wrapN (n:Nat) (h:n<=100):IntKind.i64.wrap (n:Int)=(n:Int):=IntWalk.i64_in _ (by omega)
theorem zrt (w:World) (sv:Value) (l:List Int) (hn:vY w .u8 sv l) (kv:Value) (ks:List Int) (hks:xI w kv ks) (hk1:1<=ks.length) (hk2:ks.length<=100) (hk3:∀k∈ks,1<=k/\k<=11):
  Calls Tryz.prog 28 #[sv,kv] w (zoS w):=by
 have hpick:=λW g a n ni hni h n1 n2 ha=>zfd w W g sv l a n ni hni h hn n1 n2 ha
 have hlist:=λg vars dom hv1 hv2 hd1 hd2=>ztG w g sv l hn kv ks hks hk1 hk2 hk3 vars dom hv1 hv2 hd1 hd2 2 (by omega)
 have zfe:4*jg 2=1040:=rfl
 have z5p:4*uM 2=52:=rfl
 have zfL:∀(g vars dom:Nat),1<=vars->vars<=10->2<=dom->dom<=16->∀(W:World) (a n:Nat),qL w W g sv a->n<=4->a<=100000->Calls Tryz.prog 57 #[.pointer (some ⟨g,0,none⟩), .int .i64 n, .int .i64 2, .int .i64 vars, .int .i64 dom,kv] W λe w'=>∃(L:List zG) (va:Option Addr) (vc a':Nat),e= .returned (.slice va L.length vc)/\(xg vars dom L 20=true/\yB L<=52)/\
   yK (λk=>k<W.heap.size) w' (λy=>yu 3 4 y L (.slice va L.length vc))/\qL w w' g sv a'/\a'<=a+1040/\Since (λk=>k=g) W w':=λg vars dom hv1 hv2 hd1 hd2 W a n hm gD ha=>by
  refine(hlist g vars dom hv1 hv2 hd1 hd2 W a n 4 n rfl hm gD (by omega) (by omega)).mono ?_
  rintro e w' ⟨L,va,vc,a',h1,h2,h3,h4,h5,h6,h7⟩
  exact⟨L,va,vc,a',h1,⟨zpG h2 (by omega),by omega⟩,h4,h5,by omega,h7⟩
 obtain⟨sa,sc,rfl, -⟩:∃a c,sv= .slice a l.length c/\True:=by obtain⟨a,c,h, -⟩:=hn;exact⟨a,c,h,trivial⟩
 obtain⟨ka,kc,rfl, -⟩:=ze.slice hks
 generalize l.length=ln at hpick zfL ⊢
 generalize ks.length=kn at zfL ⊢
 have qE:=qh hpick
 have z18:=qh zfL
 clear hpick hlist zfL zfe z5p hn hks hk1 hk2 hk3
 have hB:=((Below.refl w.heap.size w).alloc (Nat.le_refl _) (.cells #[.slice none 0 0, .int .i64 0, .slice none 0 0] 78)).alloc (by simp) (.cells #[.slice sa ln sc, .int .i64 0] 129)
 have H1:=xL w (.cells #[.slice none 0 0, .int .i64 0, .slice none 0 0] 78) (.cells #[.slice sa ln sc, .int .i64 0] 129)
 have H2:=xE w (.cells #[.slice none 0 0, .int .i64 0, .slice none 0 0] 78) (.cells #[.slice sa ln sc, .int .i64 0] 129)
 have HR:Hid (R2 w ((w.alloc (.cells #[.slice none 0 0, .int .i64 0, .slice none 0 0] 78)).alloc (.cells #[.slice sa ln sc, .int .i64 0] 129)) (w.heap.size+1) w.heap.size (.slice sa ln sc) 0 none none):=⟨⟨hB,by omega,H2⟩,H1,⟨Nat.le_refl _,by omega⟩,(λ_ h=>by cases h),(λ_ h=>by cases h),(λ_ _ h=>by cases h)⟩
 clear hB H1 H2
 go_enter Tryz.func28,Tryz.ntmps28
 go_upto_region 2 with fail
 generalize World.alloc (World.alloc w _) _=V at HR ⊢
 generalize w.heap.size+1=g at HR ⊢
 obtain⟨gr,hgr⟩:∃gr,gr=w.heap.size:=⟨_,rfl⟩
 rw [<-hgr] at HR ⊢
 have wT:=qh hgr
 clear hgr
 go_cut [6] (λs6 w'=>∃gv gp n dm:Nat,s6= .pointer (some ⟨gp,0,none⟩)/\1<=n/\n<=3/\2<=dm/\dm<=4/\Hid (jN w w' g gv gp gr (.slice sa ln sc) n dm 0 (.slice none 0 0) [] [])/\Hid (∃a,qL w w' g (.slice sa ln sc) a/\a<=9))
 case first=>
  have hT0:Hid (R2 w V.drew g w.heap.size (.slice sa ln sc) 0 none none):=by have h:=HR.out;rw [wT.out] at h;exact h.pick (h.yg.later (Below.refl _ _).drew) (Since.drew _ (Since.refl _ _))
  rw [<-wT.out] at hT0
  clear HR
  refine vJ (S:=λx=>Below w.heap.size w x) hT0.out.yg.below (λ_=> ?_)
  obtain⟨V1,hV1⟩:∃V1,V1=V.drew:=⟨_,rfl⟩
  rw [<-hV1]
  rw [<-hV1] at hT0
  clear hV1
  refine zA 1 zM (hT0.out.yg.below) ?_
  refine zA 5 zM (hT0.out.yg.below) ?_
  refine wpAnyH_ready (rs:= [0,2,9]) (by kernel_rfl) (by simp) ?_
  refine AllReadyH.cons rfl (λK hK=> ?_) (AllReadyH.cons rfl (λK hK=> ?_) (AllReadyH.cons rfl (λK hK=> ?_) AllReadyH.nil))
  ·skip
   go_simp
   have zck:=hT0.out.names
   unfold jU at zck
   refine hK.out _ _ zck.yg.below (λ_=> ?_)
   obtain⟨gv,hgv⟩:∃n,n=V1.heap.size:=⟨_,rfl⟩
   rw [<-hgv] at zck ⊢
   clear hgv
   generalize World.alloc V1 _=Xp2 at zck ⊢
   replace zck:=qh zck
   clear hK K
   refine wpAnyH_ready (rs:= [2,9]) (by kernel_rfl) (by simp) ?_
   refine AllReadyH.cons rfl (λK hK=> ?_) (AllReadyH.cons rfl (λK hK=> ?_) AllReadyH.nil)
   ·skip
    go_simp
    refine(qE.out Xp2 g _ 3 3 rfl zck.out.yg (by omega) (by omega) (by omega)).mono ?_
    rintro en Xp4 ⟨r1,hr1,rfl,hmk,hsi⟩
    have zgR:=qh (zck.out.pick hmk hsi)
    clear hmk hsi
    refine hK.out _ _ zgR.out.yg.below (λ_=> ?_)
    obtain⟨n,hn⟩:∃n:Nat,(1:Int)+(r1:Int)=(n:Int):=⟨1+r1,by omega⟩
    have bn1:1<=n:=by omega
    have bn2:n<=3:=by omega
    have wn:=wrapN n (by omega)
    have zn:(0:Int)<=(n:Int):=by omega
    have yn:(n:Int)<=3:=by omega
    clear hK K
    refine zA 3 zM (zgR.out.yg.below) ?_
    refine zA 4 zM (zgR.out.yg.below) ?_
    refine wpAnyH_ready (rs:= [6,9]) (by kernel_rfl) (by simp) ?_
    refine AllReadyH.cons rfl (λK hK=> ?_) (AllReadyH.cons rfl (λK hK=> ?_) AllReadyH.nil)
    ·skip
     go_simp
     refine(qE.out Xp4 g _ 3 3 rfl zgR.out.yg (by omega) (by omega) (by omega)).mono ?_
     rintro en Xp6 ⟨r2,hr2,rfl,hmk,hsi⟩
     have zpH:=qh (zgR.out.pick hmk hsi)
     clear hmk hsi
     refine hK.out _ _ zpH.out.yg.below (λ_=> ?_)
     obtain⟨dm,ug⟩:∃n:Nat,(2:Int)+(r2:Int)=(n:Int):=⟨2+r2,by omega⟩
     have zbD:2<=dm:=by omega
     have zbE:dm<=4:=by omega
     have uh:=wrapN dm (by omega)
     have zdm:(0:Int)<=(dm:Int):=by omega
     skip
     clear hK K
     refine zA 7 zM (zpH.out.yg.below) ?_
     refine zA 8 zM (zpH.out.yg.below) ?_
     refine yw 9 rfl (λK hK=> ?_)
     go_simp
     have zff:=zpH.out.box
     refine hK.out _ _ zff.yg.below (λ_=> ?_)
     obtain⟨gp,kV⟩:∃n,n=Xp6.heap.size:=⟨_,rfl⟩
     rw [<-kV] at zff ⊢
     clear kV
     generalize World.alloc Xp6 _=Xp8 at zff ⊢
     replace zff:=qh zff
     clear hK K
     refine yw 10 rfl (λK hK=> ?_)
     obtain⟨hp, -, -, -⟩:=zff.out.prog gp rfl
     have q0:Xp8.cell? ⟨gp,0,none⟩=some (.slice none 0 0):=za hp 0
     have f0:=zw hp 0
     have q1:Xp8.cell? ⟨gp,1,none⟩=some (.int .i64 0):=za hp 1
     have f1:=zw hp 1
     have q2:Xp8.cell? ⟨gp,2,none⟩=some (.slice none 0 0):=za hp 2
     have f2:=zw hp 2
     clear hp
     go_simp
     have hend:=zff.out.done (n:=n) (dm:=dm) (by omega)
     have yt:=qh hend
     refine hK.out _ _ (by obtain⟨a',hm, -⟩:=hend.2;exact hm.below) (λ_=> ?_)
     clear hend q0 q1 q2 f0 f1 f2
     clear hK K
     refine xM ?_
     clear hn ug wn uh
     go_wp2_with fail
     go_meet
     case rel=>exact⟨gv,gp,n,dm,rfl,by omega,by omega,by omega,by omega,yt.out.1,yt.out.2⟩
    skip
    go_simp
    have zfg:=zgR.out.box
    refine hK.out _ _ zfg.yg.below (λ_=> ?_)
    obtain⟨gp,kV⟩:∃n,n=Xp4.heap.size:=⟨_,rfl⟩
    rw [<-kV] at zfg ⊢
    clear kV
    generalize World.alloc Xp4 _=z5q at zfg ⊢
    replace zfg:=qh zfg
    clear hK K
    refine yw 6 rfl (λK hK=> ?_)
    go_simp
    refine(qE.out z5q g _ 3 3 rfl zfg.out.yg (by omega) (by omega) (by omega)).mono ?_
    rintro en ztJ ⟨r2,hr2,rfl,hmk,hsi⟩
    have zfM:=qh (zfg.out.pick hmk hsi)
    clear hmk hsi
    refine hK.out _ _ zfM.out.yg.below (λ_=> ?_)
    obtain⟨dm,ug⟩:∃n:Nat,(2:Int)+(r2:Int)=(n:Int):=⟨2+r2,by omega⟩
    have zbD:2<=dm:=by omega
    have zbE:dm<=4:=by omega
    have uh:=wrapN dm (by omega)
    have zdm:(0:Int)<=(dm:Int):=by omega
    skip
    clear hK K
    refine zA 7 zM (zfM.out.yg.below) ?_
    refine zA 8 zM (zfM.out.yg.below) ?_
    refine yw 10 rfl (λK hK=> ?_)
    obtain⟨hp, -, -, -⟩:=zfM.out.prog gp rfl
    have q0:ztJ.cell? ⟨gp,0,none⟩=some (.slice none 0 0):=za hp 0
    have f0:=zw hp 0
    have q1:ztJ.cell? ⟨gp,1,none⟩=some (.int .i64 0):=za hp 1
    have f1:=zw hp 1
    have q2:ztJ.cell? ⟨gp,2,none⟩=some (.slice none 0 0):=za hp 2
    have f2:=zw hp 2
    clear hp
    go_simp
    have hend:=zfM.out.done (n:=n) (dm:=dm) (by omega)
    have yt:=qh hend
    refine hK.out _ _ (by obtain⟨a',hm, -⟩:=hend.2;exact hm.below) (λ_=> ?_)
    clear hend q0 q1 q2 f0 f1 f2
    clear hK K
    refine xM ?_
    clear hn ug wn uh
    go_wp2_with fail
    go_meet
    case rel=>exact⟨gv,gp,n,dm,rfl,by omega,by omega,by omega,by omega,yt.out.1,yt.out.2⟩
   skip
   go_simp
   have zcl:=zck.out.box
   refine hK.out _ _ zcl.yg.below (λ_=> ?_)
   obtain⟨gp,kV⟩:∃n,n=Xp2.heap.size:=⟨_,rfl⟩
   rw [<-kV] at zcl ⊢
   clear kV
   generalize World.alloc Xp2 _=z5r at zcl ⊢
   replace zcl:=qh zcl
   clear hK K
   refine yw 2 rfl (λK hK=> ?_)
   go_simp
   refine(qE.out z5r g _ 3 3 rfl zcl.out.yg (by omega) (by omega) (by omega)).mono ?_
   rintro en z5s ⟨r1,hr1,rfl,hmk,hsi⟩
   have zfN:=qh (zcl.out.pick hmk hsi)
   clear hmk hsi
   refine hK.out _ _ zfN.out.yg.below (λ_=> ?_)
   obtain⟨n,hn⟩:∃n:Nat,(1:Int)+(r1:Int)=(n:Int):=⟨1+r1,by omega⟩
   have bn1:1<=n:=by omega
   have bn2:n<=3:=by omega
   have wn:=wrapN n (by omega)
   have zn:(0:Int)<=(n:Int):=by omega
   have yn:(n:Int)<=3:=by omega
   clear hK K
   refine zA 3 zM (zfN.out.yg.below) ?_
   refine zA 4 zM (zfN.out.yg.below) ?_
   refine yw 6 rfl (λK hK=> ?_)
   go_simp
   refine(qE.out z5s g _ 3 3 rfl zfN.out.yg (by omega) (by omega) (by omega)).mono ?_
   rintro en ztK ⟨r2,hr2,rfl,hmk,hsi⟩
   have zfO:=qh (zfN.out.pick hmk hsi)
   clear hmk hsi
   refine hK.out _ _ zfO.out.yg.below (λ_=> ?_)
   obtain⟨dm,ug⟩:∃n:Nat,(2:Int)+(r2:Int)=(n:Int):=⟨2+r2,by omega⟩
   have zbD:2<=dm:=by omega
   have zbE:dm<=4:=by omega
   have uh:=wrapN dm (by omega)
   have zdm:(0:Int)<=(dm:Int):=by omega
   skip
   clear hK K
   refine zA 7 zM (zfO.out.yg.below) ?_
   refine zA 8 zM (zfO.out.yg.below) ?_
   refine yw 10 rfl (λK hK=> ?_)
   obtain⟨hp, -, -, -⟩:=zfO.out.prog gp rfl
   have q0:ztK.cell? ⟨gp,0,none⟩=some (.slice none 0 0):=za hp 0
   have f0:=zw hp 0
   have q1:ztK.cell? ⟨gp,1,none⟩=some (.int .i64 0):=za hp 1
   have f1:=zw hp 1
   have q2:ztK.cell? ⟨gp,2,none⟩=some (.slice none 0 0):=za hp 2
   have f2:=zw hp 2
   clear hp
   go_simp
   have hend:=zfO.out.done (n:=n) (dm:=dm) (by omega)
   have yt:=qh hend
   refine hK.out _ _ (by obtain⟨a',hm, -⟩:=hend.2;exact hm.below) (λ_=> ?_)
   clear hend q0 q1 q2 f0 f1 f2
   clear hK K
   refine xM ?_
   clear hn ug wn uh
   go_wp2_with fail
   go_meet
   case rel=>exact⟨gv,gp,n,dm,rfl,by omega,by omega,by omega,by omega,yt.out.1,yt.out.2⟩
  ·skip
   go_simp
   refine(qE.out V1 g _ 3 3 rfl hT0.out.yg (by omega) (by omega) (by omega)).mono ?_
   rintro en zlg ⟨r1,hr1,rfl,hmk,hsi⟩
   have zef:=qh (hT0.out.pick hmk hsi)
   clear hmk hsi
   refine hK.out _ _ zef.out.yg.below (λ_=> ?_)
   obtain⟨n,hn⟩:∃n:Nat,(1:Int)+(r1:Int)=(n:Int):=⟨1+r1,by omega⟩
   have bn1:1<=n:=by omega
   have bn2:n<=3:=by omega
   have wn:=wrapN n (by omega)
   have zn:(0:Int)<=(n:Int):=by omega
   have yn:(n:Int)<=3:=by omega
   clear hK K
   refine zA 3 zM (zef.out.yg.below) ?_
   refine wpAnyH_ready (rs:= [0,6,9]) (by kernel_rfl) (by simp) ?_
   refine AllReadyH.cons rfl (λK hK=> ?_) (AllReadyH.cons rfl (λK hK=> ?_) (AllReadyH.cons rfl (λK hK=> ?_) AllReadyH.nil))
   ·skip
    go_simp
    have pV:=zef.out.names
    unfold jU at pV
    refine hK.out _ _ pV.yg.below (λ_=> ?_)
    obtain⟨gv,hgv⟩:∃n,n=zlg.heap.size:=⟨_,rfl⟩
    rw [<-hgv] at pV ⊢
    clear hgv
    generalize World.alloc zlg _=ztL at pV ⊢
    replace pV:=qh pV
    clear hK K
    refine zA 4 zM (pV.out.yg.below) ?_
    refine wpAnyH_ready (rs:= [6,9]) (by kernel_rfl) (by simp) ?_
    refine AllReadyH.cons rfl (λK hK=> ?_) (AllReadyH.cons rfl (λK hK=> ?_) AllReadyH.nil)
    ·skip
     go_simp
     refine(qE.out ztL g _ 3 3 rfl pV.out.yg (by omega) (by omega) (by omega)).mono ?_
     rintro en zxV ⟨r2,hr2,rfl,hmk,hsi⟩
     have zkM:=qh (pV.out.pick hmk hsi)
     clear hmk hsi
     refine hK.out _ _ zkM.out.yg.below (λ_=> ?_)
     obtain⟨dm,ug⟩:∃n:Nat,(2:Int)+(r2:Int)=(n:Int):=⟨2+r2,by omega⟩
     have zbD:2<=dm:=by omega
     have zbE:dm<=4:=by omega
     have uh:=wrapN dm (by omega)
     have zdm:(0:Int)<=(dm:Int):=by omega
     skip
     clear hK K
     refine zA 7 zM (zkM.out.yg.below) ?_
     refine zA 8 zM (zkM.out.yg.below) ?_
     refine yw 9 rfl (λK hK=> ?_)
     go_simp
     have zcm:=zkM.out.box
     refine hK.out _ _ zcm.yg.below (λ_=> ?_)
     obtain⟨gp,kV⟩:∃n,n=zxV.heap.size:=⟨_,rfl⟩
     rw [<-kV] at zcm ⊢
     clear kV
     generalize World.alloc zxV _=ztM at zcm ⊢
     replace zcm:=qh zcm
     clear hK K
     refine yw 10 rfl (λK hK=> ?_)
     obtain⟨hp, -, -, -⟩:=zcm.out.prog gp rfl
     have q0:ztM.cell? ⟨gp,0,none⟩=some (.slice none 0 0):=za hp 0
     have f0:=zw hp 0
     have q1:ztM.cell? ⟨gp,1,none⟩=some (.int .i64 0):=za hp 1
     have f1:=zw hp 1
     have q2:ztM.cell? ⟨gp,2,none⟩=some (.slice none 0 0):=za hp 2
     have f2:=zw hp 2
     clear hp
     go_simp
     have hend:=zcm.out.done (n:=n) (dm:=dm) (by omega)
     have yt:=qh hend
     refine hK.out _ _ (by obtain⟨a',hm, -⟩:=hend.2;exact hm.below) (λ_=> ?_)
     clear hend q0 q1 q2 f0 f1 f2
     clear hK K
     refine xM ?_
     clear hn ug wn uh
     go_wp2_with fail
     go_meet
     case rel=>exact⟨gv,gp,n,dm,rfl,by omega,by omega,by omega,by omega,yt.out.1,yt.out.2⟩
    skip
    go_simp
    have zco:=pV.out.box
    refine hK.out _ _ zco.yg.below (λ_=> ?_)
    obtain⟨gp,kV⟩:∃n,n=ztL.heap.size:=⟨_,rfl⟩
    rw [<-kV] at zco ⊢
    clear kV
    generalize World.alloc ztL _=z5t at zco ⊢
    replace zco:=qh zco
    clear hK K
    refine yw 6 rfl (λK hK=> ?_)
    go_simp
    refine(qE.out z5t g _ 3 3 rfl zco.out.yg (by omega) (by omega) (by omega)).mono ?_
    rintro en ztN ⟨r2,hr2,rfl,hmk,hsi⟩
    have zfP:=qh (zco.out.pick hmk hsi)
    clear hmk hsi
    refine hK.out _ _ zfP.out.yg.below (λ_=> ?_)
    obtain⟨dm,ug⟩:∃n:Nat,(2:Int)+(r2:Int)=(n:Int):=⟨2+r2,by omega⟩
    have zbD:2<=dm:=by omega
    have zbE:dm<=4:=by omega
    have uh:=wrapN dm (by omega)
    have zdm:(0:Int)<=(dm:Int):=by omega
    skip
    clear hK K
    refine zA 7 zM (zfP.out.yg.below) ?_
    refine zA 8 zM (zfP.out.yg.below) ?_
    refine yw 10 rfl (λK hK=> ?_)
    obtain⟨hp, -, -, -⟩:=zfP.out.prog gp rfl
    have q0:ztN.cell? ⟨gp,0,none⟩=some (.slice none 0 0):=za hp 0
    have f0:=zw hp 0
    have q1:ztN.cell? ⟨gp,1,none⟩=some (.int .i64 0):=za hp 1
    have f1:=zw hp 1
    have q2:ztN.cell? ⟨gp,2,none⟩=some (.slice none 0 0):=za hp 2
    have f2:=zw hp 2
    clear hp
    go_simp
    have hend:=zfP.out.done (n:=n) (dm:=dm) (by omega)
    have yt:=qh hend
    refine hK.out _ _ (by obtain⟨a',hm, -⟩:=hend.2;exact hm.below) (λ_=> ?_)
    clear hend q0 q1 q2 f0 f1 f2
    clear hK K
    refine xM ?_
    clear hn ug wn uh
    go_wp2_with fail
    go_meet
    case rel=>exact⟨gv,gp,n,dm,rfl,by omega,by omega,by omega,by omega,yt.out.1,yt.out.2⟩
   ·skip
    go_simp
    refine(qE.out zlg g _ 3 3 rfl zef.out.yg (by omega) (by omega) (by omega)).mono ?_
    rintro en zpI ⟨r2,hr2,rfl,hmk,hsi⟩
    have zkN:=qh (zef.out.pick hmk hsi)
    clear hmk hsi
    refine hK.out _ _ zkN.out.yg.below (λ_=> ?_)
    obtain⟨dm,ug⟩:∃n:Nat,(2:Int)+(r2:Int)=(n:Int):=⟨2+r2,by omega⟩
    have zbD:2<=dm:=by omega
    have zbE:dm<=4:=by omega
    have uh:=wrapN dm (by omega)
    have zdm:(0:Int)<=(dm:Int):=by omega
    skip
    clear hK K
    refine zA 7 zM (zkN.out.yg.below) ?_
    refine wpAnyH_ready (rs:= [0,9]) (by kernel_rfl) (by simp) ?_
    refine AllReadyH.cons rfl (λK hK=> ?_) (AllReadyH.cons rfl (λK hK=> ?_) AllReadyH.nil)
    ·skip
     go_simp
     have za5:=zkN.out.names
     unfold jU at za5
     refine hK.out _ _ za5.yg.below (λ_=> ?_)
     obtain⟨gv,hgv⟩:∃n,n=zpI.heap.size:=⟨_,rfl⟩
     rw [<-hgv] at za5 ⊢
     clear hgv
     generalize World.alloc zpI _=zxW at za5 ⊢
     replace za5:=qh za5
     clear hK K
     refine zA 4 zM (za5.out.yg.below) ?_
     refine zA 8 zM (za5.out.yg.below) ?_
     refine yw 9 rfl (λK hK=> ?_)
     go_simp
     have zcp:=za5.out.box
     refine hK.out _ _ zcp.yg.below (λ_=> ?_)
     obtain⟨gp,kV⟩:∃n,n=zxW.heap.size:=⟨_,rfl⟩
     rw [<-kV] at zcp ⊢
     clear kV
     generalize World.alloc zxW _=ztO at zcp ⊢
     replace zcp:=qh zcp
     clear hK K
     refine yw 10 rfl (λK hK=> ?_)
     obtain⟨hp, -, -, -⟩:=zcp.out.prog gp rfl
     have q0:ztO.cell? ⟨gp,0,none⟩=some (.slice none 0 0):=za hp 0
     have f0:=zw hp 0
     have q1:ztO.cell? ⟨gp,1,none⟩=some (.int .i64 0):=za hp 1
     have f1:=zw hp 1
     have q2:ztO.cell? ⟨gp,2,none⟩=some (.slice none 0 0):=za hp 2
     have f2:=zw hp 2
     clear hp
     go_simp
     have hend:=zcp.out.done (n:=n) (dm:=dm) (by omega)
     have yt:=qh hend
     refine hK.out _ _ (by obtain⟨a',hm, -⟩:=hend.2;exact hm.below) (λ_=> ?_)
     clear hend q0 q1 q2 f0 f1 f2
     clear hK K
     refine xM ?_
     clear hn ug wn uh
     go_wp2_with fail
     go_meet
     case rel=>exact⟨gv,gp,n,dm,rfl,by omega,by omega,by omega,by omega,yt.out.1,yt.out.2⟩
    skip
    go_simp
    have zeg:=zkN.out.box
    refine hK.out _ _ zeg.yg.below (λ_=> ?_)
    obtain⟨gp,kV⟩:∃n,n=zpI.heap.size:=⟨_,rfl⟩
    rw [<-kV] at zeg ⊢
    clear kV
    generalize World.alloc zpI _=zxX at zeg ⊢
    replace zeg:=qh zeg
    clear hK K
    refine yw 0 rfl (λK hK=> ?_)
    go_simp
    have pW:=zeg.out.names
    unfold jU at pW
    refine hK.out _ _ pW.yg.below (λ_=> ?_)
    obtain⟨gv,hgv⟩:∃n,n=zxX.heap.size:=⟨_,rfl⟩
    rw [<-hgv] at pW ⊢
    clear hgv
    generalize World.alloc zxX _=ztP at pW ⊢
    replace pW:=qh pW
    clear hK K
    refine zA 4 zM (pW.out.yg.below) ?_
    refine zA 8 zM (pW.out.yg.below) ?_
    refine yw 10 rfl (λK hK=> ?_)
    obtain⟨hp, -, -, -⟩:=pW.out.prog gp rfl
    have q0:ztP.cell? ⟨gp,0,none⟩=some (.slice none 0 0):=za hp 0
    have f0:=zw hp 0
    have q1:ztP.cell? ⟨gp,1,none⟩=some (.int .i64 0):=za hp 1
    have f1:=zw hp 1
    have q2:ztP.cell? ⟨gp,2,none⟩=some (.slice none 0 0):=za hp 2
    have f2:=zw hp 2
    clear hp
    go_simp
    have hend:=pW.out.done (n:=n) (dm:=dm) (by omega)
    have yt:=qh hend
    refine hK.out _ _ (by obtain⟨a',hm, -⟩:=hend.2;exact hm.below) (λ_=> ?_)
    clear hend q0 q1 q2 f0 f1 f2
    clear hK K
    refine xM ?_
    clear hn ug wn uh
    go_wp2_with fail
    go_meet
    case rel=>exact⟨gv,gp,n,dm,rfl,by omega,by omega,by omega,by omega,yt.out.1,yt.out.2⟩
   skip
   go_simp
   have zbk:=zef.out.box
   refine hK.out _ _ zbk.yg.below (λ_=> ?_)
   obtain⟨gp,kV⟩:∃n,n=zlg.heap.size:=⟨_,rfl⟩
   rw [<-kV] at zbk ⊢
   clear kV
   generalize World.alloc zlg _=ztQ at zbk ⊢
   replace zbk:=qh zbk
   clear hK K
   refine wpAnyH_ready (rs:= [0,6]) (by kernel_rfl) (by simp) ?_
   refine AllReadyH.cons rfl (λK hK=> ?_) (AllReadyH.cons rfl (λK hK=> ?_) AllReadyH.nil)
   ·skip
    go_simp
    have za6:=zbk.out.names
    unfold jU at za6
    refine hK.out _ _ za6.yg.below (λ_=> ?_)
    obtain⟨gv,hgv⟩:∃n,n=ztQ.heap.size:=⟨_,rfl⟩
    rw [<-hgv] at za6 ⊢
    clear hgv
    generalize World.alloc ztQ _=z5u at za6 ⊢
    replace za6:=qh za6
    clear hK K
    refine zA 4 zM (za6.out.yg.below) ?_
    refine yw 6 rfl (λK hK=> ?_)
    go_simp
    refine(qE.out z5u g _ 3 3 rfl za6.out.yg (by omega) (by omega) (by omega)).mono ?_
    rintro en ztR ⟨r2,hr2,rfl,hmk,hsi⟩
    have zfQ:=qh (za6.out.pick hmk hsi)
    clear hmk hsi
    refine hK.out _ _ zfQ.out.yg.below (λ_=> ?_)
    obtain⟨dm,ug⟩:∃n:Nat,(2:Int)+(r2:Int)=(n:Int):=⟨2+r2,by omega⟩
    have zbD:2<=dm:=by omega
    have zbE:dm<=4:=by omega
    have uh:=wrapN dm (by omega)
    have zdm:(0:Int)<=(dm:Int):=by omega
    skip
    clear hK K
    refine zA 7 zM (zfQ.out.yg.below) ?_
    refine zA 8 zM (zfQ.out.yg.below) ?_
    refine yw 10 rfl (λK hK=> ?_)
    obtain⟨hp, -, -, -⟩:=zfQ.out.prog gp rfl
    have q0:ztR.cell? ⟨gp,0,none⟩=some (.slice none 0 0):=za hp 0
    have f0:=zw hp 0
    have q1:ztR.cell? ⟨gp,1,none⟩=some (.int .i64 0):=za hp 1
    have f1:=zw hp 1
    have q2:ztR.cell? ⟨gp,2,none⟩=some (.slice none 0 0):=za hp 2
    have f2:=zw hp 2
    clear hp
    go_simp
    have hend:=zfQ.out.done (n:=n) (dm:=dm) (by omega)
    have yt:=qh hend
    refine hK.out _ _ (by obtain⟨a',hm, -⟩:=hend.2;exact hm.below) (λ_=> ?_)
    clear hend q0 q1 q2 f0 f1 f2
    clear hK K
    refine xM ?_
    clear hn ug wn uh
    go_wp2_with fail
    go_meet
    case rel=>exact⟨gv,gp,n,dm,rfl,by omega,by omega,by omega,by omega,yt.out.1,yt.out.2⟩
   skip
   go_simp
   refine(qE.out ztQ g _ 3 3 rfl zbk.out.yg (by omega) (by omega) (by omega)).mono ?_
   rintro en zxY ⟨r2,hr2,rfl,hmk,hsi⟩
   have zpJ:=qh (zbk.out.pick hmk hsi)
   clear hmk hsi
   refine hK.out _ _ zpJ.out.yg.below (λ_=> ?_)
   obtain⟨dm,ug⟩:∃n:Nat,(2:Int)+(r2:Int)=(n:Int):=⟨2+r2,by omega⟩
   have zbD:2<=dm:=by omega
   have zbE:dm<=4:=by omega
   have uh:=wrapN dm (by omega)
   have zdm:(0:Int)<=(dm:Int):=by omega
   skip
   clear hK K
   refine zA 7 zM (zpJ.out.yg.below) ?_
   refine yw 0 rfl (λK hK=> ?_)
   go_simp
   have pX:=zpJ.out.names
   unfold jU at pX
   refine hK.out _ _ pX.yg.below (λ_=> ?_)
   obtain⟨gv,hgv⟩:∃n,n=zxY.heap.size:=⟨_,rfl⟩
   rw [<-hgv] at pX ⊢
   clear hgv
   generalize World.alloc zxY _=ztS at pX ⊢
   replace pX:=qh pX
   clear hK K
   refine zA 4 zM (pX.out.yg.below) ?_
   refine zA 8 zM (pX.out.yg.below) ?_
   refine yw 10 rfl (λK hK=> ?_)
   obtain⟨hp, -, -, -⟩:=pX.out.prog gp rfl
   have q0:ztS.cell? ⟨gp,0,none⟩=some (.slice none 0 0):=za hp 0
   have f0:=zw hp 0
   have q1:ztS.cell? ⟨gp,1,none⟩=some (.int .i64 0):=za hp 1
   have f1:=zw hp 1
   have q2:ztS.cell? ⟨gp,2,none⟩=some (.slice none 0 0):=za hp 2
   have f2:=zw hp 2
   clear hp
   go_simp
   have hend:=pX.out.done (n:=n) (dm:=dm) (by omega)
   have yt:=qh hend
   refine hK.out _ _ (by obtain⟨a',hm, -⟩:=hend.2;exact hm.below) (λ_=> ?_)
   clear hend q0 q1 q2 f0 f1 f2
   clear hK K
   refine xM ?_
   clear hn ug wn uh
   go_wp2_with fail
   go_meet
   case rel=>exact⟨gv,gp,n,dm,rfl,by omega,by omega,by omega,by omega,yt.out.1,yt.out.2⟩
  skip
  go_simp
  have zbl:=hT0.out.box
  refine hK.out _ _ zbl.yg.below (λ_=> ?_)
  obtain⟨gp,kV⟩:∃n,n=V1.heap.size:=⟨_,rfl⟩
  rw [<-kV] at zbl ⊢
  clear kV
  generalize World.alloc V1 _=ztT at zbl ⊢
  replace zbl:=qh zbl
  clear hK K
  refine wpAnyH_ready (rs:= [0,2]) (by kernel_rfl) (by simp) ?_
  refine AllReadyH.cons rfl (λK hK=> ?_) (AllReadyH.cons rfl (λK hK=> ?_) AllReadyH.nil)
  ·skip
   go_simp
   have zbm:=zbl.out.names
   unfold jU at zbm
   refine hK.out _ _ zbm.yg.below (λ_=> ?_)
   obtain⟨gv,hgv⟩:∃n,n=ztT.heap.size:=⟨_,rfl⟩
   rw [<-hgv] at zbm ⊢
   clear hgv
   generalize World.alloc ztT _=z5v at zbm ⊢
   replace zbm:=qh zbm
   clear hK K
   refine yw 2 rfl (λK hK=> ?_)
   go_simp
   refine(qE.out z5v g _ 3 3 rfl zbm.out.yg (by omega) (by omega) (by omega)).mono ?_
   rintro en z5w ⟨r1,hr1,rfl,hmk,hsi⟩
   have zfR:=qh (zbm.out.pick hmk hsi)
   clear hmk hsi
   refine hK.out _ _ zfR.out.yg.below (λ_=> ?_)
   obtain⟨n,hn⟩:∃n:Nat,(1:Int)+(r1:Int)=(n:Int):=⟨1+r1,by omega⟩
   have bn1:1<=n:=by omega
   have bn2:n<=3:=by omega
   have wn:=wrapN n (by omega)
   have zn:(0:Int)<=(n:Int):=by omega
   have yn:(n:Int)<=3:=by omega
   clear hK K
   refine zA 3 zM (zfR.out.yg.below) ?_
   refine zA 4 zM (zfR.out.yg.below) ?_
   refine yw 6 rfl (λK hK=> ?_)
   go_simp
   refine(qE.out z5w g _ 3 3 rfl zfR.out.yg (by omega) (by omega) (by omega)).mono ?_
   rintro en ztU ⟨r2,hr2,rfl,hmk,hsi⟩
   have zfS:=qh (zfR.out.pick hmk hsi)
   clear hmk hsi
   refine hK.out _ _ zfS.out.yg.below (λ_=> ?_)
   obtain⟨dm,ug⟩:∃n:Nat,(2:Int)+(r2:Int)=(n:Int):=⟨2+r2,by omega⟩
   have zbD:2<=dm:=by omega
   have zbE:dm<=4:=by omega
   have uh:=wrapN dm (by omega)
   have zdm:(0:Int)<=(dm:Int):=by omega
   skip
   clear hK K
   refine zA 7 zM (zfS.out.yg.below) ?_
   refine zA 8 zM (zfS.out.yg.below) ?_
   refine yw 10 rfl (λK hK=> ?_)
   obtain⟨hp, -, -, -⟩:=zfS.out.prog gp rfl
   have q0:ztU.cell? ⟨gp,0,none⟩=some (.slice none 0 0):=za hp 0
   have f0:=zw hp 0
   have q1:ztU.cell? ⟨gp,1,none⟩=some (.int .i64 0):=za hp 1
   have f1:=zw hp 1
   have q2:ztU.cell? ⟨gp,2,none⟩=some (.slice none 0 0):=za hp 2
   have f2:=zw hp 2
   clear hp
   go_simp
   have hend:=zfS.out.done (n:=n) (dm:=dm) (by omega)
   have yt:=qh hend
   refine hK.out _ _ (by obtain⟨a',hm, -⟩:=hend.2;exact hm.below) (λ_=> ?_)
   clear hend q0 q1 q2 f0 f1 f2
   clear hK K
   refine xM ?_
   clear hn ug wn uh
   go_wp2_with fail
   go_meet
   case rel=>exact⟨gv,gp,n,dm,rfl,by omega,by omega,by omega,by omega,yt.out.1,yt.out.2⟩
  skip
  go_simp
  refine(qE.out ztT g _ 3 3 rfl zbl.out.yg (by omega) (by omega) (by omega)).mono ?_
  rintro en ztV ⟨r1,hr1,rfl,hmk,hsi⟩
  have zfT:=qh (zbl.out.pick hmk hsi)
  clear hmk hsi
  refine hK.out _ _ zfT.out.yg.below (λ_=> ?_)
  obtain⟨n,hn⟩:∃n:Nat,(1:Int)+(r1:Int)=(n:Int):=⟨1+r1,by omega⟩
  have bn1:1<=n:=by omega
  have bn2:n<=3:=by omega
  have wn:=wrapN n (by omega)
  have zn:(0:Int)<=(n:Int):=by omega
  have yn:(n:Int)<=3:=by omega
  clear hK K
  refine zA 3 zM (zfT.out.yg.below) ?_
  refine wpAnyH_ready (rs:= [0,6]) (by kernel_rfl) (by simp) ?_
  refine AllReadyH.cons rfl (λK hK=> ?_) (AllReadyH.cons rfl (λK hK=> ?_) AllReadyH.nil)
  ·skip
   go_simp
   have za7:=zfT.out.names
   unfold jU at za7
   refine hK.out _ _ za7.yg.below (λ_=> ?_)
   obtain⟨gv,hgv⟩:∃n,n=ztV.heap.size:=⟨_,rfl⟩
   rw [<-hgv] at za7 ⊢
   clear hgv
   generalize World.alloc ztV _=z5x at za7 ⊢
   replace za7:=qh za7
   clear hK K
   refine zA 4 zM (za7.out.yg.below) ?_
   refine yw 6 rfl (λK hK=> ?_)
   go_simp
   refine(qE.out z5x g _ 3 3 rfl za7.out.yg (by omega) (by omega) (by omega)).mono ?_
   rintro en ztW ⟨r2,hr2,rfl,hmk,hsi⟩
   have zfU:=qh (za7.out.pick hmk hsi)
   clear hmk hsi
   refine hK.out _ _ zfU.out.yg.below (λ_=> ?_)
   obtain⟨dm,ug⟩:∃n:Nat,(2:Int)+(r2:Int)=(n:Int):=⟨2+r2,by omega⟩
   have zbD:2<=dm:=by omega
   have zbE:dm<=4:=by omega
   have uh:=wrapN dm (by omega)
   have zdm:(0:Int)<=(dm:Int):=by omega
   skip
   clear hK K
   refine zA 7 zM (zfU.out.yg.below) ?_
   refine zA 8 zM (zfU.out.yg.below) ?_
   refine yw 10 rfl (λK hK=> ?_)
   obtain⟨hp, -, -, -⟩:=zfU.out.prog gp rfl
   have q0:ztW.cell? ⟨gp,0,none⟩=some (.slice none 0 0):=za hp 0
   have f0:=zw hp 0
   have q1:ztW.cell? ⟨gp,1,none⟩=some (.int .i64 0):=za hp 1
   have f1:=zw hp 1
   have q2:ztW.cell? ⟨gp,2,none⟩=some (.slice none 0 0):=za hp 2
   have f2:=zw hp 2
   clear hp
   go_simp
   have hend:=zfU.out.done (n:=n) (dm:=dm) (by omega)
   have yt:=qh hend
   refine hK.out _ _ (by obtain⟨a',hm, -⟩:=hend.2;exact hm.below) (λ_=> ?_)
   clear hend q0 q1 q2 f0 f1 f2
   clear hK K
   refine xM ?_
   clear hn ug wn uh
   go_wp2_with fail
   go_meet
   case rel=>exact⟨gv,gp,n,dm,rfl,by omega,by omega,by omega,by omega,yt.out.1,yt.out.2⟩
  skip
  go_simp
  refine(qE.out ztV g _ 3 3 rfl zfT.out.yg (by omega) (by omega) (by omega)).mono ?_
  rintro en zxZ ⟨r2,hr2,rfl,hmk,hsi⟩
  have zpK:=qh (zfT.out.pick hmk hsi)
  clear hmk hsi
  refine hK.out _ _ zpK.out.yg.below (λ_=> ?_)
  obtain⟨dm,ug⟩:∃n:Nat,(2:Int)+(r2:Int)=(n:Int):=⟨2+r2,by omega⟩
  have zbD:2<=dm:=by omega
  have zbE:dm<=4:=by omega
  have uh:=wrapN dm (by omega)
  have zdm:(0:Int)<=(dm:Int):=by omega
  skip
  clear hK K
  refine zA 7 zM (zpK.out.yg.below) ?_
  refine yw 0 rfl (λK hK=> ?_)
  go_simp
  have pY:=zpK.out.names
  unfold jU at pY
  refine hK.out _ _ pY.yg.below (λ_=> ?_)
  obtain⟨gv,hgv⟩:∃n,n=zxZ.heap.size:=⟨_,rfl⟩
  rw [<-hgv] at pY ⊢
  clear hgv
  generalize World.alloc zxZ _=ztX at pY ⊢
  replace pY:=qh pY
  clear hK K
  refine zA 4 zM (pY.out.yg.below) ?_
  refine zA 8 zM (pY.out.yg.below) ?_
  refine yw 10 rfl (λK hK=> ?_)
  obtain⟨hp, -, -, -⟩:=pY.out.prog gp rfl
  have q0:ztX.cell? ⟨gp,0,none⟩=some (.slice none 0 0):=za hp 0
  have f0:=zw hp 0
  have q1:ztX.cell? ⟨gp,1,none⟩=some (.int .i64 0):=za hp 1
  have f1:=zw hp 1
  have q2:ztX.cell? ⟨gp,2,none⟩=some (.slice none 0 0):=za hp 2
  have f2:=zw hp 2
  clear hp
  go_simp
  have hend:=pY.out.done (n:=n) (dm:=dm) (by omega)
  have yt:=qh hend
  refine hK.out _ _ (by obtain⟨a',hm, -⟩:=hend.2;exact hm.below) (λ_=> ?_)
  clear hend q0 q1 q2 f0 f1 f2
  clear hK K
  refine xM ?_
  clear hn ug wn uh
  go_wp2_with fail
  go_meet
  case rel=>exact⟨gv,gp,n,dm,rfl,by omega,by omega,by omega,by omega,yt.out.1,yt.out.2⟩
 case rest=>
 obtain⟨gv,gp,n,dm,rfl,hn1,hn3,hd2,hd4,HL,HMA⟩:=hcut
 clear HR
 obtain⟨X,rfl⟩:∃x:World,x=wc:=⟨_,rfl⟩
 obtain⟨a0,zya,ha0⟩:=HMA.out
 have zyb:=qh zya
 clear zya
 go_upto_region 4 with(go_at_call 56;go_must(refine(qE.out X g _ 3 3 rfl zyb.out (by omega) (by omega) (by omega)).mono ?_);rintro en X2 ⟨r3,hr3,rfl,hmk,hsi⟩;(have HL2:=qh (HL.out.picked hsi hmk (by omega)));clear hmk hsi HL zyb)
 obtain⟨m,hm⟩:∃m:Nat,(1:Int)+(r3:Int)=(m:Int):=⟨1+r3,by omega⟩
 have hm1:1<=m:=by omega
 have hm3:m<=3:=by omega
 rw [hm]
 clear hm hr3
 go_loopg [7] m (λgg s7 wr=>∃(j k:Nat) (oa:Option Addr) (oc:Nat) (T:List (List zG)) (css:List (List Value)),s7= .int .i64 k/\Hid (j+k=m)/\Hid (gg=k)/\Hid (jN w wr g gv gp gr (.slice sa ln sc) n dm j (.slice oa j oc) T css))
 case atStart=>exact⟨0,m,none,0, [], [],rfl,by rw [Hid];omega,rfl,HL2.out⟩
 case round=>
 obtain⟨j,k',oa,oc,T,css,rfl,HJK,HG,HL⟩:=hrel
 clear HL2
 have hj3:j<=3:=by have:=HJK.out;omega
 have hk3:k'<=3:=by have:=HJK.out;omega
 by_cases hk0:0<k'
 rotate_left
 ·obtain rfl:k'=0:=by omega
  have hj1:j=m:=by have:=HJK.out;omega
  obtain⟨hend,hset⟩:=zpE HL.out hn1 hn3 hd2 (by omega) (by omega) hj3
  have yt:=qh hend
  have zI:=qh hset
  clear hend hset hj1
  have c0:wr.cell? ⟨gp,0,none⟩=some (.slice (some ⟨gv,0,none⟩) n 3):=za HL.out.box 0
  have c1:wr.cell? ⟨gp,1,none⟩=some (.int .i64 dm):=za HL.out.box 1
  have c2:wr.cell? ⟨gp,2,none⟩=some (.slice oa j oc):=za HL.out.box 2
  have z0:wr.cell? ⟨gr,0,none⟩=some (.slice none 0 0):=za HL.out.res 0
  have z1:wr.cell? ⟨gr,1,none⟩=some (.int .i64 0):=za HL.out.res 1
  have z2:wr.cell? ⟨gr,2,none⟩=some (.slice none 0 0):=za HL.out.res 2
  have f0:=zw HL.out.res 0
  have f1:=zw HL.out.res 1
  have f2:=zw HL.out.res 2
  go_wp2_with fail
  refine bodyPost_ret (yY rfl _ _ gr 78 _ (0,0) _ rfl zI.out Tryz.underlying78 rfl zlf) rfl ?_
  exact yt.out
 obtain⟨k,rfl⟩:∃k,k'=k+1:=⟨k' - 1,by omega⟩
 have hkI:(0:Int)<(k:Int)+1:=by omega
 have CC:Hid (∀x,Since (λy=>(Value.slice oa j oc).ownBlock=some y\/y=g) wr x->x.cell? ⟨gp,0,none⟩=some (.slice (some ⟨gv,0,none⟩) n 3)/\x.cell? ⟨gp,1,none⟩=some (.int .i64 dm)/\x.cell? ⟨gp,2,none⟩=some (.slice oa j oc)):=λx hx=>by
  have h:=(hx.block _ (zq HL.out.box) (λe=>by rcases e with e|e;exact(HL.out.own_ne _ e).2.1 rfl;have:=HL.out.lo;omega)).trans HL.out.box
  exact⟨za h 0,za h 1,za h 2⟩
 go_upto_region 6 with fail
 refine wp_region_noPanic ?_
 refine yS (n0:=15) (S:=λx=>Since (λy=>(Value.slice oa j oc).ownBlock=some y\/y=g) wr x) (by kernel_rfl) (Since.drew _ (Since.refl _ wr)) (λ_=> ?_)
 obtain⟨V1,hV1⟩:∃V1,V1=wr.drew:=⟨_,rfl⟩
 have hT0:Hid (Since (λy=>(Value.slice oa j oc).ownBlock=some y\/y=g) wr V1):=by rw [hV1];exact Since.drew _ (Since.refl _ wr)
 have hl2:jN w V1 g gv gp gr (.slice sa ln sc) n dm j (.slice oa j oc) T css:=by rw [hV1];exact HL.out.drew
 rw [<-hV1]
 clear hV1
 have HL2:=qh hl2
 have zbp:=hl2.row.row
 rw [hl2.len] at zbp
 have zwf:=qh zbp
 have HOWN:Hid (∀k,(Value.slice oa j oc).ownBlock=some k->k≠g):=λk hk=>(hl2.own_ne k hk).1
 obtain⟨a1,hmk,ha1⟩:=hl2.yg
 have yM:=qh hmk.below.size
 have HMK:=qh (And.intro hmk ha1)
 clear hl2 zbp hmk ha1
 refine zP 0 (λ_=>hT0.out) ?_
 refine vK [13,14,15] 1 CC.out (hT0.out) ?_
 refine zP 2 (λ_=>hT0.out) ?_
 refine zP 3 (λ_=>hT0.out) ?_
 refine zP 5 (λ_=>hT0.out) ?_
 refine vK [7,11,12,13,14,15] 6 CC.out (hT0.out) ?_
 refine zP 7 (λ_=>hT0.out) ?_
 refine zP 8 (λ_=>hT0.out) ?_
 refine vK [11,12,13,14,15] 9 CC.out (hT0.out) ?_
 refine zP 10 (λ_=>hT0.out) ?_
 refine jD 4 rfl (λK hK=> ?_)
 go_simp
 refine(qE.out V1 g _ 5 5 rfl HMK.out.1 (by omega) (by omega) (by have h5:=HMK.out.2;omega)).mono ?_
 rintro en V2 ⟨r5,hr5,rfl,hmk,hsi⟩
 have zyd:=qh hmk
 have ztY:=qh hsi
 have hT1:=qh (hT0.out.trans hsi (λy hy=> .inl (.inr hy)))
 clear hmk hsi
 refine hK.out _ _ (λ_ _=>hT1.out) ?_
 clear hK K
 refine jD 11 rfl (λK hK=> ?_)
 go_simp
 refine(z18.out g n dm (by omega) (by omega) (by omega) (by omega) V2 _ r5 zyd.out (by omega) (by have h5:=HMK.out.2;omega)).mono ?_
 rintro en V3 ⟨L,na,nc,a2,rfl,hok,haw,hmk,ha2,hsi⟩
 have zye:=qh hmk
 have ztZ:=qh (And.intro hok haw)
 have zpL:=qh (ztY.out.trans hsi (λ_ h=> .inl h))
 have HSZ:=qh hsi.size
 have hT2:=qh (hT1.out.trans hsi (λy hy=> .inl (.inr hy)))
 have hrow:=zpL.out.row zwf.out (λk hk e=>(HOWN.out k hk) e)
 have zfV:=qh hrow
 clear hmk hsi hok haw hrow
 refine hK.out _ _ (λ_ _=>hT2.out) ?_
 clear hK K
 refine jD 12 rfl (λK hK=> ?_)
 go_simp
 have hT3:=qh (hT2.out.alloc (.cells #[.slice na L.length nc] 126))
 refine hK.out _ _ (λ_ _=>hT3.out) ?_
 clear hK K
 refine jD 13 rfl (λK hK=> ?_)
 refine zV (V3.alloc (.cells #[.slice na L.length nc] 126)) (by rfl) (.tmp 28) (.tmp 39) 76 rfl 126 (.slice none 0 0) 1 24 Tryz.underlying76 zpF rfl (by decide) w.heap.size (.slice oa j oc) j (css.flatten) (by rfl) (zfV.out.alloc _) ⟨V3.heap.size,0,none⟩ 1 1 [.slice na L.length nc] (by rfl) rfl (gT V3 _ _) (by simp [Value.oneCell']) (by unfold maxLen;omega) (by omega) (by have h5:=yM.out;have h6:=zpL.out.size;simp;omega) ?_
 intro xa xc V4 e1 e2 e3 e4 e5
 have qF:=qh (hT3.out.trans e4 (λy hy=> .inl (.inl hy)))
 have hp:=HL2.out.push zpL.out zye.out (by have:=HMK.out.2;omega) ztZ.out.1 rfl (ztZ.out.2.step (Since.refl (λ_=>False) V3) (λ_ h=>h.elim) (λk hk=> .inl (by have h5:=ztY.out.size;omega))) e1 e4 e5
 have HP:=qh hp
 clear e1 e2 e3 e4 e5 hp
 refine hK.out _ _ (λ_ _=>qF.out) ?_
 clear hK K
 change qG _ _ _ _ _ _ _ _ (Act.put _ (some 40) _) _
 simp only [Act.put,zQ,zR,zS]
 refine zP 14 (λ_=>qF.out) ?_
 refine jD 15 rfl (λK hK=> ?_)
 have q2:V4.cell? ⟨gp,2,none⟩=some (.slice oa j oc):=za HP.out.1 2
 have f2:=zw HP.out.1 2
 go_simp
 refine hK.out _ _ (λh=>absurd rfl h) ?_
 clear q2 f2
 have hT5:=qF
 clear hK K
 refine xO (by kernel_rfl) ?_ _
 refine NoPanic.normal ?_
 have HP2:=qh HP.out.2
 clear HP zyd zye ztZ ztY zpL zfV zwf HOWN CC
 go_wp2_with fail
 go_roundg k
 case measure=>rw [HG.out];omega
 case rel=>exact⟨j+1,k,xa,xc,_,_,(by first|rfl|simp),by have:=HJK.out;rw [Hid];omega,rfl,HP2.out⟩
