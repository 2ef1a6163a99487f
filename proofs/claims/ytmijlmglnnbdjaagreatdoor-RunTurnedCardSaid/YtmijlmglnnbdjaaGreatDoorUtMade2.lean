/- Steps. -/
import Derived.Test.YtmijlmglnnbdjaaGreatDoorUtMakerL
import Derived.Test.YtmijlmglnnbdjaaGreatDoorUtTail
set_option linter.all false
namespace Go.Proofs.YtmijlmglnnbdjaaGreatDoor
open Go.RowKit
set_option maxRecDepth 100000
set_option maxHeartbeats 16000000
theorem zxf (f:World) (g:Nat) (j:Value) (l:List Int) (y:vL f .u8 j l) (kv:Value) (m:List Int) (c:qx f kv m) (u:1<=m.length) (t:m.length<=100) (r:∀k∈m,1<=k/\k<=11) (vars dom:Nat) (p:1<=vars) (o:vars<=10) (x:2<=dom) (v:dom<=16) (d:Nat) (z:d<=10):
  zii f g j kv vars dom d:=by
 obtain⟨ka,kc,q, -⟩:=zh.slice c;induction d with
 |zero=>exact znh f g j kv vars dom 0 (zni f g j l y kv m c u t r vars dom p o x v 0 (by omega) (λh=>by omega)) ka _ kc q
 |succ d ih=>exact znh f g j kv vars dom (d+1) (zni f g j l y kv m c u t r vars dom p o x v (d+1) z (λ_=>ih (by omega))) ka _ kc q
def zg2:List Int:= [1,2,1,2,3,4,5,6,7,8,9,10,11]
theorem zui (w:World):Calls Tryz.prog 8 #[] w λe c=>(∃kv,e= .returned kv/\qx c kv zg2)/\Below w.heap.size w c:=by
 have h:=(Below.refl w.heap.size w).alloc (Nat.le_refl _) (.cells #[I4 1,I4 2,I4 1,I4 2,I4 3,I4 4,I4 5,I4 6,I4 7,I4 8,I4 9,I4 10,I4 11] 3);have f:=zQ w (.cells #[I4 1,I4 2,I4 1,I4 2,I4 3,I4 4,I4 5,I4 6,I4 7,I4 8,I4 9,I4 10,I4 11] 3);have d:=zal (w:=w.alloc (.cells #[I4 1,I4 2,I4 1,I4 2,I4 3,I4 4,I4 5,I4 6,I4 7,I4 8,I4 9,I4 10,I4 11] 3)) (l:=zg2) (B:=0) (sv:= .slice (some ⟨w.heap.size,0,none⟩) 13 13) (pV (n:=13) (cs:=zx xI zg2) f (Nat.zero_le _) rfl (by decide));have k:=qh h;have j:=qh d;clear h f d;go_enter Tryz.func8,Tryz.ntmps8
 go_wp2_with fail
 go_ret;exact⟨⟨_,rfl,j.o⟩,k.o⟩
def gP:List Value:= [.string ⟨#[120]⟩, .string ⟨#[121]⟩, .string ⟨#[122]⟩]
theorem zxg {X:World} {gv n:Nat} (h:X.heap[gv]? =some (.cells gP.toArray 9 (0,0))) (l:n<=3):zem X (.slice (some ⟨gv,0,none⟩) n 3) (xyz.take n):=by
 have c:(xyz.take n).length=n:=by rw [List.length_take];simp [xyz];omega
 refine⟨_,3,by rw [c],by rw [c];omega,λj f=> ?_⟩
 rw [c] at f;have e:(xyz.take n).getD j default=xyz.getD j default:=by simp only [List.getD_eq_getElem?_getD,List.getElem?_take_of_lt f]
 have d:j=0\/j=1\/j=2:=by omega
 rw [e];rcases d with rfl|rfl|rfl
 ·refine⟨gv,0, [.string ⟨#[120]⟩],rfl,zA h,rfl,λi k=> ?_,rfl⟩
  obtain rfl:i=0:=by omega
  rw [ze h];rfl
 ·refine⟨gv,0, [.string ⟨#[121]⟩],rfl,zA h,rfl,λi k=> ?_,rfl⟩
  obtain rfl:i=0:=by omega
  rw [ze h];rfl
 refine⟨gv,0, [.string ⟨#[122]⟩],rfl,zA h,rfl,λi k=> ?_,rfl⟩
 obtain rfl:i=0:=by omega
 rw [ze h];rfl
def PF (va:Value) (g gp gr:Nat) (k:Nat):Prop:=va.ownBlock=some k\/k=g\/k=gp\/k=gr
structure wX (w X:World) (g gv gp gr:Nat) (sv:Value) (n dm i:Nat) (va:Value) (T:List (List zP)) (css:List (List Value)):Prop where
 yC:∃a',jd w X g sv a'/\a'<=10+i*5000
 box:X.heap[gp]? =some (.cells #[.slice (some ⟨gv,0,none⟩) n 3,I4 dm,va] 69 (0,0))
 vars:X.heap[gv]? =some (.cells gP.toArray 9 (0,0))
 res:X.heap[gr]? =some (.cells #[N7,I4 0,N7] 69 (0,0))
 lo:w.heap.size<=g/\w.heap.size<=gv/\w.heap.size<=gp/\w.heap.size<=gr/\g≠gp/\g≠gr/\gp≠gr/\gv≠g/\gv≠gp/\gv≠gr
 len:T.length=i
 ok:∀l∈T,xM n dm l 20=true/\yS l<=52
 row:qA (PF va g gp gr) X (zke 3 4) 1 w.heap.size 97 va T css
section
variable {w X Y:World} {g gv gp gr:Nat} {sv:Value} {n dm i:Nat} {va:Value} {T:List (List zP)} {css:List (List Value)}
theorem wX.own_ne (h:wX w X g gv gp gr sv n dm i va T css):∀k,va.ownBlock=some k->k≠g/\k≠gp/\k≠gr/\k≠gv:=λk c=>by
 obtain⟨f,d, -⟩:=h.yC;exact⟨λe=>by subst e;exact bA h.row.row c d.box (by decide),λe=>by subst e;exact bA h.row.row c h.box (by decide),λe=>by subst e;exact bA h.row.row c h.res (by decide),λe=>by subst e;exact bA h.row.row c h.vars (by decide)⟩
theorem wX.lt (h:wX w X g gv gp gr sv n dm i va T css):∀k,PF va g gp gr k->k<X.heap.size:=λk c=>by
 obtain⟨f,d, -⟩:=h.yC;rcases c with c|rfl|rfl|rfl
 ·exact(h.row.row.lt k c).2
 ·exact zA d.box
 ·exact zA h.box
 exact zA h.res
theorem wX.push {m G I P v:Nat} {Z:World} {x J q:Option Addr} {l:List zP} {o:Obj} (h:wX w X g gv gp gr sv n dm i (.slice x i v) T css) (H:Since (λk=>k=g) X Y) (W:jd w Y g sv P) (Q:P<=10+i*5000+5000) (L:xM n dm l 20=true/\yS l<=52) (U:l.length=G)
  (O:yL (λk=>k<X.heap.size) Y (λy=>yQ 3 4 y l (.slice J G I))) (j:Z.ownsRow w.heap.size 97 1 (.slice q (i+1) m) (i+1) (css.flatten++ [.slice J G I])) (K:Since (λk=>(Value.slice x i v).ownBlock=some k) (Y.alloc o) Z) (V:∀k,(Value.slice q (i+1) m).ownBlock=some k->(Value.slice x i v).ownBlock=some k\/k=(Y.alloc o).heap.size):
  Z.heap[gp]? =some (.cells #[.slice (some ⟨gv,0,none⟩) n 3,I4 dm, .slice x i v] 69 (0,0))/\wX w (Z.setCell ⟨gp,2,none⟩ (.slice q (i+1) m)) g gv gp gr sv n dm (i+1) (.slice q (i+1) m) (T++ [l]) (css++ [[.slice J G I]]):=by
 have N:=h.lo;have d:=h.own_ne;have M:=h.lt;have E:Since (λk=>(Value.slice x i v).ownBlock=some k) Y Z:=((Since.refl _ Y).alloc o).trans K (λk c=> .inl c);have D:Since (λk=>k=gp) Z (Z.setCell ⟨gp,2,none⟩ (.slice q (i+1) m)):=Since.setCell (F:=λk=>k=gp) (p:=⟨gp,2,none⟩) (Since.refl _ _) (.inl rfl) _;have S:Since (λk=>(Value.slice x i v).ownBlock=some k\/k=gp) Y (Z.setCell ⟨gp,2,none⟩ (.slice q (i+1) m)):=(E.mono (λk _ c=> .inl c)).trans D (λk c=> .inl (.inr c));have u:=(H.block _ (zA h.box) (by omega)).trans h.box;have z:=(H.block _ (zA h.vars) (by omega)).trans h.vars
 have A:=(H.block _ (zA h.res) (by omega)).trans h.res;have R:=(E.block _ (zA u) (λe=>(d _ e).2.1 rfl)).trans u;have f:=(E.block _ (zA z) (λe=>(d _ e).2.2.2 rfl)).trans z;have t:=(E.block _ (zA A) (λe=>(d _ e).2.2.1 rfl)).trans A
 have C:∀k,(Value.slice q (i+1) m).ownBlock=some k->k≠gp:=λk c e=>by
  rcases V k c with j|j
  ·exact(d k j).2.1 e
  have:=zA u;simp at j;omega
 refine⟨R,⟨⟨P,W.since S (λk c=> ?_),by omega⟩, ?_,(D.block _ (zA f) (by omega)).trans f,(D.block _ (zA t) (by omega)).trans t,N,by simp [h.len],λy r=> ?_, ?_⟩⟩
 ·rcases c with c|c
  ·have:=(h.row.row.lt k c).1;have:=(d k c).1;omega
  omega
 ·have:=zu R 2 (.slice q (i+1) m);simpa using this
 ·rcases List.mem_append.1 r with r|r
  ·exact h.ok y r
  rw [List.mem_singleton] at r;subst r;exact L
 have B:=h.row.step (F':=PF (.slice x i v) g gp gr) H (λk c e=>(d k c).1 e) (λk c=> .inl (.inr (.inl c))) (λk c=> .inl c);refine B.push S (λk c=> ?_) (λk c=> ?_) (λy r=>⟨_,rfl,O y (r.mono (λk _ c=>M k c))⟩) rfl ?_
 ·rcases c with c|c
  ·exact .inl (.inl c)
  exact .inl (.inr (.inr (.inl c)))
 ·rcases c with c|c|c|c
  ·rcases V k c with j|j
   ·exact .inl (.inl j)
   exact .inr (by simp at j;omega)
  ·exact .inl (.inr (.inl c))
  ·exact .inl (.inr (.inr (.inl c)))
  exact .inl (.inr (.inr (.inr c)))
 rw [h.len];exact D.row j C
end
def zp1 (w:World) (en:Ending) (w':World):Prop:=(∃p vv tv,en= .returned (zgK p vv tv)/\zgI p/\zen 3 4 w' p vv tv)/\Below w.heap.size w w'
theorem z4m {T:List (List zP)} (h:∀l∈T,yS l<=52):(T.map yS).sum<=T.length*52:=by
 induction T with
 |nil=>simp
 |cons l T ih=>
 have d:=h l (by simp);have c:=ih (λx hx=>h x (by simp [hx]));simp only [List.map_cons,List.sum_cons,List.length_cons];omega
theorem zrc {w X:World} {g gv gp gr:Nat} {sv:Value} {n dm i c:Nat} {d:Option Addr} {T:List (List zP)} {css:List (List Value)} (h:wX w X g gv gp gr sv n dm i (.slice d i c) T css) (p:1<=n) (f:n<=3) (x:2<=dm) (v:dm<=16) (u:1<=i) (t:i<=3):
  zp1 w (.returned (.agg #[.slice (some ⟨gv,0,none⟩) n 3,I4 dm, .slice d i c])) (yU X gr 0 [.slice (some ⟨gv,0,none⟩) n 3,I4 dm, .slice d i c])/\
  (yU X gr 0 [.slice (some ⟨gv,0,none⟩) n 3,I4 dm, .slice d i c]).heap[gr]? =some (.cells #[.slice (some ⟨gv,0,none⟩) n 3,I4 dm, .slice d i c] 69 (0,0)):=by
 have r:=h.lo;have s:=xR (g:=gr) [.slice (some ⟨gv,0,none⟩) n 3,I4 dm, .slice d i c] X 0;have o:(xyz.take n).length=n:=by rw [List.length_take];simp [xyz];omega
 obtain⟨y,q, -⟩:=h.yC;have j:=h.len;refine⟨⟨⟨⟨xyz.take n,dm,T⟩, .slice (some ⟨gv,0,none⟩) n 3, .slice d i c,rfl,⟨⟨n,p,f,rfl⟩,⟨by show(2:Int)<=(dm:Int);omega,by show(dm:Int)<=16;omega⟩,⟨by show 1<=T.length;omega,by show T.length<=3;omega⟩,λl j=> ?_, ?_⟩,⟨?_, ?_⟩⟩,q.below.trans (s.below q.below.size (λk m=>by omega))⟩, ?_⟩
 ·show xM ((xyz.take n).length:Nat) dm l 20=true
  rw [o];exact(h.ok l j).1
 ·have:=z4m (λl j=>(h.ok l j).2)
  show(T.map yS).sum<=200
  omega
 ·exact zxg ((s.block _ (zA h.vars) (by omega)).trans h.vars) f
 ·exact(h.row.step (F':=λ_=>False) s (λk m e=>(h.own_ne k m).2.2.1 e) (λk m=> .inl (.inr (.inr (.inr m)))) (λ_ h=>h.elim)).slice
 exact qU (cs:= [N7,I4 0,N7]) _ rfl h.res
end Go.Proofs.YtmijlmglnnbdjaaGreatDoor
namespace Go.Proofs.YtmijlmglnnbdjaaGreatDoor
open Go.RowKit
set_option maxRecDepth 100000
set_option maxHeartbeats 16000000
structure R2 (w X:World) (g gr:Nat) (sv:Value) (a:Nat) (mv mp:Option Nat):Prop where
 yC:jd w X g sv a
 res:X.heap[gr]? =some (.cells #[N7,I4 0,N7] 69 (0,0))
 lo:w.heap.size<=gr/\g≠gr
 vars:∀b,mv=some b->X.heap[b]? =some (.cells gP.toArray 9 (0,0))/\w.heap.size<=b/\b≠g/\b≠gr
 prog:∀b,mp=some b->X.heap[b]? =some (.cells #[N7,I4 0,N7] 69 (0,0))/\w.heap.size<=b/\b≠g/\b≠gr
 ne:∀b c,mv=some b->mp=some c->b≠c
section
variable {w X Y:World} {g gr a b:Nat} {sv:Value} {mv mp:Option Nat}
theorem R2.pick (h:R2 w X g gr sv a mv mp) (j:jd w Y g sv b) (f:Since (λk=>k=g) X Y):R2 w Y g gr sv b mv mp:=
 ⟨j,(f.block _ (zA h.res) (λe=>h.lo.2 e.symm)).trans h.res,h.lo,λc d=>⟨(f.block _ (zA (h.vars c d).1) (h.vars c d).2.2.1).trans (h.vars c d).1,(h.vars c d).2⟩,λc d=>⟨(f.block _ (zA (h.prog c d).1) (h.prog c d).2.2.1).trans (h.prog c d).1,(h.prog c d).2⟩,h.ne⟩
theorem R2.names (h:R2 w X g gr sv a none mp):R2 w (X.alloc (.cells gP.toArray 9)) g gr sv a (some X.heap.size) mp:=by
 have f:=(Below.refl X.heap.size X).alloc (Nat.le_refl _) (.cells gP.toArray 9);have l:=h.yC.below.size;have m:=zA h.yC.box;have k:=zA h.res;refine⟨h.yC.later f,(f.block _ k).trans h.res,h.lo,λc d=> ?_,λc d=>⟨(f.block _ (zA (h.prog c d).1)).trans (h.prog c d).1,(h.prog c d).2⟩,λc e d j=> ?_⟩
 ·cases d;exact⟨zQ X _,l,by omega,by omega⟩
 cases d;have:=zA (h.prog e j).1;omega
theorem R2.box (h:R2 w X g gr sv a mv none):R2 w (X.alloc (.cells #[N7,I4 0,N7] 69)) g gr sv a mv (some X.heap.size):=by
 have f:=(Below.refl X.heap.size X).alloc (Nat.le_refl _) (.cells #[N7,I4 0,N7] 69);have l:=h.yC.below.size;have m:=zA h.yC.box;have k:=zA h.res;refine⟨h.yC.later f,(f.block _ k).trans h.res,h.lo,λc d=>⟨(f.block _ (zA (h.vars c d).1)).trans (h.vars c d).1,(h.vars c d).2⟩,λc d=> ?_,λc e d j=> ?_⟩
 ·cases d;exact⟨zQ X _,l,by omega,by omega⟩
 cases j;have:=zA (h.vars c d).1;omega
theorem R2.done {gv gp n dm:Nat} (h:R2 w X g gr sv a (some gv) (some gp)) (t:a<=9):wX w (yU X gp 0 [.slice (some ⟨gv,0,none⟩) n 3,I4 dm,N7]) g gv gp gr sv n dm 0 (N7) [] [] /\∃a,jd w (yU X gp 0 [.slice (some ⟨gv,0,none⟩) n 3,I4 dm,N7]) g sv a/\a<=9:=by
 obtain⟨f,j,v,u⟩:=h.vars gv rfl;obtain⟨o,m,y,x⟩:=h.prog gp rfl;have c:=h.ne gv gp rfl rfl;have d:=h.lo;have r:=h.yC.lo;have s:=xR (g:=gp) [.slice (some ⟨gv,0,none⟩) n 3,I4 dm,N7] X 0;exact⟨⟨⟨a,h.yC.since s (λk q=>by omega),by omega⟩,qU (cs:= [N7,I4 0,N7]) _ rfl o,(s.block _ (zA f) c).trans f,(s.block _ (zA h.res) (by omega)).trans h.res,⟨r,j,m,d.1,by omega,by omega,by omega,by omega,by omega,by omega⟩,rfl,λl p=>by simp at p,qA.nil _ _ _ _ _ _⟩,a,h.yC.since s (λk q=>by omega),t⟩
end
theorem wX.picked {w X Y:World} {g gv gp gr n dm i b:Nat} {sv va:Value} {T:List (List zP)} {css:List (List Value)} (h:wX w X g gv gp gr sv n dm i va T css) (d:Since (λk=>k=g) X Y) (j:jd w Y g sv b) (l:b<=10+i*5000):wX w Y g gv gp gr sv n dm i va T css:=by
 have f:=h.lo;exact⟨⟨b,j,l⟩,(d.block _ (zA h.box) (by omega)).trans h.box,(d.block _ (zA h.vars) (by omega)).trans h.vars,(d.block _ (zA h.res) (by omega)).trans h.res,f,h.len,h.ok,h.row.step d (λk c e=>(h.own_ne k c).1 e) (λk c=> .inl (.inr (.inl c))) (λk c=> .inl c)⟩
theorem wX.drew {w X:World} {g gv gp gr n dm i:Nat} {sv va:Value} {T:List (List zP)} {css:List (List Value)} (h:wX w X g gv gp gr sv n dm i va T css):wX w X.drew g gv gp gr sv n dm i va T css:=by
 obtain⟨a,c,d⟩:=h.yC;exact h.picked (Since.drew _ (Since.refl _ X)) (c.later (Below.refl _ _).drew) d
theorem znj:(Tryz.prog.info? 69).map (·.size)=some 3:=by kernel_rfl
theorem zrd:(Tryz.prog.info? 97).map (λi=>(i.zero,i.size,i.bytes))=some (some (N7),1,24):=by kernel_rfl
theorem wrapN (n:Nat) (h:n<=100):IntKind.i64.wrap (n:Int)=(n:Int):=IntWalk.i64_in _ (by omega)
theorem zuj (w:World) (sv:Value) (l:List Int) (Z:vL w .u8 sv l) (kv:Value) (ks:List Int) (hks:qx w kv ks) (hk1:1<=ks.length) (hk2:ks.length<=100) (hk3:∀k∈ks,1<=k/\k<=11):
  Calls Tryz.prog 23 #[sv,kv] w (zp1 w):=by
 have hpick:=λW g a n ni hni h n1 n2 ha=>zij w W g sv l a n ni hni h Z n1 n2 ha;have hlist:=λg vars dom hv1 hv2 hd1 hd2=>zxf w g sv l Z kv ks hks hk1 hk2 hk3 vars dom hv1 hv2 hd1 hd2 2 (by omega);have uN:4*kR 2=1040:=rfl;have zA9:4*zaO 2=52:=rfl
 have zjo:∀(g vars dom:Nat),1<=vars->vars<=10->2<=dom->dom<=16->∀(W:World) (a n:Nat),jd w W g sv a->n<=4->a<=100000->Calls Tryz.prog 49 #[.pointer (some ⟨g,0,none⟩),I4 n,I4 2,I4 vars,I4 dom,kv] W λe w'=>∃(L:List zP) (va:Option Addr) (vc a':Nat),e= .returned (.slice va L.length vc)/\(xM vars dom L 20=true/\yS L<=52)/\
   yL (λk=>k<W.heap.size) w' (λy=>yQ 3 4 y L (.slice va L.length vc))/\jd w w' g sv a'/\a'<=a+1040/\Since (λk=>k=g) W w':=λg vars dom hv1 hv2 hd1 hd2 W a n A pF ha=>by
  refine(hlist g vars dom hv1 hv2 hd1 hd2 W a n 4 n rfl A pF (by omega) (by omega)).mono ?_
  rintro e w' ⟨L,va,vc,a',h1,h2,h3,h4,h5,h6,h7⟩;exact⟨L,va,vc,a',h1,⟨zpX h2 (by omega),by omega⟩,h4,h5,by omega,h7⟩
 obtain⟨sa,sc,rfl, -⟩:∃a c,sv= .slice a l.length c/\True:=by obtain⟨a,c,h, -⟩:=Z;exact⟨a,c,h,trivial⟩
 obtain⟨ka,kc,rfl, -⟩:=zh.slice hks;generalize l.length=ln at hpick zjo ⊢;generalize ks.length=kn at zjo ⊢;have vO:=qh hpick;have z7j:=qh zjo;clear hpick hlist zjo uN zA9 Z hks hk1 hk2 hk3;have hB:=((Below.refl w.heap.size w).alloc (Nat.le_refl _) (.cells #[N7,I4 0,N7] 69)).alloc (by simp) (.cells #[.slice sa ln sc,I4 0] 100);have H1:=xA w (.cells #[N7,I4 0,N7] 69) (.cells #[.slice sa ln sc,I4 0] 100);have H2:=xq w (.cells #[N7,I4 0,N7] 69) (.cells #[.slice sa ln sc,I4 0] 100)
 have HR:J2 (R2 w ((w.alloc (.cells #[N7,I4 0,N7] 69)).alloc (.cells #[.slice sa ln sc,I4 0] 100)) (w.heap.size+1) w.heap.size (.slice sa ln sc) 0 none none):=⟨⟨hB,by omega,H2⟩,H1,⟨Nat.le_refl _,by omega⟩,(λ_ h=>by cases h),(λ_ h=>by cases h),(λ_ _ h=>by cases h)⟩;clear hB H1 H2;go_enter Tryz.func23,Tryz.ntmps23
 go_upto_region 2 with fail
 generalize World.alloc (World.alloc w _) _=V at HR ⊢;generalize w.heap.size+1=g at HR ⊢;obtain⟨gr,hgr⟩:=qxE w.heap.size;rw [<-hgr] at HR ⊢;have pq:=qh hgr;clear hgr;go_cut [6] (λs6 w'=>∃gv gp n dm:Nat,s6= .pointer (some ⟨gp,0,none⟩)/\1<=n/\n<=3/\2<=dm/\dm<=4/\J2 (wX w w' g gv gp gr (.slice sa ln sc) n dm 0 (N7) [] [])/\J2 (∃a,jd w w' g (.slice sa ln sc) a/\a<=9))
 case first=>
  have v:J2 (R2 w V.drew g w.heap.size (.slice sa ln sc) 0 none none):=by have h:=HR.o;rw [pq.o] at h;exact h.pick (h.yC.later (Below.refl _ _).drew) (Since.drew _ (Since.refl _ _))
  rw [<-pq.o] at v;clear HR;refine qz (S:=λx=>Below w.heap.size w x) v.o.yC.below (λ_=> ?_)
  obtain⟨V1,hV1⟩:=qxE V.drew;rw [<-hV1];rw [<-hV1] at v;clear hV1;refine zB 1 zM (v.o.yC.below) ?_
  refine zB 5 zM (v.o.yC.below) ?_
  refine wpAnyH_ready (rs:= [0,2,9]) (by kernel_rfl) (by simp) ?_
  refine AllReadyH.cons rfl (λK hK=> ?_) (AllReadyH.cons rfl (λK hK=> ?_) (AllReadyH.cons rfl (λK hK=> ?_) AllReadyH.nil))
  ·skip
   go_simp
   have Q:=v.o.names;unfold gP at Q;refine hK.out _ _ Q.yC.below (λ_=> ?_)
   obtain⟨gv,r⟩:=qxE V1.heap.size;rw [<-r] at Q ⊢;clear r;generalize World.alloc V1 _=Xp2 at Q ⊢;replace Q:=qh Q;clear hK K;refine wpAnyH_ready (rs:= [2,9]) (by kernel_rfl) (by simp) ?_
   refine AllReadyH.cons rfl (λK hK=> ?_) (AllReadyH.cons rfl (λK hK=> ?_) AllReadyH.nil)
   ·skip
    go_simp
    refine(vO.o Xp2 g _ 3 3 rfl Q.o.yC (by omega) (by omega) (by omega)).mono ?_
    rintro en Xp4 ⟨r1,hr1,rfl,f,p⟩;have zk0:=qh (Q.o.pick f p);clear f p;refine hK.out _ _ zk0.o.yC.below (λ_=> ?_)
    obtain⟨n,Z⟩:∃n:Nat,(1:Int)+(r1:Int)=(n:Int):=⟨1+r1,by omega⟩;have bn1:1<=n:=by omega
    have bn2:n<=3:=by omega
    have wn:=wrapN n (by omega);have zn:(0:Int)<=(n:Int):=by omega
    have yn:(n:Int)<=3:=by omega
    clear hK K;refine zB 3 zM (zk0.o.yC.below) ?_
    refine zB 4 zM (zk0.o.yC.below) ?_
    refine wpAnyH_ready (rs:= [6,9]) (by kernel_rfl) (by simp) ?_
    refine AllReadyH.cons rfl (λK hK=> ?_) (AllReadyH.cons rfl (λK hK=> ?_) AllReadyH.nil)
    ·skip
     go_simp
     refine(vO.o Xp4 g _ 3 3 rfl zk0.o.yC (by omega) (by omega) (by omega)).mono ?_
     rintro en Xp6 ⟨r2,U,rfl,f,p⟩;have zre:=qh (zk0.o.pick f p);clear f p;refine hK.out _ _ zre.o.yC.below (λ_=> ?_)
     obtain⟨dm,u⟩:∃n:Nat,(2:Int)+(r2:Int)=(n:Int):=⟨2+r2,by omega⟩;have J:2<=dm:=by omega
     have I:dm<=4:=by omega
     have t:=wrapN dm (by omega);have M:(0:Int)<=(dm:Int):=by omega
     skip
     clear hK K;refine zB 7 zM (zre.o.yC.below) ?_
     refine zB 8 zM (zre.o.yC.below) ?_
     refine yA 9 rfl (λK hK=> ?_)
     go_simp
     have zik:=zre.o.box;refine hK.out _ _ zik.yC.below (λ_=> ?_)
     obtain⟨gp,B⟩:=qxE Xp6.heap.size;rw [<-B] at zik ⊢;clear B;generalize World.alloc Xp6 _=Xp8 at zik ⊢;replace zik:=qh zik;clear hK K;refine yA 10 rfl (λK hK=> ?_)
     obtain⟨q, -, -, -⟩:=zik.o.prog gp rfl;have H:Xp8.cell? ⟨gp,0,none⟩=some (N7):=ze q 0;have F:=zH q 0;have G:Xp8.cell? ⟨gp,1,none⟩=some (I4 0):=ze q 1;have E:=zH q 1;have D:Xp8.cell? ⟨gp,2,none⟩=some (N7):=ze q 2;have C:=zH q 2;clear q;go_simp
     have d:=zik.o.done (n:=n) (dm:=dm) (by omega);have z:=qh d;refine hK.out _ _ (by obtain⟨a',A, -⟩:=d.2;exact A.below) (λ_=> ?_);clear d H G D F E C;clear hK K;refine xC ?_
     clear Z u wn t;go_wp2_with fail
     go_meet
     case rel=>exact⟨gv,gp,n,dm,rfl,by omega,by omega,by omega,by omega,z.o.1,z.o.2⟩
    skip
    go_simp
    have zil:=zk0.o.box;refine hK.out _ _ zil.yC.below (λ_=> ?_)
    obtain⟨gp,B⟩:=qxE Xp4.heap.size;rw [<-B] at zil ⊢;clear B;generalize World.alloc Xp4 _=zAA at zil ⊢;replace zil:=qh zil;clear hK K;refine yA 6 rfl (λK hK=> ?_)
    go_simp
    refine(vO.o zAA g _ 3 3 rfl zil.o.yC (by omega) (by omega) (by omega)).mono ?_
    rintro en zxi ⟨r2,U,rfl,f,p⟩;have zjq:=qh (zil.o.pick f p);clear f p;refine hK.out _ _ zjq.o.yC.below (λ_=> ?_)
    obtain⟨dm,u⟩:∃n:Nat,(2:Int)+(r2:Int)=(n:Int):=⟨2+r2,by omega⟩;have J:2<=dm:=by omega
    have I:dm<=4:=by omega
    have t:=wrapN dm (by omega);have M:(0:Int)<=(dm:Int):=by omega
    skip
    clear hK K;refine zB 7 zM (zjq.o.yC.below) ?_
    refine zB 8 zM (zjq.o.yC.below) ?_
    refine yA 10 rfl (λK hK=> ?_)
    obtain⟨q, -, -, -⟩:=zjq.o.prog gp rfl;have H:zxi.cell? ⟨gp,0,none⟩=some (N7):=ze q 0;have F:=zH q 0;have G:zxi.cell? ⟨gp,1,none⟩=some (I4 0):=ze q 1;have E:=zH q 1;have D:zxi.cell? ⟨gp,2,none⟩=some (N7):=ze q 2;have C:=zH q 2;clear q;go_simp
    have d:=zjq.o.done (n:=n) (dm:=dm) (by omega);have z:=qh d;refine hK.out _ _ (by obtain⟨a',A, -⟩:=d.2;exact A.below) (λ_=> ?_);clear d H G D F E C;clear hK K;refine xC ?_
    clear Z u wn t;go_wp2_with fail
    go_meet
    case rel=>exact⟨gv,gp,n,dm,rfl,by omega,by omega,by omega,by omega,z.o.1,z.o.2⟩
   skip
   go_simp
   have zfs:=Q.o.box;refine hK.out _ _ zfs.yC.below (λ_=> ?_)
   obtain⟨gp,B⟩:=qxE Xp2.heap.size;rw [<-B] at zfs ⊢;clear B;generalize World.alloc Xp2 _=zAB at zfs ⊢;replace zfs:=qh zfs;clear hK K;refine yA 2 rfl (λK hK=> ?_)
   go_simp
   refine(vO.o zAB g _ 3 3 rfl zfs.o.yC (by omega) (by omega) (by omega)).mono ?_
   rintro en zAC ⟨r1,hr1,rfl,f,p⟩;have zjr:=qh (zfs.o.pick f p);clear f p;refine hK.out _ _ zjr.o.yC.below (λ_=> ?_)
   obtain⟨n,Z⟩:∃n:Nat,(1:Int)+(r1:Int)=(n:Int):=⟨1+r1,by omega⟩;have bn1:1<=n:=by omega
   have bn2:n<=3:=by omega
   have wn:=wrapN n (by omega);have zn:(0:Int)<=(n:Int):=by omega
   have yn:(n:Int)<=3:=by omega
   clear hK K;refine zB 3 zM (zjr.o.yC.below) ?_
   refine zB 4 zM (zjr.o.yC.below) ?_
   refine yA 6 rfl (λK hK=> ?_)
   go_simp
   refine(vO.o zAC g _ 3 3 rfl zjr.o.yC (by omega) (by omega) (by omega)).mono ?_
   rintro en zxj ⟨r2,U,rfl,f,p⟩;have zjs:=qh (zjr.o.pick f p);clear f p;refine hK.out _ _ zjs.o.yC.below (λ_=> ?_)
   obtain⟨dm,u⟩:∃n:Nat,(2:Int)+(r2:Int)=(n:Int):=⟨2+r2,by omega⟩;have J:2<=dm:=by omega
   have I:dm<=4:=by omega
   have t:=wrapN dm (by omega);have M:(0:Int)<=(dm:Int):=by omega
   skip
   clear hK K;refine zB 7 zM (zjs.o.yC.below) ?_
   refine zB 8 zM (zjs.o.yC.below) ?_
   refine yA 10 rfl (λK hK=> ?_)
   obtain⟨q, -, -, -⟩:=zjs.o.prog gp rfl;have H:zxj.cell? ⟨gp,0,none⟩=some (N7):=ze q 0;have F:=zH q 0;have G:zxj.cell? ⟨gp,1,none⟩=some (I4 0):=ze q 1;have E:=zH q 1;have D:zxj.cell? ⟨gp,2,none⟩=some (N7):=ze q 2;have C:=zH q 2;clear q;go_simp
   have d:=zjs.o.done (n:=n) (dm:=dm) (by omega);have z:=qh d;refine hK.out _ _ (by obtain⟨a',A, -⟩:=d.2;exact A.below) (λ_=> ?_);clear d H G D F E C;clear hK K;refine xC ?_
   clear Z u wn t;go_wp2_with fail
   go_meet
   case rel=>exact⟨gv,gp,n,dm,rfl,by omega,by omega,by omega,by omega,z.o.1,z.o.2⟩
  ·skip
   go_simp
   refine(vO.o V1 g _ 3 3 rfl v.o.yC (by omega) (by omega) (by omega)).mono ?_
   rintro en znk ⟨r1,hr1,rfl,f,p⟩;have zgU:=qh (v.o.pick f p);clear f p;refine hK.out _ _ zgU.o.yC.below (λ_=> ?_)
   obtain⟨n,Z⟩:∃n:Nat,(1:Int)+(r1:Int)=(n:Int):=⟨1+r1,by omega⟩;have bn1:1<=n:=by omega
   have bn2:n<=3:=by omega
   have wn:=wrapN n (by omega);have zn:(0:Int)<=(n:Int):=by omega
   have yn:(n:Int)<=3:=by omega
   clear hK K;refine zB 3 zM (zgU.o.yC.below) ?_
   refine wpAnyH_ready (rs:= [0,6,9]) (by kernel_rfl) (by simp) ?_
   refine AllReadyH.cons rfl (λK hK=> ?_) (AllReadyH.cons rfl (λK hK=> ?_) (AllReadyH.cons rfl (λK hK=> ?_) AllReadyH.nil))
   ·skip
    go_simp
    have R:=zgU.o.names;unfold gP at R;refine hK.out _ _ R.yC.below (λ_=> ?_)
    obtain⟨gv,r⟩:=qxE znk.heap.size;rw [<-r] at R ⊢;clear r;generalize World.alloc znk _=zxk at R ⊢;replace R:=qh R;clear hK K;refine zB 4 zM (R.o.yC.below) ?_
    refine wpAnyH_ready (rs:= [6,9]) (by kernel_rfl) (by simp) ?_
    refine AllReadyH.cons rfl (λK hK=> ?_) (AllReadyH.cons rfl (λK hK=> ?_) AllReadyH.nil)
    ·skip
     go_simp
     refine(vO.o zxk g _ 3 3 rfl R.o.yC (by omega) (by omega) (by omega)).mono ?_
     rintro en z4q ⟨r2,U,rfl,f,p⟩;have zlQ:=qh (R.o.pick f p);clear f p;refine hK.out _ _ zlQ.o.yC.below (λ_=> ?_)
     obtain⟨dm,u⟩:∃n:Nat,(2:Int)+(r2:Int)=(n:Int):=⟨2+r2,by omega⟩;have J:2<=dm:=by omega
     have I:dm<=4:=by omega
     have t:=wrapN dm (by omega);have M:(0:Int)<=(dm:Int):=by omega
     skip
     clear hK K;refine zB 7 zM (zlQ.o.yC.below) ?_
     refine zB 8 zM (zlQ.o.yC.below) ?_
     refine yA 9 rfl (λK hK=> ?_)
     go_simp
     have zft:=zlQ.o.box;refine hK.out _ _ zft.yC.below (λ_=> ?_)
     obtain⟨gp,B⟩:=qxE z4q.heap.size;rw [<-B] at zft ⊢;clear B;generalize World.alloc z4q _=zxl at zft ⊢;replace zft:=qh zft;clear hK K;refine yA 10 rfl (λK hK=> ?_)
     obtain⟨q, -, -, -⟩:=zft.o.prog gp rfl;have H:zxl.cell? ⟨gp,0,none⟩=some (N7):=ze q 0;have F:=zH q 0;have G:zxl.cell? ⟨gp,1,none⟩=some (I4 0):=ze q 1;have E:=zH q 1;have D:zxl.cell? ⟨gp,2,none⟩=some (N7):=ze q 2;have C:=zH q 2;clear q;go_simp
     have d:=zft.o.done (n:=n) (dm:=dm) (by omega);have z:=qh d;refine hK.out _ _ (by obtain⟨a',A, -⟩:=d.2;exact A.below) (λ_=> ?_);clear d H G D F E C;clear hK K;refine xC ?_
     clear Z u wn t;go_wp2_with fail
     go_meet
     case rel=>exact⟨gv,gp,n,dm,rfl,by omega,by omega,by omega,by omega,z.o.1,z.o.2⟩
    skip
    go_simp
    have zfu:=R.o.box;refine hK.out _ _ zfu.yC.below (λ_=> ?_)
    obtain⟨gp,B⟩:=qxE zxk.heap.size;rw [<-B] at zfu ⊢;clear B;generalize World.alloc zxk _=zAD at zfu ⊢;replace zfu:=qh zfu;clear hK K;refine yA 6 rfl (λK hK=> ?_)
    go_simp
    refine(vO.o zAD g _ 3 3 rfl zfu.o.yC (by omega) (by omega) (by omega)).mono ?_
    rintro en zxm ⟨r2,U,rfl,f,p⟩;have zjt:=qh (zfu.o.pick f p);clear f p;refine hK.out _ _ zjt.o.yC.below (λ_=> ?_)
    obtain⟨dm,u⟩:∃n:Nat,(2:Int)+(r2:Int)=(n:Int):=⟨2+r2,by omega⟩;have J:2<=dm:=by omega
    have I:dm<=4:=by omega
    have t:=wrapN dm (by omega);have M:(0:Int)<=(dm:Int):=by omega
    skip
    clear hK K;refine zB 7 zM (zjt.o.yC.below) ?_
    refine zB 8 zM (zjt.o.yC.below) ?_
    refine yA 10 rfl (λK hK=> ?_)
    obtain⟨q, -, -, -⟩:=zjt.o.prog gp rfl;have H:zxm.cell? ⟨gp,0,none⟩=some (N7):=ze q 0;have F:=zH q 0;have G:zxm.cell? ⟨gp,1,none⟩=some (I4 0):=ze q 1;have E:=zH q 1;have D:zxm.cell? ⟨gp,2,none⟩=some (N7):=ze q 2;have C:=zH q 2;clear q;go_simp
    have d:=zjt.o.done (n:=n) (dm:=dm) (by omega);have z:=qh d;refine hK.out _ _ (by obtain⟨a',A, -⟩:=d.2;exact A.below) (λ_=> ?_);clear d H G D F E C;clear hK K;refine xC ?_
    clear Z u wn t;go_wp2_with fail
    go_meet
    case rel=>exact⟨gv,gp,n,dm,rfl,by omega,by omega,by omega,by omega,z.o.1,z.o.2⟩
   ·skip
    go_simp
    refine(vO.o znk g _ 3 3 rfl zgU.o.yC (by omega) (by omega) (by omega)).mono ?_
    rintro en zrf ⟨r2,U,rfl,f,p⟩;have zlR:=qh (zgU.o.pick f p);clear f p;refine hK.out _ _ zlR.o.yC.below (λ_=> ?_)
    obtain⟨dm,u⟩:∃n:Nat,(2:Int)+(r2:Int)=(n:Int):=⟨2+r2,by omega⟩;have J:2<=dm:=by omega
    have I:dm<=4:=by omega
    have t:=wrapN dm (by omega);have M:(0:Int)<=(dm:Int):=by omega
    skip
    clear hK K;refine zB 7 zM (zlR.o.yC.below) ?_
    refine wpAnyH_ready (rs:= [0,9]) (by kernel_rfl) (by simp) ?_
    refine AllReadyH.cons rfl (λK hK=> ?_) (AllReadyH.cons rfl (λK hK=> ?_) AllReadyH.nil)
    ·skip
     go_simp
     have zcL:=zlR.o.names;unfold gP at zcL;refine hK.out _ _ zcL.yC.below (λ_=> ?_)
     obtain⟨gv,r⟩:=qxE zrf.heap.size;rw [<-r] at zcL ⊢;clear r;generalize World.alloc zrf _=z4r at zcL ⊢;replace zcL:=qh zcL;clear hK K;refine zB 4 zM (zcL.o.yC.below) ?_
     refine zB 8 zM (zcL.o.yC.below) ?_
     refine yA 9 rfl (λK hK=> ?_)
     go_simp
     have zfv:=zcL.o.box;refine hK.out _ _ zfv.yC.below (λ_=> ?_)
     obtain⟨gp,B⟩:=qxE z4r.heap.size;rw [<-B] at zfv ⊢;clear B;generalize World.alloc z4r _=zxn at zfv ⊢;replace zfv:=qh zfv;clear hK K;refine yA 10 rfl (λK hK=> ?_)
     obtain⟨q, -, -, -⟩:=zfv.o.prog gp rfl;have H:zxn.cell? ⟨gp,0,none⟩=some (N7):=ze q 0;have F:=zH q 0;have G:zxn.cell? ⟨gp,1,none⟩=some (I4 0):=ze q 1;have E:=zH q 1;have D:zxn.cell? ⟨gp,2,none⟩=some (N7):=ze q 2;have C:=zH q 2;clear q;go_simp
     have d:=zfv.o.done (n:=n) (dm:=dm) (by omega);have z:=qh d;refine hK.out _ _ (by obtain⟨a',A, -⟩:=d.2;exact A.below) (λ_=> ?_);clear d H G D F E C;clear hK K;refine xC ?_
     clear Z u wn t;go_wp2_with fail
     go_meet
     case rel=>exact⟨gv,gp,n,dm,rfl,by omega,by omega,by omega,by omega,z.o.1,z.o.2⟩
    skip
    go_simp
    have zgV:=zlR.o.box;refine hK.out _ _ zgV.yC.below (λ_=> ?_)
    obtain⟨gp,B⟩:=qxE zrf.heap.size;rw [<-B] at zgV ⊢;clear B;generalize World.alloc zrf _=z4s at zgV ⊢;replace zgV:=qh zgV;clear hK K;refine yA 0 rfl (λK hK=> ?_)
    go_simp
    have P:=zgV.o.names;unfold gP at P;refine hK.out _ _ P.yC.below (λ_=> ?_)
    obtain⟨gv,r⟩:=qxE z4s.heap.size;rw [<-r] at P ⊢;clear r;generalize World.alloc z4s _=zxo at P ⊢;replace P:=qh P;clear hK K;refine zB 4 zM (P.o.yC.below) ?_
    refine zB 8 zM (P.o.yC.below) ?_
    refine yA 10 rfl (λK hK=> ?_)
    obtain⟨q, -, -, -⟩:=P.o.prog gp rfl;have H:zxo.cell? ⟨gp,0,none⟩=some (N7):=ze q 0;have F:=zH q 0;have G:zxo.cell? ⟨gp,1,none⟩=some (I4 0):=ze q 1;have E:=zH q 1;have D:zxo.cell? ⟨gp,2,none⟩=some (N7):=ze q 2;have C:=zH q 2;clear q;go_simp
    have d:=P.o.done (n:=n) (dm:=dm) (by omega);have z:=qh d;refine hK.out _ _ (by obtain⟨a',A, -⟩:=d.2;exact A.below) (λ_=> ?_);clear d H G D F E C;clear hK K;refine xC ?_
    clear Z u wn t;go_wp2_with fail
    go_meet
    case rel=>exact⟨gv,gp,n,dm,rfl,by omega,by omega,by omega,by omega,z.o.1,z.o.2⟩
   skip
   go_simp
   have zdO:=zgU.o.box;refine hK.out _ _ zdO.yC.below (λ_=> ?_)
   obtain⟨gp,B⟩:=qxE znk.heap.size;rw [<-B] at zdO ⊢;clear B;generalize World.alloc znk _=zxp at zdO ⊢;replace zdO:=qh zdO;clear hK K;refine wpAnyH_ready (rs:= [0,6]) (by kernel_rfl) (by simp) ?_
   refine AllReadyH.cons rfl (λK hK=> ?_) (AllReadyH.cons rfl (λK hK=> ?_) AllReadyH.nil)
   ·skip
    go_simp
    have zcM:=zdO.o.names;unfold gP at zcM;refine hK.out _ _ zcM.yC.below (λ_=> ?_)
    obtain⟨gv,r⟩:=qxE zxp.heap.size;rw [<-r] at zcM ⊢;clear r;generalize World.alloc zxp _=zAE at zcM ⊢;replace zcM:=qh zcM;clear hK K;refine zB 4 zM (zcM.o.yC.below) ?_
    refine yA 6 rfl (λK hK=> ?_)
    go_simp
    refine(vO.o zAE g _ 3 3 rfl zcM.o.yC (by omega) (by omega) (by omega)).mono ?_
    rintro en zxq ⟨r2,U,rfl,f,p⟩;have zju:=qh (zcM.o.pick f p);clear f p;refine hK.out _ _ zju.o.yC.below (λ_=> ?_)
    obtain⟨dm,u⟩:∃n:Nat,(2:Int)+(r2:Int)=(n:Int):=⟨2+r2,by omega⟩;have J:2<=dm:=by omega
    have I:dm<=4:=by omega
    have t:=wrapN dm (by omega);have M:(0:Int)<=(dm:Int):=by omega
    skip
    clear hK K;refine zB 7 zM (zju.o.yC.below) ?_
    refine zB 8 zM (zju.o.yC.below) ?_
    refine yA 10 rfl (λK hK=> ?_)
    obtain⟨q, -, -, -⟩:=zju.o.prog gp rfl;have H:zxq.cell? ⟨gp,0,none⟩=some (N7):=ze q 0;have F:=zH q 0;have G:zxq.cell? ⟨gp,1,none⟩=some (I4 0):=ze q 1;have E:=zH q 1;have D:zxq.cell? ⟨gp,2,none⟩=some (N7):=ze q 2;have C:=zH q 2;clear q;go_simp
    have d:=zju.o.done (n:=n) (dm:=dm) (by omega);have z:=qh d;refine hK.out _ _ (by obtain⟨a',A, -⟩:=d.2;exact A.below) (λ_=> ?_);clear d H G D F E C;clear hK K;refine xC ?_
    clear Z u wn t;go_wp2_with fail
    go_meet
    case rel=>exact⟨gv,gp,n,dm,rfl,by omega,by omega,by omega,by omega,z.o.1,z.o.2⟩
   skip
   go_simp
   refine(vO.o zxp g _ 3 3 rfl zdO.o.yC (by omega) (by omega) (by omega)).mono ?_
   rintro en z4t ⟨r2,U,rfl,f,p⟩;have zrg:=qh (zdO.o.pick f p);clear f p;refine hK.out _ _ zrg.o.yC.below (λ_=> ?_)
   obtain⟨dm,u⟩:∃n:Nat,(2:Int)+(r2:Int)=(n:Int):=⟨2+r2,by omega⟩;have J:2<=dm:=by omega
   have I:dm<=4:=by omega
   have t:=wrapN dm (by omega);have M:(0:Int)<=(dm:Int):=by omega
   skip
   clear hK K;refine zB 7 zM (zrg.o.yC.below) ?_
   refine yA 0 rfl (λK hK=> ?_)
   go_simp
   have O:=zrg.o.names;unfold gP at O;refine hK.out _ _ O.yC.below (λ_=> ?_)
   obtain⟨gv,r⟩:=qxE z4t.heap.size;rw [<-r] at O ⊢;clear r;generalize World.alloc z4t _=zxr at O ⊢;replace O:=qh O;clear hK K;refine zB 4 zM (O.o.yC.below) ?_
   refine zB 8 zM (O.o.yC.below) ?_
   refine yA 10 rfl (λK hK=> ?_)
   obtain⟨q, -, -, -⟩:=O.o.prog gp rfl;have H:zxr.cell? ⟨gp,0,none⟩=some (N7):=ze q 0;have F:=zH q 0;have G:zxr.cell? ⟨gp,1,none⟩=some (I4 0):=ze q 1;have E:=zH q 1;have D:zxr.cell? ⟨gp,2,none⟩=some (N7):=ze q 2;have C:=zH q 2;clear q;go_simp
   have d:=O.o.done (n:=n) (dm:=dm) (by omega);have z:=qh d;refine hK.out _ _ (by obtain⟨a',A, -⟩:=d.2;exact A.below) (λ_=> ?_);clear d H G D F E C;clear hK K;refine xC ?_
   clear Z u wn t;go_wp2_with fail
   go_meet
   case rel=>exact⟨gv,gp,n,dm,rfl,by omega,by omega,by omega,by omega,z.o.1,z.o.2⟩
  skip
  go_simp
  have zdP:=v.o.box;refine hK.out _ _ zdP.yC.below (λ_=> ?_)
  obtain⟨gp,B⟩:=qxE V1.heap.size;rw [<-B] at zdP ⊢;clear B;generalize World.alloc V1 _=zxs at zdP ⊢;replace zdP:=qh zdP;clear hK K;refine wpAnyH_ready (rs:= [0,2]) (by kernel_rfl) (by simp) ?_
  refine AllReadyH.cons rfl (λK hK=> ?_) (AllReadyH.cons rfl (λK hK=> ?_) AllReadyH.nil)
  ·skip
   go_simp
   have zdQ:=zdP.o.names;unfold gP at zdQ;refine hK.out _ _ zdQ.yC.below (λ_=> ?_)
   obtain⟨gv,r⟩:=qxE zxs.heap.size;rw [<-r] at zdQ ⊢;clear r;generalize World.alloc zxs _=zAF at zdQ ⊢;replace zdQ:=qh zdQ;clear hK K;refine yA 2 rfl (λK hK=> ?_)
   go_simp
   refine(vO.o zAF g _ 3 3 rfl zdQ.o.yC (by omega) (by omega) (by omega)).mono ?_
   rintro en zAG ⟨r1,hr1,rfl,f,p⟩;have zjv:=qh (zdQ.o.pick f p);clear f p;refine hK.out _ _ zjv.o.yC.below (λ_=> ?_)
   obtain⟨n,Z⟩:∃n:Nat,(1:Int)+(r1:Int)=(n:Int):=⟨1+r1,by omega⟩;have bn1:1<=n:=by omega
   have bn2:n<=3:=by omega
   have wn:=wrapN n (by omega);have zn:(0:Int)<=(n:Int):=by omega
   have yn:(n:Int)<=3:=by omega
   clear hK K;refine zB 3 zM (zjv.o.yC.below) ?_
   refine zB 4 zM (zjv.o.yC.below) ?_
   refine yA 6 rfl (λK hK=> ?_)
   go_simp
   refine(vO.o zAG g _ 3 3 rfl zjv.o.yC (by omega) (by omega) (by omega)).mono ?_
   rintro en zxt ⟨r2,U,rfl,f,p⟩;have zjw:=qh (zjv.o.pick f p);clear f p;refine hK.out _ _ zjw.o.yC.below (λ_=> ?_)
   obtain⟨dm,u⟩:∃n:Nat,(2:Int)+(r2:Int)=(n:Int):=⟨2+r2,by omega⟩;have J:2<=dm:=by omega
   have I:dm<=4:=by omega
   have t:=wrapN dm (by omega);have M:(0:Int)<=(dm:Int):=by omega
   skip
   clear hK K;refine zB 7 zM (zjw.o.yC.below) ?_
   refine zB 8 zM (zjw.o.yC.below) ?_
   refine yA 10 rfl (λK hK=> ?_)
   obtain⟨q, -, -, -⟩:=zjw.o.prog gp rfl;have H:zxt.cell? ⟨gp,0,none⟩=some (N7):=ze q 0;have F:=zH q 0;have G:zxt.cell? ⟨gp,1,none⟩=some (I4 0):=ze q 1;have E:=zH q 1;have D:zxt.cell? ⟨gp,2,none⟩=some (N7):=ze q 2;have C:=zH q 2;clear q;go_simp
   have d:=zjw.o.done (n:=n) (dm:=dm) (by omega);have z:=qh d;refine hK.out _ _ (by obtain⟨a',A, -⟩:=d.2;exact A.below) (λ_=> ?_);clear d H G D F E C;clear hK K;refine xC ?_
   clear Z u wn t;go_wp2_with fail
   go_meet
   case rel=>exact⟨gv,gp,n,dm,rfl,by omega,by omega,by omega,by omega,z.o.1,z.o.2⟩
  skip
  go_simp
  refine(vO.o zxs g _ 3 3 rfl zdP.o.yC (by omega) (by omega) (by omega)).mono ?_
  rintro en zxu ⟨r1,hr1,rfl,f,p⟩;have zjx:=qh (zdP.o.pick f p);clear f p;refine hK.out _ _ zjx.o.yC.below (λ_=> ?_)
  obtain⟨n,Z⟩:∃n:Nat,(1:Int)+(r1:Int)=(n:Int):=⟨1+r1,by omega⟩;have bn1:1<=n:=by omega
  have bn2:n<=3:=by omega
  have wn:=wrapN n (by omega);have zn:(0:Int)<=(n:Int):=by omega
  have yn:(n:Int)<=3:=by omega
  clear hK K;refine zB 3 zM (zjx.o.yC.below) ?_
  refine wpAnyH_ready (rs:= [0,6]) (by kernel_rfl) (by simp) ?_
  refine AllReadyH.cons rfl (λK hK=> ?_) (AllReadyH.cons rfl (λK hK=> ?_) AllReadyH.nil)
  ·skip
   go_simp
   have s:=zjx.o.names;unfold gP at s;refine hK.out _ _ s.yC.below (λ_=> ?_)
   obtain⟨gv,r⟩:=qxE zxu.heap.size;rw [<-r] at s ⊢;clear r;generalize World.alloc zxu _=zAH at s ⊢;replace s:=qh s;clear hK K;refine zB 4 zM (s.o.yC.below) ?_
   refine yA 6 rfl (λK hK=> ?_)
   go_simp
   refine(vO.o zAH g _ 3 3 rfl s.o.yC (by omega) (by omega) (by omega)).mono ?_
   rintro en zxv ⟨r2,U,rfl,f,p⟩;have zjy:=qh (s.o.pick f p);clear f p;refine hK.out _ _ zjy.o.yC.below (λ_=> ?_)
   obtain⟨dm,u⟩:∃n:Nat,(2:Int)+(r2:Int)=(n:Int):=⟨2+r2,by omega⟩;have J:2<=dm:=by omega
   have I:dm<=4:=by omega
   have t:=wrapN dm (by omega);have M:(0:Int)<=(dm:Int):=by omega
   skip
   clear hK K;refine zB 7 zM (zjy.o.yC.below) ?_
   refine zB 8 zM (zjy.o.yC.below) ?_
   refine yA 10 rfl (λK hK=> ?_)
   obtain⟨q, -, -, -⟩:=zjy.o.prog gp rfl;have H:zxv.cell? ⟨gp,0,none⟩=some (N7):=ze q 0;have F:=zH q 0;have G:zxv.cell? ⟨gp,1,none⟩=some (I4 0):=ze q 1;have E:=zH q 1;have D:zxv.cell? ⟨gp,2,none⟩=some (N7):=ze q 2;have C:=zH q 2;clear q;go_simp
   have d:=zjy.o.done (n:=n) (dm:=dm) (by omega);have z:=qh d;refine hK.out _ _ (by obtain⟨a',A, -⟩:=d.2;exact A.below) (λ_=> ?_);clear d H G D F E C;clear hK K;refine xC ?_
   clear Z u wn t;go_wp2_with fail
   go_meet
   case rel=>exact⟨gv,gp,n,dm,rfl,by omega,by omega,by omega,by omega,z.o.1,z.o.2⟩
  skip
  go_simp
  refine(vO.o zxu g _ 3 3 rfl zjx.o.yC (by omega) (by omega) (by omega)).mono ?_
  rintro en z4u ⟨r2,U,rfl,f,p⟩;have zrh:=qh (zjx.o.pick f p);clear f p;refine hK.out _ _ zrh.o.yC.below (λ_=> ?_)
  obtain⟨dm,u⟩:∃n:Nat,(2:Int)+(r2:Int)=(n:Int):=⟨2+r2,by omega⟩;have J:2<=dm:=by omega
  have I:dm<=4:=by omega
  have t:=wrapN dm (by omega);have M:(0:Int)<=(dm:Int):=by omega
  skip
  clear hK K;refine zB 7 zM (zrh.o.yC.below) ?_
  refine yA 0 rfl (λK hK=> ?_)
  go_simp
  have N:=zrh.o.names;unfold gP at N;refine hK.out _ _ N.yC.below (λ_=> ?_)
  obtain⟨gv,r⟩:=qxE z4u.heap.size;rw [<-r] at N ⊢;clear r;generalize World.alloc z4u _=zxw at N ⊢;replace N:=qh N;clear hK K;refine zB 4 zM (N.o.yC.below) ?_
  refine zB 8 zM (N.o.yC.below) ?_
  refine yA 10 rfl (λK hK=> ?_)
  obtain⟨q, -, -, -⟩:=N.o.prog gp rfl;have H:zxw.cell? ⟨gp,0,none⟩=some (N7):=ze q 0;have F:=zH q 0;have G:zxw.cell? ⟨gp,1,none⟩=some (I4 0):=ze q 1;have E:=zH q 1;have D:zxw.cell? ⟨gp,2,none⟩=some (N7):=ze q 2;have C:=zH q 2;clear q;go_simp
  have d:=N.o.done (n:=n) (dm:=dm) (by omega);have z:=qh d;refine hK.out _ _ (by obtain⟨a',A, -⟩:=d.2;exact A.below) (λ_=> ?_);clear d H G D F E C;clear hK K;refine xC ?_
  clear Z u wn t;go_wp2_with fail
  go_meet
  case rel=>exact⟨gv,gp,n,dm,rfl,by omega,by omega,by omega,by omega,z.o.1,z.o.2⟩
 case rest=>
 obtain⟨gv,gp,n,dm,rfl,hn1,hn3,hd2,hd4,HL,HMA⟩:=hcut;clear HR;obtain⟨X,rfl⟩:=qxE (wc:World);obtain⟨a0,z4v,ha0⟩:=HMA.o;have z4w:=qh z4v;clear z4v;go_upto_region 4 with(go_at_call 48;go_must(refine(vO.o X g _ 3 3 rfl z4w.o (by omega) (by omega) (by omega)).mono ?_);rintro en X2 ⟨r3,hr3,rfl,f,p⟩;(have HL2:=qh (HL.o.picked p f (by omega)));clear f p HL z4w)
 obtain⟨m,A⟩:∃m:Nat,(1:Int)+(r3:Int)=(m:Int):=⟨1+r3,by omega⟩;have hm1:1<=m:=by omega
 have hm3:m<=3:=by omega
 rw [A];clear A hr3;go_loopg [7] m (λgg s7 wr=>∃(j k:Nat) (oa:Option Addr) (oc:Nat) (T:List (List zP)) (css:List (List Value)),s7=I4 k/\J2 (j+k=m)/\J2 (gg=k)/\J2 (wX w wr g gv gp gr (.slice sa ln sc) n dm j (.slice oa j oc) T css))
 case atStart=>exact⟨0,m,none,0, [], [],rfl,by rw [J2];omega,rfl,HL2.o⟩
 case round=>
 obtain⟨j,k',oa,oc,T,css,rfl,HJK,HG,HL⟩:=hrel;clear HL2;have hj3:j<=3:=by have:=HJK.o;omega
 have hk3:k'<=3:=by have:=HJK.o;omega
 by_cases hk0:0<k'
 rotate_left
 ·obtain rfl:k'=0:=by omega
  have hj1:j=m:=by have:=HJK.o;omega
  obtain⟨d,hset⟩:=zrc HL.o hn1 hn3 hd2 (by omega) (by omega) hj3;have z:=qh d;have zL:=qh hset;clear d hset hj1;have c0:wr.cell? ⟨gp,0,none⟩=some (.slice (some ⟨gv,0,none⟩) n 3):=ze HL.o.box 0;have c1:wr.cell? ⟨gp,1,none⟩=some (I4 dm):=ze HL.o.box 1;have c2:wr.cell? ⟨gp,2,none⟩=some (.slice oa j oc):=ze HL.o.box 2;have z0:wr.cell? ⟨gr,0,none⟩=some (N7):=ze HL.o.res 0;have z1:wr.cell? ⟨gr,1,none⟩=some (I4 0):=ze HL.o.res 1;have z2:wr.cell? ⟨gr,2,none⟩=some (N7):=ze HL.o.res 2;have F:=zH HL.o.res 0;have E:=zH HL.o.res 1;have C:=zH HL.o.res 2;go_wp2_with fail
  refine bodyPost_ret (xu rfl _ _ gr 69 _ (0,0) _ rfl zL.o Tryz.underlying69 rfl znj) rfl ?_
  exact z.o
 obtain⟨k,rfl⟩:∃k,k'=k+1:=⟨k' - 1,by omega⟩;have hkI:(0:Int)<(k:Int)+1:=by omega
 have CC:J2 (∀x,Since (λy=>(Value.slice oa j oc).ownBlock=some y\/y=g) wr x->K3 x gp 0 (.slice (some ⟨gv,0,none⟩) n 3)/\K3 x gp 1 (I4 dm)/\K3 x gp 2 (.slice oa j oc)):=λx hx=>by
  have h:=(hx.block _ (zA HL.o.box) (λe=>by rcases e with e|e;exact(HL.o.own_ne _ e).2.1 rfl;have:=HL.o.lo;omega)).trans HL.o.box
  exact⟨ze h 0,ze h 1,ze h 2⟩
 go_upto_region 6 with fail
 refine wp_region_noPanic ?_
 refine xg (n0:=15) (S:=λx=>Since (λy=>(Value.slice oa j oc).ownBlock=some y\/y=g) wr x) (by kernel_rfl) (Since.drew _ (Since.refl _ wr)) (λ_=> ?_)
 obtain⟨V1,hV1⟩:=qxE wr.drew;have v:J2 (Since (λy=>(Value.slice oa j oc).ownBlock=some y\/y=g) wr V1):=by rw [hV1];exact Since.drew _ (Since.refl _ wr)
 have hl2:wX w V1 g gv gp gr (.slice sa ln sc) n dm j (.slice oa j oc) T css:=by rw [hV1];exact HL.o.drew
 rw [<-hV1];clear hV1;have HL2:=qh hl2;have zdR:=hl2.row.row;rw [hl2.len] at zdR;have zz8:=qh zdR;have HOWN:J2 (∀k,(Value.slice oa j oc).ownBlock=some k->k≠g):=λk hk=>(hl2.own_ne k hk).1;obtain⟨a1,f,ha1⟩:=hl2.yC;have yK:=qh f.below.size;have HMK:=qh (And.intro f ha1);clear hl2 zdR f ha1;refine zU 0 (λ_=>v.o) ?_
 refine vX [13,14,15] 1 CC.o (v.o) ?_
 refine zU 2 (λ_=>v.o) ?_
 refine zU 3 (λ_=>v.o) ?_
 refine zU 5 (λ_=>v.o) ?_
 refine vX [7,11,12,13,14,15] 6 CC.o (v.o) ?_
 refine zU 7 (λ_=>v.o) ?_
 refine zU 8 (λ_=>v.o) ?_
 refine vX [11,12,13,14,15] 9 CC.o (v.o) ?_
 refine zU 10 (λ_=>v.o) ?_
 refine kg 4 rfl (λK hK=> ?_)
 go_simp
 refine(vO.o V1 g _ 5 5 rfl HMK.o.1 (by omega) (by omega) (by have h5:=HMK.o.2;omega)).mono ?_
 rintro en V2 ⟨r5,hr5,rfl,f,p⟩;have z4x:=qh f;have zkw:=qh p;have hT1:=qh (v.o.trans p (λy hy=> .inl (.inr hy)));clear f p;refine hK.out _ _ (λ_ _=>hT1.o) ?_
 clear hK K;refine kg 11 rfl (λK hK=> ?_)
 go_simp
 refine(z7j.o g n dm (by omega) (by omega) (by omega) (by omega) V2 _ r5 z4x.o (by omega) (by have h5:=HMK.o.2;omega)).mono ?_
 rintro en V3 ⟨L,na,nc,a2,rfl,hok,haw,f,ha2,p⟩;have z4y:=qh f;have zxx:=qh (And.intro hok haw);have zeb:=qh (zkw.o.trans p (λ_ h=> .inl h));have uh:=qh p.size;have hT2:=qh (hT1.o.trans p (λy hy=> .inl (.inr hy)));have hrow:=zeb.o.row zz8.o (λk hk e=>(HOWN.o k hk) e);have zjz:=qh hrow;clear f p hok haw hrow;refine hK.out _ _ (λ_ _=>hT2.o) ?_
 clear hK K;refine kg 12 rfl (λK hK=> ?_)
 go_simp
 have hT3:=qh (hT2.o.alloc (.cells #[.slice na L.length nc] 97));refine hK.out _ _ (λ_ _=>hT3.o) ?_
 clear hK K;refine kg 13 rfl (λK hK=> ?_)
 refine zY (V3.alloc (.cells #[.slice na L.length nc] 97)) (by rfl) (.tmp 28) (.tmp 39) 67 rfl 97 (N7) 1 24 Tryz.underlying67 zrd rfl (by decide) w.heap.size (.slice oa j oc) j (css.flatten) (by rfl) (zjz.o.alloc _) ⟨V3.heap.size,0,none⟩ 1 1 [.slice na L.length nc] (by rfl) rfl (j4 V3 _ _) (by simp [Value.oneCell']) (by unfold maxLen;omega) (by omega) (by have h5:=yK.o;have h6:=zeb.o.size;simp;omega) ?_
 intro xa xc V4 e1 e2 e3 e4 e5;have vN:=qh (hT3.o.trans e4 (λy hy=> .inl (.inl hy)));have q:=HL2.o.push zeb.o z4y.o (by have:=HMK.o.2;omega) zxx.o.1 rfl (zxx.o.2.step (Since.refl (λ_=>False) V3) (λ_ h=>h.elim) (λk hk=> .inl (by have h5:=zkw.o.size;omega))) e1 e4 e5
 have HP:=qh q;clear e1 e2 e3 e4 e5 q;refine hK.out _ _ (λ_ _=>vN.o) ?_
 clear hK K;change vw _ _ _ _ _ _ _ _ (Act.put _ (some 40) _) _;simp only [Act.put,jJ,jK,jL];refine zU 14 (λ_=>vN.o) ?_
 refine kg 15 rfl (λK hK=> ?_)
 have D:V4.cell? ⟨gp,2,none⟩=some (.slice oa j oc):=ze HP.o.1 2;have C:=zH HP.o.1 2;go_simp
 refine hK.out _ _ (λh=>absurd rfl h) ?_
 clear D C;have hT5:=vN;clear hK K;refine xZ (by kernel_rfl) ?_ _
 refine NoPanic.normal ?_
 have HP2:=qh HP.o.2;clear HP z4x z4y zxx zkw zeb zjz zz8 HOWN CC;go_wp2_with fail
 go_roundg k
 case measure=>rw [HG.o];omega
 case rel=>exact⟨j+1,k,xa,xc,_,_,(by first|rfl|simp),by have:=HJK.o;rw [J2];omega,rfl,HP2.o⟩
