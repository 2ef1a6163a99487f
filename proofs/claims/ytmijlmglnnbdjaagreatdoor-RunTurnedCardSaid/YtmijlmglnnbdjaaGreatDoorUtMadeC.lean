/- Steps. -/
import Derived.Deep.RegionLaw
import Derived.Test.YtmijlmglnnbdjaaGreatDoorUtRight
set_option linter.all false
namespace Go.Proofs.YtmijlmglnnbdjaaGreatDoor
open Go.RowKit
set_option maxRecDepth 100000
set_option maxHeartbeats 16000000
def Counts (f:Form) (a a':Nat):Prop:=∃N,f.size<=2*N+1/\N<=20 - a/\a+N<=a'/\a'<=a+10*f.size
def zkX (w0:World) (sv:Value) (deep a t:Nat) (w:World) (e:Ending) (w':World):Prop:=
 ∃(k p1 p2 p3 p4:Int) (kids:List Form) (ka:Option Addr) (kc a' t':Nat),e= .returned (.agg #[I4 k,I4 p1,I4 p2,I4 p3,I4 p4, .slice ka kids.length kc])/\
  ji (λb=>w.heap.size<=b) w' (deep+1) (.mk k ⟨p1,p2,p3,p4⟩ kids) (.slice ka kids.length kc)/\(Form.mk k ⟨p1,p2,p3,p4⟩ kids).okD (deep+1)=true/\qG w0 w' sv a' t'/\Since (Turns w0) w w'/\
  Counts (.mk k ⟨p1,p2,p3,p4⟩ kids) a a'/\t'<=t
def zkt (w0:World) (sv:Value) (deep:Nat):Prop:=∀(w:World) (a t:Nat),qG w0 w sv a t->a<=100000*(6 - deep)->t<=1000->
  Calls Tryz.prog 29 #[I4 deep, .pointer (some ⟨w0.heap.size+4,0,none⟩), .pointer (some ⟨w0.heap.size+3,0,none⟩), .pointer (some ⟨w0.heap.size,0,none⟩), .pointer (some ⟨w0.heap.size+1,0,none⟩), .pointer (some ⟨w0.heap.size+5,0,none⟩)] w (zkX w0 sv deep a t w)
def zcX (deep a t:Nat) (k:Nat):Prop:=k≠3->1<=deep/\a+1<=20/\(8<=k->1<=t)
theorem zwU {a b:Int} (h:a=b):Value.int .i64 a=Value.int .i64 b:=by rw [h]
theorem zqQ:(Tryz.prog.info? 38).map (λi=>(i.zero,i.size,i.bytes))=some (some (.agg #[I4 0,I4 0,I4 0,I4 0,I4 0,N7]),6,64):=by kernel_rfl
theorem ji.mono {P Q:Nat->Prop} {w:World} {d:Nat} {f:Form} {kv:Value} (h:ji P w d f kv) (i:∀b,P b->b<w.heap.size->Q b):ji Q w d f kv:=by
 induction d generalizing f kv with
 |zero=>exact h.elim
 |succ d ih=>
 obtain⟨a,l,t,r,q⟩:=h;refine⟨a,l,t,r,λj m=> ?_⟩
 obtain⟨b,c,g,p,k,o,n⟩:=q j m;exact⟨b,c,g,p,⟨i b k.1 k.2,k.2⟩,o,ih n⟩
theorem zjc (l:List Form) (f:Form):qE (l++ [f])=qE l+f.size:=by
 induction l with
 |nil=>simp [qE]
 |cons g l ih=>simp only [List.cons_append,qE,ih];omega
theorem zfW {P:Program} (w:World) {A:Array Oper} {o:Oper} {a:Act} {K:Act->World->Prop} {Q:Exit->Act->World->Prop} {E:Prop} (V:Region.wanted o (yielded A a.tmps)=true) (s x:Operand) (t:TypeId)
  (X:o.op= .call { callee:= .builtin .append,args:= #[s,x],argTypes:= #[t,t] })
  (e:TypeId) (z:Value) (size bytes:Nat) (N:P.underlying t=some (.slice e)) (q:(P.info? e).map (λi=>(i.zero,i.size,i.bytes))=some (some z,size,bytes)) (F:z.cells.size=size) (G:0<size)
  (base:Nat) (v:Value) (n:Nat) (xs:List Value) (W:a.eval s=v) (p:w.ownsRow base e size v n xs)
  (L:Addr) (m c:Nat) (news:List Value) (hx:a.eval x= .slice (some L) m c) (R:news.length=m*size) (l:∀j u,news[j]? =some u->w.cell? (L.add j)=some u) (U:∀u∈news,u.oneCell'=true)
  (C:n+m<=maxLen) (d:(n+m)*bytes<=140737488355328) (r:base<=w.heap.size)
  (h:∀D b y,y.ownsRow base e size (.slice D (n+m) b) (n+m) (xs++news)->b<=9223372036854775807->n+m<=b->Since (λk=>v.ownBlock=some k) w y->
   (∀k,(Value.slice D (n+m) b).ownBlock=some k->v.ownBlock=some k\/k=w.heap.size)->
   K (a.put o.dst (.slice D (n+m) b)) y):if Region.wanted o (yielded A a.tmps)=true then Oper.wp P o a w K Q else E:=by
 rw [if_pos V];obtain⟨i,S,M,g,B⟩:=info_parts q;obtain⟨Z,y,O,T,Y,h4⟩:=run_append_own (P:=P) w base t o.type e i z size bytes N S M g B F G v n xs p L m c news R l U C d r;have f:=zb5 N S M g B p R l U C d O;obtain⟨D,b,rfl,J,I⟩:=xS T;unfold Oper.wp execOp;simp only [X,resolve,invoke,builtin,Sem.run_bind,Sem.run_pure,Result.andThen_ok,List.map_toArray,List.map_cons,List.map_nil,W,hx,O];refine h D b y T (by unfold maxLen at I;omega) J ((Since.refl _ _).grown Y (λk H=> .inl H)) (λk H=> ?_)
 rw [H] at f;rcases f with f|f
 ·exact .inl f.symm
 exact .inr (by simpa using f)
def zmX (made:List (Form × Value)) (a2 a3:Nat):Prop:=∃N,qE (made.map (·.1))<=2*N+made.length/\N<=20 - a2/\a2+N<=a3/\a3<=a2+10*qE (made.map (·.1))
theorem z0N (x y:Nat) (hx:x<=9) (b:y<=9):kU ⟨1,0,x,y⟩=true:=by simp [kU,placesOf,wS,zF.field,zF.only];omega
theorem z0O (x y z:Nat) (hx:x<=9) (c:y<=9) (b:z<=9):kU ⟨2,x,y,z⟩=true:=by simp [kU,placesOf,wS,zF.field,zF.only];omega
theorem z0P (x y:Nat) (hx:x<=9) (b:y<=9):kU ⟨3,x,0,y⟩=true:=by simp [kU,placesOf,wS,zF.field,zF.only];omega
theorem z0Q (x:Nat) (hx:x<=9):kU ⟨4,x,0,0⟩=true:=by simp [kU,placesOf,wS,zF.field,zF.only];omega
theorem z0R (x:Nat) (hx:x<=9):kU ⟨6,x,0,0⟩=true:=by simp [kU,placesOf,wS,zF.field,zF.only];omega
theorem zo3 {E w wr B i:World} {sv:Value} {F:Nat} {k V U T S l t r o m:Int} {made:List (Form × Value)} {y f v:Option Addr} {x n d a2 a3 J t4 c u:Nat} {g:List Form}
  (hF6:E.heap.size+6<=F) (hFR:w.heap.size<F) (hz:E.heap.size+6<=w.heap.size) (hdp:1<=c) (R:n=made.length)
  (K:wr.heap[F]? =some (.cells #[I4 k,I4 V,I4 U,I4 T,I4 S, .slice y n x] 38 (0,0)))
  (Z:wr.ownsRow (F+1) 38 6 (.slice y n x) n (made.flatMap (λq=>qQ q.1 q.2)))
  (HMK:∀q∈made,ji (λb=>F+1<=b/\(Value.slice y made.length x).ownBlock≠some b) wr c q.1 q.2/\q.1.okD c=true) (zcx:Since (Turns E) w wr) (vV:wr.heap[w.heap.size]? =some (.cells #[I4 0,I4 0,I4 0,I4 0,I4 0,N7] 38 (0,0))) (HSU:zmX made a2 a3)
  (hfm:ji (λb=>wr.heap.size<=b) B (c - 1+1) (.mk l ⟨t,r,o,m⟩ g) (.slice v g.length u)) (M:(Form.mk l ⟨t,r,o,m⟩ g).okD (c - 1+1)=true) (s:qG E B sv J t4) (D:Since (Turns E) wr B) (O:Counts (.mk l ⟨t,r,o,m⟩ g) a3 J)
  (hF7:i.heap[F]? =some (.cells #[I4 k,I4 V,I4 U,I4 T,I4 S, .slice y n x] 38 (0,0)))
  (hx3:i.ownsRow (F+1) 38 6 (.slice f (n+1) d) (n+1) (made.flatMap (λq=>qQ q.1 q.2)++ [I4 l,I4 t,I4 r,I4 o,I4 m, .slice v g.length u]))
  (hS3:Since (λb=>(Value.slice y n x).ownBlock=some b) (B.alloc (.cells #[I4 l,I4 t,I4 r,I4 o,I4 m, .slice v g.length u] 38)) i) (zfn:∀b,(Value.slice f (n+1) d).ownBlock=some b->(Value.slice y n x).ownBlock=some b\/b=(B.alloc (.cells #[I4 l,I4 t,I4 r,I4 o,I4 m, .slice v g.length u] 38)).heap.size):
  (made++ [((Form.mk l ⟨t,r,o,m⟩ g),Value.slice v g.length u)]).length=n+1/\(i.setCell ⟨F,5,none⟩ (.slice f (n+1) d)).heap[F]? =some (.cells #[I4 k,I4 V,I4 U,I4 T,I4 S, .slice f (n+1) d] 38 (0,0))/\
  (i.setCell ⟨F,5,none⟩ (.slice f (n+1) d)).ownsRow (F+1) 38 6 (.slice f (n+1) d) (n+1) ((made++ [((Form.mk l ⟨t,r,o,m⟩ g),Value.slice v g.length u)]).flatMap (λq=>qQ q.1 q.2))/\
  (∀q∈(made++ [((Form.mk l ⟨t,r,o,m⟩ g),Value.slice v g.length u)]),ji (λb=>F+1<=b/\(Value.slice f (n+1) d).ownBlock≠some b) (i.setCell ⟨F,5,none⟩ (.slice f (n+1) d)) c q.1 q.2/\q.1.okD c=true)/\
  qG E (i.setCell ⟨F,5,none⟩ (.slice f (n+1) d)) sv J t4/\Since (Turns E) w (i.setCell ⟨F,5,none⟩ (.slice f (n+1) d))/\(i.setCell ⟨F,5,none⟩ (.slice f (n+1) d)).heap[w.heap.size]? =some (.cells #[I4 0,I4 0,I4 0,I4 0,I4 0,N7] 38 (0,0))/\zmX (made++ [((Form.mk l ⟨t,r,o,m⟩ g),Value.slice v g.length u)]) a2 J:=by
 have N:(made++ [((Form.mk l ⟨t,r,o,m⟩ g),Value.slice v g.length u)]).length=n+1:=by rw [R];simp
 have hSf:Since (λb=>b=F) i (i.setCell ⟨F,5,none⟩ (.slice f (n+1) d)):=Since.setCell (F:=λb=>b=F) (p:=⟨F,5,none⟩) (Since.refl _ _) (.inl rfl) (.slice f (n+1) d);have z:Since (λb=>(Value.slice y n x).ownBlock=some b\/b=F) B (i.setCell ⟨F,5,none⟩ (.slice f (n+1) d)):=(((Since.refl (λb=>(Value.slice y n x).ownBlock=some b\/b=F) B).alloc (.cells #[I4 l,I4 t,I4 r,I4 o,I4 m, .slice v g.length u] 38)).trans hS3 (λk hk=> .inl (.inl hk))).trans hSf (λk hk=> .inl (.inr hk));have G:∀b,(Value.slice y n x).ownBlock=some b->F+1<=b/\b<wr.heap.size:=λb I=>Z.lt b I
 have P:(i.setCell ⟨F,5,none⟩ (.slice f (n+1) d)).heap[F]? =some (.cells #[I4 k,I4 V,I4 U,I4 T,I4 S, .slice f (n+1) d] 38 (0,0)):=by
  have:=zu hF7 5 (.slice f (n+1) d)
  simpa using this
 have L:(i.setCell ⟨F,5,none⟩ (.slice f (n+1) d)).ownsRow (F+1) 38 6 (.slice f (n+1) d) (n+1) ((made++ [((Form.mk l ⟨t,r,o,m⟩ g),Value.slice v g.length u)]).flatMap (λq=>qQ q.1 q.2)):=by
  rw [List.flatMap_append];exact ownsRow_setCell_below hx3 (by simp) _
 have hz2:wr.heap.size<=B.heap.size:=D.size;have hFw:F<wr.heap.size:=zA K
 have H:∀b,b<B.heap.size+1->(Value.slice y n x).ownBlock≠some b->(Value.slice f (n+1) d).ownBlock≠some b:=by
  intro b I C h2;rcases zfn b h2 with h|h
  ·exact C h
  simp at h;omega
 have a:∀q∈(made++ [((Form.mk l ⟨t,r,o,m⟩ g),Value.slice v g.length u)]),ji (λb=>F+1<=b/\(Value.slice f (n+1) d).ownBlock≠some b) (i.setCell ⟨F,5,none⟩ (.slice f (n+1) d)) c q.1 q.2/\q.1.okD c=true:=by
  intro q W;rw [List.mem_append,List.mem_singleton] at W;rcases W with W|rfl
  ·obtain⟨C,h2⟩:=HMK q W;rw [<-R] at C;refine⟨?_,h2⟩
   have X:ji (λb=>(F+1<=b/\(Value.slice y n x).ownBlock≠some b)/\(Value.slice f (n+1) d).ownBlock≠some b) wr c q.1 q.2:=C.mono (λb j I=>⟨j,H b (by omega) j.2⟩);have h4:=(X.since D (λb j A=>by have:=j.1.1;unfold Turns at A;omega))
   exact(h4.since z (λb j A=>by rcases A with h|h;exact j.1.2 h;have:=j.1.1;omega)).mono (λb j _=>⟨j.1.1,j.2⟩)
  have X:ji (λb=>(F+1<=b/\(Value.slice y n x).ownBlock≠some b)/\(Value.slice f (n+1) d).ownBlock≠some b) B (c - 1+1) (Form.mk l ⟨t,r,o,m⟩ g) (Value.slice v g.length u):=hfm.mono (λb j I=>by
   have hP':wr.heap.size<=b:=j;have C:(Value.slice y n x).ownBlock≠some b:=λe=>by have:=(G b e).2;omega
   exact⟨⟨by omega,C⟩,H b (by omega) C⟩)
  rw [show c - 1+1=c by omega] at X M;exact⟨(X.since z (λb j A=>by rcases A with h|h;exact j.1.2 h;have:=j.1.1;omega)).mono (λb j _=>⟨j.1.1,j.2⟩),M⟩
 have Y:qG E (i.setCell ⟨F,5,none⟩ (.slice f (n+1) d)) sv J t4:=s.since z (λb I A=>by rcases A with h|h;have:=(G b h).1;omega;omega)
 have hsw:Since (Turns E) w (i.setCell ⟨F,5,none⟩ (.slice f (n+1) d)):=(zcx.trans D (λb I=> .inl I)).trans z (λb A=> .inr (by rcases A with h|h;have:=(G b h).1;omega;omega))
 have hrr:(i.setCell ⟨F,5,none⟩ (.slice f (n+1) d)).heap[w.heap.size]? =some (.cells #[I4 0,I4 0,I4 0,I4 0,I4 0,N7] 38 (0,0)):=by
  have C:=(D.block w.heap.size (zA vV) (by unfold Turns;omega)).trans vV
  exact(z.block _ (zA C) (λA=>by rcases A with h|h;have:=(G _ h).1;omega;omega)).trans C
 have Q:zmX (made++ [((Form.mk l ⟨t,r,o,m⟩ g),Value.slice v g.length u)]) a2 J:=by
  obtain⟨N0,hN1,hN2,hN3,hN4⟩:=HSU;obtain⟨N1,hM1,hM2,hM3,hM4⟩:=O;refine⟨N0+N1, ?_,by omega,by omega, ?_⟩
  ·simp only [List.map_append,List.map_cons,List.map_nil,zjc,List.length_append,List.length_cons,List.length_nil];omega
  simp only [List.map_append,List.map_cons,List.map_nil,zjc];omega
 exact⟨N,P,L,a,Y,hsw,hrr,Q⟩
theorem z3P {made:List (Form × Value)} {b:Nat} (h:∀q∈made,q.1.okD b=true):bL (made.map (·.1)) b=true:=by
 induction made with
 |nil=>rfl
 |cons q made ih=>simp only [List.map_cons,bL,Bool.and_eq_true];exact⟨h q (by simp),ih (λx hx=>h x (by simp [hx]))⟩
theorem zqS {D w wr V:World} {sv:Value} {F k:Nat} {p o m l:Int} {made:List (Form × Value)} {r:Option Addr} {u n a R P t I c E:Nat}
  (hFR:w.heap.size<F) (hz:D.heap.size+6<=w.heap.size) (Q:n=made.length) (z:gN (k:Int)=E) (e:made.length+0=E) (X:E<=2) (W:zcX c a t k)
  (B:(k=3->kU ⟨p,o,m,l⟩=true)/\(k≠3->(⟨p,o,m,l⟩:zF)=⟨0,0,0,0⟩)) (ha1:a+1<=R) (ha2:R<=a+5)
  (f:wr.ownsRow (F+1) 38 6 (.slice r n u) n (made.flatMap (λq=>qQ q.1 q.2)))
  (C:∀q∈made,ji (λb=>F+1<=b/\(Value.slice r made.length u).ownBlock≠some b) wr c q.1 q.2/\q.1.okD c=true)
  (T:qG D wr sv P I) (U:Since (Turns D) w wr) (S:zmX made R P) (Z:I<=t) (x:Since (λb=>b=w.heap.size) wr V):
  zkX D sv c a t w (.returned (.agg #[I4 k,I4 p,I4 o,I4 m,I4 l, .slice r n u])) V:=by
 have d:(made.map (·.1)).length=n:=by simp [Q]
 have L:ji (λb=>F+1<=b) wr (c+1) (.mk k ⟨p,o,m,l⟩ (made.map (·.1))) (.slice r n u):=by
  obtain⟨xa,xc,he, -,Y⟩:=xS f;refine⟨r,u,by show _=Value.slice r (made.map (·.1)).length u;rw [d],by show(made.map (·.1)).length<=_;rw [d];omega,λj s=> ?_⟩
  have v:j<made.length:=by
   have:j<(made.map (·.1)).length:=s
   rw [d] at this;omega
  obtain⟨g,cap,M, -, -⟩:=gW f (by omega);have J:r=some ⟨g,0,none⟩:=(Value.slice.inj M).1;subst J;have hg:=f.lt g rfl
  have y:(Form.mk (k:Int) ⟨p,o,m,l⟩ (made.map (·.1))).kids.getD j default=(made[j]).1:=by
   show(made.map (·.1)).getD j default=_
   simp [List.getD_eq_getElem?_getD,v]
  refine⟨g,0,(made[j]).2,rfl,hg,λi hi=> ?_, ?_⟩
  ·rw [y,show 0+j*6+i=j*6+i by omega,f.cellAt (j*6+i) (by omega),zea (λq:Form × Value=>qQ q.1 q.2) 6 (λ_=>rfl) made j i v hi]
  rw [y];exact(C _ (List.getElem_mem v)).1.mono (λb A _=>A.1)
 have H:(Form.mk (k:Int) ⟨p,o,m,l⟩ (made.map (·.1))).okD (c+1)=true:=by
  rw [zwV,Bool.and_eq_true];refine⟨?_,z3P (λq K=>(C q K).2)⟩
  unfold zgT;rw [d,z,decide_eq_true (show 1<=c+1 by omega),decide_eq_true (show((E:Nat):Int)=(n:Int) by omega),Bool.true_and,Bool.true_and];by_cases O:k=3
  ·rw [if_pos (by omega)];exact B.1 O
  rw [if_neg (by omega),decide_eq_true_iff];exact B.2 O
 refine⟨k,p,o,m,l,made.map (·.1),r,u,P,I,by rw [d], ?_,H,T.since x (λb A h=>by omega),U.trans x (λb A=> .inr (by omega)), ?_,Z⟩
 ·rw [d];exact(L.since x (λb A h=>by omega)).mono (λb A _=>by omega)
 obtain⟨N,h1,h2,O,h4⟩:=S;have G:(Form.mk (k:Int) ⟨p,o,m,l⟩ (made.map (·.1))).size=1+qE (made.map (·.1)):=rfl;by_cases hk3:k=3
 ·have:made= [] :=by
   subst hk3;rw [show gN ((3:Nat):Int)=0 from rfl] at z;exact List.eq_nil_of_length_eq_zero (by omega)
  subst this;refine⟨0, ?_,by omega,by omega, ?_⟩
  ·rw [G];simp [qE]
  rw [G];simp [qE] at h4 ⊢;omega
 have:=W hk3
 refine⟨N+1, ?_,by omega,by omega, ?_⟩
 ·rw [G];omega
 rw [G];omega
theorem zjg (c:World) (sv:Value) (l:List Int) (hn:vL c .u8 sv l) (d:Nat) (hd:d<=5) (ih:1<=d->zkt c sv (d - 1)):zkt c sv d:=by
 intro w a t N ha ht;have hpick:=λW a t n h n1 n2 ha=>ztS c W sv l a t n h hn n1 n2 ha;obtain⟨la,lc,rfl,hll, -, -⟩:=hn;have hz:=N.size;have hR:=zQ w (.cells #[I4 0,I4 0,I4 0,I4 0,I4 0,N7] 38);have hB:Below w.heap.size w (w.alloc (.cells #[I4 0,I4 0,I4 0,I4 0,I4 0,N7] 38)):=(Below.refl _ _).alloc (Nat.le_refl _) _;have R:=N.then hB;have g:=qh hpick;have HR:=qh hR;have HST:=qh R;have HSI:J2 (Since (Turns c) w (w.alloc (.cells #[I4 0,I4 0,I4 0,I4 0,I4 0,N7] 38))):=xW _ hB;have IH:=qh ih;have ha6:a<=600000:=by omega
 clear hpick hR hB R N ih;go_enter Tryz.func29,Tryz.ntmps29
 go_upto_region 1 with fail
 generalize hW:World.alloc _ _=W at HR HST HSI ⊢;clear hW;have hp:W.cell? ⟨c.heap.size+4,0,none⟩=some (.func (.func 28) #[] #[.pointer (some ⟨c.heap.size+3,0,none⟩), .pointer (some ⟨c.heap.size,0,none⟩)]):=ze HST.o.pick 0;go_wp2_with fail
 refine(g.o W a t 12 HST.o (by omega) (by omega) (by omega)).mono ?_
 rintro e V ⟨r,hr,rfl,N,hsi⟩;have zqT:=qh N;have zwW:J2 (Since (Turns c) w V):=HSI.o.trans hsi (λk u=> .inl (.inl u));have HR1:J2 (V.heap[w.heap.size]? =_):=(hsi.block _ (zA HR.o) (by omega)).trans HR.o
 have e3:V.cell? ⟨c.heap.size+3,0,none⟩=some (I4 ((a:Int)+1)):=by
  have:=ze N.taken 0
  simpa using this
 have e0:V.cell? ⟨c.heap.size,0,none⟩=some (.slice la l.length lc):=ze N.lv 0;have e1:V.cell? ⟨c.heap.size+1,0,none⟩=some (I4 t):=ze N.times 0;clear N hsi hp HST HSI HR;go_upto_region 2 with fail
 go_cut [33] (λs33 H=>∃b:Bool,s33= .bool b/\H=V/\J2 (b=false->zcX d a t (r+1)))
 case first=>
  by_cases h0:d=0
  ·subst h0;go_wp2_with fail
   go_meet
   case rel=>exact⟨true,rfl,rfl,λh=>by cases h⟩
  have h0':((d:Int)==0)=false:=by rw [beq_eq_false_iff_ne];omega
  have HH0:=qh h0;clear h0;by_cases h1:(l.length:Int)<=(a:Int)+1
  ·go_wp2_with fail
   go_meet
   case rel=>exact⟨true,(by first|rfl|simp),rfl,λh=>by cases h⟩
  by_cases h2:(20:Int)<(a:Int)+1
  ·go_wp2_with fail
   go_meet
   case rel=>exact⟨true,(by first|rfl|simp),rfl,λh=>by cases h⟩
  by_cases h3:(8:Int)<=1+(r:Int)
  ·by_cases h4:(t:Int)<1
   ·go_wp2_with fail
    go_meet
    case rel=>exact⟨true,(by first|rfl|(simp;done)|(simp;omega)),rfl,λh=>by cases h⟩
   have:J2 (zcX d a t (r+1)):=λ_=>⟨by have:=HH0.o;omega,by omega,λ_=>by omega⟩
   go_wp2_with fail
   go_meet
   case rel=>exact⟨false,(by first|rfl|(simp;done)|(simp;omega)),rfl,λ_=>this.o⟩
  have:J2 (zcX d a t (r+1)):=λ_=>⟨by have:=HH0.o;omega,by omega,λ_=>by omega⟩
  go_wp2_with fail
  go_meet
  case rel=>exact⟨false,(by first|rfl|(simp;done)|(simp;omega)),rfl,λ_=>this.o⟩
 case rest=>
 obtain⟨b,rfl,hwv,HN⟩:=hcut;obtain rfl:V=wc:=hwv.symm;go_upto_if 33 with fail
 go_cut [8,33] (λs8 zF1 H=>∃k:Nat,1<=k/\k<=12/\s8=I4 k/\H=V/\J2 (zcX d a t k))
 case first=>
  cases b with
  |true=>
   go_wp2_with fail
   go_meet
   case rel=>exact⟨3,by omega,by omega,rfl,rfl,λh=>absurd rfl h⟩
  |false=>
  have HNA:J2 (zcX d a t (r+1)):=HN.o (by trivial);go_wp2_with fail
  go_meet
  case rel=>exact⟨r+1,by omega,by omega,zwU (by omega),rfl,HNA.o⟩
 case rest=>
 obtain⟨k,hk1,hk2,rfl,hwv,HNA⟩:=hcut;obtain rfl:V=wc:=hwv.symm;clear HN;go_upto_region 4 with fail
 go_cut [34,35] (λzF2 s35 H=>s35= .bool (decide ((8:Int)<=(k:Int)))/\H=V)
 case first=>
  go_wp2_with fail
  go_meet
  case rel=>exact⟨rfl,rfl⟩
 case rest=>
 obtain⟨rfl,hwv⟩:=hcut;obtain rfl:V=wc:=hwv.symm;go_upto_if 35 with fail
 go_cut [35] (λzF3 H=>∃t':Nat,t'<=t/\J2 (qG c H (.slice la l.length lc) (a+1) t')/\J2 (Since (Turns c) w H)/\J2 (H.heap[w.heap.size]? =some (.cells #[I4 0,I4 0,I4 0,I4 0,I4 0,N7] 38 (0,0))))
 case first=>
  by_cases h8:(8:Int)<=(k:Int)
  rotate_left
  ·go_wp2_with fail
   go_meet
   case rel=>exact⟨t,Nat.le_refl _,zqT.o,zwW.o,HR1.o⟩
  have ht1:1<=t:=(HNA.o (by omega)).2.2 (by omega);have hfz:V.frozen? ⟨c.heap.size+1,0,none⟩=false:=zH zqT.o.times 0
  have hsp:qG c (V.setCell ⟨c.heap.size+1,0,none⟩ (I4 ((t:Int) - 1))) (.slice la l.length lc) (a+1) (t - 1):=by
   have:=zqT.o.spend (t - 1)
   rw [show((t - 1:Nat):Int)=(t:Int) - 1 by omega] at this;exact this
  have hsi:Since (Turns c) w (V.setCell ⟨c.heap.size+1,0,none⟩ (I4 ((t:Int) - 1))):=zwW.o.setCell (p:=⟨c.heap.size+1,0,none⟩) (.inl (.inr rfl)) _;have hrr:(V.setCell ⟨c.heap.size+1,0,none⟩ (I4 ((t:Int) - 1))).heap[w.heap.size]? =some (.cells #[I4 0,I4 0,I4 0,I4 0,I4 0,N7] 38 (0,0)):=(Below.heap_setCell _ _ _ _ (by simp;omega)).trans HR1.o
  have H1:=qh hsp;have H2:=qh hsi;have H3:=qh hrr;clear hsp hsi hrr;go_wp2_with fail
  go_meet
  case rel=>exact⟨t - 1,by omega,H1.o,H2.o,H3.o⟩
 case rest=>
 obtain⟨t',htt,qL,zkw,HR2⟩:=hcut;obtain⟨wo,rfl⟩:=qxE (wc:World);clear zqT zwW HR1 e0 e1 e3;go_upto_region 7 with fail
 have hFb:(wo.alloc (.cells #[I4 k,I4 0,I4 0,I4 0,I4 0,N7] 38)).heap[wo.heap.size]? =some (.cells #[I4 k,I4 0,I4 0,I4 0,I4 0,N7] 38 (0,0)):=zQ _ _;have hB3:Below wo.heap.size wo (wo.alloc (.cells #[I4 k,I4 0,I4 0,I4 0,I4 0,N7] 38)):=(Below.refl _ _).alloc (Nat.le_refl _) _;have zfm:J2 (qG c _ _ _ _):=qL.o.then hB3;have zeb:J2 (Since (Turns c) w _):=zkw.o.trans (xW (λ_=>False) hB3) (λ_ h=>h.elim);have HR3:J2 (_=some (Obj.cells #[I4 0,I4 0,I4 0,I4 0,I4 0,N7] 38 (0,0))):=(hB3.block _ (zA HR2.o)).trans HR2.o;have hFR:w.heap.size<wo.heap.size:=zA HR2.o;obtain⟨F,hFd⟩:=qxE wo.heap.size
 rw [<-hFd] at hFb hFR ⊢;have HF3:=qh hFb;have HFD:=qh hFd;have hF6:c.heap.size+6<=F:=by omega
 clear qL zkw HR2 hB3 hFb hFd;generalize World.alloc _ _=W3 at zfm zeb HR3 HF3 ⊢;go_upto_if 41 with fail
 go_cut [41] (λzF4 H=>∃(p1 s Q K:Int) (a2:Nat),J2 (H.heap[F]? =some (.cells #[I4 k,I4 p1,I4 s,I4 Q,I4 K,N7] 38 (0,0)))/\J2 (qG c H (.slice la l.length lc) a2 t')/\J2 (Since (Turns c) w H)/\J2 (H.heap[w.heap.size]? =some (.cells #[I4 0,I4 0,I4 0,I4 0,I4 0,N7] 38 (0,0)))/\a+1<=a2/\a2<=a+5/\J2 ((k=3->kU ⟨p1,s,Q,K⟩=true)/\(k≠3->(⟨p1,s,Q,K⟩:zF)=⟨0,0,0,0⟩)))
 case first=>
  by_cases h3:k=3
  rotate_left
  ·have hk3:((k:Int)==3)=false:=by rw [beq_eq_false_iff_ne];omega
   go_wp2_with fail
   go_meet
   case rel=>exact⟨0,0,0,0,a+1,HF3.o,zfm.o,zeb.o,HR3.o,by omega,by omega,⟨λh=>absurd h h3,λ_=>rfl⟩⟩
  subst h3;have hp:W3.cell? ⟨c.heap.size+4,0,none⟩=some (.func (.func 28) #[] #[.pointer (some ⟨c.heap.size+3,0,none⟩), .pointer (some ⟨c.heap.size,0,none⟩)]):=ze zfm.o.pick 0;go_wp2_with fail
  refine(g.o W3 _ _ 6 zfm.o (by omega) (by omega) (by omega)).mono ?_
  rintro e V4 ⟨r6,hr6,rfl,zid,M⟩;have P:=(M.block _ (zA HF3.o) (by omega)).trans HF3.o;have hR4:=(M.block _ (zA HR3.o) (by omega)).trans HR3.o;have q1:=ze P 1;simp only [List.getElem?_toArray,List.getElem?_cons_zero,List.getElem?_cons_succ] at q1;have q2:=zH P 1;obtain⟨kd,hkd⟩:=qxE (1+(r6:Int):Int);have hs5:=zu P 1 (I4 kd);have hS5:Since (λk=>k=F) V4 (V4.setCell ⟨F,1,none⟩ (I4 kd)):=Since.setCell (F:=λk=>k=F) (p:=⟨F,1,none⟩) (Since.refl _ _) (.inl rfl) _;have m:J2 (qG c (V4.setCell ⟨F,1,none⟩ (I4 kd)) _ _ _):=zid.since hS5 (λk u he=>by omega)
  have L:J2 (Since (Turns c) w (V4.setCell ⟨F,1,none⟩ (I4 kd))):=(zeb.o.trans M (λk u=> .inl (.inl u))).trans hS5 (λk u=> .inr (by omega));have y:J2 ((V4.setCell ⟨F,1,none⟩ (I4 kd)).heap[w.heap.size]? =_):=(hS5.block _ (zA hR4) (by omega)).trans hR4;have I:J2 ((V4.setCell ⟨F,1,none⟩ (I4 kd)).heap[F]? =some (.cells #[I4 3,I4 kd,I4 0,I4 0,I4 0,N7] 38 (0,0))):=by rw [J2];simpa using hs5
  clear zid M P hR4 hs5 hS5 hp zfm zeb HR3 HF3;go_upto_region 9 with fail
  rw [<-hkd];generalize World.setCell V4 _ _=V5 at m L y I ⊢;clear q1 q2;have hkk:kd=1\/kd=2\/kd=3\/kd=4\/kd=5\/kd=6:=by omega
  have u1:V5.cell? ⟨F,1,none⟩=some (I4 kd):=ze I.o 1;clear hkd;rcases hkk with rfl|rfl|rfl|rfl|rfl|rfl
  ·have hp0:V5.cell? ⟨c.heap.size+4,0,none⟩=some (.func (.func 28) #[] #[.pointer (some ⟨c.heap.size+3,0,none⟩), .pointer (some ⟨c.heap.size,0,none⟩)]):=ze m.o.pick 0;have J:¬c.heap.size+4=F:=by omega
   have hne2:¬F=c.heap.size+4:=by omega
   go_wp2_with fail
   go_region_held3 (λH=>H.cell? ⟨c.heap.size+4,0,none⟩=some (.func (.func 28) #[] #[.pointer (some ⟨c.heap.size+3,0,none⟩), .pointer (some ⟨c.heap.size,0,none⟩)])) (first|exact z|exact E|(rw [World.cell?_of_block (Below.heap_setCell _ _ _ _ J)];first|exact z|(rw [World.cell?_of_block (Below.heap_setCell _ _ _ _ J)];first|exact z|(rw [World.cell?_of_block (Below.heap_setCell _ _ _ _ J)];exact z)))|go_keep) (first|(go_at_call 28;refine(g.o _ _ _ 2 R (by omega) (by omega) (by omega)).mono ?_;rintro e x2 ⟨r2,hr2,rfl,uN,D⟩;have C:=(D.block _ (zA x) (by omega)).trans x;have z:=ze uN.pick 0;simp only [List.getElem?_toArray,List.getElem?_cons_zero] at z;have qc3:=ze C 3;have qf3:=zH C 3;simp only [List.getElem?_toArray,List.getElem?_cons_zero,List.getElem?_cons_succ] at qc3;have qc4:=ze C 4;have qf4:=zH C 4;simp only [List.getElem?_toArray,List.getElem?_cons_zero,List.getElem?_cons_succ] at qc4)|(go_at_call 28;refine(g.o _ _ _ 2 (m.o.then ((Below.refl _ _).drew)) (by omega) (by omega) (by omega)).mono ?_;rintro e x1 ⟨r1,hr1,rfl,R,G⟩;have x:=(G.block _ (zA I.o) (by omega)).trans I.o;have E:=ze R.pick 0;simp only [List.getElem?_toArray,List.getElem?_cons_zero] at E))
   all_goals
    go_wp2_with fail
    have A:=(zu (zu C 3 (I4 (r1:Int))) 4 (I4 (r2:Int)));have f:Since (λk=>k=F) x2 ((x2.setCell ⟨F,3,none⟩ (I4 (r1:Int))).setCell ⟨F,4,none⟩ (I4 (r2:Int))):=Since.setCell (F:=λk=>k=F) (p:=⟨F,4,none⟩) (Since.setCell (F:=λk=>k=F) (p:=⟨F,3,none⟩) (Since.refl (λk=>k=F) x2) (.inl rfl) (I4 (r1:Int))) (.inl rfl) (I4 (r2:Int));have O:Since (Turns c) w x2:=(((L.o.drew).trans G (λk u=> .inl (.inl u))).trans D (λk u=> .inl (.inl u)));have B:=((D.block _ (zA ((G.block _ (zA y.o) (by omega)).trans y.o)) (by omega)).trans ((G.block _ (zA y.o) (by omega)).trans y.o));go_meet
    case rel=>exact⟨1,0,r1,r2,_,(by rw [J2];simpa using A),uN.since f (λk u he=>by omega),O.trans f (λk u=> .inr (by omega)),(f.block _ (zA B) (by omega)).trans B,by omega,by omega,⟨λ_=>z0N _ _ (by omega) (by omega),λh=>absurd rfl h⟩⟩
  ·have hp0:V5.cell? ⟨c.heap.size+4,0,none⟩=some (.func (.func 28) #[] #[.pointer (some ⟨c.heap.size+3,0,none⟩), .pointer (some ⟨c.heap.size,0,none⟩)]):=ze m.o.pick 0;have J:¬c.heap.size+4=F:=by omega
   have hne2:¬F=c.heap.size+4:=by omega
   go_wp2_with fail
   go_region_held3 (λH=>H.cell? ⟨c.heap.size+4,0,none⟩=some (.func (.func 28) #[] #[.pointer (some ⟨c.heap.size+3,0,none⟩), .pointer (some ⟨c.heap.size,0,none⟩)])) (first|exact hp3|exact z|exact E|(rw [World.cell?_of_block (Below.heap_setCell _ _ _ _ J)];first|exact hp3|(rw [World.cell?_of_block (Below.heap_setCell _ _ _ _ J)];first|exact hp3|(rw [World.cell?_of_block (Below.heap_setCell _ _ _ _ J)];exact hp3)))|go_keep) (first|(go_at_call 28;refine(g.o _ _ _ 2 uN (by omega) (by omega) (by omega)).mono ?_;rintro e x3 ⟨r3,hr3,rfl,z3V,zgx⟩;have Z:=(zgx.block _ (zA C) (by omega)).trans C;have hp3:=ze z3V.pick 0;simp only [List.getElem?_toArray,List.getElem?_cons_zero] at hp3;have T:=ze Z 2;have qf2:=zH Z 2;simp only [List.getElem?_toArray,List.getElem?_cons_zero,List.getElem?_cons_succ] at T;have qc3:=ze Z 3;have qf3:=zH Z 3;simp only [List.getElem?_toArray,List.getElem?_cons_zero,List.getElem?_cons_succ] at qc3;have qc4:=ze Z 4;have qf4:=zH Z 4;simp only [List.getElem?_toArray,List.getElem?_cons_zero,List.getElem?_cons_succ] at qc4)|(go_at_call 28;refine(g.o _ _ _ 2 R (by omega) (by omega) (by omega)).mono ?_;rintro e x2 ⟨r2,hr2,rfl,uN,D⟩;have C:=(D.block _ (zA x) (by omega)).trans x;have z:=ze uN.pick 0;simp only [List.getElem?_toArray,List.getElem?_cons_zero] at z)|(go_at_call 28;refine(g.o _ _ _ 2 (m.o.then ((Below.refl _ _).drew)) (by omega) (by omega) (by omega)).mono ?_;rintro e x1 ⟨r1,hr1,rfl,R,G⟩;have x:=(G.block _ (zA I.o) (by omega)).trans I.o;have E:=ze R.pick 0;simp only [List.getElem?_toArray,List.getElem?_cons_zero] at E))
   all_goals
    go_wp2_with fail
    have A:=(zu (zu (zu Z 2 (I4 (r1:Int))) 3 (I4 (r2:Int))) 4 (I4 (r3:Int)));have f:Since (λk=>k=F) x3 (((x3.setCell ⟨F,2,none⟩ (I4 (r1:Int))).setCell ⟨F,3,none⟩ (I4 (r2:Int))).setCell ⟨F,4,none⟩ (I4 (r3:Int))):=Since.setCell (F:=λk=>k=F) (p:=⟨F,4,none⟩) (Since.setCell (F:=λk=>k=F) (p:=⟨F,3,none⟩) (Since.setCell (F:=λk=>k=F) (p:=⟨F,2,none⟩) (Since.refl (λk=>k=F) x3) (.inl rfl) (I4 (r1:Int))) (.inl rfl) (I4 (r2:Int))) (.inl rfl) (I4 (r3:Int));have O:Since (Turns c) w x3:=((((L.o.drew).trans G (λk u=> .inl (.inl u))).trans D (λk u=> .inl (.inl u))).trans zgx (λk u=> .inl (.inl u)))
    have B:=((zgx.block _ (zA ((D.block _ (zA ((G.block _ (zA y.o) (by omega)).trans y.o)) (by omega)).trans ((G.block _ (zA y.o) (by omega)).trans y.o))) (by omega)).trans ((D.block _ (zA ((G.block _ (zA y.o) (by omega)).trans y.o)) (by omega)).trans ((G.block _ (zA y.o) (by omega)).trans y.o)));go_meet
    case rel=>exact⟨2,r1,r2,r3,_,(by rw [J2];simpa using A),z3V.since f (λk u he=>by omega),O.trans f (λk u=> .inr (by omega)),(f.block _ (zA B) (by omega)).trans B,by omega,by omega,⟨λ_=>z0O _ _ _ (by omega) (by omega) (by omega),λh=>absurd rfl h⟩⟩
  ·have hp0:V5.cell? ⟨c.heap.size+4,0,none⟩=some (.func (.func 28) #[] #[.pointer (some ⟨c.heap.size+3,0,none⟩), .pointer (some ⟨c.heap.size,0,none⟩)]):=ze m.o.pick 0;have J:¬c.heap.size+4=F:=by omega
   have hne2:¬F=c.heap.size+4:=by omega
   go_wp2_with fail
   go_region_held3 (λH=>H.cell? ⟨c.heap.size+4,0,none⟩=some (.func (.func 28) #[] #[.pointer (some ⟨c.heap.size+3,0,none⟩), .pointer (some ⟨c.heap.size,0,none⟩)])) (first|exact z|exact E|(rw [World.cell?_of_block (Below.heap_setCell _ _ _ _ J)];first|exact z|(rw [World.cell?_of_block (Below.heap_setCell _ _ _ _ J)];first|exact z|(rw [World.cell?_of_block (Below.heap_setCell _ _ _ _ J)];exact z)))|go_keep) (first|(go_at_call 28;refine(g.o _ _ _ 3 R (by omega) (by omega) (by omega)).mono ?_;rintro e x2 ⟨r2,hr2,rfl,uN,D⟩;have C:=(D.block _ (zA x) (by omega)).trans x;have z:=ze uN.pick 0;simp only [List.getElem?_toArray,List.getElem?_cons_zero] at z;have T:=ze C 2;have qf2:=zH C 2;simp only [List.getElem?_toArray,List.getElem?_cons_zero,List.getElem?_cons_succ] at T;have qc4:=ze C 4;have qf4:=zH C 4;simp only [List.getElem?_toArray,List.getElem?_cons_zero,List.getElem?_cons_succ] at qc4)|(go_at_call 28;refine(g.o _ _ _ 2 (m.o.then ((Below.refl _ _).drew)) (by omega) (by omega) (by omega)).mono ?_;rintro e x1 ⟨r1,hr1,rfl,R,G⟩;have x:=(G.block _ (zA I.o) (by omega)).trans I.o;have E:=ze R.pick 0;simp only [List.getElem?_toArray,List.getElem?_cons_zero] at E))
   all_goals
    go_wp2_with fail
    have A:=(zu (zu C 2 (I4 (r1:Int))) 4 (I4 (r2:Int)));have f:Since (λk=>k=F) x2 ((x2.setCell ⟨F,2,none⟩ (I4 (r1:Int))).setCell ⟨F,4,none⟩ (I4 (r2:Int))):=Since.setCell (F:=λk=>k=F) (p:=⟨F,4,none⟩) (Since.setCell (F:=λk=>k=F) (p:=⟨F,2,none⟩) (Since.refl (λk=>k=F) x2) (.inl rfl) (I4 (r1:Int))) (.inl rfl) (I4 (r2:Int));have O:Since (Turns c) w x2:=(((L.o.drew).trans G (λk u=> .inl (.inl u))).trans D (λk u=> .inl (.inl u)));have B:=((D.block _ (zA ((G.block _ (zA y.o) (by omega)).trans y.o)) (by omega)).trans ((G.block _ (zA y.o) (by omega)).trans y.o));go_meet
    case rel=>exact⟨3,r1,0,r2,_,(by rw [J2];simpa using A),uN.since f (λk u he=>by omega),O.trans f (λk u=> .inr (by omega)),(f.block _ (zA B) (by omega)).trans B,by omega,by omega,⟨λ_=>z0P _ _ (by omega) (by omega),λh=>absurd rfl h⟩⟩
  ·have hp0:V5.cell? ⟨c.heap.size+4,0,none⟩=some (.func (.func 28) #[] #[.pointer (some ⟨c.heap.size+3,0,none⟩), .pointer (some ⟨c.heap.size,0,none⟩)]):=ze m.o.pick 0;go_wp2_with fail
   refine(g.o _ _ _ 2 m.o (by omega) (by omega) (by omega)).mono ?_
   rintro e x1 ⟨r1,hr1,rfl,R,G⟩;have x:=(G.block _ (zA I.o) (by omega)).trans I.o;have E:=ze R.pick 0;simp only [List.getElem?_toArray,List.getElem?_cons_zero] at E;have T:=ze x 2;have qf2:=zH x 2;simp only [List.getElem?_toArray,List.getElem?_cons_zero,List.getElem?_cons_succ] at T;go_wp2_with fail
   have A:=(zu x 2 (I4 (r1:Int)));have f:Since (λk=>k=F) x1 (x1.setCell ⟨F,2,none⟩ (I4 (r1:Int))):=Since.setCell (F:=λk=>k=F) (p:=⟨F,2,none⟩) (Since.refl (λk=>k=F) x1) (.inl rfl) (I4 (r1:Int));have O:Since (Turns c) w x1:=(L.o.trans G (λk u=> .inl (.inl u)));have B:=((G.block _ (zA y.o) (by omega)).trans y.o);go_meet
   case rel=>exact⟨4,r1,0,0,_,(by rw [J2];simpa using A),R.since f (λk u he=>by omega),O.trans f (λk u=> .inr (by omega)),(f.block _ (zA B) (by omega)).trans B,by omega,by omega,⟨λ_=>z0Q _ (by omega),λh=>absurd rfl h⟩⟩
  ·go_wp2_with fail
   go_meet
   case rel=>exact⟨5,0,0,0,_,I.o,m.o,L.o,y.o,by omega,by omega,⟨λ_=>by decide,λh=>absurd rfl h⟩⟩
  have hp0:V5.cell? ⟨c.heap.size+4,0,none⟩=some (.func (.func 28) #[] #[.pointer (some ⟨c.heap.size+3,0,none⟩), .pointer (some ⟨c.heap.size,0,none⟩)]):=ze m.o.pick 0;go_wp2_with fail
  refine(g.o _ _ _ 2 m.o (by omega) (by omega) (by omega)).mono ?_
  rintro e x1 ⟨r1,hr1,rfl,R,G⟩;have x:=(G.block _ (zA I.o) (by omega)).trans I.o;have E:=ze R.pick 0;simp only [List.getElem?_toArray,List.getElem?_cons_zero] at E;have T:=ze x 2;have qf2:=zH x 2;simp only [List.getElem?_toArray,List.getElem?_cons_zero,List.getElem?_cons_succ] at T;go_wp2_with fail
  have A:=(zu x 2 (I4 (r1:Int)));have f:Since (λk=>k=F) x1 (x1.setCell ⟨F,2,none⟩ (I4 (r1:Int))):=Since.setCell (F:=λk=>k=F) (p:=⟨F,2,none⟩) (Since.refl (λk=>k=F) x1) (.inl rfl) (I4 (r1:Int));have O:Since (Turns c) w x1:=(L.o.trans G (λk u=> .inl (.inl u)));have B:=((G.block _ (zA y.o) (by omega)).trans y.o);go_meet
  case rel=>exact⟨6,r1,0,0,_,(by rw [J2];simpa using A),R.since f (λk u he=>by omega),O.trans f (λk u=> .inr (by omega)),(f.block _ (zA B) (by omega)).trans B,by omega,by omega,⟨λ_=>z0R _ (by omega),λh=>absurd rfl h⟩⟩
 case rest=>
 obtain⟨p1,s,Q,K,a2,HF4,z3X,z3Y,HR4,zA1,zA2,HPP⟩:=hcut
 obtain⟨kn,hkn⟩:∃kn:Nat,gN (k:Int)=kn:=by
  rcases zfo (k:Int) with⟨_,_,h⟩|⟨_,_,h⟩|⟨_,_,h⟩|⟨_,h⟩|⟨h,_⟩
  ·exact⟨0,h⟩
  ·exact⟨1,h⟩
  ·exact⟨2,h⟩
  ·exact⟨0,h⟩
  omega
 have hkn2:kn<=2:=by
  have:gN (k:Int)<=2:=by unfold gN;split<;>(try split)<;>(try split)<;>omega
  omega
 have HKN:=qh hkn;have hkk:∀W,Calls Tryz.prog 30 #[I4 k] W λe H=>e= .returned (I4 kn)/\W=H:=λW=>by rw [<-hkn];exact zwX k W
 have HKK:=qh hkk;clear hkn hkk zfm zeb HR3 HF3 g;obtain⟨wk,rfl⟩:=qxE (wc:World);go_wp2_with(go_at_call 30;refine(HKK.o _).mono ?_;rintro e H ⟨rfl,rfl⟩)
 go_loopg [10] kn (λgg s10 wr=>∃(i:Nat) (made:List (Form × Value)) (X:Option Addr) (U a3 t3:Nat),s10=I4 i/\J2 (made.length+i=kn)/\J2 (gg=i)/\J2 (wr.heap[F]? =some (.cells #[I4 k,I4 p1,I4 s,I4 Q,I4 K, .slice X made.length U] 38 (0,0)))/\
  J2 (wr.ownsRow (F+1) 38 6 (.slice X made.length U) made.length (made.flatMap (λq=>qQ q.1 q.2)))/\J2 (∀q∈made,ji (λb=>F+1<=b/\(Value.slice X made.length U).ownBlock≠some b) wr d q.1 q.2/\q.1.okD d=true)/\
  J2 (qG c wr (.slice la l.length lc) a3 t3)/\J2 (Since (Turns c) w wr)/\J2 (wr.heap[w.heap.size]? =some (.cells #[I4 0,I4 0,I4 0,I4 0,I4 0,N7] 38 (0,0)))/\J2 (t3<=t')/\J2 (zmX made a2 a3))
 case atStart=>exact⟨kn, [],none,0,a2,t',rfl,by simp [J2],rfl,HF4.o,World.ownsRow_nil _ _ _ _,λq hq=>by simp at hq,z3X.o,z3Y.o,HR4.o,Nat.le_refl _,⟨0,by simp [qE],by omega,by omega,by simp [qE]⟩⟩
 case round=>
 obtain⟨i,made,X,U,a3,t3,rfl,HML,HG,I,HOW,HMK,m,L,y,HT3,HSU⟩:=hrel;clear HF4 z3X z3Y HR4;by_cases hi:0<i
 rotate_left
 ·obtain rfl:i=0:=by omega
  have u0:wr.cell? ⟨F,0,none⟩=some (I4 k):=ze I.o 0;have u1:wr.cell? ⟨F,1,none⟩=some (I4 p1):=ze I.o 1;have u2:wr.cell? ⟨F,2,none⟩=some (I4 s):=ze I.o 2;have u3:wr.cell? ⟨F,3,none⟩=some (I4 Q):=ze I.o 3;have u4:wr.cell? ⟨F,4,none⟩=some (I4 K):=ze I.o 4;have u5:wr.cell? ⟨F,5,none⟩=some (.slice X made.length U):=ze I.o 5;have z0:wr.cell? ⟨w.heap.size,0,none⟩=some (I4 0):=ze y.o 0;have z1:wr.cell? ⟨w.heap.size,1,none⟩=some (I4 0):=ze y.o 1;have z2:wr.cell? ⟨w.heap.size,2,none⟩=some (I4 0):=ze y.o 2;have z3:wr.cell? ⟨w.heap.size,3,none⟩=some (I4 0):=ze y.o 3
  have z4:wr.cell? ⟨w.heap.size,4,none⟩=some (I4 0):=ze y.o 4;have z5:wr.cell? ⟨w.heap.size,5,none⟩=some (N7):=ze y.o 5;have zf:∀j,wr.frozen? ⟨w.heap.size,j,none⟩=false:=λj=>zH y.o j;obtain⟨n,S⟩:=qxE made.length;have hml:=HML.o;rw [<-S] at u5 hml;have HND:=qh S;have hnb:n<=2:=by omega
  clear S hml
  have hset:((((((wr.setCell ⟨w.heap.size,0,none⟩ (I4 k)).setCell ⟨w.heap.size,1,none⟩ (I4 p1)).setCell ⟨w.heap.size,2,none⟩ (I4 s)).setCell ⟨w.heap.size,3,none⟩ (I4 Q)).setCell ⟨w.heap.size,4,none⟩ (I4 K)).setCell ⟨w.heap.size,5,none⟩ (.slice X n U)).heap[w.heap.size]? =some (.cells #[I4 k,I4 p1,I4 s,I4 Q,I4 K, .slice X n U] 38 (0,0)):=by
   have:=(zu (zu (zu (zu (zu (zu y.o 0 (I4 k)) 1 (I4 p1)) 2 (I4 s)) 3 (I4 Q)) 4 (I4 K)) 5 (.slice X n U))
   simpa using this
  have hSv:Since (λb=>b=w.heap.size) wr ((((((wr.setCell ⟨w.heap.size,0,none⟩ (I4 k)).setCell ⟨w.heap.size,1,none⟩ (I4 p1)).setCell ⟨w.heap.size,2,none⟩ (I4 s)).setCell ⟨w.heap.size,3,none⟩ (I4 Q)).setCell ⟨w.heap.size,4,none⟩ (I4 K)).setCell ⟨w.heap.size,5,none⟩ (.slice X n U)):=Since.setCell (F:=λb=>b=w.heap.size) (p:=⟨w.heap.size,5,none⟩) (Since.setCell (F:=λb=>b=w.heap.size) (p:=⟨w.heap.size,4,none⟩) (Since.setCell (F:=λb=>b=w.heap.size) (p:=⟨w.heap.size,3,none⟩) (Since.setCell (F:=λb=>b=w.heap.size) (p:=⟨w.heap.size,2,none⟩) (Since.setCell (F:=λb=>b=w.heap.size) (p:=⟨w.heap.size,1,none⟩) (Since.setCell (F:=λb=>b=w.heap.size) (p:=⟨w.heap.size,0,none⟩) (Since.refl (λb=>b=w.heap.size) wr) (.inl rfl) (I4 k)) (.inl rfl) (I4 p1)) (.inl rfl) (I4 s)) (.inl rfl) (I4 Q)) (.inl rfl) (I4 K)) (.inl rfl) (.slice X n U)
  have zL:=qh hset;have HSV:=qh hSv;clear hset hSv;go_wp2
  generalize ((((((wr.setCell ⟨w.heap.size,0,none⟩ (I4 k)).setCell ⟨w.heap.size,1,none⟩ (I4 p1)).setCell ⟨w.heap.size,2,none⟩ (I4 s)).setCell ⟨w.heap.size,3,none⟩ (I4 Q)).setCell ⟨w.heap.size,4,none⟩ (I4 K)).setCell ⟨w.heap.size,5,none⟩ (.slice X n U))=V at zL HSV ⊢;have y0:V.cell? ⟨w.heap.size,0,none⟩=some (I4 k):=ze zL.o 0;have y1:V.cell? ⟨w.heap.size,1,none⟩=some (I4 p1):=ze zL.o 1;have y2:V.cell? ⟨w.heap.size,2,none⟩=some (I4 s):=ze zL.o 2;have y3:V.cell? ⟨w.heap.size,3,none⟩=some (I4 Q):=ze zL.o 3;have y4:V.cell? ⟨w.heap.size,4,none⟩=some (I4 K):=ze zL.o 4
  have y5:V.cell? ⟨w.heap.size,5,none⟩=some (.slice X n U):=ze zL.o 5;exact bodyPost_ret (v:= .agg #[I4 k,I4 p1,I4 s,I4 Q,I4 K, .slice X n U]) (by simp [results,Tryz.results29,go_sem,y0,y1,y2,y3,y4,y5]) rfl (zqS hFR hz HND.o HKN.o HML.o hkn2 HNA.o HPP.o zA1 zA2 (by have:=HOW.o;rw [<-HND.o] at this;exact this) HMK.o m.o L.o HSU.o (Nat.le_trans HT3.o htt) HSV.o)
 obtain⟨j,rfl⟩:∃j,i=j+1:=⟨i - 1,by omega⟩
 have hk3:k≠3:=by
  intro h;subst h;have h1:=HKN.o;have h2:=HML.o;rw [show gN ((3:Nat):Int)=0 from rfl] at h1;omega
 have hna:=HNA.o hk3;have hml:=HML.o;have hsu:=HSU.o;have ht3:=HT3.o;obtain⟨N0,hN1,hN2,hN3,hN4⟩:=hsu;have ihc:=IH.o hna.1 wr.drew a3 t3 (m.o.then ((Below.refl _ _).drew)) (by omega) (by omega);rw [show((d - 1:Nat):Int)=(d:Int) - 1 by omega] at ihc;have IHC:=qh ihc;have v5:wr.cell? ⟨F,5,none⟩=some (.slice X made.length U):=ze I.o 5;have vf:wr.frozen? ⟨F,5,none⟩=false:=zH I.o 5
 have vm:wr.cell? ⟨c.heap.size+5,0,none⟩=some (.func (.func 29) #[] #[.pointer (some ⟨c.heap.size+4,0,none⟩), .pointer (some ⟨c.heap.size+3,0,none⟩), .pointer (some ⟨c.heap.size,0,none⟩), .pointer (some ⟨c.heap.size+1,0,none⟩), .pointer (some ⟨c.heap.size+5,0,none⟩)]):=ze m.o.maker 0;have hj0:(0:Int)<(j:Int)+1:=by omega
 obtain⟨n,S⟩:=qxE made.length;have hnl:n<=2:=by omega
 have hdI:(1:Int)<=(d:Int):=by have:=hna.1;omega
 rw [<-S] at v5;have HND:=qh S;have hown:=HOW.o;have hF5:=I.o;rw [<-S] at hown hF5;have zmZ:=qh hown;have zmY:=qh hF5;have hjb:(j:Int)<=2:=by omega
 clear ihc hna hN1 hN2 hN3 hN4 hml ht3 S hown hF5;go_wp2_with fail
 have hw1:IntKind.i64.wrap ((d:Int) - 1)=(d:Int) - 1:=IntWalk.i64_in _ (by omega)
 go_region_law (first|(refine zfW (w2.alloc (.cells #[I4 gk,I4 g1,I4 g2,I4 g3,I4 g4, .slice ga gl.length gc] 38)) (by rfl) (.tmp 98) (.tmp 103) 36 rfl 38 (.agg #[I4 0,I4 0,I4 0,I4 0,I4 0,N7]) 6 64 Tryz.underlying36 zqQ rfl (by decide) (F+1) (.slice X n U) n (made.flatMap (λq=>qQ q.1 q.2)) (by simp [Act.eval]) (Y.alloc _) ⟨w2.heap.size,0,none⟩ 1 1 [I4 gk,I4 g1,I4 g2,I4 g3,I4 g4, .slice ga gl.length gc] (by simp [Act.eval]) rfl (zck w2 _ _) (by simp [Value.oneCell']) (by unfold maxLen;omega) (by omega) (by simp;omega) ?_;intro xa xc w3 hx3 zwu zwv hS3 zfn;have hF7:=(hS3.block F (by simp;omega) (λe=>by have:=(Y.lt F e).1;omega)).trans ((Below.heap_alloc _ _ _ hFl).trans P);have v6:=ze hF7 5;have v6f:=zH hF7 5;simp only [List.getElem?_toArray,List.getElem?_cons_zero,List.getElem?_cons_succ] at v6)|(go_simp;go_at_call 29;refine(IHC.o).mono ?_;rintro e w2 ⟨gk,g1,g2,g3,g4,gl,ga,gc,a4,t4,rfl,hfm,hok,zid,M,hcnt,zA3⟩;have P:=(M.block F (zA (w:=wr) zmY.o) (by unfold Turns;omega)).trans zmY.o;have hFl:=zA P;have Y:=M.row (w:=wr.drew) zmZ.o (λb hb=>by have:=(zmZ.o.lt b hb).1;unfold Turns;omega);have v5b:=ze P 5;simp only [List.getElem?_toArray,List.getElem?_cons_zero,List.getElem?_cons_succ] at v5b;have v5c:=λo=>(Below.cell ((Below.refl _ _).alloc (Nat.le_refl _) o) (World.block_lt_of_cell? w2 _ v5b)).trans v5b))
 all_goals
  clear hw1;obtain⟨hlen,hblk,hrow,zlL,zqR,hsw,hrr,zlM⟩:=zo3 hF6 hFR hz (by omega) HND.o zmY.o zmZ.o HMK.o L.o y.o HSU.o hfm hok zid ((Since.drew _ (Since.refl (Turns c) wr)).trans M (λ_ h=> .inl h)) hcnt hF7 hx3 hS3 zfn;have hnm:n+1+j=kn:=by have:=HML.o;have:=HND.o;omega
  have H1:=qh hblk;have H2:=qh hrow;have H3:=qh zlL;have H4:=qh zqR;have H5:=qh hsw;have H6:=qh hrr;have H7:=qh zlM;have H8:J2 (t4<=t'):=Nat.le_trans zA3 HT3.o;have H9:J2 ((made++ [((Form.mk gk ⟨g1,g2,g3,g4⟩ gl),Value.slice ga gl.length gc)]).length+j=kn):=by rw [J2,hlen];exact hnm
  have H0:=qh hlen;clear hlen hblk hrow zlL zqR hsw hrr zlM hnm hfm hok zid M hcnt hx3 hS3 zfn hF7 P Y;go_wp2_with fail
  go_roundg j
  case measure=>rw [HG.o];omega
  case rel=>
  refine⟨j,_,xa,xc,a4,t4,(by first|rfl|simp),H9.o,rfl, ?_, ?_, ?_,H4.o,H5.o,H6.o,H8.o,H7.o⟩
  ·rw [J2,H0.o];exact H1.o
  ·rw [J2,H0.o];exact H2.o
  rw [J2,H0.o];exact H3.o
