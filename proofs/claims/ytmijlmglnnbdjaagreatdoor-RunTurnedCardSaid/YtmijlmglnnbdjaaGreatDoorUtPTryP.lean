/- Steps. -/
import Derived.Test.YtmijlmglnnbdjaaGreatDoorUtDo
import Derived.Test.YtmijlmglnnbdjaaGreatDoorUtMoves
import Derived.Test.YtmijlmglnnbdjaaGreatDoorUtPStep
set_option linter.all false
namespace Go.Proofs.YtmijlmglnnbdjaaGreatDoor
open Go.RowKit
set_option maxRecDepth 100000
set_option maxHeartbeats 16000000
variable {v0:Value}
theorem zmD {l:List zD} {bs:List Value} {i:Nat} (j:i<l.length) (m:bs.length=l.length) (A:(l.getD i default).regs.length=4) (pc r0 r1 r2 r3:Int) (buf:List zq) (o:Value):
  yu (l.set i ⟨pc, [r0,r1,r2,r3],buf⟩) (bs.set i o)=((((((yu l bs).set (i*6) (I4 pc)).set (i*6+1) (I4 r0)).set (i*6+2) (I4 r1)).set (i*6+3) (I4 r2)).set (i*6+4) (I4 r3)).set (i*6+5) o:=by
 obtain⟨a,b,c,d,C⟩:=wM A;obtain⟨h,q⟩:=qxE (bs.getD i (N7));obtain⟨p,f,D⟩:∃p f,l.getD i default=⟨p, [a,b,c,d],f⟩:=⟨_,_,by rw [<-C]⟩;have n:∀t:zD,(l.set i t).getD i default=t:=λt=>by rw [vJ j,if_pos rfl]
 have g:∀v:Value,(bs.set i v).getD i (N7)=v:=λv=>by rw [vJ (by omega),if_pos rfl]
 have e1:=wU (l:=l) (bs:=bs) (i:=i) (k:=0) (t:=⟨pc, [a,b,c,d],f⟩) (b:=h) (u:=I4 pc) j m (by omega) (by rw [D, <-q];rfl)
 have e2:=wU (l:=l.set i ⟨pc, [a,b,c,d],f⟩) (bs:=bs.set i h) (i:=i) (k:=1) (t:=⟨pc, [r0,b,c,d],f⟩) (b:=h) (u:=I4 r0) (by simpa using j) (by simpa using m) (by omega) (by rw [n,g];rfl)
 have z:=wU (l:=l.set i ⟨pc, [r0,b,c,d],f⟩) (bs:=bs.set i h) (i:=i) (k:=2) (t:=⟨pc, [r0,r1,c,d],f⟩) (b:=h) (u:=I4 r1) (by simpa using j) (by simpa using m) (by omega) (by rw [n,g];rfl)
 have y:=wU (l:=l.set i ⟨pc, [r0,r1,c,d],f⟩) (bs:=bs.set i h) (i:=i) (k:=3) (t:=⟨pc, [r0,r1,r2,d],f⟩) (b:=h) (u:=I4 r2) (by simpa using j) (by simpa using m) (by omega) (by rw [n,g];rfl)
 have x:=wU (l:=l.set i ⟨pc, [r0,r1,r2,d],f⟩) (bs:=bs.set i h) (i:=i) (k:=4) (t:=⟨pc, [r0,r1,r2,r3],f⟩) (b:=h) (u:=I4 r3) (by simpa using j) (by simpa using m) (by omega) (by rw [n,g];rfl)
 have r:=wU (l:=l.set i ⟨pc, [r0,r1,r2,r3],f⟩) (bs:=bs.set i h) (i:=i) (k:=5) (t:=⟨pc, [r0,r1,r2,r3],buf⟩) (b:=o) (u:=o) (by simpa using j) (by simpa using m) (by omega) (by rw [n,g];rfl)
 simp only [List.set_set] at e2 z y x r;rw [r,x,y,z,e2,e1,Nat.add_zero]
theorem z3k {w:World} {sv:Value} {l:List zq} (h:zX w sv l) (u:l≠ []) {g:Nat} {t:TypeId} {f:Nat × Nat} {p m:Option Addr} {n1 k n2 i:Nat} {bad:Bool} (v:w.heap[g]? =some (.cells #[.slice p n1 k, .slice m n2 i, .bool bad] t f)):
  ∀b o n c,sv= .slice (some ⟨b,o,none⟩) n c->b≠g:=by
 intro b o n c r e;subst e r;obtain⟨a,D,C, -,A⟩:=h;cases C
 obtain⟨F,q,cs,z, -,E,y,x⟩:=A 0 (by cases l with|nil=>exact absurd rfl u|cons=>simp);cases z
 have d:=y 0 (by omega);obtain rfl:cs=zq.cells _:=x;rw [ze v] at d
 have:∀j:Nat,(#[Value.slice p n1 k, .slice m n2 i, .bool bad] :Array Value)[j]? ≠some (I4 (l.getD 0 default).var):=by
  intro j;rcases j with _|_|_|j<;>simp
 exact this _ (d.trans rfl)
theorem zt1 {w:World} {sv:Value} {l:List zq} (h:zX w sv l) (g:l≠ []):∀b o n c,sv= .slice (some ⟨b,o,none⟩) n c->b<w.heap.size:=by
 intro b o n c f;subst f;obtain⟨a,p,m, -,k⟩:=h;cases m
 obtain⟨q,d,cs,j,i, -⟩:=k 0 (by cases l with|nil=>exact absurd rfl g|cons=>simp);cases j
 exact i
theorem zqD {α:Type} [Inhabited α] {F:Nat->Prop} {R:World->α->List Value->Prop} {size:Nat} {w:World} {sv:Value} {l:List α} (h:zh R size w sv l) (r:yL F w (λy=>zh R size y sv l)) (j:0<size) (q:∀y x cs,R y x cs->∃z,cs[0]? =some (I4 z)) (k:0<l.length):
  ∀b o n c,sv= .slice (some ⟨b,o,none⟩) n c->¬F b:=by
 intro b o n c e t;subst e;obtain⟨a,i,D, -,C⟩:=h;cases D
 obtain⟨L,g,cs,A,N,M,v,u⟩:=C 0 k;cases A
 obtain⟨z,d⟩:=q _ _ _ u;have f:=World.cell?_setCell_same' w ⟨b,o+0*size+0,none⟩ (.bool true) (by rw [(v 0 j).trans d];rfl)
 obtain⟨a,i,J, -,I⟩:=r _ ((Since.refl F w).setCell (p:=⟨b,o+0*size+0,none⟩) (.inl t) (.bool true));cases J
 obtain⟨L,g,cs,H,P,O,G,E⟩:=I 0 k;cases H
 obtain⟨z,d⟩:=q _ _ _ E;have m:=(G 0 j).trans d;rw [f] at m;cases m
theorem z0H {w:World} {sv:Value} {l r:List zq} (h:zX w sv l) (v:zX w sv r):l=r:=by
 obtain⟨a,A,e, -,u⟩:=h;obtain⟨H,o,n, -,c⟩:=v;subst e;simp only [Value.slice.injEq] at n;obtain⟨rfl,g, -⟩:=n;refine zl5 g λj i=> ?_
 obtain⟨b,p,cs,t,D,C,k,q⟩:=u j i;obtain⟨G,f,d,y,F,E,m,x⟩:=c j (g ▸ i);subst t;cases y
 obtain rfl:cs=zq.cells _:=q;obtain rfl:d=zq.cells _:=x;have z:=(k 0 (by omega)).symm.trans (m 0 (by omega));have e1:=(k 1 (by omega)).symm.trans (m 1 (by omega));refine zt2 ?_ ?_
 ·simpa [zq.cells] using z
 simpa [zq.cells] using e1
theorem zt3 {F:Nat->Prop} {w:World} {s:zo} {sv mv:Value} {bs:List Value} (t:yD w s sv mv) (h:yL F w (λy=>yD y s sv mv)) (g:SrcOf w sv s.threads.length 6 (yu s.threads bs)):
  ∀j,j<s.threads.length->yL F w (λy=>zX y (bs.getD j (N7)) (s.threads.getD j default).buf):=by
 intro j o y k;obtain⟨a,H,rfl, -, -,f⟩:=g;have hx:(yu s.threads bs)[j*6+5]? =some (bs.getD j (N7)):=(je (bs:=bs) (i:=5) o (by omega)).trans rfl;obtain⟨b,c,cs,E,D, -⟩:=zh.part t.threads j o;subst E;have d:=zqD t.threads (λy k=>(h y k).threads) (by decide) (λ_ x cs ⟨_,q,e,_⟩=>⟨x.pc,by rw [e];rfl⟩) (by omega) b c _ _ rfl
 have u:=f _ rfl _ _ hx;obtain⟨L,r,G,C,J,I,A,z⟩:=zh.part (h y k).threads j o;cases C
 obtain⟨-,q,e,v⟩:=z;subst e;have m:=(A 5 (by omega)).trans (show(zD.cells _ q)[5]? =some q from rfl);have l:=k.cell (p:=⟨b,c+j*6+5,none⟩) D d;have n:w.cell? ⟨b,c+j*6+5,none⟩=some (bs.getD j (N7)):=by simpa [Addr.add,Nat.add_assoc] using u
 rw [m,n] at l;injection l with l
 rw [<-l];exact v
def Follows (w:World) (s0:zo) (sv0 mv0:Value) (X:World) (s:zo) (sv mv:Value):Prop:=∀F:Nat->Prop,(∀k,F k->k<w.heap.size)->yL F w (λy=>yD y s0 sv0 mv0)->yL F X (λy=>yD y s sv mv)
theorem Follows.later {w f g X:World} {G:Nat->Prop} {i s:zo} {c d sv mv:Value} (h:Follows f i c d g s sv mv) (j:Below w.heap.size w f) (l:Since G g X) (n:∀k,G k->(w.heap.size<=k/\k<f.heap.size)\/g.heap.size<=k):Follows w i c d X s sv mv:=by
 intro F o m;have q:yL (λk=>F k\/(w.heap.size<=k/\k<f.heap.size)) f (λy=>yD y i c d):=m.step (Since.of_below j) (λk b=> .inr b) (λk b=>b.elim .inl (λe=> .inr e.1));have p:=h _ (λk b=>b.elim (λe=>Nat.lt_of_lt_of_le (o k e) j.size) (λe=>e.2)) q;exact p.step l (λk b=>(n k b).elim (λe=> .inl (.inr e)) .inr) (λk b=> .inl (.inl b))
theorem zw4 {w r w6:World} {B gr gs mb mc tb cc i:Nat} {pc r0 r1 r2 r3 dom:Int} {buf:List zq} {A:Value} {m:zC} {mem:List Int} {bad zw5:Bool} {ts:List zD} {bs:List Value} {sa ma:Option Addr} {sn sc mn0 vU:Nat}
  (h:xP v0 r B gr pc r0 r1 r2 r3 buf A m dom mem mb mc bad) (z:r.heap[gs]? =some (.cells #[.slice sa sn sc, .slice ma mn0 vU, .bool zw5] 61 (0,0))) (hB:gs<B) (hw:w.heap.size<=gs) (L:Below w.heap.size w r)
  (t:w6.ownsRow r.heap.size 75 6 (.slice (some ⟨tb,0,none⟩) ts.length cc) ts.length (yu ts bs)) (J:Below r.heap.size r w6) (hi:i<ts.length) (hbs:bs.length=ts.length)
  (v:∀j,j<ts.length->(ts.getD j default).regs.length=4/\zX w (bs.getD j (N7)) (ts.getD j default).buf) {R:zo} {f u:Value} (s:yD w R f u) (a:R.threads=ts) (E:SrcOf w f ts.length 6 (yu ts bs)) (D:v0=bs.getD i (N7)) (Q:w.heap.size<=B) (Z:World)
  (hZ:Z=((((((((w6.setCell ⟨gs,0,none⟩ (.slice (some ⟨tb,0,none⟩) ts.length cc)).drew.setCell ⟨tb,i*6,none⟩ (I4 pc)).setCell ⟨tb,i*6+1,none⟩ (I4 r0)).setCell ⟨tb,i*6+2,none⟩ (I4 r1)).setCell ⟨tb,i*6+3,none⟩ (I4 r2)).setCell ⟨tb,i*6+4,none⟩ (I4 r3)).setCell ⟨tb,i*6+5,none⟩ A).setCell ⟨gs,1,none⟩ (.slice (some ⟨mb,0,none⟩) mem.length mc)).setCell ⟨gs,2,none⟩ (.bool bad)):
  (∀g X,w.heap.size<=g->g<B->Since (λk=>k=g) Z X->Follows w R f u X ⟨ts.set i ⟨pc, [r0,r1,r2,r3],buf⟩,mem,bad⟩ (.slice (some ⟨tb,0,none⟩) ts.length cc) (.slice (some ⟨mb,0,none⟩) mem.length mc))/\Z.heap[gs]? =some (.cells #[.slice (some ⟨tb,0,none⟩) ts.length cc, .slice (some ⟨mb,0,none⟩) mem.length mc, .bool bad] 61 (0,0))/\
   Since (λk=>k=gs\/k=tb) w6 Z/\Below w.heap.size w Z:=by
 have htb:=(t.lt tb rfl).1;have T:=zA z;have x:tb≠gs:=by omega
 have S:=(J.block gs T).trans z;have s0:=Since.setCell (F:=λk=>k=gs) (p:=⟨gs,0,none⟩) (Since.refl _ w6) (.inl rfl) (.slice (some ⟨tb,0,none⟩) ts.length cc);have b0:=zu S 0 (.slice (some ⟨tb,0,none⟩) ts.length cc);have q0:=s0.drew.row t (λk d e=>x (by cases d;exact e));have q1:=zas (j:=i*6) q0 (I4 pc);have q2:=zas (j:=i*6+1) q1 (I4 r0);have q3:=zas (j:=i*6+2) q2 (I4 r1);have q4:=zas (j:=i*6+3) q3 (I4 r2);have q5:=zas (j:=i*6+4) q4 (I4 r3);have q6:=zas (j:=i*6+5) q5 A
 have U:=((((((Since.refl (λk=>k=tb) (w6.setCell ⟨gs,0,none⟩ (.slice (some ⟨tb,0,none⟩) ts.length cc)).drew).setCell (p:=⟨tb,i*6,none⟩) (.inl rfl) (I4 pc)).setCell (p:=⟨tb,i*6+1,none⟩) (.inl rfl) (I4 r0)).setCell (p:=⟨tb,i*6+2,none⟩) (.inl rfl) (I4 r1)).setCell (p:=⟨tb,i*6+3,none⟩) (.inl rfl) (I4 r2)).setCell (p:=⟨tb,i*6+4,none⟩) (.inl rfl) (I4 r3)).setCell (p:=⟨tb,i*6+5,none⟩) (.inl rfl) A
 generalize hY:(((((((w6.setCell ⟨gs,0,none⟩ (.slice (some ⟨tb,0,none⟩) ts.length cc)).drew.setCell ⟨tb,i*6,none⟩ (I4 pc)).setCell ⟨tb,i*6+1,none⟩ (I4 r0)).setCell ⟨tb,i*6+2,none⟩ (I4 r1)).setCell ⟨tb,i*6+3,none⟩ (I4 r2)).setCell ⟨tb,i*6+4,none⟩ (I4 r3)).setCell ⟨tb,i*6+5,none⟩ A)=Y at hZ U q6;have bY:Y.heap[gs]? =some (.cells #[.slice (some ⟨tb,0,none⟩) ts.length cc, .slice ma mn0 vU, .bool zw5] 61 (0,0)):=(U.block gs (zA b0) (λe=>x e.symm)).trans b0;have b1:=zu bY 1 (.slice (some ⟨mb,0,none⟩) mem.length mc);have b2:=zu b1 2 (.bool bad)
 have K:=(Since.setCell (F:=λk=>k=gs) (p:=⟨gs,1,none⟩) (Since.refl _ Y) (.inl rfl) (.slice (some ⟨mb,0,none⟩) mem.length mc)).setCell (p:=⟨gs,2,none⟩) (.inl rfl) (.bool bad);have q7:=K.row q6 (λk d e=>x (by cases d;exact e));rw [<-hZ] at b2 K q7;have P:Since (λk=>k=gs\/k=tb) w6 Z:=(((s0.drew.mono (G:=λk=>k=gs\/k=tb) λ_ _ h=> .inl h).trans (U.mono (G:=λk=>k=gs\/k=tb) λ_ _ h=> .inr h) λ_ h=> .inl h).trans (K.mono (G:=λk=>k=gs\/k=tb) λ_ _ h=> .inl h) λ_ h=> .inl h)
 have C:Below w.heap.size w Z:=(L.trans (J.mono L.size)).trans (P.below (Nat.le_trans L.size J.size) (λk d=>by have:=L.size;rcases d with e|e<;>omega))
 have hB5:B<=r.heap.size:=Nat.le_trans h.base (Nat.le_of_lt (zA h.block))
 have l:∀F:Nat->Prop,(∀k,F k->k<B)->(∀j,j<ts.length->yL F w (λy=>zX y (bs.getD j (N7)) (ts.getD j default).buf))->yL F Z (λy=>yD y ⟨ts.set i ⟨pc, [r0,r1,r2,r3],buf⟩,mem,bad⟩ (.slice (some ⟨tb,0,none⟩) ts.length cc) (.slice (some ⟨mb,0,none⟩) mem.length mc)):=by
  intro F H hA y M;have I:∀j,j<ts.length->zX y (bs.getD j (N7)) (ts.getD j default).buf:=λj q=>((hA j q).step (Since.of_below C) (λk d=> .inr d) (λk d=> .inl d)) y M;refine⟨?_, ?_⟩
  ·have hr:=(v i hi).1;have e:=zmD hi hbs hr pc r0 r1 r2 r3 buf A;have hl:(ts.set i ⟨pc, [r0,r1,r2,r3],buf⟩).length=ts.length:=by simp
   have l:qR y (.slice (some ⟨tb,0,none⟩) (ts.set i ⟨pc, [r0,r1,r2,r3],buf⟩).length cc) (ts.set i ⟨pc, [r0,r1,r2,r3],buf⟩):=by
    refine zkn (B:=r.heap.size) (bs:=bs.set i A) (by rw [hl,e];exact M.row q7 (λk d e=>by cases d;have h9:tb<B:=H _ e;omega)) λj q=> ?_
    rw [hl] at q;by_cases hji:j=i
    rotate_left
    ·rw [vJ q,if_neg hji,vJ (by omega),if_neg hji];exact⟨(v j q).1,I j q⟩
    subst hji;rw [vJ q,if_pos rfl,vJ (by omega),if_pos rfl];refine⟨rfl, ?_⟩
    rcases h.kept with e0|N
    ·subst e0
     have e1:buf=(ts.getD j default).buf:=by
      refine z0H h.vR ?_
      rw [D];exact zX.below (v j q).2 L
     have:=I j q
     rw [<-D, <-e1] at this;exact this
    refine zbg (F:=F) ?_ M λ_ b o n c O e=>by have:=H _ e;have:=N b o n c O;omega
    refine zbg (zX.below h.vR J) P λN b o n c O=> ?_
    have h1:=z3k h.vR N z b o n c O;have h2:=zt1 h.vR N b o n c O;rintro(e|e)
    ·exact h1 e
    omega
   rw [hl] at l;exact l
  have hr:=xD h.row J;have hm:=h.uG;exact zal (M.row (P.row hr (λk d e=>by cases d;change mb=gs\/mb=tb at e;rcases e with e|e<;>omega)) (λk d e=>by cases d;have:=H _ e;change mb<B at this;omega))
 refine⟨?_,b2,P,C⟩
 intro g X hg1 hg2 hX F H ha;subst a;have ha2:yL (λk=>F k\/k=g) w (λy=>yD y R f u):=ha.step (Since.refl F w) (λk d=> .inl d) (λk d=>d.elim .inl (λe=> .inr (by omega)));have hz:=l (λk=>F k\/k=g) (λk d=>d.elim (λe=>Nat.lt_of_lt_of_le (H k e) Q) (λe=>by omega)) (zt3 s ha2 E);exact hz.step hX (λk d=> .inl (.inr d)) (λk d=> .inl (.inl d))
end Go.Proofs.YtmijlmglnnbdjaaGreatDoor
namespace Go.Proofs.YtmijlmglnnbdjaaGreatDoor
open Go.RowKit
set_option maxRecDepth 100000
set_option maxHeartbeats 16000000
theorem zw6 {w V:World} {B mb mc:Nat} {pc r0 r1 r2 r3 dom:Int} {buf:List zq} {g:Value} {m:zC} {mem:List Int} {bad:Bool} (f:zX w g buf) (h:Below w.heap.size w V) (l:w.heap.size<=B) (k:B<=V.heap.size) (d:V.ownsRow B 3 1 (.slice (some ⟨mb,0,none⟩) mem.length mc) mem.length (zx xI mem)):
  xP g (V.alloc (.cells #[I4 pc,I4 r0,I4 r1,I4 r2,I4 r3,g,I4 m.model,I4 m.bound,I4 dom, .slice (some ⟨mb,0,none⟩) mem.length mc, .bool bad] 167)) B V.heap.size pc r0 r1 r2 r3 buf g m dom mem mb mc bad:=by
 have i:=(Below.refl V.heap.size V).alloc (Nat.le_refl _) (.cells #[I4 pc,I4 r0,I4 r1,I4 r2,I4 r3,g,I4 m.model,I4 m.bound,I4 dom, .slice (some ⟨mb,0,none⟩) mem.length mc, .bool bad] 167);have p:=d.lt mb rfl;exact⟨zQ V _,xD d i,zX.below f (zy h i),k,by omega,λj b o n c e=>by have:=zt1 f j b o n c e;exact⟨by omega,by omega⟩, .inl rfl⟩
theorem zw7 {w:World} {B n b:Nat} {a:Option Addr} {l:List Int} (h:w.ownsRow B 3 1 (.slice a n b) n (zx xI l)) (d:0<l.length):∃g,a=some ⟨g,0,none⟩:=by
 obtain⟨g,c,f, -⟩:=jh h (zko d);cases f
 exact⟨g,rfl⟩
theorem zhv {w:World} {B n b:Nat} {a:Option Addr} {l:List zD} {bs:List Value} (h:w.ownsRow B 75 6 (.slice a n b) n (yu l bs)) (d:0<l.length):∃g,a=some ⟨g,0,none⟩:=by
 obtain⟨g,c,f, -⟩:=jh h (j:=0) (u:=I4 (l.getD 0 default).pc) (show(yu l bs)[0]? =some (I4 (l.getD 0 default).pc) from(je (bs:=bs) (j:=0) (i:=0) d (by omega)).trans rfl);cases f
 exact⟨g,rfl⟩
theorem zat {w y:World} {g:Nat} (f:y.heap[g]? =some (.cells #[N7,N7, .bool false] 61 (0,0))) (h:Below w.heap.size w y) (j:w.heap.size<=g):
  (y.cell? ⟨g,0,none⟩=some (N7)/\y.cell? ⟨g,1,none⟩=some (N7)/\y.cell? ⟨g,2,none⟩=some (.bool false))/\(y.frozen? ⟨g,0,none⟩=false/\y.frozen? ⟨g,1,none⟩=false/\y.frozen? ⟨g,2,none⟩=false)/\
   ∀a b c:Value,(((y.setCell ⟨g,0,none⟩ a).setCell ⟨g,1,none⟩ b).setCell ⟨g,2,none⟩ c).heap[g]? =some (.cells #[a,b,c] 61 (0,0))/\
    Since (λk=>k=g) y (((y.setCell ⟨g,0,none⟩ a).setCell ⟨g,1,none⟩ b).setCell ⟨g,2,none⟩ c)/\Below w.heap.size w (((y.setCell ⟨g,0,none⟩ a).setCell ⟨g,1,none⟩ b).setCell ⟨g,2,none⟩ c):=by
 refine⟨⟨ze f 0,ze f 1,ze f 2⟩,⟨zH f 0,zH f 1,zH f 2⟩,λa b c=> ?_⟩
 have d:=zu (zu (zu f 0 a) 1 b) 2 c;simp only [List.setIfInBounds_toArray,List.set_cons_zero,List.set_cons_succ] at d;have i:Since (λk=>k=g) y (((y.setCell ⟨g,0,none⟩ a).setCell ⟨g,1,none⟩ b).setCell ⟨g,2,none⟩ c):=Since.setCell (F:=λk=>k=g) (p:=⟨g,2,none⟩) (Since.setCell (F:=λk=>k=g) (p:=⟨g,1,none⟩) (Since.setCell (F:=λk=>k=g) (p:=⟨g,0,none⟩) (Since.refl _ y) (.inl rfl) _) (.inl rfl) _) (.inl rfl) _;exact⟨d,i,h.trans (i.below h.size (λk e=>by omega))⟩
theorem zw8 (w:World) (p:Addr) (u:Value):(w.setCell p u).drew=w.drew.setCell p u:=rfl
theorem zmE (w:World) (p o n m l k j i:Addr) (h u1 u2 g f d c b:Value):
  ((((((((w.setCell p h).setCell o u1).setCell n u2).setCell m g).setCell l f).setCell k d).setCell j c).setCell i b).drew=(((((((w.drew.setCell p h).setCell o u1).setCell n u2).setCell m g).setCell l f).setCell k d).setCell j c).setCell i b:=by
 simp only [zw8]
theorem z0I {c:zG} (h:codeOk c=true) {i k:Nat} (l:i<c.threads.length) (j:k<(c.threads.getD i []).length):zqn ((c.threads.getD i []).getD k default).op:=by
 unfold codeOk at h;simp only [Bool.and_eq_true,decide_eq_true_eq] at h;have g:=h.2;rw [List.all_eq_true] at g;have d:=g (c.threads.getD i []) (jF l);unfold rowOk at d;simp only [Bool.and_eq_true,decide_eq_true_eq] at d;obtain⟨o,f⟩:=d;rw [List.all_eq_true] at f;have b:=f ((c.threads.getD i []).getD k default) (jF j);generalize (c.threads.getD i []).getD k default=y at b ⊢;unfold qH at b;unfold zqn;split at b
 ·omega
 split at b
 ·omega
 split at b
 ·cases b
 unfold jf at b;simp only [Bool.and_eq_true,decide_eq_true_eq] at b;obtain⟨⟨⟨⟨n,m⟩, -⟩, -⟩, -⟩:=b;omega
def bS (c:zG) (m:zC) (s:zo) (i:Nat) (kind vr:Int) (d:Nat):Option zo:=
 if kind=1/\vr=0 then kQ c m s i d else if kind=2/\vr∈yX (s.threads.getD i default).buf m.model then some (pR s i vr) else none
def ziR (w:World) (FW:World->zo->Value->Value->Prop) (r:Option zo) (e:Ending) (w':World):Prop:=Below w.heap.size w w'/\((r=none/\e= .returned (.tuple #[.agg #[N7,N7, .bool false], .bool false]))\/∃s xa xn xc ya yn yc,r=some s/\e= .returned (.tuple #[.agg #[.slice xa xn xc, .slice ya yn yc, .bool s.bad], .bool true])/\FW w' s (.slice xa xn xc) (.slice ya yn yc))
theorem z0J {w:World} {a:Option Addr} {n c:Nat} {ts:List zD} {bs:List Value} {i b o:Nat} {v:Value} (h:SrcOf w (.slice a n c) ts.length 6 (yu ts bs)) (l:a=some ⟨b,o,none⟩) (k:i<ts.length) (j:w.cell? ⟨b,o+i*6+5,none⟩=some v):v=bs.getD i (N7):=by
 obtain⟨p,m,e, -, -,d⟩:=h;cases e
 have hx:(yu ts bs)[i*6+5]? =some (bs.getD i (N7)):=(je (bs:=bs) (i:=5) k (by omega)).trans rfl;have g:=d _ l _ _ hx;have f:w.cell? ⟨b,o+i*6+5,none⟩=some (bs.getD i (N7)):=by simpa [Addr.add,Nat.add_assoc] using g
 rw [j] at f;injection f
def zqE (s:zo) (i:Nat) (r:zD × List Int × Bool):zo:=⟨s.threads.set i r.1,r.2.1,r.2.2⟩
theorem zt5 {c:zG} {m:zC} {s:zo} {i:Nat} {kind b:Int} {d:Nat} (g:kind=1) (f:b=0):bS c m s i kind b d=(if (s.threads.getD i default).pc<((c.threads.getD i []).length:Int) then stepT c m s (s.threads.getD i default) ((c.threads.getD i []).getD (s.threads.getD i default).pc.toNat default) d else none).map (zqE s i):=by
 unfold bS kQ;rw [if_pos ⟨g,f⟩];split<;>rfl
theorem zqF {c:zG} {m:zC} {s:zo} {i:Nat} {kind b:Int} {d:Nat} (g:kind=2) (j:b∈yX (s.threads.getD i default).buf m.model->∃n,takeB (s.threads.getD i default).buf b=(some ⟨b,n⟩,(takeB (s.threads.getD i default).buf b).2)):
  bS c m s i kind b d=(if b∈yX (s.threads.getD i default).buf m.model then some (⟨(s.threads.getD i default).pc,(s.threads.getD i default).regs,(takeB (s.threads.getD i default).buf b).2⟩,s.mem.set b.toNat ((takeB (s.threads.getD i default).buf b).1.getD default).n,s.bad) else none).map (zqE s i):=by
 unfold bS;rw [if_neg (by omega)];by_cases h:b∈yX (s.threads.getD i default).buf m.model
 ·rw [if_pos ⟨g,h⟩,if_pos h];obtain⟨n,f⟩:=j h;unfold pR zqE;rw [f];rfl
 rw [if_neg (λe=>h e.2),if_neg h];rfl
theorem zt6 {c:zG} {m:zC} {s:zo} {i:Nat} {kind b:Int} {d:Nat} (g:¬(kind=1/\b=0)) (f:¬kind=2):bS c m s i kind b d=none:=by
 unfold bS;rw [if_neg g,if_neg (λe=>f e.1)]
theorem zkp {c:zG} {m:zC} {s:zo} {x:zw} {d:Nat} (b:yJ c m s=true) (h:0<=x.thread/\x.thread<(s.threads.length:Int)):jR c m s x d=zlH (bS c m s x.thread.toNat x.kind x.var d):=by
 unfold jR bS;rw [if_pos b,if_pos h];by_cases h1:x.kind=1/\x.var=0
 ·rw [if_pos h1,if_pos h1];rfl
 rw [if_neg h1,if_neg h1];split<;>rfl
end Go.Proofs.YtmijlmglnnbdjaaGreatDoor
namespace Go.Proofs.YtmijlmglnnbdjaaGreatDoor
open Go.RowKit
set_option maxRecDepth 100000
set_option maxHeartbeats 16000000
structure za7 (V X:World) (B:Nat) (u1 u2:Value) (e1:TypeId) (s1:Nat) (v1:Value) (n1:Nat) (xs1:List Value) (e2:TypeId) (s2:Nat) (v2:Value) (n2:Nat) (xs2:List Value) (bs:List (Nat × TypeId × List Value)):Prop where
 since:Since (λx=>u1.ownBlock=some x\/u2.ownBlock=some x) V X
 r1:X.ownsRow B e1 s1 v1 n1 xs1
 r2:X.ownsRow B e2 s2 v2 n2 xs2
 l1:∀x,v1.ownBlock=some x->u1.ownBlock=some x\/V.heap.size<=x
 l2:∀x,v2.ownBlock=some x->u2.ownBlock=some x\/V.heap.size<=x
 news:∀p∈bs,X.heap[p.1]? =some (.cells p.2.2.toArray p.2.1 (0,0))/\v1.ownBlock≠some p.1/\v2.ownBlock≠some p.1
 base:B<=X.heap.size
section
variable {V X:World} {B:Nat} {u1 u2 v1 v2:Value} {e1 e2:TypeId} {s1 s2 n1 n2:Nat} {xs1 xs2:List Value} {bs:List (Nat × TypeId × List Value)}
theorem za7.start (d:V.ownsRow B e1 s1 v1 n1 xs1) (c:V.ownsRow B e2 s2 v2 n2 xs2) (b:B<=V.heap.size):za7 V V.drew B v1 v2 e1 s1 v1 n1 xs1 e2 s2 v2 n2 xs2 [] :=
 ⟨(Since.refl _ _).drew,(Since.refl (λ_=>False) V).drew.row d (λ_ _ h=>h),(Since.refl (λ_=>False) V).drew.row c (λ_ _ h=>h),λ_ h=> .inl h,λ_ h=> .inl h,by simp,b⟩
theorem za7.alloc (h:za7 V X B u1 u2 e1 s1 v1 n1 xs1 e2 s2 v2 n2 xs2 bs) (t:TypeId) (cs:List Value):za7 V (X.alloc (.cells cs.toArray t)) B u1 u2 e1 s1 v1 n1 xs1 e2 s2 v2 n2 xs2 ((X.heap.size,t,cs)::bs):=by
 refine⟨h.since.alloc _,h.r1.alloc _,h.r2.alloc _,h.l1,h.l2, ?_,by have:=h.base;simp;omega⟩
 intro p d;rcases List.mem_cons.1 d with rfl|d
 ·exact⟨zQ X _,λe=>by have:=(h.r1.lt _ e).2;simp at this,λe=>by have:=(h.r2.lt _ e).2;simp at this⟩
 obtain⟨a,b,c⟩:=h.news p d;exact⟨(Below.heap_alloc _ _ _ (zA a)).trans a,b,c⟩
theorem za7.app1 (h:za7 V X B u1 u2 e1 s1 v1 n1 xs1 e2 s2 v2 n2 xs2 bs) (j:e1≠e2) {l:World} {d:Value} {m:Nat} {f:List Value} (r:l.ownsRow B e1 s1 d m f) (g:Since (λk=>v1.ownBlock=some k) X l) (n:∀k,d.ownBlock=some k->v1.ownBlock=some k\/k=X.heap.size):
  za7 V l B u1 u2 e1 s1 d m f e2 s2 v2 n2 xs2 bs:=by
 refine⟨h.since.trans g (λi u=>(h.l1 i u).imp .inl id),r,g.row h.r2 (λk t e=>zcG h.r1 h.r2 j k e t),λx hx=> ?_,h.l2,λp q=> ?_,Nat.le_trans h.base g.size⟩
 ·rcases n x hx with e|rfl
  ·exact h.l1 x e
  exact .inr h.since.size
 obtain⟨a,b,c⟩:=h.news p q;refine⟨(g.block _ (zA a) b).trans a,λe=> ?_,c⟩
 rcases n _ e with o|o
 ·exact b o
 have:=zA a;omega
theorem za7.zw9 (h:za7 V X B u1 u2 e1 s1 v1 n1 xs1 e2 s2 v2 n2 xs2 bs) (j:e1≠e2) {l:World} {d:Value} {m:Nat} {f:List Value} (r:l.ownsRow B e2 s2 d m f) (g:Since (λk=>v2.ownBlock=some k) X l) (n:∀k,d.ownBlock=some k->v2.ownBlock=some k\/k=X.heap.size):
  za7 V l B u1 u2 e1 s1 v1 n1 xs1 e2 s2 d m f bs:=by
 refine⟨h.since.trans g (λi u=>(h.l2 i u).imp .inr id),g.row h.r1 (λk t e=>zcG h.r1 h.r2 j k t e),r,h.l1,λx hx=> ?_,λp q=> ?_,Nat.le_trans h.base g.size⟩
 ·rcases n x hx with e|rfl
  ·exact h.l2 x e
  exact .inr h.since.size
 obtain⟨a,b,c⟩:=h.news p q;refine⟨(g.block _ (zA a) c).trans a,b,λe=> ?_⟩
 rcases n _ e with o|o
 ·exact c o
 have:=zA a;omega
theorem za7.cell (h:za7 V X B u1 u2 e1 s1 v1 n1 xs1 e2 s2 v2 n2 xs2 bs) {b:Nat} {t:TypeId} {cs:List Value} (d:(b,t,cs)∈bs):∀j x,cs[j]? =some x->X.cell? ((⟨b,0,none⟩:Addr).add j)=some x:=by
 intro j x c;have:=ze (h.news _ d).1 j
 rw [show(⟨b,0,none⟩:Addr).add j=⟨b,j,none⟩ by simp [Addr.add];omega,this,List.getElem?_toArray]
 exact c
end
def NF (F0:Nat->Prop) (v1 v2:Value) (k:Nat):Prop:=F0 k\/v1.ownBlock=some k\/v2.ownBlock=some k
structure jO (F0:Nat->Prop) (W X:World) (v1 v2:Value) (ml:List zw) (nl:List zo) (css:List (List Value)):Prop where
 row:X.ownsRow W.heap.size 46 3 v1 ml.length (zx zw.cells ml)
 st:qA (NF F0 v1 v2) X qY 3 W.heap.size 61 v2 nl css
 below:Below W.heap.size W X
section
variable {F0:Nat->Prop} {W V X:World} {v1 v2:Value} {ml:List zw} {nl:List zo} {css:List (List Value)}
theorem jO.begin (b:Below W.heap.size W X):jO F0 W X (N7) (N7) [] [] [] :=
 ⟨World.ownsRow_nil _ _ _ _,qA.nil _ _ _ _ _ _,b⟩
theorem jO.later (h:jO F0 W V v1 v2 ml nl css) (b:Below V.heap.size V X):jO F0 W X v1 v2 ml nl css:=
 ⟨xD h.row b,h.st.step (G:=λ_=>False) (xW _ b) (λ_ _ h=>h) (λ_ h=>h.elim) (λ_ c=> .inl c),zy h.below b⟩
theorem jO.push (h:jO F0 W V v1 v2 ml nl css) {d c:Value} {x:zw} {t:zo} {cs:List Value} {bs:List (Nat × TypeId × List Value)}
  (b:za7 V X W.heap.size v1 v2 46 3 d (ml.length+1) (zx zw.cells ml++zw.cells x) 61 3 c (nl.length+1) (css.flatten++cs) bs) (hx:yL (NF F0 v1 v2) V (λy=>qY y t cs)) (g:cs.length=3):
  jO F0 W X d c (ml++ [x]) (nl++ [t]) (css++ [cs]):=by
 refine⟨?_, ?_, ?_⟩
 ·rw [List.length_append,zgp];exact b.r1
 ·refine h.st.push (G:=λk=>v1.ownBlock=some k\/v2.ownBlock=some k) b.since (λk f=> .inl (.inr f)) (λk f=> ?_) hx g b.r2
  rcases f with e|e|e
  ·exact .inl (.inl e)
  ·exact(b.l1 k e).elim (λe=> .inl (.inr (.inl e))) .inr
  exact(b.l2 k e).elim (λe=> .inl (.inr (.inr e))) .inr
 refine h.below.trans (b.since.below h.below.size (λk f=> ?_))
 rcases f with e|e
 ·exact(h.row.lt k e).1
 exact(h.st.row.lt k e).1
theorem jO.less (h:jO F0 W V v1 v2 ml nl css) {F1:Nat->Prop} (c:∀k,F1 k->F0 k\/V.heap.size<=k):jO F1 W V v1 v2 ml nl css:=by
 refine⟨h.row,h.st.step (G:=λ_=>False) (Since.refl _ _) (λ_ _ h=>h) (λ_ h=>h.elim) (λk b=> ?_),h.below⟩
 rcases b with e|e
 ·exact(c k e).imp .inl id
 exact .inl (.inr e)
theorem jO.side (h:jO F0 W V v1 v2 ml nl css) {B n:Nat} {d:Value} {xs:List Value} {o:Obj} (g:V.ownsRow B 46 3 d n xs) (l:∀k,B<=k->F0 k) (i:W.heap.size<=B) (f:∀k,v1.ownBlock=some k->d.ownBlock≠some k) (j:Since (λk=>d.ownBlock=some k) (V.alloc o) X):
  jO F0 W X v1 v2 ml nl css:=by
 have c:Since (λk=>d.ownBlock=some k) V X:=((Since.refl _ V).alloc o).trans j (λ_ b=> .inl b);refine⟨c.row h.row (λk b e=>f k b e),h.st.step c (λk b e=>zcG g h.st.row (by decide) k e b) (λk b=> .inl (.inl (l k (g.lt k b).1))) (λ_ b=> .inl b),h.below.trans (c.below h.below.size (λk b=>Nat.le_trans i (g.lt k b).1))⟩
theorem jO.beside (h:jO F0 W V v1 v2 ml nl css) {B n:Nat} {f b g:Value} {xs:List Value} {n1 n2:Nat} {xs1 xs2:List Value} {bs:List (Nat × TypeId × List Value)} (i:V.ownsRow B 46 3 f n xs) (c:∀k,v1.ownBlock=some k->f.ownBlock≠some k)
  (j:za7 V X W.heap.size v1 v2 46 3 b n1 xs1 61 3 g n2 xs2 bs):X.ownsRow B 46 3 f n xs/\∀k,b.ownBlock=some k->f.ownBlock≠some k:=by
 refine⟨j.since.row i (λk d e=> ?_),λk d e=> ?_⟩
 ·rcases e with e|e
  ·exact c k e d
  exact zcG i h.st.row (by decide) k d e
 rcases j.l1 k d with e1|e1
 ·exact c k e1 e
 have:=(i.lt k e).2;omega
end
theorem ziR.told {w n:World} {p:World->zo->Value->Value->Prop} {r:Option zo} {e:Ending} (h:ziR w p r e n):∃l j k i f g o b,e= .returned (.tuple #[.agg #[.slice l j k, .slice i f g, .bool o], .bool b])/\b=r.isSome/\∀t,r=some t->o=t.bad/\p n t (.slice l j k) (.slice i f g):=by
 rcases h.2 with⟨d,m⟩|⟨t,l,j,k,i,f,g,d,m,q⟩
 ·exact⟨none,0,0,none,0,0,false,false,m,by rw [d];rfl,λt c=>by rw [d] at c;cases c⟩
 exact⟨l,j,k,i,f,g,t.bad,true,m,by rw [d];rfl,λt' c=>by rw [d] at c;cases c;exact⟨rfl,q⟩⟩
def allT (m:zC) (s:zo) (i:Nat):List zw:=⟨1,(i:Int),0⟩::(yX (s.threads.getD i default).buf m.model).map λv=>⟨2,(i:Int),v⟩
def zfa (c:zG) (m:zC) (s:zo) (d i:Nat) (x:zw):Option zo:=bS c m s i x.kind x.var d
theorem zt7 (c:zG) (m:zC) (s:zo) (d i:Nat):zfa c m s d i ⟨1,(i:Int),0⟩=kQ c m s i d:=by
 unfold zfa bS;rw [if_pos ⟨rfl,rfl⟩]
theorem zqG {c:zG} {m:zC} {s:zo} {d i:Nat} {v:Int} (b:v∈yX (s.threads.getD i default).buf m.model):zfa c m s d i ⟨2,(i:Int),v⟩=some (pR s i v):=by
 unfold zfa bS;rw [if_neg (by rintro⟨h, -⟩;simp at h),if_pos ⟨rfl,b⟩]
theorem all_some {α β:Type} (f:α->Option β) (g:α->β):∀l:List α,(∀x∈l,f x=some (g x))->l.filter (λx=>(f x).isSome)=l/\l.filterMap f=l.map g
 | [],_=>⟨rfl,rfl⟩
 |x::l,h=>by
  obtain⟨d,c⟩:=all_some f g l (λy b=>h y (List.mem_cons_of_mem _ b));have hx:=h x (List.mem_cons_self ..);refine⟨?_, ?_⟩
  ·rw [List.filter_cons_of_pos (by rw [hx];rfl),d]
  rw [List.filterMap_cons_some hx,c];rfl
def zlI (c:zG) (m:zC) (s:zo) (d i:Nat):List zo:=(wE c m s d i).map λx=>(jR c m s x d).1
def zlJ (c:zG) (m:zC) (s:zo) (d:Nat):List zo:=(xL c m s d).map λx=>(jR c m s x d).1
theorem zt8 {c:zG} {m:zC} {s:zo} {d i:Nat} (j:yJ c m s=true) (g:i<s.threads.length):(allT m s i).filter (λx=>(zfa c m s d i x).isSome)=wE c m s d i/\(allT m s i).filterMap (zfa c m s d i)=zlI c m s d i:=by
 have o:∀x∈(yX (s.threads.getD i default).buf m.model).map (λv=>(⟨2,(i:Int),v⟩:zw)),zfa c m s d i x=some (jR c m s x d).1:=by
  intro x hx;obtain⟨v,n,rfl⟩:=List.mem_map.1 hx;have h:=zqG (c:=c) (d:=d) n;have f:=zkp (x:=⟨2,(i:Int),v⟩) (d:=d) j ⟨by simp,by simpa using g⟩;simp only [Int.toNat_natCast] at f;rw [h,f,show bS c m s i 2 v d=some (pR s i v) from h];rfl
 obtain⟨l,k⟩:=all_some (zfa c m s d i) (λx=>(jR c m s x d).1) _ o;have f:=zkp (c:=c) (m:=m) (x:=⟨1,(i:Int),0⟩) (d:=d) j ⟨by simp,by simpa using g⟩;simp only [Int.toNat_natCast] at f;have b:=zt7 c m s d i;unfold zlI wE allT;cases hs:kQ c m s i d with
 |none=>
  rw [hs] at b;rw [List.filter_cons_of_neg (by rw [b];simp),l,List.filterMap_cons_none b,k]
  exact⟨rfl,rfl⟩
 |some t=>
 rw [hs] at b;have e:(jR c m s ⟨1,(i:Int),0⟩ d).1=t:=by rw [f,show bS c m s i 1 0 d=some t from b];rfl
 rw [List.filter_cons_of_pos (by rw [b];rfl),l,List.filterMap_cons_some b,k]
 refine⟨rfl, ?_⟩
 show t::_=(jR c m s ⟨1,(i:Int),0⟩ d).1::_
 rw [e];rfl
theorem zwA {c:zG} {m:zC} {s:zo} {d:Nat} (b:yJ c m s=true):zlJ c m s d=(List.range s.threads.length).flatMap (zlI c m s d):=by
 unfold zlJ xL;rw [if_pos b,List.map_flatMap];rfl
theorem zov {α:Type} [Inhabited α] {l:List α} {k:Nat} (b:k<l.length) (p:α->Bool):(l.take (k+1)).filter p=(l.take k).filter p++(if p (l.getD k default) then [l.getD k default] else []):=by
 rw [uR b rfl,List.filter_append];congr 1
 cases h:p (l.getD k default)
 ·rw [List.filter_cons_of_neg (by rw [h];simp)];simp
 rw [List.filter_cons_of_pos h];simp
theorem zkq {α β:Type} [Inhabited α] {l:List α} {k:Nat} (b:k<l.length) (f:α->Option β):(l.take (k+1)).filterMap f=(l.take k).filterMap f++(match f (l.getD k default) with|some y=> [y] |none=> []):=by
 rw [uR b rfl,List.filterMap_append];congr 1
 cases h:f (l.getD k default)
 ·rw [List.filterMap_cons_none h];rfl
 rw [List.filterMap_cons_some h];rfl
def zmF (F0:Nat->Prop) (w:World) (ml:List zw) (nl:List zo) (e:Ending) (w':World):Prop:=
 (∃va vc xa xc css,e= .returned (.tuple #[.slice va ml.length vc, .slice xa nl.length xc])/\w'.ownsRow w.heap.size 46 3 (.slice va ml.length vc) ml.length (zx zw.cells ml)/\qA F0 w' qY 3 w.heap.size 61 (.slice xa nl.length xc) nl css)/\Below w.heap.size w w'
theorem jO.fin {F0:Nat->Prop} {w W X:World} {g d:Option Addr} {n f k c:Nat} {ml:List zw} {nl:List zo} {css:List (List Value)} (h:jO F0 W X (.slice g n f) (.slice d k c) ml nl css) (b:Below w.heap.size w W) (o:ml.length=n) (i:nl.length=k):
  zmF F0 w ml nl (.returned (.tuple #[.slice g n f, .slice d k c])) X:=by
 subst o i;refine⟨⟨g,f,d,c,css,rfl,xO h.row b.size, ?_⟩,b.trans (h.below.mono b.size)⟩
 exact⟨h.st.len,λj l=>⟨(h.st.part j l).1,λy m=>(h.st.part j l).2 y (m.mono (λk _ i=> .inl i))⟩,xO h.st.row b.size⟩
