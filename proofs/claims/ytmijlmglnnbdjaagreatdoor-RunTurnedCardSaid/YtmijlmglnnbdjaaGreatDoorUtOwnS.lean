/- Steps. -/
import Derived.Test.YtmijlmglnnbdjaaGreatDoorUtPart
set_option linter.all false
namespace Go.Proofs.YtmijlmglnnbdjaaGreatDoor
open Go.RowKit
set_option maxRecDepth 100000
set_option maxHeartbeats 16000000
theorem zas {w:World} {B g n b j size:Nat} {e:TypeId} {xs:List Value} (h:w.ownsRow B e size (.slice (some ⟨g,0,none⟩) n b) n xs) (u:Value):(w.setCell ⟨g,j,none⟩ u).ownsRow B e size (.slice (some ⟨g,0,none⟩) n b) n (xs.set j u):=by
 refine⟨by rw [List.length_set];exact h.1, ?_⟩;rcases h.2 with⟨f, -⟩|⟨g',k,i,f,v,r,q,p,o,l⟩
 ·cases f
 cases f
 refine .inr ⟨g,b,i.setIfInBounds j u,rfl,v,zu r j u,q,p,by rw [Array.size_setIfInBounds];exact o, ?_⟩;rw [Array.toList_setIfInBounds,List.take_set,l]
theorem jh {w:World} {B:Nat} {e:TypeId} {size:Nat} {v:Value} {n:Nat} {xs:List Value} (h:w.ownsRow B e size v n xs) {j:Nat} {u:Value} (i:xs[j]? =some u):∃g b,v= .slice (some ⟨g,0,none⟩) n b/\B<=g/\w.cell? ⟨g,j,none⟩=some u/\w.frozen? ⟨g,j,none⟩=false:=by
 have f:j<xs.length:=by
  rcases Nat.lt_or_ge j xs.length with l|l
  ·exact l
  rw [List.getElem?_eq_none l] at i;cases i
 rcases h.2 with⟨p,k⟩|⟨g,b,r,p,k,o,A,z,y,q⟩
 ·have:=h.1;rw [k] at this;omega
 refine⟨g,b,p,k, ?_,zH o j⟩
 rw [ze o, <-i, <-q,List.getElem?_take_of_lt (by rw [h.1] at f;exact f)];simp
theorem wU:∀ {l:List zD} {bs:List Value} {i k:Nat} {t:zD} {b u:Value},i<l.length->bs.length=l.length->k<6->t.cells b=((l.getD i default).cells (bs.getD i (N7))).set k u->
  yu (l.set i t) (bs.set i b)=(yu l bs).set (i*6+k) u:=by
 intro l;induction l with
 |nil=>intro bs i k t b u g;simp at g
 |cons x l ih=>
 intro bs i k t b u g j h f;cases bs with
 |nil=>simp at j
 |cons y bs=>
 cases i with
 |zero=>
  simp only [List.getD_cons_zero] at f;simp only [List.set_cons_zero,yu,List.getD_cons_zero,List.drop_one,List.tail_cons,Nat.zero_mul,Nat.zero_add,f];rw [List.set_append_left _ _ (by rw [wI];exact h)]
 |succ i=>
 simp only [List.getD_cons_succ] at f;simp only [List.set_cons_succ,yu,List.getD_cons_zero,List.drop_one,List.tail_cons];rw [ih (by simpa using g) (by simpa using j) h f,List.set_append_right _ _ (by rw [wI,Nat.add_mul];omega),wI,show(i+1)*6+k - 6=i*6+k by rw [Nat.add_mul];omega]
theorem vJ {α:Type} {l:List α} {i j:Nat} {x d:α} (b:j<l.length):(l.set i x).getD j d=if j=i then x else l.getD j d:=by
 simp only [List.getD_eq_getElem?_getD];by_cases h:j=i
 ·subst h;rw [if_pos rfl,List.getElem?_set_self (by exact b)];rfl
 rw [if_neg h,List.getElem?_set_ne (Ne.symm h)]
theorem znA {l:List Int} {j:Nat} {x:Int} :zx xI (l.set j x)=(zx xI l).set j (I4 x):=by
 have h:∀l:List Int,zx xI l=l.map (Value.int .i64):=λl=>by
  induction l with
  |nil=>rfl
  |cons y l ih=>simp only [zx,List.flatMap_cons,xI,List.map_cons] at ih ⊢;rw [ih];rfl
 rw [h,h,List.map_set]
theorem jl.thread {W X:World} {gb tb n tc:Nat} {mv:Value} {bad:Bool} {ts:List zD} {mem:List Int} {bs:List Value} (h:jl W X gb (.slice (some ⟨tb,0,none⟩) n tc) mv bad ts mem bs) {i k:Nat} (T:i<ts.length) (f:k<6) {t:zD} {b u:Value}
  (U:t.cells b=((ts.getD i default).cells (bs.getD i (N7))).set k u) (S:t.regs.length=4) (Y:X.ownsRow W.heap.size 116 2 b t.buf.length (zx zq.cells t.buf)) (r:∀k,b.ownBlock=some k->k≠tb/\mv.ownBlock≠some k/\k≠gb)
  (J:∀k,b.ownBlock=some k->∀j,j<ts.length->j≠i->(bs.getD j (N7)).ownBlock≠some k):
  jl W (X.setCell ⟨tb,i*6+k,none⟩ u) gb (.slice (some ⟨tb,0,none⟩) n tc) mv bad (ts.set i t) mem (bs.set i b):=by
 obtain⟨⟨I,Q,K,P,Z,O,N,D⟩,M,L,H,q,G,E⟩:=h
 have A:n=ts.length:=by
  rcases I.2 with⟨e, -⟩|⟨g,w,a,e, -⟩
  ·cases e
  cases e;rfl
 subst A;have o:Since (λx=>x=tb) X (X.setCell ⟨tb,i*6+k,none⟩ u):=Since.setCell (F:=λx=>x=tb) (p:=⟨tb,i*6+k,none⟩) (Since.refl _ _) (.inl rfl) _;have R:W.heap.size<=tb:=(I.lt tb rfl).1;have B:gb≠tb:=λe=>q (by rw [e];rfl)
 have C:∀j,j<ts.length->∀k,(bs.getD j (N7)).ownBlock=some k->k≠tb:=λj l k f e=>(O j l k f).1 (by rw [e];rfl)
 refine⟨⟨?_, ?_, ?_, ?_, ?_, ?_,N, ?_⟩, ?_, ?_,H,q,G, ?_⟩
 ·rw [List.length_set,wU T P f U];exact zas I u
 ·exact o.row Q (λk f e=>N tb rfl (e ▸ f))
 ·intro j l;rw [List.length_set] at l;rw [vJ l];split
  ·exact S
  exact K j l
 ·rw [List.length_set,List.length_set];exact P
 ·intro j l;rw [List.length_set] at l;rw [vJ l,vJ (by omega)];split
  ·exact o.row Y (λk f=>(r k f).1)
  exact o.row (Z j l) (C j l)
 ·intro j l k f;rw [List.length_set] at l;rw [vJ (by omega)] at f;split at f
  ·exact⟨λe=>(r k f).1 (by simpa [Value.ownBlock] using e.symm),(r k f).2.1⟩
  exact O j l k f
 ·intro x y hx v z k f;rw [List.length_set] at hx v;rw [vJ (by omega)] at f;rw [vJ (by omega)];split at f
  ·rw [if_neg (by omega)];exact J k f y v (by omega)
  split
  ·intro e;exact J k e x hx (by omega) f
  exact D x y hx v z k f
 ·exact(o.block _ (zA M) B).trans M
 ·exact L.trans (o.below L.size (λx e=>by omega))
 intro j l;rw [List.length_set] at l;rw [vJ (by omega)];split
 ·exact λe=>(r gb e).2.2 rfl
 exact E j l
theorem jl.mem {W X:World} {gb mb n mc:Nat} {tv:Value} {bad:Bool} {ts:List zD} {mem:List Int} {bs:List Value} (h:jl W X gb tv (.slice (some ⟨mb,0,none⟩) n mc) bad ts mem bs) (j:Nat) (x:Int):
  jl W (X.setCell ⟨mb,j,none⟩ (I4 x)) gb tv (.slice (some ⟨mb,0,none⟩) n mc) bad ts (mem.set j x) bs:=by
 obtain⟨⟨L,q,J,I,H,D,C,r⟩,B,A,z,v,b,u⟩:=h
 have l:n=mem.length:=by
  rcases q.2 with⟨e, -⟩|⟨g,N,M,e, -⟩
  ·cases e
  cases e;rfl
 subst l;have i:Since (λx=>x=mb) X (X.setCell ⟨mb,j,none⟩ (I4 x)):=Since.setCell (F:=λx=>x=mb) (p:=⟨mb,j,none⟩) (Since.refl _ _) (.inl rfl) _;have G:W.heap.size<=mb:=(q.lt mb rfl).1;have o:gb≠mb:=λe=>b (by rw [e];rfl)
 refine⟨⟨i.row L (λk f e=>C k f (by rw [e];rfl)), ?_,J,I,λk f=>i.row (H k f) (λy E e=>(D k f y E).2 (by rw [e];rfl)),D,C,r⟩,(i.block _ (zA B) o).trans B,A.trans (i.below A.size (λx e=>by omega)),z,v,b,u⟩
 rw [List.length_set,znA];exact zas q _
theorem jl.isBad {W X:World} {gb:Nat} {tv mv:Value} {bad:Bool} {ts:List zD} {mem:List Int} {bs:List Value} (h:jl W X gb tv mv bad ts mem bs) (b:Bool):jl W (X.setCell ⟨gb,2,none⟩ (.bool b)) gb tv mv b ts mem bs:=by
 obtain⟨⟨E,D,C,B,A,z,v,n⟩,u,q,o,j,i,g⟩:=h;have l:Since (λx=>x=gb) X (X.setCell ⟨gb,2,none⟩ (.bool b)):=Since.setCell (F:=λx=>x=gb) (p:=⟨gb,2,none⟩) (Since.refl _ _) (.inl rfl) _;refine⟨⟨l.row E (λk f e=>j (e ▸ f)),l.row D (λk f e=>i (e ▸ f)),C,B,λk f=>l.row (A k f) (λy r e=>g k f (e ▸ r)),z,v,n⟩, ?_,q.trans (l.below q.size (λx e=>by omega)),o,j,i,g⟩
 have:=zu u 2 (.bool b)
 simpa using this
theorem jl.later {W X f:World} {gb:Nat} {tv mv:Value} {bad:Bool} {ts:List zD} {mem:List Int} {bs:List Value} (h:jl W X gb tv mv bad ts mem bs) (b:Below X.heap.size X f):jl W f gb tv mv bad ts mem bs:=
 ⟨h.own.below b,(b.block _ (zA h.box)).trans h.box,zy h.below b,h.lo,h.n1,h.n2,h.n3⟩
theorem jl.zsK {W X:World} {tv mv:Value} {ts:List zD} {mem:List Int} {bs:List Value} (h:OwnAt W.heap.size X tv mv ts mem bs) (b:Below W.heap.size W X) (bad:Bool):jl W (X.alloc (.cells #[tv,mv, .bool bad] 61)) X.heap.size tv mv bad ts mem bs:=
 ⟨h.below ((Below.refl _ _).alloc (Nat.le_refl _) _),zQ X _,b.alloc b.size _,b.size,λe=>by have:=(h.row.lt _ e).2;omega,λe=>by have:=(h.mem.lt _ e).2;omega,λj f e=>by have:=((h.buf j f).lt _ e).2;omega⟩
theorem jl.threads {W X:World} {gb:Nat} {tv mv:Value} {bad:Bool} {ts:List zD} {mem:List Int} {bs:List Value} (h:jl W X gb tv mv bad ts mem bs) {i:Nat} (b:i<ts.length):∃tb tc,tv= .slice (some ⟨tb,0,none⟩) ts.length tc/\W.heap.size<=tb/\
  ∀k u,k<6->((ts.getD i default).cells (bs.getD i (N7)))[k]? =some u->X.cell? ⟨tb,i*6+k,none⟩=some u/\X.frozen? ⟨tb,i*6+k,none⟩=false:=by
 have p:=je (bs:=bs) (i:=0) b (by omega);obtain⟨tb,tc,l,v, -, -⟩:=jh h.own.row (j:=i*6+0) (u:=I4 (ts.getD i default).pc) (by rw [p];rfl)
 refine⟨tb,tc,l,v,λk u o n=> ?_⟩
 obtain⟨g,c,f, -,r,q⟩:=jh h.own.row (j:=i*6+k) (u:=u) (by rw [je b o];exact n);rw [l] at f;cases f
 exact⟨r,q⟩
theorem zko {l:List Int} {j:Nat} (b:j<l.length):(zx xI l)[j]? =some (I4 (l.getD j 0)):=by
 have:=zaU (f:=xI) (size:=1) zbe (l:=l) (j:=j) (i:=0) b (by omega)
 rw [Nat.mul_one,Nat.add_zero] at this;exact this
theorem jl.vars {W X:World} {gb:Nat} {tv mv:Value} {bad:Bool} {ts:List zD} {mem:List Int} {bs:List Value} (h:jl W X gb tv mv bad ts mem bs) (i:0<mem.length):∃mb mc,mv= .slice (some ⟨mb,0,none⟩) mem.length mc/\W.heap.size<=mb/\
  ∀j,j<mem.length->X.cell? ⟨mb,j,none⟩=some (I4 (mem.getD j 0))/\X.frozen? ⟨mb,j,none⟩=false:=by
 obtain⟨mb,mc,f,o, -, -⟩:=jh h.own.mem (zko i);refine⟨mb,mc,f,o,λj k=> ?_⟩
 obtain⟨g,c,b, -,n,l⟩:=jh h.own.mem (zko k);rw [f] at b;cases b
 exact⟨n,l⟩
end Go.Proofs.YtmijlmglnnbdjaaGreatDoor
namespace Go.Proofs.YtmijlmglnnbdjaaGreatDoor
open Go.RowKit
set_option maxRecDepth 100000
set_option maxHeartbeats 16000000
section
variable {c:zG} {m:zC} {s:zo} {t:zD} {x:yg} {d:Nat}
theorem zan (h:x.op=1):stepT c m s t x d=some (⟨t.pc+1,t.regs.set x.reg.toNat ((uo t.buf x.var).getD (s.mem.getD x.var.toNat 0)),t.buf⟩,s.mem,s.bad):=by simp [stepT,h]
theorem pJ (h:x.op=2) (b:m.model=0):stepT c m s t x d=some (⟨t.pc+1,t.regs,t.buf⟩,s.mem.set x.var.toNat (yF t.regs c.domain d x.a),s.bad):=by simp [stepT,h,b]
theorem pK (h:x.op=2) (f:¬m.model=0) (b:qM t.buf m ⟨x.var,yF t.regs c.domain d x.a⟩=true):stepT c m s t x d=some (⟨t.pc+1,t.regs,jQ t.buf m ⟨x.var,yF t.regs c.domain d x.a⟩⟩,s.mem,s.bad):=by simp [stepT,h,f,b]
theorem pO (h:x.op=2) (f:¬m.model=0) (b:qM t.buf m ⟨x.var,yF t.regs c.domain d x.a⟩=false):stepT c m s t x d=none:=by simp [stepT,h,f,b]
theorem zci (h:x.op=3):stepT c m s t x d=some (⟨t.pc+1,t.regs.set x.reg.toNat (yF t.regs c.domain d x.a),t.buf⟩,s.mem,s.bad):=by simp [stepT,h]
theorem bM (h:x.op=4):stepT c m s t x d=if t.buf.length=0 then some (⟨t.pc+1,t.regs,t.buf⟩,s.mem,s.bad) else none:=by simp [stepT,h]
theorem uX (h:x.op=5):stepT c m s t x d=if t.buf.length=0\/¬m.model=2 then some (⟨t.pc+1,t.regs,t.buf⟩,s.mem,s.bad) else none:=by simp [stepT,h]
theorem zaq (h:x.op=6) (f:s.mem.getD x.var.toNat 0=yF t.regs c.domain d x.a):stepT c m s t x d=if t.buf.length=0 then some (⟨t.pc+1,t.regs.set x.reg.toNat 1,t.buf⟩,s.mem.set x.var.toNat (yF t.regs c.domain d x.b),s.bad) else none:=by
 unfold stepT;simp only [h,f];simp
theorem zao (h:x.op=6) (b:¬s.mem.getD x.var.toNat 0=yF t.regs c.domain d x.a):stepT c m s t x d=if t.buf.length=0 then some (⟨t.pc+1,t.regs.set x.reg.toNat 0,t.buf⟩,s.mem,s.bad) else none:=by
 unfold stepT;simp only [h];simp only [if_neg b];simp
theorem uY (h:x.op=7):stepT c m s t x d=if t.buf.length=0/\s.mem.getD x.var.toNat 0=0 then some (⟨t.pc+1,t.regs,t.buf⟩,s.mem.set x.var.toNat 1,s.bad) else none:=by simp [stepT,h]
theorem uD (h:x.op=8):stepT c m s t x d=if t.buf.length=0 then some (⟨t.pc+1,t.regs,t.buf⟩,s.mem.set x.var.toNat 0,s.bad) else none:=by simp [stepT,h]
theorem wR (h:x.op=9):stepT c m s t x d=some (⟨t.pc+1,t.regs,t.buf⟩,s.mem,s.bad||decide (yF t.regs c.domain d x.a=0)):=by simp [stepT,h]
theorem uE (h:x.op=12):stepT c m s t x d=some (if yF t.regs c.domain d x.a=0 then⟨x.dest,t.regs,t.buf⟩ else⟨t.pc+1,t.regs,t.buf⟩,s.mem,s.bad):=by simp [stepT,h]
theorem zbU (p:¬x.op=1) (o:¬x.op=2) (n:¬x.op=3) (l:¬x.op=4) (k:¬x.op=5) (j:¬x.op=6) (i:¬x.op=7) (h:¬x.op=8) (g:¬x.op=9) (f:¬x.op=12) (b:¬x.op=13):stepT c m s t x d=some (⟨t.pc+1,t.regs,t.buf⟩,s.mem,s.bad):=by simp [stepT,p,o,n,l,k,j,i,h,g,f,b]
theorem zbu (h:x.op=13):stepT c m s t x d=some (⟨x.dest,t.regs,t.buf⟩,s.mem,s.bad):=by simp [stepT,h]
end
theorem zam {c:zG} {m:zC} {s:zo} (h:yJ c m s=true):codeOk c=true/\jU c m=true/\s.threads.length=c.threads.length/\(s.mem.length:Int)=c.vars/\
  ∀i,i<s.threads.length->0<=(s.threads.getD i default).pc/\(s.threads.getD i default).pc<=((c.threads.getD i []).length:Int):=by
 unfold yJ at h;simp only [Bool.and_eq_true,decide_eq_true_eq] at h;obtain⟨⟨⟨⟨g,l⟩,k⟩, -⟩,f⟩:=h;have b:=g;unfold jU at b;simp only [Bool.and_eq_true,decide_eq_true_eq] at b;refine⟨b.1.1.1.1,g,l,k,λi j=> ?_⟩
 rw [List.all_eq_true] at f;have:=f i (List.mem_range.2 j)
 unfold vE at this;simp only [Bool.and_eq_true,decide_eq_true_eq] at this;exact this.1.1
theorem jF {α:Type} {l:List α} {k:Nat} {x:α} (b:k<l.length):l.getD k x∈l:=by
 rw [List.getD_eq_getElem?_getD,List.getElem?_eq_getElem b];exact List.getElem_mem b
theorem ziB {c:zG} (h:codeOk c=true) {i k:Nat} (u:i<c.threads.length) (r:k<(c.threads.getD i []).length):
  (c.threads.getD i []).length<=600/\0<=((c.threads.getD i []).getD k default).reg/\((c.threads.getD i []).getD k default).reg<4/\0<=((c.threads.getD i []).getD k default).var/\((c.threads.getD i []).getD k default).var<c.vars:=by
 have z:=xY h;unfold codeOk at h;simp only [Bool.and_eq_true,decide_eq_true_eq] at h;have p:=h.2;rw [List.all_eq_true] at p;have l:=p (c.threads.getD i []) (jF u);unfold rowOk at l;simp only [Bool.and_eq_true,decide_eq_true_eq] at l;obtain⟨v,o⟩:=l;rw [List.all_eq_true] at o;have b:=o ((c.threads.getD i []).getD k default) (jF r);obtain⟨y,q⟩:=qxE ((c.threads.getD i []).getD k default);rw [<-q] at b ⊢
 have g:∀kind n,jf c.vars c.domain kind n y=true->0<=y.reg/\y.reg<4/\0<=y.var/\y.var<c.vars:=by
  intro kind n h;unfold jf vg zbo bT at h;simp only [Bool.and_eq_true] at h;obtain⟨-,⟨⟨f,j⟩, -⟩, -⟩:=h;constructor
  ·split at f
   ·simp only [Bool.and_eq_true,decide_eq_true_eq] at f;exact f.1
   simp only [decide_eq_true_eq] at f;omega
  constructor
  ·split at f
   ·simp only [Bool.and_eq_true,decide_eq_true_eq] at f;exact f.2
   simp only [decide_eq_true_eq] at f;omega
  split at j
  ·simp only [Bool.and_eq_true,decide_eq_true_eq] at j;exact j
  simp only [decide_eq_true_eq] at j;omega
 unfold qH at b;refine⟨v, ?_⟩
 split at b
 ·exact g _ _ b
 split at b
 ·exact g _ _ b
 split at b
 ·cases b
 exact g _ _ b
theorem zdc (w:World) (g f b h:Obj):Below w.heap.size w ((((w.alloc g).alloc f).alloc b).alloc h)/\((((w.alloc g).alloc f).alloc b).alloc h).heap[w.heap.size]? =some g/\((((w.alloc g).alloc f).alloc b).alloc h).heap[w.heap.size+1]? =some f/\
  ((((w.alloc g).alloc f).alloc b).alloc h).heap[w.heap.size+2]? =some b/\((((w.alloc g).alloc f).alloc b).alloc h).heap[w.heap.size+3]? =some h/\((((w.alloc g).alloc f).alloc b).alloc h).heap.size=w.heap.size+4:=by
 refine⟨(zbv w g f b).alloc (by simp;omega) h,(Below.heap_alloc _ _ _ (by simp;omega)).trans (zbw w g f b),(Below.heap_alloc _ _ _ (by simp;try omega)).trans (zaN w g f b),(Below.heap_alloc _ _ _ (by simp;try omega)).trans (zbx w g f b), ?_,by simp⟩
 have:=zQ (((w.alloc g).alloc f).alloc b) h
 simpa using this
def yU (X:World) (g:Nat):Nat->List Value->World
 |_, [] =>X
 |j,u::l=>yU (X.setCell ⟨g,j,none⟩ u) g (j+1) l
theorem xR {g:Nat} (l:List Value):∀(X:World) (j:Nat),Since (λk=>k=g) X (yU X g j l):=by
 induction l with
 |nil=>intro X j;exact Since.refl _ _
 |cons u l ih=>
 intro X j;exact(Since.setCell (F:=λk=>k=g) (p:=⟨g,j,none⟩) (Since.refl _ X) (.inl rfl) u).trans (ih _ _) (λ_ h=> .inl h)
theorem znB {g:Nat} {t:TypeId} {f:Nat × Nat} (l:List Value):∀(X:World) (i b:List Value),b.length=l.length->X.heap[g]? =some (.cells (i++b).toArray t f)->(yU X g i.length l).heap[g]? =some (.cells (i++l).toArray t f):=by
 induction l with
 |nil=>
  intro X i b j h;obtain rfl:b= [] :=List.eq_nil_of_length_eq_zero j;exact h
 |cons u l ih=>
 intro X i b j h;cases b with
 |nil=>simp at j
 |cons v b=>
 have k:=zu h i.length u
 have n:((i++v::b).toArray).setIfInBounds i.length u=((i++ [u])++b).toArray:=by
  rw [List.setIfInBounds_toArray,List.set_append_right _ _ (Nat.le_refl _)];simp
 rw [n] at k;have:=ih _ (i++ [u]) b (by simpa using j) k
 simpa [yU] using this
theorem qU {g:Nat} {t:TypeId} {f:Nat × Nat} {X:World} {cs:List Value} (l:List Value) (b:cs.length=l.length) (h:X.heap[g]? =some (.cells cs.toArray t f)):(yU X g 0 l).heap[g]? =some (.cells l.toArray t f):=znB l X [] cs b h
end Go.Proofs.YtmijlmglnnbdjaaGreatDoor
namespace Go.Proofs.YtmijlmglnnbdjaaGreatDoor
open Go.RowKit
set_option maxRecDepth 100000
set_option maxHeartbeats 16000000
structure Loc (V X:World) (bs:List (Nat × TypeId × List Value)):Prop where
 below:Below V.heap.size V X
 news:∀p∈bs,X.heap[p.1]? =some (.cells p.2.2.toArray p.2.1 (0,0))/\V.heap.size<=p.1
 apart:(bs.map (·.1)).Nodup
def upd (g:Nat) (l:List Value) (bs:List (Nat × TypeId × List Value)):List (Nat × TypeId × List Value):=bs.map λp=>if p.1=g then(p.1,p.2.1,l) else p
section
variable {V X:World} {bs:List (Nat × TypeId × List Value)}
theorem Loc.start (V:World):Loc V V [] :=⟨Below.refl _ _,by simp,by simp⟩
theorem Loc.drew (h:Loc V X bs):Loc V X.drew bs:=⟨h.below.drew,h.news,h.apart⟩
theorem Loc.later (h:Loc V X bs) {g:World} (f:Below X.heap.size X g):Loc V g bs:=⟨zy h.below f,λp b=>⟨(f.block _ (zA (h.news p b).1)).trans (h.news p b).1,(h.news p b).2⟩,h.apart⟩
theorem Loc.alloc (h:Loc V X bs) (t:TypeId) (cs:List Value):Loc V (X.alloc (.cells cs.toArray t)) ((X.heap.size,t,cs)::bs):=by
 refine⟨h.below.alloc h.below.size _, ?_, ?_⟩
 ·intro p b;rcases List.mem_cons.1 b with rfl|b
  ·exact⟨zQ X _,h.below.size⟩
  exact⟨(Below.heap_alloc _ _ _ (zA (h.news p b).1)).trans (h.news p b).1,(h.news p b).2⟩
 simp only [List.map_cons,List.nodup_cons];refine⟨?_,h.apart⟩
 intro f;obtain⟨p,b,e⟩:=List.mem_map.1 f;have:=zA (h.news p b).1
 omega
theorem Loc.store (h:Loc V X bs) {g:Nat} {t:TypeId} {cs:List Value} (i:(g,t,cs)∈bs) (l:List Value) (y:cs.length=l.length):Loc V (yU X g 0 l) (upd g l bs):=by
 have o:=xR (g:=g) l X 0;refine⟨h.below.trans (o.below h.below.size (λk e=>by rw [e];exact(h.news _ i).2)), ?_, ?_⟩
 ·intro p v;obtain⟨q,f,rfl⟩:=List.mem_map.1 v;by_cases e:q.1=g
  ·simp only [if_pos e]
   have j:q=(g,t,cs):=by
    have n:=h.news q f;have u:=h.news _ i;rw [e] at n;obtain⟨a,b,c⟩:=q;simp only [] at e n u;subst e;have r:=n.1.symm.trans u.1;simp only [Option.some.injEq,Obj.cells.injEq] at r;obtain⟨B,A, -⟩:=r;have z:c=cs:=by simpa using B
    rw [A,z]
   subst j;exact⟨qU l y (h.news _ i).1,(h.news _ i).2⟩
  rw [if_neg e];exact⟨(o.block _ (zA (h.news q f).1) e).trans (h.news q f).1,(h.news q f).2⟩
 have:(upd g l bs).map (·.1)=bs.map (·.1):=by
  unfold upd;rw [List.map_map];refine List.map_congr_left (λp _=> ?_)
  simp only [Function.comp];split<;>rfl
 rw [this];exact h.apart
theorem zbf {g:Nat} {t:TypeId} {cs l:List Value} (h:(g,t,cs)∈bs):(g,t,l)∈upd g l bs:=List.mem_map.2 ⟨_,h,by simp⟩
theorem kK {g:Nat} {l:List Value} {p:Nat × TypeId × List Value} (h:p∈bs) (b:p.1≠g):p∈upd g l bs:=List.mem_map.2 ⟨p,h,by simp [b]⟩
theorem Loc.zcl (h:Loc V X bs) {p:Nat × TypeId × List Value} (b:p∈bs):p.1≠X.heap.size:=Nat.ne_of_lt (zA (h.news p b).1)
end
end Go.Proofs.YtmijlmglnnbdjaaGreatDoor
namespace Go.Proofs.YtmijlmglnnbdjaaGreatDoor
open Go.RowKit
set_option maxRecDepth 100000
set_option maxHeartbeats 16000000
theorem zxX {x v:Int} {l:List Int} (h:v∈wO x l):v=x\/v∈l:=by
 induction l with
 |nil=>simp only [wO,List.mem_singleton] at h;exact .inl h
 |cons y l ih=>
 unfold wO at h;split at h
 ·rcases List.mem_cons.1 h with rfl|h
  ·exact .inl rfl
  exact .inr h
 rcases List.mem_cons.1 h with rfl|h
 ·exact .inr (List.mem_cons_self ..)
 exact(ih h).imp id (λh=>List.mem_cons_of_mem _ h)
theorem zoB {l:List zq} {v:Int} {i:Nat} (h:v∈xB l i):∃j,j<i/\(l.getD j default).var=v:=by
 induction i with
 |zero=>simp [xB] at h
 |succ i ih=>
 unfold xB at h;split at h
 ·rcases zxX h with rfl|h
  ·exact⟨i,by omega,rfl⟩
  obtain⟨j,b,e⟩:=ih h;exact⟨j,by omega,e⟩
 obtain⟨j,b,e⟩:=ih h;exact⟨j,by omega,e⟩
theorem zuK {l:List zq} {v b:Int} (h:v∈yX l b):∃j,j<l.length/\(l.getD j default).var=v:=by
 unfold yX at h;split at h
 ·exact zoB h
 split at h
 ·cases l with
  |nil=>cases h
  |cons x r=>
  simp only [List.mem_singleton] at h;exact⟨0,by simp,by rw [h];rfl⟩
 cases h
theorem zr3 {l:List zq} {v:Int} {i:Nat} (h:∃j,j<i/\(l.getD j default).var=v):∃n,(yY l v i).1=some ⟨v,n⟩:=by
 induction i with
 |zero=>obtain⟨j,r, -⟩:=h;omega
 |succ i ih=>
 unfold yY;by_cases hs:(yY l v i).1.isNone
 ·by_cases b:(l.getD i default).var=v
  ·rw [if_pos (by simp only [hs,Bool.true_and];exact decide_eq_true b)];exact⟨(l.getD i default).n,by rw [<-b]⟩
  obtain⟨j,r,e⟩:=h
  have g:j<i:=by
   rcases Nat.lt_or_ge j i with p|p
   ·exact p
   obtain rfl:j=i:=by omega
   exact absurd e b
  obtain⟨n,q⟩:=ih ⟨j,g,e⟩;rw [q] at hs;cases hs
 rw [if_neg (by simp only [Bool.and_eq_true];exact λh=>hs h.1)]
 have:∃y,(yY l v i).1=some y:=by
  cases h3:(yY l v i).1 with
  |none=>rw [h3] at hs;exact absurd rfl hs
  |some y=>exact⟨y,rfl⟩
 obtain⟨y,o⟩:=this
 have f:∀k y,(yY l v k).1=some y->y.var=v:=by
  intro k;induction k with
  |zero=>intro y h;cases h
  |succ k ihk=>
  intro y h;unfold yY at h;split at h
  ·rename_i h4
   simp only [Bool.and_eq_true,decide_eq_true_eq] at h4;cases h
   exact h4.2
  exact ihk y h
 have b:=f i y o;exact⟨y.n,by rw [o, <-b]⟩
theorem zcO {c:zG} {m:zC} {s:zo} (h:yJ c m s=true) {i:Nat} (r:i<s.threads.length) {v:Int} (p:v∈yX (s.threads.getD i default).buf m.model):
  0<=v/\v<c.vars/\∃n,takeB (s.threads.getD i default).buf v=(some ⟨v,n⟩,(takeB (s.threads.getD i default).buf v).2):=by
 obtain⟨j,g,e⟩:=zuK p;unfold yJ at h;simp only [Bool.and_eq_true] at h;have o:=h.2;rw [List.all_eq_true] at o;have f:=o i (List.mem_range.2 r);unfold vE at f;simp only [Bool.and_eq_true] at f;have k:=f.2;rw [List.all_eq_true] at k;have b:=k j (List.mem_range.2 g);unfold qF at b;simp only [Bool.and_eq_true,decide_eq_true_eq] at b;rw [e] at b;obtain⟨n,q⟩:=zr3 (l:=(s.threads.getD i default).buf) ⟨j,g,e⟩;exact⟨b.1.1.1.2,b.1.1.2,n,Prod.ext q rfl⟩
structure zmC where
 mem:List Int
 regs:List (List Int)
 deriving DecidableEq
instance:Inhabited zmC:=⟨⟨[], []⟩⟩
