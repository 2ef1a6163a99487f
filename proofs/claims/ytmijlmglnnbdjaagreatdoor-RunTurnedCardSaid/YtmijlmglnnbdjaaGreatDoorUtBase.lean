/- Steps. -/
import Derived.BigQuiet
import Derived.Deep.AppendLies
import Derived.Deep.CutBlock
import Derived.Deep.DeepCutAuto
import Derived.OpenShut
import Derived.ProofKit
import Derived.ShutString
import Derived.StillTailTactics
import Derived.WalkLawsBesides
import Derived.WalkSpells
import Derived.Test.YtmijlmglnnbdjaaGreatDoorTie
import Derived.Test.YtmijlmglnnbdjaaGreatDoorUtShort
set_option linter.all false
namespace Go.Proofs.YtmijlmglnnbdjaaGreatDoor
open Go.RowKit
set_option maxRecDepth 100000
set_option maxHeartbeats 16000000
structure Since (F:Nat->Prop) (w w':World):Prop where
 os:w'.os=w.os
 tape:w'.tape=w.tape
 output:w'.output=w.output
 size:w.heap.size<=w'.heap.size
 block:∀k,k<w.heap.size->¬F k->w'.heap[k]? =w.heap[k]?
theorem Since.refl (F:Nat->Prop) (w:World):Since F w w:=⟨rfl,rfl,rfl,Nat.le_refl _,λ_ _ _=>rfl⟩
theorem Since.trans {F G:Nat->Prop} {a b c:World} (h:Since F a b) (k:Since G b c) (j:∀i,G i->F i\/a.heap.size<=i):Since F a c:=
 ⟨k.os.trans h.os,k.tape.trans h.tape,k.output.trans h.output,Nat.le_trans h.size k.size,λi d f=>
  (k.block i (Nat.lt_of_lt_of_le d h.size) (λg=>(j i g).elim f (λh=>absurd d (Nat.not_lt.2 h)))).trans (h.block i d f)⟩
theorem Since.mono {F G:Nat->Prop} {w b:World} (h:Since F w b) (g:∀k,k<w.heap.size->F k->G k):Since G w b:=
 ⟨h.os,h.tape,h.output,h.size,λk c d=>h.block k c λf=>d (g k c f)⟩
theorem Since.below {F:Nat->Prop} {w b:World} (h:Since F w b) {B:Nat} (g:B<=w.heap.size) (f:∀k,F k->B<=k):Below B w b:=
 ⟨h.os,h.tape,h.output,h.size,λk c=>h.block k (Nat.lt_of_lt_of_le c g) λd=>absurd c (Nat.not_lt.2 (f k d))⟩
theorem Since.of_below {w b:World} {B:Nat} (h:Below B w b):Since (λk=>B<=k) w b:=
 ⟨h.os,h.tape,h.output,h.size,λk _ c=>h.block k (Nat.lt_of_not_le c)⟩
theorem Since.drew (F:Nat->Prop) {a w:World} (h:Since F a w):Since F a w.drew:=⟨h.os,h.tape,h.output,h.size,h.block⟩
theorem Since.drewN (F:Nat->Prop) {a w:World} (n:Nat) (h:Since F a w):Since F a (w.drewN n):=⟨h.os,h.tape,h.output,h.size,h.block⟩
theorem Since.alloc {F:Nat->Prop} {a w:World} (h:Since F a w) (o:Obj):Since F a (w.alloc o):=
 h.trans (G:=λ_=>False) ⟨rfl,rfl,rfl,by simp,λk b _=>Below.heap_alloc _ _ _ b⟩ (λ_ h=>h.elim)
theorem Since.setCell {F:Nat->Prop} {a w:World} (h:Since F a w) {p:Addr} (b:F p.block\/a.heap.size<=p.block) (u:Value):Since F a (w.setCell p u):=
 h.trans (G:=λk=>k=p.block) ⟨rfl,rfl,rfl,by simp [World.setCell],λk _ c=>Below.heap_setCell _ _ _ _ c⟩ (λ_ h=>h ▸ b)
theorem Since.grown {F:Nat->Prop} {a w d:World} {row:Option Nat} (h:Since F a w) (b:w.grownBy d row) (f:∀k,row=some k->F k\/a.heap.size<=k):Since F a d:=
 h.trans (G:=λk=>row=some k) ⟨b.os,b.tape,b.output,b.size,λk g c=>b.block k g λe=>c e.symm⟩ f
theorem Since.cell {F:Nat->Prop} {w b:World} (h:Since F w b) {p:Addr} (c:p.block<w.heap.size) (d:¬F p.block):b.cell? p=w.cell? p:=World.cell?_of_block (h.block p.block c d)
theorem Since.row {F:Nat->Prop} {w f:World} (h:Since F w f) {base:Nat} {e:TypeId} {size:Nat} {v:Value} {n:Nat} {xs:List Value} (i:w.ownsRow base e size v n xs) (l:∀k,v.ownBlock=some k->¬F k):f.ownsRow base e size v n xs:=by
 refine⟨i.1, ?_⟩
 rcases i.2 with j|⟨g,d,c,rfl,m,b,rest⟩
 ·exact .inl j
 exact .inr ⟨g,d,c,rfl,m,by rw [h.block g (Array.getElem?_eq_some_iff.1 b).1 (l g (by simp [Value.ownBlock]))];exact b,rest⟩
theorem ze {w:World} {b:Nat} {c:Array Value} {e:TypeId} {f:Nat × Nat} (h:w.heap[b]? =some (.cells c e f)) (j:Nat):w.cell? ⟨b,j,none⟩=c[j]? :=by simp [World.cell?,h]
theorem zH {w:World} {b:Nat} {c:Array Value} {e:TypeId} (h:w.heap[b]? =some (.cells c e (0,0))) (j:Nat):w.frozen? ⟨b,j,none⟩=false:=by simp [World.frozen?,h]
theorem zu {w:World} {b:Nat} {c:Array Value} {e:TypeId} {f:Nat × Nat} (h:w.heap[b]? =some (.cells c e f)) (j:Nat) (u:Value):(w.setCell ⟨b,j,none⟩ u).heap[b]? =some (.cells (c.setIfInBounds j u) e f):=by
 simp [World.setCell,Array.getElem?_modify,h]
theorem zA {w:World} {b:Nat} {o:Obj} (h:w.heap[b]? =some o):b<w.heap.size:=(Array.getElem?_eq_some_iff.1 h).1
theorem zi2 {a b:ByteArray} (h:a.toList=b.toList):a=b:=by
 rw [ByteArray.toList_eq,ByteArray.toList_eq] at h;exact ByteArray.ext (Array.toList_inj.1 h)
theorem zwN {a b:ByteArray} (h:a≠b):(a.toList==b.toList)=false:=by
 rw [beq_eq_false_iff_ne];exact λe=>h (zi2 e)
theorem gW {w:World} {B:Nat} {e:TypeId} {size:Nat} {v:Value} {n:Nat} {xs:List Value} (h:w.ownsRow B e size v n xs) (i:0<n):
  ∃g b,v= .slice (some ⟨g,0,none⟩) n b/\n<=b/\b<=maxLen:=by
 rcases h.2 with⟨_,rfl⟩|⟨g,b,f,rfl,_,_,d,c,_⟩
 ·omega
 exact⟨g,b,rfl,d,c⟩
theorem xS {w:World} {B:Nat} {e:TypeId} {size:Nat} {v:Value} {n:Nat} {xs:List Value} (h:w.ownsRow B e size v n xs):
  ∃a b,v= .slice a n b/\n<=b/\b<=maxLen:=by
 rcases h.2 with⟨rfl,rfl⟩|⟨g,b,f,rfl,_,_,d,c,_⟩
 ·exact⟨none,0,rfl,Nat.le_refl _,Nat.zero_le _⟩
 exact⟨_,b,rfl,d,c⟩
theorem zb5 {P:Program} {w:World} {base:Nat} {t p e:TypeId} {i:TypeInfo} {z:Value} {size bytes:Nat} (y:P.underlying t=some (.slice e)) (B:P.info? e=some i) (H:i.zero=some z)
  (k:i.size=size) (F:i.bytes=bytes) {v:Value} {n:Nat} {xs:List Value} (f:w.ownsRow base e size v n xs)
  {a:Addr} {m c:Nat} {news:List Value} (q:news.length=m*size) (b:∀j u,news[j]? =some u->w.cell? (a.add j)=some u) (S:∀u∈news,u.oneCell'=true)
  (G:n+m<=maxLen) (d:(n+m)*bytes<=140737488355328) {C:Value} {I:World}
  (h:(Builtin.append_ #[t,t] p #[v, .slice (some a) m c]).run P w= .ok C I):C.ownBlock=v.ownBlock\/C.ownBlock=some w.heap.size:=by
 subst k;subst F;have A:n+m<=9223372036854775807:=by simp only [maxLen] at G;omega
 rcases f.2 with⟨rfl,rfl⟩|⟨g,o,x,rfl,O,M,J,N,E,D⟩
 ·by_cases hm:m=0
  ·subst hm;have L:news= [] :=List.eq_nil_of_length_eq_zero (by simpa using q);subst L
   have:(Builtin.append_ #[t,t] p #[N7, .slice (some a) 0 c]).run P w= .ok (N7) w:=by
    simp [Builtin.append_,run_underlying y,sizeOf,typeInfo,B,Builtin.lenOf,Builtin.firstCells,loadCells,loadCellsFrom]
   rw [this] at h;cases h
   exact .inl rfl
  have:=run_append_nil (P:=P) w t p e i z y B H a m c news q b (by omega) (by omega) (by have R:=d;simp only [Nat.zero_add] at R;omega)
  rw [this] at h;cases h
  exact .inr rfl
 by_cases hroom:n+m<=o
 ·have r:n*i.size+news.length<=x.size:=by rw [q,E, <-Nat.add_mul];exact Nat.mul_le_mul_right _ hroom
  have:=run_append_room (P:=P) w t p e i y B g n o x M a m c news q b S hroom r
  rw [this] at h;cases h
  exact .inl rfl
 have l:∀j u,xs[j]? =some u->w.cell? ((⟨g,0,none⟩:Addr).add j)=some u:=f.cells (g:=g) rfl;have:=run_append_grow (P:=P) w t p e i z y B H ⟨g,0,none⟩ n o xs f.1 l a m c news q b (by omega) (by omega) (growslice_fits (by omega) d)
 rw [this] at h;cases h
 exact .inr rfl
theorem zO {P:Program} (w:World) {C:Array Oper} {rest:List Oper} {o:Oper} {a:Act} {Q:Exit->Act->World->Prop} (I:o.guard=none) (s x:Operand) (t:TypeId)
  (ho:o.op= .call { callee:= .builtin .append,args:= #[s,x],argTypes:= #[t,t] })
  (e:TypeId) (z:Value) (size bytes:Nat) (S:P.underlying t=some (.slice e)) (q:(P.info? e).map (λi=>(i.zero,i.size,i.bytes))=some (some z,size,bytes)) (F:z.cells.size=size) (G:0<size)
  (base:Nat) (v:Value) (n:Nat) (xs:List Value) (hs:a.eval s=v) (p:w.ownsRow base e size v n xs)
  (O:Addr) (m c:Nat) (news:List Value) (hx:a.eval x= .slice (some O) m c) (W:news.length=m*size) (l:∀j u,news[j]? =some u->w.cell? (O.add j)=some u) (K:∀u∈news,u.oneCell'=true)
  (E:n+m<=maxLen) (d:(n+m)*bytes<=140737488355328) (r:base<=w.heap.size)
  (h:∀A b B,B.ownsRow base e size (.slice A (n+m) b) (n+m) (xs++news)->b<=9223372036854775807->n+m<=b->Since (λk=>v.ownBlock=some k) w B->
   (∀k,(Value.slice A (n+m) b).ownBlock=some k->v.ownBlock=some k\/k=w.heap.size)->(A=none↔n+m=0/\v=N7)->
   wpList P C Q rest (a.put o.dst (.slice A (n+m) b)) B):wpList P C Q (o::rest) a w:=by
 obtain⟨i,Y,R,f,D⟩:=info_parts q;obtain⟨v',B,T,N,h3,Z⟩:=run_append_own (P:=P) w base t o.type e i z size bytes S Y R f D F G v n xs p O m c news W l K E d r;have y:=zb5 S Y R f D p W l K E d T;obtain⟨A,b,rfl,M,L⟩:=xS N;refine wpList_plain I λ_ hK=> ?_
 unfold Oper.wp execOp;simp only [ho,resolve,invoke,builtin,Sem.run_bind,Sem.run_pure,Result.andThen_ok,List.map_toArray,List.map_cons,List.map_nil,hs,hx,T];refine hK _ _ (h A b B N (by unfold maxLen at L;omega) M ((Since.refl _ _).grown h3 (λk H=> .inl H)) (λk H=> ?_) ?_)
 ·rw [H] at y;rcases y with y|y
  ·exact .inl y.symm
  exact .inr (by simpa using y)
 constructor
 ·rintro rfl;rcases N.2 with⟨J,U⟩|⟨g,cap,cur,J,_⟩
  ·exact⟨U,(Z.1 J).1⟩
  cases J
 rintro⟨U,hv⟩
 exact(Value.slice.inj (Z.2 ⟨hv,by omega⟩)).1
theorem xD {w b:World} {B:Nat} {e:TypeId} {size:Nat} {v:Value} {n:Nat} {xs:List Value} (h:w.ownsRow B e size v n xs) (d:Below w.heap.size w b):b.ownsRow B e size v n xs:=
 (Since.of_below d).row h (λk c=>by have:=(h.lt k c).2;omega)
theorem qX {w:World} {B C:Nat} {e:TypeId} {size:Nat} {v:Value} {n:Nat} {xs:List Value} (h:w.ownsRow B e size v n xs) (i:C<=B):w.ownsRow C e size v n xs:=by
 refine⟨h.1, ?_⟩
 rcases h.2 with d|⟨g,c,b,rfl,f,rest⟩
 ·exact .inl d
 exact .inr ⟨g,c,b,rfl,Nat.le_trans i f,rest⟩
theorem yw {B:Nat} {a w:World} (h:Below B a w) (n:Nat):Below B a (w.drewN n):=h.trans ⟨rfl,rfl,rfl,Nat.le_refl _,λ_ _=>rfl⟩
theorem bA {w:World} {B:Nat} {e j:TypeId} {size:Nat} {v:Value} {n:Nat} {xs:List Value} (h:w.ownsRow B e size v n xs) {k:Nat} (d:v.ownBlock=some k) {c:Array Value} {f:Nat × Nat} (i:w.heap[k]? =some (.cells c j f)) (b:e≠j):False:=by
 rcases h.2 with⟨rfl,_⟩|⟨g,o,m,rfl,_,l,_⟩
 ·simp [Value.ownBlock] at d
 simp [Value.ownBlock] at d;subst d;rw [l] at i;cases i
 exact b rfl
theorem xW (F:Nat->Prop) {w b:World} (h:Below w.heap.size w b):Since F w b:=⟨h.os,h.tape,h.output,h.size,λk c _=>h.block k c⟩
end Go.Proofs.YtmijlmglnnbdjaaGreatDoor
namespace Go.Proofs.YtmijlmglnnbdjaaGreatDoor
open Go.RowKit Go.ChangeShapes Go.WideShapes Go.ChangeAt
set_option maxRecDepth 100000
set_option maxHeartbeats 16000000
def zEs (w:World) (sv:Value) (l:List ByteArray):Prop:=
 ∃a cap,sv= .slice a l.length cap/\l.length<=9223372036854775807/\(∀s∈l,s.size<=maxLen)/\
  ∀j,j<l.length->∃b off,a=some ⟨b,off,none⟩/\b<w.heap.size/\w.cell? ⟨b,off+j,none⟩=some (.string (l.getD j ByteArray.empty))
def vL (w:World) (k:IntKind) (sv:Value) (l:List Int):Prop:=
 ∃a cap,sv= .slice a l.length cap/\l.length<=9223372036854775807/\(∀n∈l,(Lit.int k n).wf=true)/\
  ∀j,j<l.length->∃b off,a=some ⟨b,off,none⟩/\b<w.heap.size/\w.cell? ⟨b,off+j,none⟩=some (.int k (l.getD j 0))
theorem vL.below {w f:World} {k:IntKind} {sv:Value} {l:List Int} (h:vL w k sv l) (g:Below w.heap.size w f):vL f k sv l:=by
 obtain⟨a,d,x,u,t,r⟩:=h;refine⟨a,d,x,u,t,λj m=> ?_⟩
 obtain⟨b,c,q,i,o⟩:=r j m;exact⟨b,c,q,Nat.lt_of_lt_of_le i g.size,(g.cell (p:=⟨b,c+j,none⟩) i).trans o⟩
theorem zrV {w:World} {a:Addr} {v:Value} (h:w.cell? (a.add 0)=some v):∃b c,a=⟨b,c,none⟩:=by
 obtain⟨b,c,f⟩:=a;have d:f=none:=by simpa [Addr.add] using World.cell?_spot h
 subst d;exact⟨b,c,rfl⟩
theorem zdY {H:Type} {enc:TypeId × Value->H} {P:Program} {w:World} {t e:TypeId} {k:IntKind} {a:Option Addr} {f o:Nat} {d:DataW H} {p:List MemPlace} (D:P.underlying t=some (.slice e)) (I:P.underlying e=some (.int k)) (J:P.cellsOf e=1)
  (h:DataW.Trod enc P w 0 (λ_=>true) true t (.slice a f o) d p):∃l,vL w k (.slice a f o) l:=by
 obtain⟨B,G⟩:=h;rcases open_ints D I J G with⟨i,_⟩|⟨x,l,c,r,i,_,L,F,C,_,m,z⟩
 ·simp [Value.cells] at i;obtain⟨rfl,rfl,rfl⟩:=i;exact⟨[],none,0,rfl,by simp,by simp,by simp⟩
 simp [Value.cells] at i;obtain⟨rfl,rfl,rfl⟩:=i;have y:r.length=o:=by simpa using C
 have g:(r.take f).length=f:=by rw [List.length_take,y];omega
 refine⟨r.take f,some x,o,by rw [g],by rw [g];unfold maxLen at F;omega,λs E=>z s (List.mem_of_mem_take E), ?_⟩
 intro j A;rw [g] at A;obtain⟨b,u,rfl⟩:=zrV (m 0 (by omega));have q:=m j (by omega);rw [add_plain] at q;refine⟨b,u,rfl,World.block_lt_of_cell? w _ q, ?_⟩
 rw [q];simp [List.getD_eq_getElem?_getD,A]
end Go.Proofs.YtmijlmglnnbdjaaGreatDoor
namespace Go.Proofs.YtmijlmglnnbdjaaGreatDoor
open Go.RowKit
set_option maxRecDepth 100000
set_option maxHeartbeats 16000000
theorem z9R:ownKnob Tryz.prog.godebug=none:=by kernel_rfl
theorem zhP:laidOutB Tryz.prog=true:=by kernel_rfl
def zBC:DataW Unit->Value
 | .lit (.int k n)=> .int k n
 |_=>undef
def cellsD:DataW Unit->Array Value
 | .agg l=>(l.map zBC).toArray
 |_=> #[]
def zy6 (d:DataW Unit):Obj->Obj
 | .cells _ t f=> .cells (cellsD d) t f
 |o=>o
noncomputable def zi6 (os:Os):World:=
 let w0:=World.holding Tryz.prog os ⟨#[], #[], []⟩
 { w0 with heap:=((w0.heap.modify 0 (zy6 Rows.laid_internal_strconv_uint64pow10)).modify 1 (zy6 Rows.laid_math_bits_deBruijn32tab)).modify 2 (zy6 Rows.laid_math_bits_deBruijn64tab) }
theorem zs8 (os:Os) (b:Array Value):laidMet Tryz.prog [("math/bits.deBruijn32tab",Rows.laid_math_bits_deBruijn32tab),("math/bits.deBruijn64tab",Rows.laid_math_bits_deBruijn64tab),("internal/strconv.uint64pow10",Rows.laid_internal_strconv_uint64pow10)] ((zi6 os).forCall (λ_ _=>0) ⟨#[],b, []⟩).memory:=
 laidMet_of_run' 8 (by kernel_rfl) (by kernel_rfl)
theorem zqc {P:Program} {b:Func} (h:(b.params.toList.all λt=> !P.wantsStandIn t)=true) (j:Nat) (t:TypeId) (c:b.params[j]? =some t):P.wantsStandIn t=false:=by
 have d:=List.all_eq_true.1 h t (List.mem_of_getElem? (by rw [Array.getElem?_toList];exact c));simpa using d
theorem zy {a b c:World} (h:Below a.heap.size a b) (k:Below b.heap.size b c):Below a.heap.size a c:=h.trans (k.mono h.size)
theorem zl {w b:World} (h:Below w.heap.size w b):∀a v,w.cell? a=some v->b.cell? a=some v:=λ_ _ c=>(h.cell (World.block_lt_of_cell? w _ c)).trans c
def zh {α:Type} [Inhabited α] (R:World->α->List Value->Prop) (size:Nat) (w:World) (sv:Value) (l:List α):Prop:=
 ∃a cap,sv= .slice a l.length cap/\(l.length<=cap/\cap<=9223372036854775807)/\∀j,j<l.length->∃b off cs,a=some ⟨b,off,none⟩/\b<w.heap.size/\
  cs.length=size/\(∀i,i<size->w.cell? ⟨b,off+j*size+i,none⟩=cs[i]?)/\R w (l.getD j default) cs
def wH {α:Type} (R:World->α->List Value->Prop):Prop:=∀w w' x cs,R w x cs->Below w.heap.size w w'->R w' x cs
theorem zh.below {α:Type} [Inhabited α] {R:World->α->List Value->Prop} (q:wH R) {size:Nat} {w g:World} {sv:Value} {l:List α} (h:zh R size w sv l) (d:Below w.heap.size w g):zh R size g sv l:=by
 obtain⟨a,f,A,z,y⟩:=h;refine⟨a,f,A,z,λj m=> ?_⟩
 obtain⟨b,c,cs,x,k,u,t,r⟩:=y j m;exact⟨b,c,cs,x,Nat.lt_of_lt_of_le k d.size,u,λi o=>(d.cell (p:=⟨b,c+j*size+i,none⟩) k).trans (t i o),q _ _ _ _ r d⟩
theorem zh.slice {α:Type} [Inhabited α] {R:World->α->List Value->Prop} {size:Nat} {w:World} {sv:Value} {l:List α} (h:zh R size w sv l):∃a b,sv= .slice a l.length b/\l.length<=9223372036854775807:=by
 obtain⟨a,b,d,c, -⟩:=h;exact⟨a,b,d,Nat.le_trans c.1 c.2⟩
theorem zh.room {α:Type} [Inhabited α] {R:World->α->List Value->Prop} {size:Nat} {w:World} {a:Option Addr} {n b:Nat} {l:List α} (h:zh R size w (.slice a n b) l):l.length<=b/\b<=9223372036854775807:=by
 obtain⟨g,c,d,f, -⟩:=h;cases d;exact f
theorem zh.part {α:Type} [Inhabited α] {R:World->α->List Value->Prop} {size:Nat} {w:World} {a:Option Addr} {n d:Nat} {l:List α} (h:zh R size w (.slice a n d) l) (j:Nat) (g:j<l.length):
  ∃b c cs,a=some ⟨b,c,none⟩/\b<w.heap.size/\cs.length=size/\(∀i,i<size->w.cell? ⟨b,c+j*size+i,none⟩=cs[i]?)/\R w (l.getD j default) cs:=by
 obtain⟨o,f,k, -,m⟩:=h;cases k
 exact m j g
theorem zh.jB {α:Type} [Inhabited α] {R:World->α->List Value->Prop} {size:Nat} {w:World} {B:Nat} {e:TypeId} {sv:Value} {l:List α} {xs:List Value} (h:w.ownsRow B e size sv l.length xs)
  (hx:∀j,j<l.length->∃cs:List Value,cs.length=size/\(∀i,i<size->xs[j*size+i]? =cs[i]?)/\R w (l.getD j default) cs):zh R size w sv l:=by
 obtain⟨a,b,rfl,o,m⟩:=xS h;unfold maxLen at m;refine⟨a,b,rfl,⟨o,by omega⟩,λj d=> ?_⟩
 obtain⟨g,c,k, -, -⟩:=gW h (by omega);cases k
 obtain⟨cs,r,q,p⟩:=hx j d;refine⟨g,0,cs,rfl,(h.lt g rfl).2,r,λi f=> ?_,p⟩
 rw [Nat.zero_add,h.cellAt _ (by have:=Nat.mul_le_mul_right size (show j+1<=l.length by omega);rw [Nat.add_mul] at this;omega)]
 exact q i f
def zx {α:Type} (f:α->List Value) (l:List α):List Value:=l.flatMap f
theorem wK {α:Type} {f:α->List Value} {size:Nat} (b:∀x,(f x).length=size) (l:List α):(zx f l).length=l.length*size:=by
 induction l with
 |nil=>simp [zx]
 |cons p l ih=>simp only [zx,List.flatMap_cons,List.length_append,List.length_cons] at ih ⊢;rw [ih,b,Nat.add_mul];omega
theorem kS {α:Type} (f:α->List Value) (l r:List α):zx f (l++r)=zx f l++zx f r:=by simp [zx]
theorem zaU {α:Type} [Inhabited α] {f:α->List Value} {size:Nat} (c:∀x,(f x).length=size):∀ {l:List α} {j i:Nat},j<l.length->i<size->(zx f l)[j*size+i]? =(f (l.getD j default))[i]? :=by
 intro l;induction l with
 |nil=>intro j i b;simp at b
 |cons p l ih=>
 intro j i b d;simp only [zx,List.flatMap_cons] at ih ⊢;cases j with
 |zero=>rw [Nat.zero_mul,Nat.zero_add,List.getElem?_append_left (by rw [c];exact d)];rfl
 |succ j=>
 rw [List.getElem?_append_right (by rw [c,Nat.add_mul];omega),c,show(j+1)*size+i - size=j*size+i by rw [Nat.add_mul];omega]
 rw [ih (by simpa using b) d];rfl
structure zq where
 var:Int
 n:Int
 deriving DecidableEq
instance:Inhabited zq:=⟨⟨0,0⟩⟩
def zq.cells (e:zq):List Value:= [I4 e.var,I4 e.n]
def zq.val (e:zq):Value:= .agg #[I4 e.var,I4 e.n]
def zaK (_:World) (e:zq) (cs:List Value):Prop:=cs=e.cells
theorem zaK.stays:wH zaK:=λ_ _ _ _ h _=>h
abbrev zX:=zh zaK 2
theorem zX.below {w b:World} {sv:Value} {l:List zq} (h:zX w sv l) (c:Below w.heap.size w b):zX b sv l:=zh.below zaK.stays h c
theorem zX.part {w:World} {a:Option Addr} {n f:Nat} {l:List zq} (h:zX w (.slice a n f) l) (j:Nat) (i:j<l.length):∃b c,a=some ⟨b,c,none⟩/\b<w.heap.size/\
  w.cell? ⟨b,c+j*2,none⟩=some (I4 (l.getD j default).var)/\w.cell? ⟨b,c+j*2+1,none⟩=some (I4 (l.getD j default).n):=by
 obtain⟨b,c,cs,m,k,o,g,d⟩:=zh.part h j i;have d:cs=zq.cells _:=d;subst d;exact⟨b,c,m,k,g 0 (by omega),g 1 (by omega)⟩
structure zw where
 kind:Int
 thread:Int
 var:Int
 deriving DecidableEq
instance:Inhabited zw:=⟨⟨0,0,0⟩⟩
def zw.cells (e:zw):List Value:= [I4 e.kind,I4 e.thread,I4 e.var]
def zdC (_:World) (e:zw) (cs:List Value):Prop:=cs=e.cells
theorem zdC.stays:wH zdC:=λ_ _ _ _ h _=>h
abbrev qB:=zh zdC 3
theorem qB.part {w:World} {a:Option Addr} {n g:Nat} {l:List zw} (h:qB w (.slice a n g) l) (j:Nat) (i:j<l.length):∃b c,a=some ⟨b,c,none⟩/\b<w.heap.size/\
  w.cell? ⟨b,c+j*3,none⟩=some (I4 (l.getD j default).kind)/\w.cell? ⟨b,c+j*3+1,none⟩=some (I4 (l.getD j default).thread)/\w.cell? ⟨b,c+j*3+2,none⟩=some (I4 (l.getD j default).var):=by
 obtain⟨b,c,cs,m,k,o,f,d⟩:=zh.part h j i;have d:cs=zw.cells _:=d;subst d;exact⟨b,c,m,k,f 0 (by omega),f 1 (by omega),f 2 (by omega)⟩
def uV (_:World) (x:Int) (cs:List Value):Prop:=cs= [I4 x]
theorem uV.stays:wH uV:=λ_ _ _ _ h _=>h
abbrev qx:=zh uV 1
theorem qx.part {w:World} {a:Option Addr} {n f:Nat} {l:List Int} (h:qx w (.slice a n f) l) (j:Nat) (g:j<l.length):∃b c,a=some ⟨b,c,none⟩/\b<w.heap.size/\w.cell? ⟨b,c+j,none⟩=some (I4 (l.getD j 0)):=by
 obtain⟨b,c,cs,m,k,o,i,d⟩:=zh.part h j g;have d:cs= [I4 (l.getD j default)] :=d;subst d;have:=i 0 (by omega)
 rw [Nat.mul_one,Nat.add_zero] at this;exact⟨b,c,m,k,this⟩
structure zD where
 pc:Int
 regs:List Int
 buf:List zq
 deriving DecidableEq
instance:Inhabited zD:=⟨⟨0, [0,0,0,0], []⟩⟩
def zD.cells (t:zD) (bv:Value):List Value:= [I4 t.pc,I4 (t.regs.getD 0 0),I4 (t.regs.getD 1 0),I4 (t.regs.getD 2 0),I4 (t.regs.getD 3 0),bv]
def uJ (w:World) (t:zD) (cs:List Value):Prop:=t.regs.length=4/\∃bv,cs=t.cells bv/\zX w bv t.buf
theorem uJ.stays:wH uJ:=λ_ _ _ _ ⟨b,bv,h,h2⟩ hb=>⟨b,bv,h,zX.below h2 hb⟩
abbrev qR:=zh uJ 6
theorem qR.part {w:World} {a:Option Addr} {n i:Nat} {l:List zD} (h:qR w (.slice a n i) l) (j:Nat) (m:j<l.length):∃b c g f,a=some ⟨b,c,none⟩/\b<w.heap.size/\(l.getD j default).regs.length=4/\
  w.cell? ⟨b,c+j*6,none⟩=some (I4 (l.getD j default).pc)/\w.cell? ⟨b,c+j*6+1,none⟩=some (I4 ((l.getD j default).regs.getD 0 0))/\w.cell? ⟨b,c+j*6+2,none⟩=some (I4 ((l.getD j default).regs.getD 1 0))/\w.cell? ⟨b,c+j*6+3,none⟩=some (I4 ((l.getD j default).regs.getD 2 0))/\w.cell? ⟨b,c+j*6+4,none⟩=some (I4 ((l.getD j default).regs.getD 3 0))/\
  w.cell? ⟨b,c+j*6+5,none⟩=some (.slice g (l.getD j default).buf.length f)/\zX w (.slice g (l.getD j default).buf.length f) (l.getD j default).buf:=by
 obtain⟨b,c,cs,q,p,t,d,r,u,o,k⟩:=zh.part h j m;subst o;obtain⟨g,f,rfl, -⟩:=zh.slice k;exact⟨b,c,g,f,q,p,r,d 0 (by omega),d 1 (by omega),d 2 (by omega),d 3 (by omega),d 4 (by omega),d 5 (by omega),k⟩
structure zo where
 threads:List zD
 mem:List Int
 bad:Bool
 deriving DecidableEq
instance:Inhabited zo:=⟨⟨[], [],false⟩⟩
def yB (s:zo) (tv mv:Value):Value:= .agg #[tv,mv, .bool s.bad]
structure yD (w:World) (s:zo) (tv mv:Value):Prop where
 threads:qR w tv s.threads
 mem:qx w mv s.mem
theorem yD.below {w b:World} {s:zo} {tv mv:Value} (h:yD w s tv mv) (c:Below w.heap.size w b):yD b s tv mv:=⟨zh.below uJ.stays h.threads c,zh.below uV.stays h.mem c⟩
def qY (w:World) (s:zo) (cs:List Value):Prop:=∃tv mv,cs= [tv,mv, .bool s.bad] /\yD w s tv mv
theorem qY.stays:wH qY:=λ_ _ _ _ ⟨tv,mv,h,h2⟩ hb=>⟨tv,mv,h,h2.below hb⟩
abbrev jY:=zh qY 3
theorem jY.part {w:World} {a:Option Addr} {n f:Nat} {l:List zo} (h:jY w (.slice a n f) l) (j:Nat) (g:j<l.length):∃b c tv mv,a=some ⟨b,c,none⟩/\b<w.heap.size/\
  w.cell? ⟨b,c+j*3,none⟩=some tv/\w.cell? ⟨b,c+j*3+1,none⟩=some mv/\w.cell? ⟨b,c+j*3+2,none⟩=some (.bool (l.getD j default).bad)/\yD w (l.getD j default) tv mv:=by
 obtain⟨b,c,cs,o,m,p,d,tv,mv,k,i⟩:=zh.part h j g;subst k;exact⟨b,c,tv,mv,o,m,d 0 (by omega),d 1 (by omega),d 2 (by omega),i⟩
inductive zR where
 |mk (kind n op:Int) (kids:List zR)
def zR.kind:zR->Int| .mk k _ _ _=>k
def zR.n:zR->Int| .mk _ n _ _=>n
def zR.op:zR->Int| .mk _ _ o _=>o
def zR.kids:zR->List zR| .mk _ _ _ l=>l
instance:Inhabited zR:=⟨.mk 0 0 0 []⟩
def zR.cells (x:zR) (kv:Value):List Value:= [I4 x.kind,I4 x.n, .int .u8 x.op,kv]
def qD (x:zR) (kv:Value):Value:= .agg #[I4 x.kind,I4 x.n, .int .u8 x.op,kv]
def zJ:Nat->World->zR->Value->Prop
 |0,_,_,_=>False
 |d+1,w,x,kv=>zh (λw y cs=>∃kv',cs=y.cells kv'/\zJ d w y kv') 4 w kv x.kids
theorem zJ.below {d:Nat} {w b:World} {x:zR} {kv:Value} (h:zJ d w x kv) (f:Below w.heap.size w b):zJ d b x kv:=by
 induction d generalizing w b x kv with
 |zero=>exact h.elim
 |succ d ih=>exact zh.below (λ_ _ _ _ ⟨c,e,h'⟩ hb'=>⟨c,e,ih h' hb'⟩) h f
theorem zJ.slice {d:Nat} {w:World} {x:zR} {kv:Value} (h:zJ d w x kv):∃a b,kv= .slice a x.kids.length b/\x.kids.length<=9223372036854775807:=by
 cases d with
 |zero=>exact h.elim
 |succ d=>exact zh.slice h
theorem zJ.part {d:Nat} {w:World} {x:zR} {a:Option Addr} {n g:Nat} (h:zJ (d+1) w x (.slice a n g)) (j:Nat) (k:j<x.kids.length):∃b c ka kc,a=some ⟨b,c,none⟩/\b<w.heap.size/\
  w.cell? ⟨b,c+j*4,none⟩=some (I4 (x.kids.getD j default).kind)/\w.cell? ⟨b,c+j*4+1,none⟩=some (I4 (x.kids.getD j default).n)/\w.cell? ⟨b,c+j*4+2,none⟩=some (.int .u8 (x.kids.getD j default).op)/\w.cell? ⟨b,c+j*4+3,none⟩=some (.slice ka (x.kids.getD j default).kids.length kc)/\
  zJ d w (x.kids.getD j default) (.slice ka (x.kids.getD j default).kids.length kc):=by
 obtain⟨b,c,cs,o,m,p,f,kv,l,i⟩:=zh.part h j k;subst l;obtain⟨ka,kc,rfl, -⟩:=i.slice;exact⟨b,c,ka,kc,o,m,f 0 (by omega),f 1 (by omega),f 2 (by omega),f 3 (by omega),i⟩
structure yg where
 op:Int
 reg:Int
 var:Int
 a:zR
 b:zR
 dest:Int
instance:Inhabited yg:=⟨⟨0,0,0,default,default,0⟩⟩
def yg.cells (x:yg) (ka kb:Value):List Value:= [I4 x.op,I4 x.reg,I4 x.var,I4 x.a.kind,I4 x.a.n, .int .u8 x.a.op,ka,I4 x.b.kind,I4 x.b.n, .int .u8 x.b.op,kb,I4 x.dest]
def vY (d:Nat) (w:World) (x:yg) (cs:List Value):Prop:=∃ka kb,cs=x.cells ka kb/\zJ d w x.a ka/\zJ d w x.b kb
theorem vY.stays (d:Nat):wH (vY d):=λ_ _ _ _ ⟨ka,kb,h,h1,h2⟩ hb=>⟨ka,kb,h,h1.below hb,h2.below hb⟩
abbrev gX (d:Nat):=zh (vY d) 12
theorem gX.part {d:Nat} {w:World} {a:Option Addr} {n o:Nat} {l:List yg} (h:gX d w (.slice a n o) l) (j:Nat) (r:j<l.length):∃b c m k i g,a=some ⟨b,c,none⟩/\b<w.heap.size/\
  (w.cell? ⟨b,c+j*12,none⟩=some (I4 (l.getD j default).op)/\w.cell? ⟨b,c+j*12+1,none⟩=some (I4 (l.getD j default).reg)/\w.cell? ⟨b,c+j*12+2,none⟩=some (I4 (l.getD j default).var))/\
  (w.cell? ⟨b,c+j*12+3,none⟩=some (I4 (l.getD j default).a.kind)/\w.cell? ⟨b,c+j*12+4,none⟩=some (I4 (l.getD j default).a.n)/\w.cell? ⟨b,c+j*12+5,none⟩=some (.int .u8 (l.getD j default).a.op)/\w.cell? ⟨b,c+j*12+6,none⟩=some (.slice m (l.getD j default).a.kids.length k))/\
  (w.cell? ⟨b,c+j*12+7,none⟩=some (I4 (l.getD j default).b.kind)/\w.cell? ⟨b,c+j*12+8,none⟩=some (I4 (l.getD j default).b.n)/\w.cell? ⟨b,c+j*12+9,none⟩=some (.int .u8 (l.getD j default).b.op)/\w.cell? ⟨b,c+j*12+10,none⟩=some (.slice i (l.getD j default).b.kids.length g))/\
  w.cell? ⟨b,c+j*12+11,none⟩=some (I4 (l.getD j default).dest)/\
  zJ d w (l.getD j default).a (.slice m (l.getD j default).a.kids.length k)/\zJ d w (l.getD j default).b (.slice i (l.getD j default).b.kids.length g):=by
 obtain⟨b,c,cs,x,u,z,f,ka,y,t,q,p⟩:=zh.part h j r;subst t;obtain⟨m,k,rfl, -⟩:=q.slice;obtain⟨i,g,rfl, -⟩:=p.slice;exact⟨b,c,m,k,i,g,x,u,⟨f 0 (by omega),f 1 (by omega),f 2 (by omega)⟩,⟨f 3 (by omega),f 4 (by omega),f 5 (by omega),f 6 (by omega)⟩,⟨f 7 (by omega),f 8 (by omega),f 9 (by omega),f 10 (by omega)⟩,f 11 (by omega),q,p⟩
def xV (d:Nat) (w:World) (l:List yg) (cs:List Value):Prop:=∃v,cs= [v] /\gX d w v l
theorem xV.stays (d:Nat):wH (xV d):=λ_ _ _ _ ⟨v,h,h1⟩ hb=>⟨v,h,zh.below (vY.stays d) h1 hb⟩
abbrev yP (d:Nat):=zh (xV d) 1
theorem yP.part {d:Nat} {w:World} {a:Option Addr} {n f:Nat} {l:List (List yg)} (h:yP d w (.slice a n f) l) (j:Nat) (i:j<l.length):∃b c ka kc,a=some ⟨b,c,none⟩/\b<w.heap.size/\w.cell? ⟨b,c+j,none⟩=some (.slice ka (l.getD j []).length kc)/\gX d w (.slice ka (l.getD j []).length kc) (l.getD j []):=by
 obtain⟨b,c,cs,p,o,q,m,v,k,g⟩:=zh.part h j i;subst k;obtain⟨ka,kc,rfl, -⟩:=zh.slice g;have:=m 0 (by omega)
 rw [Nat.mul_one,Nat.add_zero] at this;exact⟨b,c,ka,kc,p,o,this,g⟩
structure zG where
 vars:Int
 domain:Int
 threads:List (List yg)
def yj (c:zG) (tv:Value):Value:= .agg #[I4 c.vars,I4 c.domain,tv]
structure zC where
 model:Int
 bound:Int
 deriving DecidableEq
def yE (m:zC):Value:= .agg #[I4 m.model,I4 m.bound]
end Go.Proofs.YtmijlmglnnbdjaaGreatDoor
namespace Go.Proofs.YtmijlmglnnbdjaaGreatDoor
open Go.RowKit
set_option maxRecDepth 100000
set_option maxHeartbeats 16000000
theorem zY {P:Program} (w:World) {A:Array Oper} {o:Oper} {a:Act} {K:Act->World->Prop} {Q:Exit->Act->World->Prop} {E:Prop} (W:Region.wanted o (yielded A a.tmps)=true) (s x:Operand) (t:TypeId)
  (Z:o.op= .call { callee:= .builtin .append,args:= #[s,x],argTypes:= #[t,t] })
  (e:TypeId) (z:Value) (size bytes:Nat) (N:P.underlying t=some (.slice e)) (q:(P.info? e).map (λi=>(i.zero,i.size,i.bytes))=some (some z,size,bytes)) (F:z.cells.size=size) (G:0<size)
  (base:Nat) (v:Value) (n:Nat) (xs:List Value) (Y:a.eval s=v) (p:w.ownsRow base e size v n xs)
  (L:Addr) (m c:Nat) (news:List Value) (hx:a.eval x= .slice (some L) m c) (R:news.length=m*size) (l:∀j u,news[j]? =some u->w.cell? (L.add j)=some u) (U:∀u∈news,u.oneCell'=true)
  (C:n+m<=maxLen) (d:(n+m)*bytes<=140737488355328) (r:base<=w.heap.size)
  (h:∀D b y,y.ownsRow base e size (.slice D (n+m) b) (n+m) (xs++news)->b<=9223372036854775807->n+m<=b->Since (λk=>v.ownBlock=some k) w y->
   (∀k,(Value.slice D (n+m) b).ownBlock=some k->v.ownBlock=some k\/k=w.heap.size)->
   K (a.put o.dst (.slice D (n+m) b)) y):if Region.wanted o (yielded A a.tmps)=true then Oper.wp P o a w K Q else E:=by
 rw [if_pos W];obtain⟨i,S,M,g,B⟩:=info_parts q;obtain⟨v',y,O,T,h3,h4⟩:=run_append_own (P:=P) w base t o.type e i z size bytes N S M g B F G v n xs p L m c news R l U C d r;have f:=zb5 N S M g B p R l U C d O;obtain⟨D,b,rfl,J,I⟩:=xS T;unfold Oper.wp execOp;simp only [Z,resolve,invoke,builtin,Sem.run_bind,Sem.run_pure,Result.andThen_ok,List.map_toArray,List.map_cons,List.map_nil,Y,hx,O];refine h D b y T (by unfold maxLen at I;omega) J ((Since.refl _ _).grown h3 (λk H=> .inl H)) (λk H=> ?_)
 rw [H] at f;rcases f with f|f
 ·exact .inl f.symm
 exact .inr (by simpa using f)
theorem zdW {P:Program} (w:World) (t b e:TypeId) (i:TypeInfo) (d:P.underlying t=some (.slice e)) (f:P.info? e=some i) (a:Option Addr) (c:Nat):
  (Builtin.append_ #[t,t] b #[N7, .slice a 0 c]).run P w= .ok (N7) w:=by
 cases a<;>simp [Builtin.append_,run_underlying d,sizeOf,typeInfo,f,Builtin.lenOf,Builtin.firstCells,loadCells,loadCellsFrom]
theorem zg9 {P:Program} (w:World) {b:Array Oper} {rest:List Oper} {o:Oper} {a:Act} {Q:Exit->Act->World->Prop} (d:o.guard=none) (s x:Operand) (t:TypeId)
  (k:o.op= .call { callee:= .builtin .append,args:= #[s,x],argTypes:= #[t,t] }) (e:TypeId) (i:TypeInfo) (g:P.underlying t=some (.slice e)) (l:P.info? e=some i)
  (j:a.eval s=N7) (f:Option Addr) (c:Nat) (hx:a.eval x= .slice f 0 c) (h:wpList P b Q rest (a.put o.dst (N7)) w):wpList P b Q (o::rest) a w:=by
 refine wpList_plain d λ_ hK=> ?_
 unfold Oper.wp execOp;simp only [k,resolve,invoke,builtin,Sem.run_bind,Sem.run_pure,Result.andThen_ok,List.map_toArray,List.map_cons,List.map_nil,j,hx,zdW w t o.type e i g l f c];exact hK _ _ h
theorem kM {P:Program} (w:World) {b:Array Oper} {o:Oper} {a:Act} {K:Act->World->Prop} {Q:Exit->Act->World->Prop} {E:Prop} (f:Region.wanted o (yielded b a.tmps)=true) (s x:Operand) (t:TypeId)
  (k:o.op= .call { callee:= .builtin .append,args:= #[s,x],argTypes:= #[t,t] }) (e:TypeId) (i:TypeInfo) (g:P.underlying t=some (.slice e)) (l:P.info? e=some i)
  (j:a.eval s=N7) (d:Option Addr) (c:Nat) (hx:a.eval x= .slice d 0 c) (h:K (a.put o.dst (N7)) w):if Region.wanted o (yielded b a.tmps)=true then Oper.wp P o a w K Q else E:=by
 rw [if_pos f];unfold Oper.wp execOp;simp only [k,resolve,invoke,builtin,Sem.run_bind,Sem.run_pure,Result.andThen_ok,List.map_toArray,List.map_cons,List.map_nil,j,hx,zdW w t o.type e i g l d c];exact h
theorem zh.news {α:Type} [Inhabited α] {R:World->α->List Value->Prop} {size:Nat} {f:α->List Value} (p:0<size) (k:∀x,(f x).length=size) (z:∀w x cs,R w x cs->cs=f x) {w:World} {b o n c:Nat} {l:List α} (h:zh R size w (.slice (some ⟨b,o,none⟩) n c) l):
  ∀j u,(zx f l)[j]? =some u->w.cell? ((⟨b,o,none⟩:Addr).add j)=some u:=by
 intro j u d
 have t:j<l.length*size:=by
  rcases Nat.lt_or_ge j (l.length*size) with e|e
  ·exact e
  rw [List.getElem?_eq_none (by rw [wK k];exact e)] at d;cases d
 obtain⟨q,r,i,g,rfl⟩:∃q r,q<l.length/\r<size/\j=q*size+r:=
  ⟨j / size,j % size,Nat.div_lt_of_lt_mul (by rw [Nat.mul_comm];exact t),Nat.mod_lt _ p,by rw [Nat.mul_comm];exact(Nat.div_add_mod j size).symm⟩
 rw [zaU k i g] at d;obtain⟨D,C,cs,y, -, -,B,A⟩:=h.part q i;cases y
 have m:=B r g;rw [z _ _ _ A,d] at m
 rw [show(⟨b,o,none⟩:Addr).add (q*size+r)=⟨b,o+q*size+r,none⟩ by
  simp only [Addr.add];split
  ·rename_i h;rw [show o+q*size+r=o by omega]
  rw [Nat.add_assoc]]
 exact m
theorem zh.of_flat {α:Type} [Inhabited α] {R:World->α->List Value->Prop} {size:Nat} {f:α->List Value} (b:∀x,(f x).length=size) (g:∀w x,R w x (f x)) {w:World} {B:Nat} {e:TypeId} {sv:Value} {l:List α} (h:w.ownsRow B e size sv l.length (zx f l)):zh R size w sv l:=
 zh.jB h λj c=>⟨f (l.getD j default),b _,λ_ d=>zaU b c d,g _ _⟩
theorem zh.nil {α:Type} [Inhabited α] {R:World->α->List Value->Prop} {size:Nat} (w:World):zh R size w (N7) ([] :List α):=⟨none,0,rfl,by simp,λj b=>by simp at b⟩
theorem xO {X:World} {B C:Nat} {e:TypeId} {size:Nat} {v:Value} {n:Nat} {xs:List Value} (h:X.ownsRow B e size v n xs) (i:C<=B):X.ownsRow C e size v n xs:=by
 refine⟨h.1, ?_⟩
 rcases h.2 with d|⟨g,c,b,rfl,f,rest⟩
 ·exact .inl d
 exact .inr ⟨g,c,b,rfl,Nat.le_trans i f,rest⟩
structure App (e:TypeId) (size:Nat) (V X:World) (v:Value) (n:Nat) (xs:List Value) (bs:List (Nat × List Value)):Prop where
 below:Below V.heap.size V X
 row:X.ownsRow V.heap.size e size v n xs
 news:∀p∈bs,X.heap[p.1]? =some (.cells p.2.toArray e (0,0))/\v.ownBlock≠some p.1/\V.heap.size<=p.1
section
variable {e:TypeId} {size:Nat} {V X:World} {v:Value} {n:Nat} {xs:List Value} {bs:List (Nat × List Value)}
theorem App.start (e:TypeId) (size:Nat) (V:World):App e size V V (N7) 0 [] [] :=⟨Below.refl _ _,World.ownsRow_nil _ _ _ _,by simp⟩
theorem App.drew (h:App e size V X v n xs bs):App e size V X.drew v n xs bs:=⟨h.below.drew,(Since.refl (λ_=>False) X).drew.row h.row (λ_ _ h=>h),h.news⟩
theorem App.alloc (h:App e size V X v n xs bs) (cs:List Value):App e size V (X.alloc (.cells cs.toArray e)) v n xs ((X.heap.size,cs)::bs):=by
 refine⟨h.below.alloc h.below.size _,h.row.alloc _, ?_⟩
 intro p d;rcases List.mem_cons.1 d with rfl|d
 ·exact⟨zQ X _,λe=>by have:=(h.row.lt _ e).2;simp at this,h.below.size⟩
 obtain⟨a,b,c⟩:=h.news p d;exact⟨(Below.heap_alloc _ _ _ (zA a)).trans a,b,c⟩
theorem App.app (h:App e size V X v n xs bs) {g:World} {f:Value} {m:Nat} {d:List Value} (o:g.ownsRow V.heap.size e size f m d) (i:Since (λk=>v.ownBlock=some k) X g) (q:∀k,f.ownBlock=some k->v.ownBlock=some k\/k=X.heap.size):App e size V g f m d bs:=by
 refine⟨h.below.trans (i.below h.below.size (λk r=>(h.row.lt k r).1)),o,λp l=> ?_⟩
 obtain⟨a,b,c⟩:=h.news p l;refine⟨(i.block _ (zA a) b).trans a,λe=> ?_,c⟩
 rcases q _ e with j|j
 ·exact b j
 have:=zA a;omega
theorem App.cell (h:App e size V X v n xs bs) {b:Nat} {cs:List Value} (d:(b,cs)∈bs):∀j x,cs[j]? =some x->X.cell? ((⟨b,0,none⟩:Addr).add j)=some x:=by
 intro j x c;have:=ze (h.news _ d).1 j
 rw [show(⟨b,0,none⟩:Addr).add j=⟨b,j,none⟩ by simp only [Addr.add];split<;>simp_all,this]
 simpa using c
end
