/- Steps. -/
import Derived.Test.YtknmdmimecepfaaGreatDoorVhEval
import Derived.Test.YtknmdmimecepfaaGreatDoorVhExpr
set_option linter.all false
namespace Go.Proofs.YtknmdmimecepfaaGreatDoor
open Go.RowKit
set_option maxRecDepth 100000
set_option maxHeartbeats 16000000
def zh5 (k reg:Int):Bool:=if zaH k then decide (0<=reg) && decide (reg<4) else decide (reg=0)
def zh6 (k v vars:Int):Bool:=if zaI k then decide (0<=v) && decide (v<vars) else decide (v=0)
def zh7 (k:Int) (a:zC) (dom:Int):Bool:=if zaJ k then zS dom 20 a else j3 a
def zh8 (k:Int) (b:zC) (dom:Int):Bool:=if hasB k then zS dom 20 b else j3 b
def vC (k reg v:Int) (a b:zC) (vars dom:Int):Bool:=zh5 k reg && zh6 k v vars && zh7 k a dom && zh8 k b dom
def gQ (vars dom kind vN:Int) (x:zi):Bool:=decide (1<=kind) && decide (kind<=9) && decide (0<=x.dest) && decide (x.dest<=vN) && vC kind x.reg x.var x.a x.b vars dom
def qC (vars dom:Int) (many:Nat) (x:zi):Bool:=
 if x.op=12 then gQ vars dom 9 many x else if x.op=13 then gQ vars dom 4 many x else if x.op=10\/x.op=11 then false else gQ vars dom x.op 0 x
def rowOk (vars dom:Int) (l:List zi):Bool:=decide (l.length<=600) && l.all (qC vars dom l.length)
def codeOk (c:zl):Bool:=decide (1<=c.vars) && decide (c.vars<=4) && decide (2<=c.domain) && decide (c.domain<=16) && decide (1<=c.threads.length) && decide (c.threads.length<=4) && c.threads.all (rowOk c.vars c.domain)
theorem zhA {α:Type} [Inhabited α] (l:List α) (d:α) (p:α->Bool) (h:∀j,j<l.length->p (l.getD j d)=true):l.all p=true:=by
 rw [List.all_eq_true]
 intro x hx
 obtain⟨j,hj,rfl⟩:=List.getElem_of_mem hx
 have:=h j hj
 rwa [List.getD_eq_getElem?_getD,List.getElem?_eq_getElem hj] at this
theorem zdT {α:Type} [Inhabited α] (l:List α) (d:α) (p:α->Bool) (j:Nat) (hj:j<l.length) (h:p (l.getD j d)=false):l.all p=false:=by
 rw [List.all_eq_false]
 rw [List.getD_eq_getElem?_getD,List.getElem?_eq_getElem hj] at h
 exact⟨l[j],List.getElem_mem hj,by simpa using h⟩
theorem _root_.Go.World.ownsRow.zs4 {w:World} {B:Nat} {e:TypeId} {size:Nat} {v:Value} {n:Nat} {xs:List Value} (h:w.ownsRow B e size v n xs) (k:Nat):(w.drewN k).ownsRow B e size v n xs:=(Since.drewN (λ_=>False) k (Since.refl _ w)).row h (λ_ _ h=>h)
def zcA (dom n:Int):Bool:=decide (0<=n) && decide (n<dom)
instance:Inhabited zl:=⟨⟨0,0, []⟩⟩
theorem zZ {c:zl} (h:codeOk c=true):1<=c.vars/\c.vars<=4/\2<=c.domain/\c.domain<=16/\1<=c.threads.length/\c.threads.length<=4:=by
 unfold codeOk at h
 simp only [Bool.and_eq_true,decide_eq_true_eq] at h
 exact⟨h.1.1.1.1.1.1,h.1.1.1.1.1.2,h.1.1.1.1.2,h.1.1.1.2,h.1.1.2,h.1.2⟩
end Go.Proofs.YtknmdmimecepfaaGreatDoor
namespace Go.Proofs.YtknmdmimecepfaaGreatDoor
open Go.RowKit
set_option maxRecDepth 100000
set_option maxHeartbeats 16000000
theorem bY {l:List Int} (h:l.length=4):∃a b c d,l= [a,b,c,d] :=by
 match l,h with
 | [a,b,c,d],_=>exact⟨a,b,c,d,rfl⟩
structure ztu (e:TypeId) (size:Nat) (t:TypeId) (V X:World) (v:Value) (n:Nat) (xs:List Value) (bs:List (Nat × List Value)):Prop where
 below:Below V.heap.size V X
 row:X.ownsRow V.heap.size e size v n xs
 news:∀p∈bs,X.heap[p.1]? =some (.cells p.2.toArray t (0,0))/\v.ownBlock≠some p.1/\V.heap.size<=p.1
section
variable {e t:TypeId} {size:Nat} {V X:World} {v:Value} {n:Nat} {xs:List Value} {bs:List (Nat × List Value)}
end
theorem kW (w:World) (l:List Value) (t:TypeId):∀j u,l[j]? =some u->(w.alloc (.cells l.toArray t)).cell? ((⟨w.heap.size,0,none⟩:Addr).add j)=some u:=by
 intro j u hj
 have:=ze (yG w (.cells l.toArray t)) j
 rw [show(⟨w.heap.size,0,none⟩:Addr).add j=⟨w.heap.size,j,none⟩ by simp only [Addr.add];split<;>simp_all,this]
 simpa using hj
end Go.Proofs.YtknmdmimecepfaaGreatDoor
namespace Go.Proofs.YtknmdmimecepfaaGreatDoor
open Go.RowKit
set_option maxRecDepth 100000
set_option maxHeartbeats 16000000
theorem zgG {w:World} {B g n cap j size:Nat} {e:TypeId} {xs:List Value} (h:w.ownsRow B e size (.slice (some ⟨g,0,none⟩) n cap) n xs) (u:Value):(w.setCell ⟨g,j,none⟩ u).ownsRow B e size (.slice (some ⟨g,0,none⟩) n cap) n (xs.set j u):=by
 refine⟨by rw [List.length_set];exact h.1, ?_⟩
 rcases h.2 with⟨h1, -⟩|⟨g',cap',cur,h1,h2,h3,h4,h5,h6,h7⟩
 ·cases h1
 cases h1
 refine .inr ⟨g,cap,cur.setIfInBounds j u,rfl,h2,zq h3 j u,h4,h5,by rw [Array.size_setIfInBounds];exact h6, ?_⟩
 rw [Array.toList_setIfInBounds,List.take_set,h7]
theorem zgD {w:World} {B:Nat} {e:TypeId} {size:Nat} {v:Value} {n:Nat} {xs:List Value} (h:w.ownsRow B e size v n xs) {j:Nat} {u:Value} (hj:xs[j]? =some u):∃g cap,v= .slice (some ⟨g,0,none⟩) n cap/\B<=g/\w.cell? ⟨g,j,none⟩=some u/\w.frozen? ⟨g,j,none⟩=false:=by
 have hlt:j<xs.length:=by
  rcases Nat.lt_or_ge j xs.length with h'|h'
  ·exact h'
  rw [List.getElem?_eq_none h'] at hj;cases hj
 rcases h.2 with⟨h1,h2⟩|⟨g,cap,cur,h1,h2,h3,h4,h5,h6,h7⟩
 ·have:=h.1;rw [h2] at this;omega
 refine⟨g,cap,h1,h2, ?_,yD h3 j⟩
 rw [ze h3, <-hj, <-h7,List.getElem?_take_of_lt (by rw [h.1] at hlt;exact hlt)]
 simp
theorem zkT {α:Type} {l:List α} {i j:Nat} {x d:α} (hj:j<l.length):(l.set i x).getD j d=if j=i then x else l.getD j d:=by
 simp only [List.getD_eq_getElem?_getD]
 by_cases h:j=i
 ·subst h;rw [if_pos rfl,List.getElem?_set_self (by exact hj)];rfl
 rw [if_neg h,List.getElem?_set_ne (Ne.symm h)]
theorem zmI {l:List Int} {j:Nat} (hj:j<l.length):(zm zR l)[j]? =some (.int .i64 (l.getD j 0)):=by
 have:=zaf (f:=zR) (size:=1) kZ (l:=l) (j:=j) (i:=0) hj (by omega)
 rw [Nat.mul_one,Nat.add_zero] at this
 exact this
end Go.Proofs.YtknmdmimecepfaaGreatDoor
namespace Go.Proofs.YtknmdmimecepfaaGreatDoor
open Go.RowKit
set_option maxRecDepth 100000
set_option maxHeartbeats 16000000
section
variable {c:zl} {m:zpo} {s:uJ} {t:gZ} {x:zi} {d:Nat}
end
theorem zV {α:Type} {l:List α} {k:Nat} {x:α} (hk:k<l.length):l.getD k x∈l:=by
 rw [List.getD_eq_getElem?_getD,List.getElem?_eq_getElem hk];exact List.getElem_mem hk
def wU (X:World) (g:Nat):Nat->List Value->World
 |_, [] =>X
 |j,u::l=>wU (X.setCell ⟨g,j,none⟩ u) g (j+1) l
theorem zfK {g:Nat} (l:List Value):∀(X:World) (j:Nat),Since (λk=>k=g) X (wU X g j l):=by
 induction l with
 |nil=>intro X j;exact Since.refl _ _
 |cons u l ih=>
 intro X j
 exact(Since.setCell (F:=λk=>k=g) (p:=⟨g,j,none⟩) (Since.refl _ X) (.inl rfl) u).trans (ih _ _) (λ_ h=> .inl h)
theorem zfL {g:Nat} {t:TypeId} {f:Nat × Nat} (l:List Value):∀(X:World) (pre post:List Value),post.length=l.length->X.heap[g]? =some (.cells (pre++post).toArray t f)->(wU X g pre.length l).heap[g]? =some (.cells (pre++l).toArray t f):=by
 induction l with
 |nil=>
  intro X pre post hl h
  obtain rfl:post= [] :=List.eq_nil_of_length_eq_zero hl
  exact h
 |cons u l ih=>
 intro X pre post hl h
 cases post with
 |nil=>simp at hl
 |cons v post=>
 have h2:=zq h pre.length u
 have h3:((pre++v::post).toArray).setIfInBounds pre.length u=((pre++ [u])++post).toArray:=by
  rw [List.setIfInBounds_toArray,List.set_append_right _ _ (Nat.le_refl _)]
  simp
 rw [h3] at h2
 have:=ih _ (pre++ [u]) post (by simpa using hl) h2
 simpa [wU] using this
theorem zib {g:Nat} {t:TypeId} {f:Nat × Nat} {X:World} {cs:List Value} (l:List Value) (hl:cs.length=l.length) (h:X.heap[g]? =some (.cells cs.toArray t f)):(wU X g 0 l).heap[g]? =some (.cells l.toArray t f):=zfL l X [] cs hl h
