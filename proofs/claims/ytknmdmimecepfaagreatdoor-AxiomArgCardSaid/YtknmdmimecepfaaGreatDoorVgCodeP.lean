/- Steps. -/
import Derived.Test.YtknmdmimecepfaaGreatDoorVgPart
set_option linter.all false
namespace Go.Proofs.YtknmdmimecepfaaGreatDoor
open Go.RowKit
set_option maxRecDepth 100000
set_option maxHeartbeats 16000000
def qN (vars dom kind xU:Int) (x:zl):Bool:=decide (1<=kind) && decide (kind<=9) && decide (0<=x.dest) && decide (x.dest<=xU) && xu kind x.reg x.var x.a x.b vars dom
def xO (vars dom:Int) (many:Nat) (x:zl):Bool:=
 if x.op=12 then qN vars dom 9 many x else if x.op=13 then qN vars dom 4 many x else if x.op=10\/x.op=11 then false else qN vars dom x.op 0 x
def rowOk (vars dom:Int) (l:List zl):Bool:=decide (l.length<=600) && l.all (xO vars dom l.length)
def codeOk (c:zo):Bool:=decide (1<=c.vars) && decide (c.vars<=4) && decide (2<=c.domain) && decide (c.domain<=16) && decide (1<=c.threads.length) && decide (c.threads.length<=4) && c.threads.all (rowOk c.vars c.domain)
theorem zbt {α:Type} [Inhabited α] (l:List α) (d:α) (p:α->Bool) (h:∀j,j<l.length->p (l.getD j d)=true):l.all p=true:=by
 rw [List.all_eq_true]
 intro x hx
 obtain⟨j,hj,rfl⟩:=List.getElem_of_mem hx
 have:=h j hj
 rwa [List.getD_eq_getElem?_getD,List.getElem?_eq_getElem hj] at this
theorem bg {α:Type} [Inhabited α] (l:List α) (d:α) (p:α->Bool) (j:Nat) (hj:j<l.length) (h:p (l.getD j d)=false):l.all p=false:=by
 rw [List.all_eq_false]
 rw [List.getD_eq_getElem?_getD,List.getElem?_eq_getElem hj] at h
 exact⟨l[j],List.getElem_mem hj,by simpa using h⟩
theorem _root_.Go.World.ownsRow.zw1 {w:World} {B:Nat} {e:TypeId} {size:Nat} {v:Value} {n:Nat} {xs:List Value} (h:w.ownsRow B e size v n xs) (k:Nat):(w.drewN k).ownsRow B e size v n xs:=(Since.drewN (λ_=>False) k (Since.refl _ w)).row h (λ_ _ h=>h)
def ze1 (dom n:Int):Bool:=decide (0<=n) && decide (n<dom)
instance:Inhabited zo:=⟨⟨0,0, []⟩⟩
theorem yI {c:zo} (h:codeOk c=true):1<=c.vars/\c.vars<=4/\2<=c.domain/\c.domain<=16/\1<=c.threads.length/\c.threads.length<=4:=by
 unfold codeOk at h
 simp only [Bool.and_eq_true,decide_eq_true_eq] at h
 exact⟨h.1.1.1.1.1.1,h.1.1.1.1.1.2,h.1.1.1.1.2,h.1.1.1.2,h.1.1.2,h.1.2⟩
end Go.Proofs.YtknmdmimecepfaaGreatDoor
namespace Go.Proofs.YtknmdmimecepfaaGreatDoor
open Go.RowKit
set_option maxRecDepth 100000
set_option maxHeartbeats 16000000
theorem zaT {l:List Int} (h:l.length=4):∃a b c d,l= [a,b,c,d] :=by
 match l,h with
 | [a,b,c,d],_=>exact⟨a,b,c,d,rfl⟩
structure zyg (e:TypeId) (size:Nat) (t:TypeId) (V X:World) (v:Value) (n:Nat) (xs:List Value) (bs:List (Nat × List Value)):Prop where
 below:Below V.heap.size V X
 row:X.ownsRow V.heap.size e size v n xs
 news:∀p∈bs,X.heap[p.1]? =some (.cells p.2.toArray t (0,0))/\v.ownBlock≠some p.1/\V.heap.size<=p.1
section
variable {e t:TypeId} {size:Nat} {V X:World} {v:Value} {n:Nat} {xs:List Value} {bs:List (Nat × List Value)}
end
theorem wC (w:World) (l:List Value) (t:TypeId):∀j u,l[j]? =some u->(w.alloc (.cells l.toArray t)).cell? ((⟨w.heap.size,0,none⟩:Addr).add j)=some u:=by
 intro j u hj
 have:=za (zT w (.cells l.toArray t)) j
 rw [show(⟨w.heap.size,0,none⟩:Addr).add j=⟨w.heap.size,j,none⟩ by simp only [Addr.add];split<;>simp_all,this]
 simpa using hj
end Go.Proofs.YtknmdmimecepfaaGreatDoor
namespace Go.Proofs.YtknmdmimecepfaaGreatDoor
open Go.RowKit
set_option maxRecDepth 100000
set_option maxHeartbeats 16000000
theorem ziY {w:World} {B g n cap j size:Nat} {e:TypeId} {xs:List Value} (h:w.ownsRow B e size (.slice (some ⟨g,0,none⟩) n cap) n xs) (u:Value):(w.setCell ⟨g,j,none⟩ u).ownsRow B e size (.slice (some ⟨g,0,none⟩) n cap) n (xs.set j u):=by
 refine⟨by rw [List.length_set];exact h.1, ?_⟩
 rcases h.2 with⟨h1, -⟩|⟨g',cap',cur,h1,h2,h3,h4,h5,h6,h7⟩
 ·cases h1
 cases h1
 refine .inr ⟨g,cap,cur.setIfInBounds j u,rfl,h2,zw h3 j u,h4,h5,by rw [Array.size_setIfInBounds];exact h6, ?_⟩
 rw [Array.toList_setIfInBounds,List.take_set,h7]
theorem ziZ {w:World} {B:Nat} {e:TypeId} {size:Nat} {v:Value} {n:Nat} {xs:List Value} (h:w.ownsRow B e size v n xs) {j:Nat} {u:Value} (hj:xs[j]? =some u):∃g cap,v= .slice (some ⟨g,0,none⟩) n cap/\B<=g/\w.cell? ⟨g,j,none⟩=some u/\w.frozen? ⟨g,j,none⟩=false:=by
 have hlt:j<xs.length:=by
  rcases Nat.lt_or_ge j xs.length with h'|h'
  ·exact h'
  rw [List.getElem?_eq_none h'] at hj;cases hj
 rcases h.2 with⟨h1,h2⟩|⟨g,cap,cur,h1,h2,h3,h4,h5,h6,h7⟩
 ·have:=h.1;rw [h2] at this;omega
 refine⟨g,cap,h1,h2, ?_,zF h3 j⟩
 rw [za h3, <-hj, <-h7,List.getElem?_take_of_lt (by rw [h.1] at hlt;exact hlt)]
 simp
theorem zn3 {α:Type} {l:List α} {i j:Nat} {x d:α} (hj:j<l.length):(l.set i x).getD j d=if j=i then x else l.getD j d:=by
 simp only [List.getD_eq_getElem?_getD]
 by_cases h:j=i
 ·subst h;rw [if_pos rfl,List.getElem?_set_self (by exact hj)];rfl
 rw [if_neg h,List.getElem?_set_ne (Ne.symm h)]
theorem zqi {l:List Int} {j:Nat} (hj:j<l.length):(zD yG l)[j]? =some (.int .i64 (l.getD j 0)):=by
 have:=zbu (f:=yG) (size:=1) zaU (l:=l) (j:=j) (i:=0) hj (by omega)
 rw [Nat.mul_one,Nat.add_zero] at this
 exact this
end Go.Proofs.YtknmdmimecepfaaGreatDoor
namespace Go.Proofs.YtknmdmimecepfaaGreatDoor
open Go.RowKit
set_option maxRecDepth 100000
set_option maxHeartbeats 16000000
section
variable {c:zo} {m:ztx} {s:pI} {t:bR} {x:zl} {d:Nat}
end
theorem yL {α:Type} {l:List α} {k:Nat} {x:α} (hk:k<l.length):l.getD k x∈l:=by
 rw [List.getD_eq_getElem?_getD,List.getElem?_eq_getElem hk];exact List.getElem_mem hk
def qE (X:World) (g:Nat):Nat->List Value->World
 |_, [] =>X
 |j,u::l=>qE (X.setCell ⟨g,j,none⟩ u) g (j+1) l
theorem vN {g:Nat} (l:List Value):∀(X:World) (j:Nat),Since (λk=>k=g) X (qE X g j l):=by
 induction l with
 |nil=>intro X j;exact Since.refl _ _
 |cons u l ih=>
 intro X j
 exact(Since.setCell (F:=λk=>k=g) (p:=⟨g,j,none⟩) (Since.refl _ X) (.inl rfl) u).trans (ih _ _) (λ_ h=> .inl h)
theorem zha {g:Nat} {t:TypeId} {f:Nat × Nat} (l:List Value):∀(X:World) (pre post:List Value),post.length=l.length->X.heap[g]? =some (.cells (pre++post).toArray t f)->(qE X g pre.length l).heap[g]? =some (.cells (pre++l).toArray t f):=by
 induction l with
 |nil=>
  intro X pre post hl h
  obtain rfl:post= [] :=List.eq_nil_of_length_eq_zero hl
  exact h
 |cons u l ih=>
 intro X pre post hl h
 cases post with
 |nil=>simp at hl
 |cons v post=>
 have h2:=zw h pre.length u
 have h3:((pre++v::post).toArray).setIfInBounds pre.length u=((pre++ [u])++post).toArray:=by
  rw [List.setIfInBounds_toArray,List.set_append_right _ _ (Nat.le_refl _)]
  simp
 rw [h3] at h2
 have:=ih _ (pre++ [u]) post (by simpa using hl) h2
 simpa [qE] using this
theorem vG {g:Nat} {t:TypeId} {f:Nat × Nat} {X:World} {cs:List Value} (l:List Value) (hl:cs.length=l.length) (h:X.heap[g]? =some (.cells cs.toArray t f)):(qE X g 0 l).heap[g]? =some (.cells l.toArray t f):=zha l X [] cs hl h
end Go.Proofs.YtknmdmimecepfaaGreatDoor
namespace Go.Proofs.YtknmdmimecepfaaGreatDoor
open Go.RowKit
set_option maxRecDepth 100000
set_option maxHeartbeats 16000000
structure Loc (V X:World) (bs:List (Nat × TypeId × List Value)):Prop where
 below:Below V.heap.size V X
 news:∀p∈bs,X.heap[p.1]? =some (.cells p.2.2.toArray p.2.1 (0,0))/\V.heap.size<=p.1
 apart:(bs.map (·.1)).Nodup
def upd (g:Nat) (l:List Value) (bs:List (Nat × TypeId × List Value)):List (Nat × TypeId × List Value):=bs.map λp=>if p.1=g then(p.1,p.2.1,l) else p
section
variable {V X:World} {bs:List (Nat × TypeId × List Value)}
theorem Loc.start (V:World):Loc V V [] :=⟨Below.refl _ _,by simp,by simp⟩
theorem Loc.later (h:Loc V X bs) {X':World} (hb:Below X.heap.size X X'):Loc V X' bs:=⟨zm h.below hb,λp hp=>⟨(hb.block _ (zB (h.news p hp).1)).trans (h.news p hp).1,(h.news p hp).2⟩,h.apart⟩
theorem Loc.alloc (h:Loc V X bs) (t:TypeId) (cs:List Value):Loc V (X.alloc (.cells cs.toArray t)) ((X.heap.size,t,cs)::bs):=by
 refine⟨h.below.alloc h.below.size _, ?_, ?_⟩
 ·intro p hp
  rcases List.mem_cons.1 hp with rfl|hp
  ·exact⟨zT X _,h.below.size⟩
  exact⟨(Below.heap_alloc _ _ _ (zB (h.news p hp).1)).trans (h.news p hp).1,(h.news p hp).2⟩
 simp only [List.map_cons,List.nodup_cons]
 refine⟨?_,h.apart⟩
 intro hm
 obtain⟨p,hp,e⟩:=List.mem_map.1 hm
 have:=zB (h.news p hp).1
 omega
theorem Loc.store (h:Loc V X bs) {g:Nat} {t:TypeId} {cs:List Value} (hg:(g,t,cs)∈bs) (l:List Value) (hl:cs.length=l.length):Loc V (qE X g 0 l) (upd g l bs):=by
 have hS:=vN (g:=g) l X 0
 refine⟨h.below.trans (hS.below h.below.size (λk e=>by rw [e];exact(h.news _ hg).2)), ?_, ?_⟩
 ·intro p hp
  obtain⟨q,hq,rfl⟩:=List.mem_map.1 hp
  by_cases e:q.1=g
  ·simp only [if_pos e]
   have hqe:q=(g,t,cs):=by
    have h1:=h.news q hq
    have h2:=h.news _ hg
    rw [e] at h1
    obtain⟨a,b,c⟩:=q
    simp only [] at e h1 h2
    subst e
    have h3:=h1.1.symm.trans h2.1
    simp only [Option.some.injEq,Obj.cells.injEq] at h3
    obtain⟨h4,h5, -⟩:=h3
    have h6:c=cs:=by simpa using h4
    rw [h5,h6]
   subst hqe
   exact⟨vG l hl (h.news _ hg).1,(h.news _ hg).2⟩
  rw [if_neg e]
  exact⟨(hS.block _ (zB (h.news q hq).1) e).trans (h.news q hq).1,(h.news q hq).2⟩
 have:(upd g l bs).map (·.1)=bs.map (·.1):=by
  unfold upd
  rw [List.map_map]
  refine List.map_congr_left (λp _=> ?_)
  simp only [Function.comp]
  split<;>rfl
 rw [this];exact h.apart
theorem zqj {g:Nat} {t:TypeId} {cs l:List Value} (h:(g,t,cs)∈bs):(g,t,l)∈upd g l bs:=List.mem_map.2 ⟨_,h,by simp⟩
theorem zfy {g:Nat} {l:List Value} {p:Nat × TypeId × List Value} (h:p∈bs) (hne:p.1≠g):p∈upd g l bs:=List.mem_map.2 ⟨p,h,by simp [hne]⟩
end
end Go.Proofs.YtknmdmimecepfaaGreatDoor
namespace Go.Proofs.YtknmdmimecepfaaGreatDoor
open Go.RowKit
set_option maxRecDepth 100000
set_option maxHeartbeats 16000000
structure yt where
 mem:List Int
 regs:List (List Int)
 deriving DecidableEq
instance:Inhabited yt:=⟨⟨[], []⟩⟩
def zL (f:yt):List Int:=f.mem++f.regs.flatten
def yh:List Int->List Int->Int
 | [], [] =>0
 | [],_::_=> -1
 |_::_, [] =>1
 |a::l,b::r=>if a<b then -1 else if b<a then 1 else yh l r
theorem jO (l:List Int):yh l l=0:=by
 induction l with
 |nil=>rfl
 |cons a l ih=>simp [yh,ih]
theorem bI (l r:List Int):yh l r= -1\/yh l r=0\/yh l r=1:=by
 induction l generalizing r with
 |nil=>cases r<;>simp [yh]
 |cons a l ih=>
 cases r with
 |nil=>simp [yh]
 |cons b r=>
 unfold yh
 split
 ·simp
 split
 ·simp
 exact ih r
theorem zaV {l r:List Int} (h:yh l r=0):l=r:=by
 induction l generalizing r with
 |nil=>cases r<;>simp [yh] at h ⊢
 |cons a l ih=>
 cases r with
 |nil=>simp [yh] at h
 |cons b r=>
 unfold yh at h
 split at h
 ·cases h
 split at h
 ·cases h
 rw [ih h,show a=b by omega]
theorem zal (l r:List Int):yh r l= - yh l r:=by
 induction l generalizing r with
 |nil=>cases r<;>rfl
 |cons a l ih=>
 cases r with
 |nil=>rfl
 |cons b r=>
 unfold yh
 by_cases h1:a<b
 ·rw [if_pos h1,if_neg (by omega),if_pos h1];rfl
 by_cases h2:b<a
 ·rw [if_pos h2,if_neg h1,if_pos h2]
 rw [if_neg h2,if_neg h1,if_neg h1,if_neg h2];exact ih r
theorem wV {l r s:List Int} (h1:yh l r<0) (h2:yh r s<0):yh l s<0:=by
 induction l generalizing r s with
 |nil=>
  cases r with
  |nil=>simp [yh] at h1
  |cons b r=>
  cases s with
  |nil=>simp [yh] at h2
  |cons c s=>simp [yh]
 |cons a l ih=>
 cases r with
 |nil=>simp [yh] at h1
 |cons b r=>
 cases s with
 |nil=>simp [yh] at h2
 |cons c s=>
 unfold yh at h1 h2 ⊢
 by_cases e1:a<b
 ·by_cases e2:b<c
  ·rw [if_pos (by omega)];decide
  rw [if_neg e2] at h2
  by_cases e3:c<b
  ·rw [if_pos e3] at h2;omega
  rw [if_pos (by omega)];decide
 rw [if_neg e1] at h1
 by_cases e4:b<a
 ·rw [if_pos e4] at h1;omega
 rw [if_neg e4] at h1
 by_cases e2:b<c
 ·rw [if_pos (by omega)];decide
 rw [if_neg e2] at h2
 by_cases e3:c<b
 ·rw [if_pos e3] at h2;omega
 rw [if_neg e3] at h2
 rw [if_neg (by omega),if_neg (by omega)]
 exact ih h1 h2
def kU (l:List yt):Prop:=l.Pairwise (λa b=>yh (zL a) (zL b)<0)
theorem zlz {M T:Nat} {l r:List yt} (hl:kU l) (hr:kU r) (h1:∀x∈l,∃y∈r,zL y=zL x) (h2:∀x∈r,∃y∈l,zL y=zL x)
  (hM:∀x,x∈l\/x∈r->x.mem.length=M/\x.regs.length=T/\∀g∈x.regs,g.length=4):l=r:=by
 have key:∀x y:yt,(x∈l\/x∈r)->(y∈l\/y∈r)->zL x=zL y->x=y:=by
  intro x y hx hy e
  obtain⟨a1,a2,a3⟩:=hM x hx
  obtain⟨b1,b2,b3⟩:=hM y hy
  obtain⟨xm,xr⟩:=x
  obtain⟨ym,yr⟩:=y
  simp only [] at a1 a2 a3 b1 b2 b3
  unfold zL at e
  simp only [] at e
  obtain⟨e1,e2⟩:=List.append_inj e (by rw [a1,b1])
  subst e1
  have:xr=yr:=by
   clear hx hy hM h1 h2 a1 b1 e
   induction xr generalizing yr T with
   |nil=>
    cases yr with
    |nil=>rfl
    |cons g yr=>simp at a2 b2;omega
   |cons g xr ih=>
   cases yr with
   |nil=>simp at a2 b2;omega
   |cons g' yr=>
   simp only [List.flatten_cons] at e2
   obtain⟨e3,e4⟩:=List.append_inj e2 (by rw [a3 g (List.mem_cons_self ..),b3 g' (List.mem_cons_self ..)])
   subst e3
   rw [ih (T:=T - 1) (by simp at a2;omega) (λq hq=>a3 q (List.mem_cons_of_mem _ hq)) yr (by simp at b2;omega) (λq hq=>b3 q (List.mem_cons_of_mem _ hq)) e4]
  rw [this]
 clear hM
 induction l generalizing r with
 |nil=>
  cases r with
  |nil=>rfl
  |cons y r=>obtain⟨z,hz, -⟩:=h2 y (List.mem_cons_self ..);cases hz
 |cons x l ih=>
 cases r with
 |nil=>obtain⟨z,hz, -⟩:=h1 x (List.mem_cons_self ..);cases hz
 |cons y r=>
 obtain⟨p1,p2⟩:=List.pairwise_cons.1 hl
 obtain⟨q1,q2⟩:=List.pairwise_cons.1 hr
 have hxy:zL x=zL y:=by
  obtain⟨z,hz,e⟩:=h1 x (List.mem_cons_self ..)
  rcases List.mem_cons.1 hz with rfl|hz
  ·exact e.symm
  obtain⟨u,hu,e2⟩:=h2 y (List.mem_cons_self ..)
  rcases List.mem_cons.1 hu with rfl|hu
  ·exact e2
  have a:=q1 z hz
  have b:=p1 u hu
  rw [e] at a
  rw [e2] at b
  have:=wV a b
  rw [jO] at this
  omega
 have hxe:=key x y (.inl (List.mem_cons_self ..)) (.inr (List.mem_cons_self ..)) hxy
 subst hxe
 congr 1
 refine ih p2 q2 (λz hz=> ?_) (λz hz=> ?_) (λa b ha hb=>key a b (ha.imp (List.mem_cons_of_mem _) (List.mem_cons_of_mem _)) (hb.imp (List.mem_cons_of_mem _) (List.mem_cons_of_mem _)))
 ·obtain⟨u,hu,e⟩:=h1 z (List.mem_cons_of_mem _ hz)
  rcases List.mem_cons.1 hu with rfl|hu
  ·have:=p1 z hz
   rw [<-e,jO] at this;omega
  exact⟨u,hu,e⟩
 obtain⟨u,hu,e⟩:=h2 z (List.mem_cons_of_mem _ hz)
 rcases List.mem_cons.1 hu with rfl|hu
 ·have:=q1 z hz
  rw [<-e,jO] at this;omega
 exact⟨u,hu,e⟩
