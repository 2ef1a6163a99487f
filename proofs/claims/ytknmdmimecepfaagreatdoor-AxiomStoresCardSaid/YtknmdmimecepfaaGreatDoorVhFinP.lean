/- Steps. -/
import Derived.Test.YtknmdmimecepfaaGreatDoorVhPart
set_option linter.all false
namespace Go.Proofs.YtknmdmimecepfaaGreatDoor
open Go.RowKit
set_option maxRecDepth 100000
set_option maxHeartbeats 16000000
structure Loc (V X:World) (bs:List (Nat × TypeId × List Value)):Prop where
 below:Below V.heap.size V X
 news:∀p∈bs,X.heap[p.1]? =some (.cells p.2.2.toArray p.2.1 (0,0))/\V.heap.size<=p.1
 apart:(bs.map (·.1)).Nodup
def upd (g:Nat) (l:List Value) (bs:List (Nat × TypeId × List Value)):List (Nat × TypeId × List Value):=bs.map λp=>if p.1=g then(p.1,p.2.1,l) else p
section
variable {V X:World} {bs:List (Nat × TypeId × List Value)}
theorem Loc.start (V:World):Loc V V [] :=⟨Below.refl _ _,by simp,by simp⟩
theorem Loc.later (h:Loc V X bs) {X':World} (hb:Below X.heap.size X X'):Loc V X' bs:=⟨zn h.below hb,λp hp=>⟨(hb.block _ (zI (h.news p hp).1)).trans (h.news p hp).1,(h.news p hp).2⟩,h.apart⟩
theorem Loc.alloc (h:Loc V X bs) (t:TypeId) (cs:List Value):Loc V (X.alloc (.cells cs.toArray t)) ((X.heap.size,t,cs)::bs):=by
 refine⟨h.below.alloc h.below.size _, ?_, ?_⟩
 ·intro p hp
  rcases List.mem_cons.1 hp with rfl|hp
  ·exact⟨yG X _,h.below.size⟩
  exact⟨(Below.heap_alloc _ _ _ (zI (h.news p hp).1)).trans (h.news p hp).1,(h.news p hp).2⟩
 simp only [List.map_cons,List.nodup_cons]
 refine⟨?_,h.apart⟩
 intro hm
 obtain⟨p,hp,e⟩:=List.mem_map.1 hm
 have:=zI (h.news p hp).1
 omega
theorem Loc.store (h:Loc V X bs) {g:Nat} {t:TypeId} {cs:List Value} (hg:(g,t,cs)∈bs) (l:List Value) (hl:cs.length=l.length):Loc V (wU X g 0 l) (upd g l bs):=by
 have hS:=zfK (g:=g) l X 0
 refine⟨h.below.trans (hS.below h.below.size (λk e=>by rw [e];exact(h.news _ hg).2)), ?_, ?_⟩
 ·intro p hp
  obtain⟨q,hq,rfl⟩:=List.mem_map.1 hp
  by_cases e:q.1=g
  ·simp only [if_pos e]
   have hqe:q=(g,t,cs):=by
    have h1:=h.news q hq
    have h2:=h.news _ hg
    rw [e] at h1
    obtain⟨a,b,c⟩:=q
    simp only [] at e h1 h2
    subst e
    have h3:=h1.1.symm.trans h2.1
    simp only [Option.some.injEq,Obj.cells.injEq] at h3
    obtain⟨h4,h5, -⟩:=h3
    have h6:c=cs:=by simpa using h4
    rw [h5,h6]
   subst hqe
   exact⟨zib l hl (h.news _ hg).1,(h.news _ hg).2⟩
  rw [if_neg e]
  exact⟨(hS.block _ (zI (h.news q hq).1) e).trans (h.news q hq).1,(h.news q hq).2⟩
 have:(upd g l bs).map (·.1)=bs.map (·.1):=by
  unfold upd
  rw [List.map_map]
  refine List.map_congr_left (λp _=> ?_)
  simp only [Function.comp]
  split<;>rfl
 rw [this];exact h.apart
theorem zm8 {g:Nat} {t:TypeId} {cs l:List Value} (h:(g,t,cs)∈bs):(g,t,l)∈upd g l bs:=List.mem_map.2 ⟨_,h,by simp⟩
theorem zd5 {g:Nat} {l:List Value} {p:Nat × TypeId × List Value} (h:p∈bs) (hne:p.1≠g):p∈upd g l bs:=List.mem_map.2 ⟨p,h,by simp [hne]⟩
end
end Go.Proofs.YtknmdmimecepfaaGreatDoor
namespace Go.Proofs.YtknmdmimecepfaaGreatDoor
open Go.RowKit
set_option maxRecDepth 100000
set_option maxHeartbeats 16000000
structure zy where
 mem:List Int
 regs:List (List Int)
 deriving DecidableEq
instance:Inhabited zy:=⟨⟨[], []⟩⟩
def zu (f:zy):List Int:=f.mem++f.regs.flatten
def zG:List Int->List Int->Int
 | [], [] =>0
 | [],_::_=> -1
 |_::_, [] =>1
 |a::l,b::r=>if a<b then -1 else if b<a then 1 else zG l r
theorem qY (l:List Int):zG l l=0:=by
 induction l with
 |nil=>rfl
 |cons a l ih=>simp [zG,ih]
theorem gU (l r:List Int):zG l r= -1\/zG l r=0\/zG l r=1:=by
 induction l generalizing r with
 |nil=>cases r<;>simp [zG]
 |cons a l ih=>
 cases r with
 |nil=>simp [zG]
 |cons b r=>
 unfold zG
 split
 ·simp
 split
 ·simp
 exact ih r
theorem gY {l r:List Int} (h:zG l r=0):l=r:=by
 induction l generalizing r with
 |nil=>cases r<;>simp [zG] at h ⊢
 |cons a l ih=>
 cases r with
 |nil=>simp [zG] at h
 |cons b r=>
 unfold zG at h
 split at h
 ·cases h
 split at h
 ·cases h
 rw [ih h,show a=b by omega]
theorem wW (l r:List Int):zG r l= - zG l r:=by
 induction l generalizing r with
 |nil=>cases r<;>rfl
 |cons a l ih=>
 cases r with
 |nil=>rfl
 |cons b r=>
 unfold zG
 by_cases h1:a<b
 ·rw [if_pos h1,if_neg (by omega),if_pos h1];rfl
 by_cases h2:b<a
 ·rw [if_pos h2,if_neg h1,if_pos h2]
 rw [if_neg h2,if_neg h1,if_neg h1,if_neg h2];exact ih r
theorem kG {l r s:List Int} (h1:zG l r<0) (h2:zG r s<0):zG l s<0:=by
 induction l generalizing r s with
 |nil=>
  cases r with
  |nil=>simp [zG] at h1
  |cons b r=>
  cases s with
  |nil=>simp [zG] at h2
  |cons c s=>simp [zG]
 |cons a l ih=>
 cases r with
 |nil=>simp [zG] at h1
 |cons b r=>
 cases s with
 |nil=>simp [zG] at h2
 |cons c s=>
 unfold zG at h1 h2 ⊢
 by_cases e1:a<b
 ·by_cases e2:b<c
  ·rw [if_pos (by omega)];decide
  rw [if_neg e2] at h2
  by_cases e3:c<b
  ·rw [if_pos e3] at h2;omega
  rw [if_pos (by omega)];decide
 rw [if_neg e1] at h1
 by_cases e4:b<a
 ·rw [if_pos e4] at h1;omega
 rw [if_neg e4] at h1
 by_cases e2:b<c
 ·rw [if_pos (by omega)];decide
 rw [if_neg e2] at h2
 by_cases e3:c<b
 ·rw [if_pos e3] at h2;omega
 rw [if_neg e3] at h2
 rw [if_neg (by omega),if_neg (by omega)]
 exact ih h1 h2
def uE (a b:zy):Bool:=decide (zG (zu a) (zu b)<0)
def vg (a b:zy):Bool:=decide (a.mem.length=b.mem.length) && !uE a b && !uE b a
def jw (l:List zy):Prop:=l.Pairwise (λa b=>zG (zu a) (zu b)<0)
theorem zhZ {M:Nat} {a b:zy} (ha:a.mem.length=M) (hb:b.mem.length=M):vg a b=true↔zu a=zu b:=by
 unfold vg uE
 rw [ha,hb]
 constructor
 ·intro h
  simp only [decide_true,Bool.true_and,Bool.and_eq_true,Bool.not_eq_true',decide_eq_false_iff_not] at h
  obtain⟨h1,h2⟩:=h
  rw [wW (zu a) (zu b)] at h2
  exact gY (by omega)
 intro h
 rw [h,qY];simp
theorem zjH {M T:Nat} {l r:List zy} (hl:jw l) (hr:jw r) (h1:∀x∈l,∃y∈r,zu y=zu x) (h2:∀x∈r,∃y∈l,zu y=zu x)
  (hM:∀x,x∈l\/x∈r->x.mem.length=M/\x.regs.length=T/\∀g∈x.regs,g.length=4):l=r:=by
 have key:∀x y:zy,(x∈l\/x∈r)->(y∈l\/y∈r)->zu x=zu y->x=y:=by
  intro x y hx hy e
  obtain⟨a1,a2,a3⟩:=hM x hx
  obtain⟨b1,b2,b3⟩:=hM y hy
  obtain⟨xm,xr⟩:=x
  obtain⟨ym,yr⟩:=y
  simp only [] at a1 a2 a3 b1 b2 b3
  unfold zu at e
  simp only [] at e
  obtain⟨e1,e2⟩:=List.append_inj e (by rw [a1,b1])
  subst e1
  have:xr=yr:=by
   clear hx hy hM h1 h2 a1 b1 e
   induction xr generalizing yr T with
   |nil=>
    cases yr with
    |nil=>rfl
    |cons g yr=>simp at a2 b2;omega
   |cons g xr ih=>
   cases yr with
   |nil=>simp at a2 b2;omega
   |cons g' yr=>
   simp only [List.flatten_cons] at e2
   obtain⟨e3,e4⟩:=List.append_inj e2 (by rw [a3 g (List.mem_cons_self ..),b3 g' (List.mem_cons_self ..)])
   subst e3
   rw [ih (T:=T - 1) (by simp at a2;omega) (λq hq=>a3 q (List.mem_cons_of_mem _ hq)) yr (by simp at b2;omega) (λq hq=>b3 q (List.mem_cons_of_mem _ hq)) e4]
  rw [this]
 clear hM
 induction l generalizing r with
 |nil=>
  cases r with
  |nil=>rfl
  |cons y r=>obtain⟨z,hz, -⟩:=h2 y (List.mem_cons_self ..);cases hz
 |cons x l ih=>
 cases r with
 |nil=>obtain⟨z,hz, -⟩:=h1 x (List.mem_cons_self ..);cases hz
 |cons y r=>
 obtain⟨p1,p2⟩:=List.pairwise_cons.1 hl
 obtain⟨q1,q2⟩:=List.pairwise_cons.1 hr
 have hxy:zu x=zu y:=by
  obtain⟨z,hz,e⟩:=h1 x (List.mem_cons_self ..)
  rcases List.mem_cons.1 hz with rfl|hz
  ·exact e.symm
  obtain⟨u,hu,e2⟩:=h2 y (List.mem_cons_self ..)
  rcases List.mem_cons.1 hu with rfl|hu
  ·exact e2
  have a:=q1 z hz
  have b:=p1 u hu
  rw [e] at a
  rw [e2] at b
  have:=kG a b
  rw [qY] at this
  omega
 have hxe:=key x y (.inl (List.mem_cons_self ..)) (.inr (List.mem_cons_self ..)) hxy
 subst hxe
 congr 1
 refine ih p2 q2 (λz hz=> ?_) (λz hz=> ?_) (λa b ha hb=>key a b (ha.imp (List.mem_cons_of_mem _) (List.mem_cons_of_mem _)) (hb.imp (List.mem_cons_of_mem _) (List.mem_cons_of_mem _)))
 ·obtain⟨u,hu,e⟩:=h1 z (List.mem_cons_of_mem _ hz)
  rcases List.mem_cons.1 hu with rfl|hu
  ·have:=p1 z hz
   rw [<-e,qY] at this;omega
  exact⟨u,hu,e⟩
 obtain⟨u,hu,e⟩:=h2 z (List.mem_cons_of_mem _ hz)
 rcases List.mem_cons.1 hu with rfl|hu
 ·have:=q1 z hz
  rw [<-e,qY] at this;omega
 exact⟨u,hu,e⟩
