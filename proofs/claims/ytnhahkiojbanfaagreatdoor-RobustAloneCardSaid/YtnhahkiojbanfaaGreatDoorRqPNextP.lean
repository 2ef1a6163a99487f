/- Steps. -/
import Derived.Test.YtnhahkiojbanfaaGreatDoorRqPTryP
set_option linter.all false
namespace Go.Proofs.YtnhahkiojbanfaaGreatDoor
open Go.RowKit
set_option maxRecDepth 100000
set_option maxHeartbeats 16000000
structure kX (V X:World) (B:Nat) (u1 u2:Value) (e1:TypeId) (s1:Nat) (v1:Value) (n1:Nat) (xs1:List Value) (e2:TypeId) (s2:Nat) (v2:Value) (n2:Nat) (xs2:List Value) (bs:List (Nat × TypeId × List Value)):Prop where
 since:Since (λx=>u1.ownBlock=some x\/u2.ownBlock=some x) V X
 r1:X.ownsRow B e1 s1 v1 n1 xs1
 r2:X.ownsRow B e2 s2 v2 n2 xs2
 l1:∀x,v1.ownBlock=some x->u1.ownBlock=some x\/V.heap.size<=x
 l2:∀x,v2.ownBlock=some x->u2.ownBlock=some x\/V.heap.size<=x
 news:∀p∈bs,X.heap[p.1]? =some (.cells p.2.2.toArray p.2.1 (0,0))/\v1.ownBlock≠some p.1/\v2.ownBlock≠some p.1
 base:B<=X.heap.size
section
variable {V X:World} {B:Nat} {u1 u2 v1 v2:Value} {e1 e2:TypeId} {s1 s2 n1 n2:Nat} {xs1 xs2:List Value} {bs:List (Nat × TypeId × List Value)}
theorem kX.start (h1:V.ownsRow B e1 s1 v1 n1 xs1) (h2:V.ownsRow B e2 s2 v2 n2 xs2) (hB:B<=V.heap.size):kX V V.drew B v1 v2 e1 s1 v1 n1 xs1 e2 s2 v2 n2 xs2 [] :=
 ⟨(Since.refl _ _).drew,(Since.refl (λ_=>False) V).drew.row h1 (λ_ _ h=>h),(Since.refl (λ_=>False) V).drew.row h2 (λ_ _ h=>h),λ_ h=> .inl h,λ_ h=> .inl h,by simp,hB⟩
theorem kX.alloc (h:kX V X B u1 u2 e1 s1 v1 n1 xs1 e2 s2 v2 n2 xs2 bs) (t:TypeId) (cs:List Value):kX V (X.alloc (.cells cs.toArray t)) B u1 u2 e1 s1 v1 n1 xs1 e2 s2 v2 n2 xs2 ((X.heap.size,t,cs)::bs):=by
 refine⟨h.since.alloc _,h.r1.alloc _,h.r2.alloc _,h.l1,h.l2, ?_,by have:=h.base;simp;omega⟩
 intro p hp
 rcases List.mem_cons.1 hp with rfl|hp
 ·exact⟨zS X _,λe=>by have:=(h.r1.lt _ e).2;simp at this,λe=>by have:=(h.r2.lt _ e).2;simp at this⟩
 obtain⟨a,b,c⟩:=h.news p hp
 exact⟨(Below.heap_alloc _ _ _ (zy a)).trans a,b,c⟩
theorem kX.app1 (h:kX V X B u1 u2 e1 s1 v1 n1 xs1 e2 s2 v2 n2 xs2 bs) (hne:e1≠e2) {X':World} {v1':Value} {m:Nat} {xs':List Value} (ho:X'.ownsRow B e1 s1 v1' m xs') (hs:Since (λk=>v1.ownBlock=some k) X X') (hl:∀k,v1'.ownBlock=some k->v1.ownBlock=some k\/k=X.heap.size):
  kX V X' B u1 u2 e1 s1 v1' m xs' e2 s2 v2 n2 xs2 bs:=by
 refine⟨h.since.trans hs (λi hi=>(h.l1 i hi).imp .inl id),ho,hs.row h.r2 (λk hk e=>yY h.r1 h.r2 hne k e hk),λx hx=> ?_,h.l2,λp hp=> ?_,Nat.le_trans h.base hs.size⟩
 ·rcases hl x hx with e|rfl
  ·exact h.l1 x e
  exact .inr h.since.size
 obtain⟨a,b,c⟩:=h.news p hp
 refine⟨(hs.block _ (zy a) b).trans a,λe=> ?_,c⟩
 rcases hl _ e with e'|e'
 ·exact b e'
 have:=zy a;omega
theorem kX.zfS (h:kX V X B u1 u2 e1 s1 v1 n1 xs1 e2 s2 v2 n2 xs2 bs) (hne:e1≠e2) {X':World} {v2':Value} {m:Nat} {xs':List Value} (ho:X'.ownsRow B e2 s2 v2' m xs') (hs:Since (λk=>v2.ownBlock=some k) X X') (hl:∀k,v2'.ownBlock=some k->v2.ownBlock=some k\/k=X.heap.size):
  kX V X' B u1 u2 e1 s1 v1 n1 xs1 e2 s2 v2' m xs' bs:=by
 refine⟨h.since.trans hs (λi hi=>(h.l2 i hi).imp .inr id),hs.row h.r1 (λk hk e=>yY h.r1 h.r2 hne k hk e),ho,h.l1,λx hx=> ?_,λp hp=> ?_,Nat.le_trans h.base hs.size⟩
 ·rcases hl x hx with e|rfl
  ·exact h.l2 x e
  exact .inr h.since.size
 obtain⟨a,b,c⟩:=h.news p hp
 refine⟨(hs.block _ (zy a) c).trans a,b,λe=> ?_⟩
 rcases hl _ e with e'|e'
 ·exact c e'
 have:=zy a;omega
theorem kX.cell (h:kX V X B u1 u2 e1 s1 v1 n1 xs1 e2 s2 v2 n2 xs2 bs) {b:Nat} {t:TypeId} {cs:List Value} (hb:(b,t,cs)∈bs):∀j x,cs[j]? =some x->X.cell? ((⟨b,0,none⟩:Addr).add j)=some x:=by
 intro j x hj
 have:=ze (h.news _ hb).1 j
 rw [show(⟨b,0,none⟩:Addr).add j=⟨b,j,none⟩ by simp [Addr.add];omega,this,List.getElem?_toArray]
 exact hj
end
def NF (F0:Nat->Prop) (v1 v2:Value) (k:Nat):Prop:=F0 k\/v1.ownBlock=some k\/v2.ownBlock=some k
structure qR (F0:Nat->Prop) (W X:World) (v1 v2:Value) (ml:List zo) (nl:List zi) (css:List (List Value)):Prop where
 row:X.ownsRow W.heap.size 70 3 v1 ml.length (zq zo.cells ml)
 st:yg (NF F0 v1 v2) X qO 3 W.heap.size 42 v2 nl css
 below:Below W.heap.size W X
section
variable {F0:Nat->Prop} {W V X:World} {v1 v2:Value} {ml:List zo} {nl:List zi} {css:List (List Value)}
theorem qR.begin (hb:Below W.heap.size W X):qR F0 W X (.slice none 0 0) (.slice none 0 0) [] [] [] :=
 ⟨World.ownsRow_nil _ _ _ _,yg.nil _ _ _ _ _ _,hb⟩
theorem qR.later (h:qR F0 W V v1 v2 ml nl css) (hb:Below V.heap.size V X):qR F0 W X v1 v2 ml nl css:=
 ⟨qC h.row hb,h.st.step (G:=λ_=>False) (qA _ hb) (λ_ _ h=>h) (λ_ h=>h.elim) (λ_ hk=> .inl hk),zM h.below hb⟩
theorem qR.push (h:qR F0 W V v1 v2 ml nl css) {v1' v2':Value} {x:zo} {t:zi} {cs:List Value} {bs:List (Nat × TypeId × List Value)}
  (hT:kX V X W.heap.size v1 v2 70 3 v1' (ml.length+1) (zq zo.cells ml++zo.cells x) 42 3 v2' (nl.length+1) (css.flatten++cs) bs) (hx:zO (NF F0 v1 v2) V (λy=>qO y t cs)) (hc:cs.length=3):
  qR F0 W X v1' v2' (ml++ [x]) (nl++ [t]) (css++ [cs]):=by
 refine⟨?_, ?_, ?_⟩
 ·rw [List.length_append,zcP];exact hT.r1
 ·refine h.st.push (G:=λk=>v1.ownBlock=some k\/v2.ownBlock=some k) hT.since (λk hk=> .inl (.inr hk)) (λk hk=> ?_) hx hc hT.r2
  rcases hk with e|e|e
  ·exact .inl (.inl e)
  ·exact(hT.l1 k e).elim (λe=> .inl (.inr (.inl e))) .inr
  exact(hT.l2 k e).elim (λe=> .inl (.inr (.inr e))) .inr
 refine h.below.trans (hT.since.below h.below.size (λk hk=> ?_))
 rcases hk with e|e
 ·exact(h.row.lt k e).1
 exact(h.st.row.lt k e).1
theorem qR.less (h:qR F0 W V v1 v2 ml nl css) {F1:Nat->Prop} (hF:∀k,F1 k->F0 k\/V.heap.size<=k):qR F1 W V v1 v2 ml nl css:=by
 refine⟨h.row,h.st.step (G:=λ_=>False) (Since.refl _ _) (λ_ _ h=>h) (λ_ h=>h.elim) (λk hk=> ?_),h.below⟩
 rcases hk with e|e
 ·exact(hF k e).imp .inl id
 exact .inl (.inr e)
theorem qR.side (h:qR F0 W V v1 v2 ml nl css) {B n:Nat} {av:Value} {xs:List Value} {o:Obj} (ha:V.ownsRow B 70 3 av n xs) (hB:∀k,B<=k->F0 k) (hWB:W.heap.size<=B) (hne:∀k,v1.ownBlock=some k->av.ownBlock≠some k) (hs:Since (λk=>av.ownBlock=some k) (V.alloc o) X):
  qR F0 W X v1 v2 ml nl css:=by
 have hs2:Since (λk=>av.ownBlock=some k) V X:=((Since.refl _ V).alloc o).trans hs (λ_ hk=> .inl hk)
 refine⟨hs2.row h.row (λk hk e=>hne k hk e),h.st.step hs2 (λk hk e=>yY ha h.st.row (by decide) k e hk) (λk hk=> .inl (.inl (hB k (ha.lt k hk).1))) (λ_ hk=> .inl hk),h.below.trans (hs2.below h.below.size (λk hk=>Nat.le_trans hWB (ha.lt k hk).1))⟩
theorem qR.beside (h:qR F0 W V v1 v2 ml nl css) {B n:Nat} {av v1' v2':Value} {xs:List Value} {n1 n2:Nat} {xs1 xs2:List Value} {bs:List (Nat × TypeId × List Value)} (ha:V.ownsRow B 70 3 av n xs) (hne:∀k,v1.ownBlock=some k->av.ownBlock≠some k)
  (hT:kX V X W.heap.size v1 v2 70 3 v1' n1 xs1 42 3 v2' n2 xs2 bs):X.ownsRow B 70 3 av n xs/\∀k,v1'.ownBlock=some k->av.ownBlock≠some k:=by
 refine⟨hT.since.row ha (λk hk e=> ?_),λk hk e=> ?_⟩
 ·rcases e with e|e
  ·exact hne k e hk
  exact yY ha h.st.row (by decide) k hk e
 rcases hT.l1 k hk with e1|e1
 ·exact hne k e1 e
 have:=(ha.lt k e).2;omega
end
theorem zeG.told {w w':World} {FW:World->zi->Value->Value->Prop} {r:Option zi} {e:Ending} (h:zeG w FW r e w'):∃xa xn xc ya yn yc bd isv,e= .returned (.tuple #[.agg #[.slice xa xn xc, .slice ya yn yc, .bool bd], .bool isv])/\isv=r.isSome/\∀t,r=some t->bd=t.bad/\FW w' t (.slice xa xn xc) (.slice ya yn yc):=by
 rcases h.2 with⟨h1,h2⟩|⟨t,xa,xn,xc,ya,yn,yc,h1,h2,h3⟩
 ·exact⟨none,0,0,none,0,0,false,false,h2,by rw [h1];rfl,λt ht=>by rw [h1] at ht;cases ht⟩
 exact⟨xa,xn,xc,ya,yn,yc,t.bad,true,h2,by rw [h1];rfl,λt' ht=>by rw [h1] at ht;cases ht;exact⟨rfl,h3⟩⟩
def allT (m:zu) (s:zi) (i:Nat):List zo:=⟨1,(i:Int),0⟩::(yE (s.threads.getD i default).buf m.model).map λv=>⟨2,(i:Int),v⟩
def zbT (c:zx) (m:zu) (s:zi) (d i:Nat) (x:zo):Option zi:=gK c m s i x.kind x.var d
theorem znZ (c:zx) (m:zu) (s:zi) (d i:Nat):zbT c m s d i ⟨1,(i:Int),0⟩=vF c m s i d:=by
 unfold zbT gK
 rw [if_pos ⟨rfl,rfl⟩]
theorem zlZ {c:zx} {m:zu} {s:zi} {d i:Nat} {v:Int} (hv:v∈yE (s.threads.getD i default).buf m.model):zbT c m s d i ⟨2,(i:Int),v⟩=some (wV s i v):=by
 unfold zbT gK
 rw [if_neg (by rintro⟨h, -⟩;simp at h),if_pos ⟨rfl,hv⟩]
theorem all_some {α β:Type} (f:α->Option β) (g:α->β):∀l:List α,(∀x∈l,f x=some (g x))->l.filter (λx=>(f x).isSome)=l/\l.filterMap f=l.map g
 | [],_=>⟨rfl,rfl⟩
 |x::l,h=>by
  obtain⟨h1,h2⟩:=all_some f g l (λy hy=>h y (List.mem_cons_of_mem _ hy))
  have hx:=h x (List.mem_cons_self ..)
  refine⟨?_, ?_⟩
  ·rw [List.filter_cons_of_pos (by rw [hx];rfl),h1]
  rw [List.filterMap_cons_some hx,h2];rfl
def zhr (c:zx) (m:zu) (s:zi) (d i:Nat):List zi:=(wU c m s d i).map λx=>(qD c m s x d).1
def zfa (c:zx) (m:zu) (s:zi) (d:Nat):List zi:=(yF c m s d).map λx=>(qD c m s x d).1
theorem znK {c:zx} {m:zu} {s:zi} {d i:Nat} (hf:zP c m s=true) (hi:i<s.threads.length):(allT m s i).filter (λx=>(zbT c m s d i x).isSome)=wU c m s d i/\(allT m s i).filterMap (zbT c m s d i)=zhr c m s d i:=by
 have hr:∀x∈(yE (s.threads.getD i default).buf m.model).map (λv=>(⟨2,(i:Int),v⟩:zo)),zbT c m s d i x=some (qD c m s x d).1:=by
  intro x hx
  obtain⟨v,hv,rfl⟩:=List.mem_map.1 hx
  have h:=zlZ (c:=c) (d:=d) hv
  have hdo:=zkt (x:=⟨2,(i:Int),v⟩) (d:=d) hf ⟨by simp,by simpa using hi⟩
  simp only [Int.toNat_natCast] at hdo
  rw [h,hdo,show gK c m s i 2 v d=some (wV s i v) from h];rfl
 obtain⟨h1,h2⟩:=all_some (zbT c m s d i) (λx=>(qD c m s x d).1) _ hr
 have hdo:=zkt (c:=c) (m:=m) (x:=⟨1,(i:Int),0⟩) (d:=d) hf ⟨by simp,by simpa using hi⟩
 simp only [Int.toNat_natCast] at hdo
 have hst:=znZ c m s d i
 unfold zhr wU allT
 cases hs:vF c m s i d with
 |none=>
  rw [hs] at hst
  rw [List.filter_cons_of_neg (by rw [hst];simp),h1,List.filterMap_cons_none hst,h2]
  exact⟨rfl,rfl⟩
 |some t=>
 rw [hs] at hst
 have e:(qD c m s ⟨1,(i:Int),0⟩ d).1=t:=by rw [hdo,show gK c m s i 1 0 d=some t from hst];rfl
 rw [List.filter_cons_of_pos (by rw [hst];rfl),h1,List.filterMap_cons_some hst,h2]
 refine⟨rfl, ?_⟩
 show t::_=(qD c m s ⟨1,(i:Int),0⟩ d).1::_
 rw [e]
 rfl
theorem zpT {c:zx} {m:zu} {s:zi} {d:Nat} (hf:zP c m s=true):zfa c m s d=(List.range s.threads.length).flatMap (zhr c m s d):=by
 unfold zfa yF
 rw [if_pos hf,List.map_flatMap];rfl
theorem zj8 {α:Type} [Inhabited α] {l:List α} {k:Nat} (hk:k<l.length) (p:α->Bool):(l.take (k+1)).filter p=(l.take k).filter p++(if p (l.getD k default) then [l.getD k default] else []):=by
 rw [bO hk rfl,List.filter_append]
 congr 1
 cases h:p (l.getD k default)
 ·rw [List.filter_cons_of_neg (by rw [h];simp)];simp
 rw [List.filter_cons_of_pos h];simp
theorem zgc {α β:Type} [Inhabited α] {l:List α} {k:Nat} (hk:k<l.length) (f:α->Option β):(l.take (k+1)).filterMap f=(l.take k).filterMap f++(match f (l.getD k default) with|some y=> [y] |none=> []):=by
 rw [bO hk rfl,List.filterMap_append]
 congr 1
 cases h:f (l.getD k default)
 ·rw [List.filterMap_cons_none h];rfl
 rw [List.filterMap_cons_some h];rfl
def zbF (F0:Nat->Prop) (w:World) (ml:List zo) (nl:List zi) (e:Ending) (w':World):Prop:=
 (∃va vc xa xc css,e= .returned (.tuple #[.slice va ml.length vc, .slice xa nl.length xc])/\w'.ownsRow w.heap.size 70 3 (.slice va ml.length vc) ml.length (zq zo.cells ml)/\yg F0 w' qO 3 w.heap.size 42 (.slice xa nl.length xc) nl css)/\Below w.heap.size w w'
theorem qR.fin {F0:Nat->Prop} {w W X:World} {va xa:Option Addr} {n vc k xc:Nat} {ml:List zo} {nl:List zi} {css:List (List Value)} (h:qR F0 W X (.slice va n vc) (.slice xa k xc) ml nl css) (hb:Below w.heap.size w W) (hn:ml.length=n) (hk:nl.length=k):
  zbF F0 w ml nl (.returned (.tuple #[.slice va n vc, .slice xa k xc])) X:=by
 subst hn hk
 refine⟨⟨va,vc,xa,xc,css,rfl,kK h.row hb.size, ?_⟩,hb.trans (h.below.mono hb.size)⟩
 exact⟨h.st.len,λj hj=>⟨(h.st.part j hj).1,λy hy=>(h.st.part j hj).2 y (hy.mono (λk _ hk=> .inl hk))⟩,kK h.st.row hb.size⟩
