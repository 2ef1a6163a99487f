/- Steps. -/
import Derived.Test.YtnhahkiojbanfaaGreatDoorRsMoves
set_option linter.all false
namespace Go.Proofs.YtnhahkiojbanfaaGreatDoor
open Go.RowKit
set_option maxRecDepth 100000
set_option maxHeartbeats 16000000
theorem yE {w:World} {B C:Nat} {e e':TypeId} {size size':Nat} {v v':Value} {n n':Nat} {xs xs':List Value} (h:w.ownsRow B e size v n xs) (h':w.ownsRow C e' size' v' n' xs') (hne:e≠e'):∀k,v.ownBlock=some k->v'.ownBlock≠some k:=by
 intro k h1 h2
 rcases h'.2 with⟨rfl, -⟩|⟨g,cap,cur,rfl, -,hg, -⟩
 ·simp [Value.ownBlock] at h2
 simp only [Value.ownBlock,Option.some.injEq] at h2
 subst h2
 exact uD h h1 hg hne
structure yV {α:Type} [Inhabited α] (F:Nat->Prop) (X:World) (R:World->α->List Value->Prop) (size B:Nat) (e:TypeId) (v:Value) (l:List α) (css:List (List Value)):Prop where
 len:css.length=l.length
 part:∀j,j<l.length->(css.getD j []).length=size/\zW F X (λy=>R y (l.getD j default) (css.getD j []))
 row:X.ownsRow B e size v l.length css.flatten
section
variable {α:Type} [Inhabited α] {F F' G:Nat->Prop} {X X':World} {R:World->α->List Value->Prop} {size B:Nat} {e:TypeId} {v v':Value} {l:List α} {css:List (List Value)}
theorem yV.nil (F:Nat->Prop) (X:World) (R:World->α->List Value->Prop) (size B:Nat) (e:TypeId):yV F X R size B e (.slice none 0 0) [] [] :=⟨rfl,λj hj=>by simp at hj,World.ownsRow_nil _ _ _ _⟩
theorem yV.step (h:yV F X R size B e v l css) (hs:Since G X X') (hv:∀k,v.ownBlock=some k->¬G k) (hG:∀k,G k->F k\/X.heap.size<=k) (hF:∀k,F' k->F k\/X.heap.size<=k):yV F' X' R size B e v l css:=
 ⟨h.len,λj hj=>⟨(h.part j hj).1,(h.part j hj).2.step hs hG hF⟩,hs.row h.row hv⟩
theorem j4 {β:Type} {l:List β} {x d:β} {j:Nat} (hj:j<l.length):(l++ [x]).getD j d=l.getD j d:=by
 simp only [List.getD_eq_getElem?_getD,List.getElem?_append_left hj]
theorem jV {β:Type} {l:List β} {x d:β} :(l++ [x]).getD l.length d=x:=by
 simp [List.getD_eq_getElem?_getD]
theorem yV.push (h:yV F X R size B e v l css) (hs:Since G X X') (hG:∀k,G k->F k\/X.heap.size<=k) (hF:∀k,F' k->F k\/X.heap.size<=k) {x:α} {cs:List Value} (hx:zW F X (λy=>R y x cs)) (hc:cs.length=size)
  (h1:X'.ownsRow B e size v' (l.length+1) (css.flatten++cs)):yV F' X' R size B e v' (l++ [x]) (css++ [cs]):=by
 refine⟨by simp [h.len],λj hj=> ?_, ?_⟩
 ·rw [List.length_append] at hj
  simp only [List.length_cons,List.length_nil] at hj
  by_cases e:j=l.length
  ·subst e
   rw [jV,show l.length=css.length from h.len.symm,jV]
   exact⟨hc,hx.step hs hG hF⟩
  have hj':j<l.length:=by omega
  rw [j4 hj',j4 (by rw [h.len];exact hj')]
  exact⟨(h.part j hj').1,(h.part j hj').2.step hs hG hF⟩
 rw [List.length_append,List.flatten_append]
 simpa using h1
theorem zca {css:List (List Value)} {size:Nat} :∀ {j i:Nat},(∀j,j<css.length->(css.getD j []).length=size)->j<css.length->i<size->css.flatten[j*size+i]? =(css.getD j [])[i]? :=by
 induction css with
 |nil=>intro j i _ hj;simp at hj
 |cons c css ih=>
 intro j i h hj hi
 have h0:=h 0 (by simp)
 simp only [List.getD_cons_zero] at h0
 cases j with
 |zero=>rw [List.flatten_cons,Nat.zero_mul,Nat.zero_add,List.getElem?_append_left (by rw [h0];exact hi)];rfl
 |succ j=>
 rw [List.flatten_cons,List.getElem?_append_right (by rw [h0,Nat.add_mul];omega),h0,show(j+1)*size+i - size=j*size+i by rw [Nat.add_mul];omega]
 exact ih (λj hj=>by have:=h (j+1) (by simpa using hj);simpa using this) (by simpa using hj) hi
theorem yV.slice (h:yV F X R size B e v l css):zh R size X v l:=
 zh.zct h.row λj hj=>⟨css.getD j [],(h.part j hj).1,λi hi=>zca (λj hj=>(h.part j (by rw [<-h.len];exact hj)).1) (by rw [h.len];exact hj) hi,(h.part j hj).2.now⟩
end
def bL (w:World) (l:List zq) (cs:List Value):Prop:=∃v,cs= [v] /\j6 w v l
theorem bL.stays:kP bL:=λ_ _ _ _ ⟨v,h,h2⟩ hb=>⟨v,h,zh.below zcZ.stays h2 hb⟩
def zbw (w:World) (l:List Int) (cs:List Value):Prop:=∃v,cs= [v] /\qm w v l
theorem zbw.stays:kP zbw:=λ_ _ _ _ ⟨v,h,h2⟩ hb=>⟨v,h,zh.below zae.stays h2 hb⟩
theorem zbj {w:World} {B:Nat} {sv:Value} {l:List zq} (h:w.ownsRow B 70 3 sv l.length (zo zq.cells l)):j6 w sv l:=zh.of_flat (R:=zcZ) (f:=zq.cells) bR (λ_ _=>rfl) h
structure yH where
 states:List zi
 moves:List (List zq)
 next:List (List Int)
instance:Inhabited yH:=⟨⟨[], [], []⟩⟩
def xX (c:zD) (m:zy) (d:Nat) (room:Int) (s:zi):List zq->List zi->List Int->Option (List zi × List Int)
 | [],l,nx=>some (l,nx)
 |x::ms,l,nx=>if room<=((putAt l (qB c m s x d).1).2:Int) then none else xX c m d room s ms (putAt l (qB c m s x d).1).1 (nx++ [((putAt l (qB c m s x d).1).2:Int)])
def qO (c:zD) (m:zy) (d:Nat) (room:Int):Nat->Nat->List zi->List (List zq)->List (List Int)->Option yH
 |0,_,_,_,_=>none
 |f+1,i,l,ml,nl=>
 if i<l.length then
  match xX c m d room (l.getD i default) (xH c m (l.getD i default) d) l [] with
  |none=>none
  |some r=>qO c m d room f (i+1) r.1 (ml++ [xH c m (l.getD i default) d]) (nl++ [r.2])
 else some ⟨l,ml,nl⟩
def yt (c:zD) (m:zy) (room:Int) (d:Nat):yH × Int:=
 if qA c m=false\/room<1\/100000<room then(⟨[], [], []⟩,1)
 else match qO c m d room (room.toNat+1) 0 [xY c] [] [] with
  |some s=>(s,0)
  |none=>(⟨[], [], []⟩,40)
def XF (g r:Nat) (sv mv nv xv:Value) (k:Nat):Prop:=(k=g\/k<=r)\/sv.ownBlock=some k\/mv.ownBlock=some k\/nv.ownBlock=some k\/xv.ownBlock=some k
structure wz (W X:World) (g r:Nat) (sv mv nv xv:Value) (sl:List zi) (ml:List (List zq)) (nl:List (List Int)) (xl:List Int) (sc mc nc:List (List Value)):Prop where
 below:Below W.heap.size W X
 lo:W.heap.size<=g
 rlo:r<W.heap.size
 box:X.heap[g]? =some (.cells #[sv,mv,nv] 49 (0,0))
 st:yV (XF g r sv mv nv xv) X qo 3 W.heap.size 42 sv sl sc
 mo:yV (XF g r sv mv nv xv) X bL 1 W.heap.size 32 mv ml mc
 ne:yV (XF g r sv mv nv xv) X zbw 1 W.heap.size 31 nv nl nc
 xr:X.ownsRow W.heap.size 3 1 xv xl.length (zo yM xl)
section
variable {W X X1:World} {g r:Nat} {sv mv nv xv uo:Value} {sl:List zi} {ml:List (List zq)} {nl:List (List Int)} {xl:List Int} {sc mc nc:List (List Value)}
theorem yD {B e size n g:Nat} {v:Value} {xs:List Value} {c:Array Value} {t:TypeId} {f:Nat × Nat} (h:X.ownsRow B e size v n xs) (hb:X.heap[g]? =some (.cells c t f)) (hne:e≠t):∀k,v.ownBlock=some k->k≠g:=λk h1 e=>by
 subst e;exact uD h h1 hb hne
theorem wz.call (h:wz W X g r sv mv nv xv sl ml nl xl sc mc nc) (hb:Below X.heap.size X X1):wz W X1 g r sv mv nv xv sl ml nl xl sc mc nc:=by
 have hs:Since (λ_=>False) X X1:=xU _ hb
 exact⟨zH h.below hb,h.lo,h.rlo,(hb.block _ (zw h.box)).trans h.box,h.st.step hs (λ_ _ h=>h) (λ_ h=>h.elim) (λ_ h=> .inl h),h.mo.step hs (λ_ _ h=>h) (λ_ h=>h.elim) (λ_ h=> .inl h),h.ne.step hs (λ_ _ h=>h) (λ_ h=>h.elim) (λ_ h=> .inl h),qp h.xr hb⟩
theorem wz.zkK (h:wz W X g r sv mv nv xv sl ml nl xl sc mc nc) {o:Obj} {x:zi} {cs:List Value} (hx:zW (XF g r sv mv nv xv) X (λy=>qo y x cs)) (hc:cs.length=3) (h1:X1.ownsRow W.heap.size 42 3 uo (sl.length+1) (sc.flatten++cs))
  (h4:Since (λk=>sv.ownBlock=some k) (X.alloc o) X1) (h5:∀k,uo.ownBlock=some k->sv.ownBlock=some k\/k=(X.alloc o).heap.size):wz W (X1.setCell ⟨g,0,none⟩ uo) g r uo mv nv xv (sl++ [x]) ml nl xl (sc++ [cs]) mc nc:=by
 have hg:=zw h.box
 have s1:Since (λk=>sv.ownBlock=some k) X X1:=((Since.refl _ X).alloc o).trans h4 (λk hk=> .inl hk)
 have b1:X1.heap[g]? =some (.cells #[sv,mv,nv] 49 (0,0)):=(s1.block _ hg (λe=>yD h.st.row h.box (by decide) _ e rfl)).trans h.box
 have s2:Since (λk=>k=g\/sv.ownBlock=some k) X (X1.setCell ⟨g,0,none⟩ uo):=(s1.mono (G:=λk=>k=g\/sv.ownBlock=some k) (λ_ _ h=> .inr h)).setCell (p:=⟨g,0,none⟩) (.inl (.inl rfl)) _
 have hG:∀k,(k=g\/sv.ownBlock=some k)->XF g r sv mv nv xv k\/X.heap.size<=k:=λk hk=> .inl (hk.elim (λh=> .inl (.inl h)) (λh=> .inr (.inl h)))
 have hF:∀k,XF g r uo mv nv xv k->XF g r sv mv nv xv k\/X.heap.size<=k:=λk hk=>by
  rcases hk with hk|hk|hk
  ·exact .inl (.inl hk)
  ·rcases h5 k hk with h6|h6
   ·exact .inl (.inr (.inl h6))
   refine .inr ?_;simp at h6;omega
  exact .inl (.inr (.inr hk))
 have zc3:(X1.setCell ⟨g,0,none⟩ uo).ownsRow W.heap.size 42 3 uo (sl.length+1) (sc.flatten++cs):=(Since.setCell (F:=λk=>k=g) (p:=⟨g,0,none⟩) (Since.refl _ X1) (.inl rfl) _).row h1 (λk hk e=>yD h1 b1 (by decide) k hk e)
 refine⟨h.below.trans (s2.below h.below.size (λk hk=>hk.elim (λe=>by rw [e];exact h.lo) (λe=>(h.st.row.lt k e).1))),h.lo,h.rlo, ?_,h.st.push s2 hG hF hx hc zc3,h.mo.step s2 ?_ hG hF,h.ne.step s2 ?_ hG hF,s2.row h.xr ?_⟩
 ·have:=zu b1 0 uo;simpa using this
 ·exact λk hk e=>e.elim (λe=>yD h.mo.row h.box (by decide) k hk e) (λe=>yE h.mo.row h.st.row (by decide) k hk e)
 ·exact λk hk e=>e.elim (λe=>yD h.ne.row h.box (by decide) k hk e) (λe=>yE h.ne.row h.st.row (by decide) k hk e)
 exact λk hk e=>e.elim (λe=>yD h.xr h.box (by decide) k hk e) (λe=>yE h.xr h.st.row (by decide) k hk e)
theorem wz.zkL (h:wz W X g r sv mv nv xv sl ml nl xl sc mc nc) {o:Obj} {x:Int} {xv':Value} (h1:X1.ownsRow W.heap.size 3 1 xv' (xl.length+1) (zo yM xl++ [.int .i64 x]))
  (h4:Since (λk=>xv.ownBlock=some k) (X.alloc o) X1) (h5:∀k,xv'.ownBlock=some k->xv.ownBlock=some k\/k=(X.alloc o).heap.size):wz W X1 g r sv mv nv xv' sl ml nl (xl++ [x]) sc mc nc:=by
 have hg:=zw h.box
 have s1:Since (λk=>xv.ownBlock=some k) X X1:=((Since.refl _ X).alloc o).trans h4 (λk hk=> .inl hk)
 have hG:∀k,xv.ownBlock=some k->XF g r sv mv nv xv k\/X.heap.size<=k:=λk hk=> .inl (.inr (.inr (.inr (.inr hk))))
 have hF:∀k,XF g r sv mv nv xv' k->XF g r sv mv nv xv k\/X.heap.size<=k:=λk hk=>by
  rcases hk with hk|hk|hk|hk|hk
  ·exact .inl (.inl hk)
  ·exact .inl (.inr (.inl hk))
  ·exact .inl (.inr (.inr (.inl hk)))
  ·exact .inl (.inr (.inr (.inr (.inl hk))))
  rcases h5 k hk with h6|h6
  ·exact .inl (.inr (.inr (.inr (.inr h6))))
  refine .inr ?_;simp at h6;omega
 refine⟨h.below.trans (s1.below h.below.size (λk hk=>(h.xr.lt k hk).1)),h.lo,h.rlo,(s1.block _ hg (λe=>yD h.xr h.box (by decide) _ e rfl)).trans h.box,h.st.step s1 ?_ hG hF,h.mo.step s1 ?_ hG hF,h.ne.step s1 ?_ hG hF, ?_⟩
 ·exact λk hk e=>yE h.st.row h.xr (by decide) k hk e
 ·exact λk hk e=>yE h.mo.row h.xr (by decide) k hk e
 ·exact λk hk e=>yE h.ne.row h.xr (by decide) k hk e
 rw [List.length_append,zb5];exact h1
theorem wz.z2N (h:wz W X g r sv mv nv xv sl ml nl xl sc mc nc) {o:Obj} {x:List zq} {cs:List Value} {mv':Value} (hx:zW (XF g r sv mv nv xv) X (λy=>bL y x cs)) (hc:cs.length=1) (h1:X1.ownsRow W.heap.size 32 1 mv' (ml.length+1) (mc.flatten++cs))
  (h4:Since (λk=>mv.ownBlock=some k) (X.alloc o) X1) (h5:∀k,mv'.ownBlock=some k->mv.ownBlock=some k\/k=(X.alloc o).heap.size):wz W (X1.setCell ⟨g,1,none⟩ mv') g r sv mv' nv xv sl (ml++ [x]) nl xl sc (mc++ [cs]) nc:=by
 have hg:=zw h.box
 have s1:Since (λk=>mv.ownBlock=some k) X X1:=((Since.refl _ X).alloc o).trans h4 (λk hk=> .inl hk)
 have b1:X1.heap[g]? =some (.cells #[sv,mv,nv] 49 (0,0)):=(s1.block _ hg (λe=>yD h.mo.row h.box (by decide) _ e rfl)).trans h.box
 have s2:Since (λk=>k=g\/mv.ownBlock=some k) X (X1.setCell ⟨g,1,none⟩ mv'):=(s1.mono (G:=λk=>k=g\/mv.ownBlock=some k) (λ_ _ h=> .inr h)).setCell (p:=⟨g,1,none⟩) (.inl (.inl rfl)) _
 have hG:∀k,(k=g\/mv.ownBlock=some k)->XF g r sv mv nv xv k\/X.heap.size<=k:=λk hk=> .inl (hk.elim (λh=> .inl (.inl h)) (λh=> .inr (.inr (.inl h))))
 have hF:∀k,XF g r sv mv' nv xv k->XF g r sv mv nv xv k\/X.heap.size<=k:=λk hk=>by
  rcases hk with hk|hk|hk|hk
  ·exact .inl (.inl hk)
  ·exact .inl (.inr (.inl hk))
  ·rcases h5 k hk with h6|h6
   ·exact .inl (.inr (.inr (.inl h6)))
   refine .inr ?_;simp at h6;omega
  exact .inl (.inr (.inr (.inr hk)))
 have zc3:(X1.setCell ⟨g,1,none⟩ mv').ownsRow W.heap.size 32 1 mv' (ml.length+1) (mc.flatten++cs):=(Since.setCell (F:=λk=>k=g) (p:=⟨g,1,none⟩) (Since.refl _ X1) (.inl rfl) _).row h1 (λk hk e=>yD h1 b1 (by decide) k hk e)
 refine⟨h.below.trans (s2.below h.below.size (λk hk=>hk.elim (λe=>by rw [e];exact h.lo) (λe=>(h.mo.row.lt k e).1))),h.lo,h.rlo, ?_,h.st.step s2 ?_ hG hF,h.mo.push s2 hG hF hx hc zc3,h.ne.step s2 ?_ hG hF,s2.row h.xr ?_⟩
 ·have:=zu b1 1 mv';simpa using this
 ·exact λk hk e=>e.elim (λe=>yD h.st.row h.box (by decide) k hk e) (λe=>yE h.st.row h.mo.row (by decide) k hk e)
 ·exact λk hk e=>e.elim (λe=>yD h.ne.row h.box (by decide) k hk e) (λe=>yE h.ne.row h.mo.row (by decide) k hk e)
 exact λk hk e=>e.elim (λe=>yD h.xr h.box (by decide) k hk e) (λe=>yE h.xr h.mo.row (by decide) k hk e)
theorem wz.z2O (h:wz W X g r sv mv nv xv sl ml nl xl sc mc nc) {o:Obj} {uq:Value} (h1:X1.ownsRow W.heap.size 31 1 uq (nl.length+1) (nc.flatten++ [xv]))
  (h4:Since (λk=>nv.ownBlock=some k) (X.alloc o) X1) (h5:∀k,uq.ownBlock=some k->nv.ownBlock=some k\/k=(X.alloc o).heap.size):wz W (X1.setCell ⟨g,2,none⟩ uq) g r sv mv uq (.slice none 0 0) sl ml (nl++ [xl]) [] sc mc (nc++ [[xv]]):=by
 have hg:=zw h.box
 have s1:Since (λk=>nv.ownBlock=some k) X X1:=((Since.refl _ X).alloc o).trans h4 (λk hk=> .inl hk)
 have b1:X1.heap[g]? =some (.cells #[sv,mv,nv] 49 (0,0)):=(s1.block _ hg (λe=>yD h.ne.row h.box (by decide) _ e rfl)).trans h.box
 have s2:Since (λk=>k=g\/nv.ownBlock=some k) X (X1.setCell ⟨g,2,none⟩ uq):=(s1.mono (G:=λk=>k=g\/nv.ownBlock=some k) (λ_ _ h=> .inr h)).setCell (p:=⟨g,2,none⟩) (.inl (.inl rfl)) _
 have hG:∀k,(k=g\/nv.ownBlock=some k)->XF g r sv mv nv xv k\/X.heap.size<=k:=λk hk=> .inl (hk.elim (λh=> .inl (.inl h)) (λh=> .inr (.inr (.inr (.inl h)))))
 have hF:∀k,XF g r sv mv uq (.slice none 0 0) k->XF g r sv mv nv xv k\/X.heap.size<=k:=λk hk=>by
  rcases hk with hk|hk|hk|hk|hk
  ·exact .inl (.inl hk)
  ·exact .inl (.inr (.inl hk))
  ·exact .inl (.inr (.inr (.inl hk)))
  ·rcases h5 k hk with h6|h6
   ·exact .inl (.inr (.inr (.inr (.inl h6))))
   refine .inr ?_;simp at h6;omega
  simp [Value.ownBlock] at hk
 have zc3:(X1.setCell ⟨g,2,none⟩ uq).ownsRow W.heap.size 31 1 uq (nl.length+1) (nc.flatten++ [xv]):=(Since.setCell (F:=λk=>k=g) (p:=⟨g,2,none⟩) (Since.refl _ X1) (.inl rfl) _).row h1 (λk hk e=>yD h1 b1 (by decide) k hk e)
 have hxx:∀k,xv.ownBlock=some k->¬(k=g\/nv.ownBlock=some k):=λk hk e=>e.elim (λe=>yD h.xr h.box (by decide) k hk e) (λe=>yE h.xr h.ne.row (by decide) k hk e)
 have hxF:∀k,xv.ownBlock=some k->¬XF g r sv mv uq (.slice none 0 0) k:=λk hk e=>by
  rcases e with(e|e)|e|e|e|e
  ·exact yD h.xr h.box (by decide) k hk e
  ·have:=(h.xr.lt k hk).1;have:=h.rlo;omega
  ·exact yE h.xr h.st.row (by decide) k hk e
  ·exact yE h.xr h.mo.row (by decide) k hk e
  ·have hr:=s2.row h.xr hxx
   exact yE hr zc3 (by decide) k hk e
  simp [Value.ownBlock] at e
 have hnew:zW (XF g r sv mv uq (.slice none 0 0)) (X1.setCell ⟨g,2,none⟩ uq) (λy=>zbw y xl [xv]):=λy hy=>⟨xv,rfl,gN (hy.row (s2.row h.xr hxx) hxF)⟩
 refine⟨h.below.trans (s2.below h.below.size (λk hk=>hk.elim (λe=>by rw [e];exact h.lo) (λe=>(h.ne.row.lt k e).1))),h.lo,h.rlo, ?_,h.st.step s2 ?_ hG hF,h.mo.step s2 ?_ hG hF, ?_,World.ownsRow_nil _ _ _ _⟩
 ·have:=zu b1 2 uq;simpa using this
 ·exact λk hk e=>e.elim (λe=>yD h.st.row h.box (by decide) k hk e) (λe=>yE h.st.row h.ne.row (by decide) k hk e)
 ·exact λk hk e=>e.elim (λe=>yD h.mo.row h.box (by decide) k hk e) (λe=>yE h.mo.row h.ne.row (by decide) k hk e)
 have h0:=h.ne.step (F':=XF g r sv mv uq (.slice none 0 0)) (Since.refl (λ_=>False) X) (λ_ _ h=>h) (λ_ h=>h.elim) hF
 refine⟨by simp [h.ne.len],λj hj=> ?_, ?_⟩
 ·rw [List.length_append] at hj
  simp only [List.length_cons,List.length_nil] at hj
  by_cases e:j=nl.length
  ·subst e
   rw [jV,show nl.length=nc.length from h.ne.len.symm,jV]
   exact⟨rfl,hnew⟩
  have hj':j<nl.length:=by omega
  rw [j4 hj',j4 (by rw [h.ne.len];exact hj')]
  exact⟨(h.ne.part j hj').1,(h.ne.part j hj').2.step s2 hG hF⟩
 rw [List.length_append,List.flatten_append]
 simpa using zc3
theorem zl0 {F:Nat->Prop} {B:Nat} {s:zi} {tv mv:Value} {bs:List Value} (h:OwnAt B X tv mv s.threads s.mem bs) (hF:∀k,F k->k<B):zW F X (λy=>qo y s [tv,mv, .bool s.bad]):=λy hy=>
 ⟨tv,mv,rfl,(h.since hy (λk hk e=>by have:=(h.row.lt k hk).1;have:=hF k e;omega) (λk hk e=>by have:=(h.mem.lt k hk).1;have:=hF k e;omega) (λj hj k hk e=>by have:=((h.buf j hj).lt k hk).1;have:=hF k e;omega)).state s.bad⟩
theorem wz.blocks (h:wz W X g r sv mv nv xv sl ml nl xl sc mc nc):∀k,XF g r sv mv nv xv k->k<X.heap.size:=λk hk=>by
 rcases hk with(hk|hk)|hk|hk|hk|hk
 ·rw [hk];exact zw h.box
 ·exact Nat.lt_of_le_of_lt hk (Nat.lt_of_lt_of_le h.rlo h.below.size)
 ·exact(h.st.row.lt k hk).2
 ·exact(h.mo.row.lt k hk).2
 ·exact(h.ne.row.lt k hk).2
 exact(h.xr.lt k hk).2
end
end Go.Proofs.YtnhahkiojbanfaaGreatDoor
namespace Go.Proofs.YtnhahkiojbanfaaGreatDoor
open Go.RowKit
set_option maxRecDepth 100000
set_option maxHeartbeats 16000000
def wX (b:Nat) (s:zi):Prop:=∀j,j<s.threads.length->(s.threads.getD j default).buf.length<=b
theorem zjq {α:Type} {p:α->Bool} {l:List α} {b:Nat} [Inhabited α] (h:∀k,k<l.length->p (l.getD k default)=true->(l.take k).countP p<b):l.countP p<=b:=by
 have key:∀k,k<=l.length->(l.take k).countP p<=b:=by
  intro k
  induction k with
  |zero=>intro _;simp
  |succ k ih=>
  intro hk
  rw [List.take_succ_eq_append_getElem (by omega),List.countP_append]
  have h1:=ih (by omega)
  have h2:=h k (by omega)
  rw [List.getD_eq_getElem?_getD,List.getElem?_eq_getElem (by omega)] at h2
  simp only [Option.getD_some] at h2
  by_cases e:p l[k] =true
  ·have:=h2 e
   simp only [List.countP_cons,List.countP_nil,e,if_true];omega
  simp only [List.countP_cons,List.countP_nil,e];simp;omega
 have:=key l.length (Nat.le_refl _)
 rwa [List.take_length] at this
theorem znn {l:List zl} (h:∀x∈l,0<=x.var/\x.var<4):l.length=l.countP (λx=>decide (x.var=0))+l.countP (λx=>decide (x.var=1))+l.countP (λx=>decide (x.var=2))+l.countP (λx=>decide (x.var=3)):=by
 induction l with
 |nil=>rfl
 |cons x l ih=>
 have h1:=ih (λy hy=>h y (List.mem_cons_of_mem _ hy))
 have h2:=h x (List.mem_cons_self ..)
 simp only [List.length_cons,List.countP_cons,h1]
 have:x.var=0\/x.var=1\/x.var=2\/x.var=3:=by omega
 rcases this with e|e|e|e<;>simp [e] <;>omega
theorem zut {c:zD} {m:zy} {l:List zl} (hv:c.vars<=4) (hm:m.bound<=8) (h:∀k,k<l.length->qV c m l k=true):l.length<=32:=by
 have hf:∀k,k<l.length->qX (l.take k) m (l.getD k default)=true/\0<=(l.getD k default).var/\(l.getD k default).var<4:=λk hk=>by
  have:=h k hk
  unfold qV at this
  simp only [Bool.and_eq_true,decide_eq_true_eq] at this
  exact⟨this.1.1.1.1,this.1.1.1.2,by have:=this.1.1.2;omega⟩
 have hx:∀x∈l,0<=x.var/\x.var<4:=λx hx=>by
  obtain⟨k,hk,e⟩:=List.getElem_of_mem hx
  have:=hf k hk
  rw [List.getD_eq_getElem?_getD,List.getElem?_eq_getElem hk] at this
  rw [<-e];exact this.2
 have key:∀v:Int,l.countP (λx=>decide (x.var=v))<=8:=λv=>zjq λk hk hp=>by
  have h1:=(hf k hk).1
  have hp:(l.getD k default).var=v:=by simpa using hp
  unfold qX at h1
  simp only [Bool.and_eq_true,Bool.or_eq_true,decide_eq_true_eq] at h1
  obtain⟨-,h2⟩:=h1
  have h3:(l.take k).countP (λx=>decide (x.var=v))<=zem (l.take k) m (l.getD k default).var:=by
   unfold zem
   refine List.countP_mono_left (λx _ hx=> ?_)
   rw [hp]
   simp only [Bool.or_eq_true];exact .inr hx
  omega
 rw [znn hx]
 have:=key 0;have:=key 1;have:=key 2;have:=key 3
 omega
theorem zde {c:zD} {m:zy} {s:zi} (h:yB c m s=true):wX 32 s:=by
 intro j hj
 have h0:=h
 unfold yB at h
 simp only [Bool.and_eq_true,decide_eq_true_eq] at h
 obtain⟨⟨⟨⟨h1, -⟩, -⟩, -⟩,h5⟩:=h
 unfold qA at h1
 simp only [Bool.and_eq_true,decide_eq_true_eq] at h1
 have hb:=xV h1.1.1.1.1
 rw [List.all_eq_true] at h5
 have h6:=h5 j (List.mem_range.2 hj)
 unfold vS at h6
 simp only [Bool.and_eq_true,decide_eq_true_eq] at h6
 have h7:=h6.2
 rw [List.all_eq_true] at h7
 exact zut hb.2.1 h1.2 (λk hk=>h7 k (List.mem_range.2 hk))
theorem zrx {c:zD} {m:zy} {s:zi} {t:zx} {x:zS} {d:Nat} {r:zx × List Int × Bool} (h:stepT c m s t x d=some r):r.1.buf.length<=t.buf.length+1:=by
 have hp:∀b m e,(jM b m e).length<=b.length+1:=λb m e=>by unfold jM;split<;>simp
 by_cases h1:x.op=1
 ·rw [uE h1] at h;cases h;simp only [];omega
 by_cases h2:x.op=2
 ·by_cases hm:m.model=0
  ·rw [jW h2 hm] at h;cases h;simp only [];omega
  by_cases hq:qX t.buf m ⟨x.var,yw t.regs c.domain d x.a⟩=true
  ·rw [bO h2 hm hq] at h;cases h;exact hp _ _ _
  rw [bP h2 hm (by simpa using hq)] at h;cases h
 by_cases h3:x.op=3
 ·rw [za9 h3] at h;cases h;simp only [];omega
 by_cases h4:x.op=4
 ·rw [gF h4] at h;split at h
  ·cases h;simp only [];omega
  cases h
 by_cases h5:x.op=5
 ·rw [wU h5] at h;split at h
  ·cases h;simp only [];omega
  cases h
 by_cases h6:x.op=6
 ·by_cases hv:s.mem.getD x.var.toNat 0=yw t.regs c.domain d x.a
  ·rw [uF h6 hv] at h;split at h
   ·cases h;simp only [];omega
   cases h
  rw [uG h6 hv] at h;split at h
  ·cases h;simp only [];omega
  cases h
 by_cases h7:x.op=7
 ·rw [wV h7] at h;split at h
  ·cases h;simp only [];omega
  cases h
 by_cases h8:x.op=8
 ·rw [kZ h8] at h;split at h
  ·cases h;simp only [];omega
  cases h
 by_cases h9:x.op=9
 ·rw [jX h9] at h;cases h;simp only [];omega
 by_cases h12:x.op=12
 ·rw [wh h12] at h;cases h;simp only [];split<;>simp only [] <;>omega
 by_cases h13:x.op=13
 ·rw [pG h13] at h;cases h;simp only [];omega
 rw [zar h1 h2 h3 h4 h5 h6 h7 h8 h9 h12 h13] at h;cases h;simp only [];omega
theorem zl5 {b:Nat} {ts:List zx} {mem:List Int} {bad:Bool} {i:Nat} {t:zx} (h:∀j,j<ts.length->(ts.getD j default).buf.length<=b) (ht:t.buf.length<=b):wX b ⟨ts.set i t,mem,bad⟩:=by
 intro j hj
 simp only [List.length_set] at hj ⊢
 rw [vk hj]
 split
 ·exact ht
 exact h j hj
theorem zry (l:List zl) (v:Int):(takeB l v).2.length<=l.length:=zin l v l.length
theorem zoh {c:zD} {m:zy} {s:zi} {x:zq} {d:Nat} :wX 33 (qB c m s x d).1:=by
 have hE:wX 33 xA:=λj hj=>by simp [xA] at hj
 unfold qB
 by_cases hf:yB c m s=true
 rotate_left
 ·rw [if_neg hf];exact hE
 have hb:=zde hf
 rw [if_pos hf]
 split
 ·rename_i ht
  split
  ·cases hst:jl c m s x.thread.toNat d with
   |none=>exact hE
   |some t=>
   unfold jl at hst
   split at hst
   ·rw [Option.map_eq_some_iff] at hst
    obtain⟨r,h1,rfl⟩:=hst
    refine zl5 (λj hj=>by have:=hb j hj;omega) ?_
    have:=zrx h1
    have:=hb x.thread.toNat (by omega)
    omega
   cases hst
  split
  ·refine zl5 (λj hj=>by have:=hb j hj;omega) ?_
   simp only []
   have:=zry (s.threads.getD x.thread.toNat default).buf x.var
   have:=hb x.thread.toNat (by omega)
   omega
  exact hE
 exact hE
theorem zeo (c:zD):wX 33 (xY c):=by
 unfold xY
 split
 ·intro j hj
  simp only [List.length_replicate] at hj ⊢
  rw [List.getD_eq_getElem?_getD,List.getElem?_replicate,if_pos hj];simp [show(default:zx).buf= [] from rfl]
 intro j hj;simp at hj
theorem zii {c:zD} {m:zy} {s:zi} {d:Nat} :(xH c m s d).length<=132:=by
 unfold xH
 split
 ·rename_i hf
  have hb:=zde hf
  obtain⟨h1, -,h2, -, -⟩:=pK hf
  have h4:=(xV h1).2.2.2.2.2
  have key:∀k,k<=s.threads.length->((List.range k).flatMap (kY c m s d)).length<=33*k:=by
   intro k
   induction k with
   |zero=>intro _;simp
   |succ k ih=>
   intro hk
   rw [zaO,List.length_append]
   have:=ih (by omega)
   have h5:(kY c m s d k).length<=33:=by
    unfold kY
    have h6:=zcg (s.threads.getD k default).buf m.model
    have h7:=hb k (by omega)
    rw [List.length_append,List.length_map]
    split<;>simp only [List.length_cons,List.length_nil] <;>omega
   omega
  have:=key _ (Nat.le_refl _)
  omega
 simp
theorem zrt (l:List zi) (t:zi):(putAt l t).1.length<=l.length+1/\l.length<=(putAt l t).1.length/\(putAt l t).2<=l.length/\((putAt l t).1.length<=(putAt l t).2+1\/(putAt l t).1.length=l.length):=by
 unfold putAt
 split
 ·rename_i h
  have:=List.idxOf_le_length (a:=t) (l:=l)
  simp;omega
 simp
theorem vT {P:Program} (w:World) {ops:Array Oper} {rest:List Oper} {o:Oper} {a:Act} {Q:Exit->Act->World->Prop} (hgd:o.guard=none) (s x:Operand) (t:TypeId)
  (ho:o.op= .call { callee:= .builtin .append,args:= #[s,x],argTypes:= #[t,t] })
  (e:TypeId) (z:Value) (size bytes:Nat) (ht:P.underlying t=some (.slice e)) (hinfo:(P.info? e).map (λi=>(i.zero,i.size,i.bytes))=some (some z,size,bytes)) (hzs:z.cells.size=size) (hsz:0<size)
  (base:Nat) (v:Value) (n:Nat) (xs:List Value) (hs:a.eval s=v) (hown:w.ownsRow base e size v n xs)
  (ad:Option Addr) (m c:Nat) (news:List Value) (hx:a.eval x= .slice ad m c) (hl:news.length=m*size) (hnews:∀A,ad=some A->∀j u,news[j]? =some u->w.cell? (A.add j)=some u) (hnone:ad=none->m=0) (h1:∀u∈news,u.oneCell'=true)
  (h63:n+m<=maxLen) (hbytes:(n+m)*bytes<=140737488355328) (hbase:base<=w.heap.size)
  (h:∀a' cap' w',w'.ownsRow base e size (.slice a' (n+m) cap') (n+m) (xs++news)->cap'<=9223372036854775807->n+m<=cap'->Since (λk=>v.ownBlock=some k) w w'->
   (∀k,(Value.slice a' (n+m) cap').ownBlock=some k->v.ownBlock=some k\/k=w.heap.size)->
   wpList P ops Q rest (a.put o.dst (.slice a' (n+m) cap')) w'):wpList P ops Q (o::rest) a w:=by
 cases ad with
 |some A=>exact zI w hgd s x t ho e z size bytes ht hinfo hzs hsz base v n xs hs hown A m c news hx hl (hnews A rfl) h1 h63 hbytes hbase (λa' cap' w' p1 p2 p3 p4 p5 _=>h a' cap' w' p1 p2 p3 p4 p5)
 |none=>
 have hm:=hnone rfl
 subst hm
 have hn:news= [] :=List.eq_nil_of_length_eq_zero (by simpa using hl)
 subst hn
 obtain⟨i,hi,hz,hsize,hby⟩:=info_parts hinfo
 obtain⟨va,cap,rfl,hc1,hc2⟩:=xu hown
 have hr:(Builtin.append_ #[t,t] o.type #[.slice va n cap, .slice none 0 c]).run P w= .ok (.slice va n cap) w:=by
  cases va<;>simp [Builtin.append_,run_underlying ht,sizeOf,typeInfo,hi,Builtin.lenOf,Builtin.firstCells,hc1,storeCells]
 refine wpList_plain hgd λ_ hK=> ?_
 unfold Oper.wp execOp
 simp only [ho,resolve,invoke,builtin,Sem.run_bind,Sem.run_pure,Result.andThen_ok,List.map_toArray,List.map_cons,List.map_nil,hs,hx,hr]
 exact hK _ _ (h va cap w (by rw [List.append_nil];exact hown) (by unfold maxLen at hc2;omega) hc1 (Since.refl _ _) (λk hk=> .inl hk))
theorem gM {X:World} {B g size n:Nat} {e:TypeId} {cs:List Value} (h:X.heap[g]? =some (.cells cs.toArray e (0,0))) (hB:B<=g) (hl:cs.length=n*size) (hn:n<=maxLen):X.ownsRow B e size (.slice (some ⟨g,0,none⟩) n n) n cs:=
 ⟨hl, .inr ⟨g,n,cs.toArray,rfl,hB,h,Nat.le_refl _,hn,by simp [hl],by rw [List.take_of_length_le (by simp [hl])]⟩⟩
def zzu (_:World) (r:List Int) (cs:List Value):Prop:=r.length=4/\cs= [.int .i64 (r.getD 0 0), .int .i64 (r.getD 1 0), .int .i64 (r.getD 2 0), .int .i64 (r.getD 3 0)]
abbrev zzv:=zh zzu 4
structure zxX (w:World) (f:zl6) (mv rv:Value):Prop where
 mem:qm w mv f.mem
 regs:zzv w rv f.regs
def zzw (w:World) (f:zl6) (cs:List Value):Prop:=∃mv rv,cs= [mv,rv] /\zxX w f mv rv
abbrev z5H:=zh zzw 2
