/- Steps. -/
import Derived.Test.YtnhahkiojbanfaaGreatDoorRqExpQ
import Derived.Test.YtnhahkiojbanfaaGreatDoorRqTabAdd
set_option linter.all false
namespace Go.Proofs.YtnhahkiojbanfaaGreatDoor
open Go.RowKit
set_option maxRecDepth 100000
set_option maxHeartbeats 16000000
def XQ (Q:Nat->Prop) (g:Nat) (sv mv nv xv:Value) (k:Nat):Prop:=(k=g\/Q k)\/sv.ownBlock=some k\/mv.ownBlock=some k\/nv.ownBlock=some k\/xv.ownBlock=some k
structure vw (W X:World) (Q:Nat->Prop) (g:Nat) (sv mv nv xv:Value) (sl:List zi) (ml:List (List zo)) (nl:List (List Int)) (xl:List Int) (sc mc nc:List (List Value)):Prop where
 below:Below W.heap.size W X
 lo:W.heap.size<=g
 vQ:∀k,Q k->k<X.heap.size/\k≠g/\sv.ownBlock≠some k/\mv.ownBlock≠some k/\nv.ownBlock≠some k/\xv.ownBlock≠some k
 box:X.heap[g]? =some (.cells #[sv,mv,nv] 49 (0,0))
 st:yg (XQ Q g sv mv nv xv) X qO 3 W.heap.size 42 sv sl sc
 mo:yg (XQ Q g sv mv nv xv) X uG 1 W.heap.size 32 mv ml mc
 ne:yg (XQ Q g sv mv nv xv) X pR 1 W.heap.size 31 nv nl nc
 xr:X.ownsRow W.heap.size 3 1 xv xl.length (zq yU xl)
section
variable {W X X1:World} {Q:Nat->Prop} {g:Nat} {sv mv nv xv sv':Value} {sl:List zi} {ml:List (List zo)} {nl:List (List Int)} {xl:List Int} {sc mc nc:List (List Value)}
theorem zn0 {X:World} {v v':Value} {o:Obj} {k:Nat} (hk:k<X.heap.size) (hv:v.ownBlock≠some k) (h5:∀k,v'.ownBlock=some k->v.ownBlock=some k\/k=(X.alloc o).heap.size):v'.ownBlock≠some k:=λe=>by
 rcases h5 k e with e2|e2
 ·exact hv e2
 simp at e2;omega
theorem vw.call (h:vw W X Q g sv mv nv xv sl ml nl xl sc mc nc) (hb:Below X.heap.size X X1):vw W X1 Q g sv mv nv xv sl ml nl xl sc mc nc:=by
 have hs:Since (λ_=>False) X X1:=qA _ hb
 exact⟨zM h.below hb,h.lo,λk hk=>⟨Nat.lt_of_lt_of_le (h.vQ k hk).1 hb.size,(h.vQ k hk).2⟩,(hb.block _ (zy h.box)).trans h.box,h.st.step hs (λ_ _ h=>h) (λ_ h=>h.elim) (λ_ h=> .inl h),h.mo.step hs (λ_ _ h=>h) (λ_ h=>h.elim) (λ_ h=> .inl h),h.ne.step hs (λ_ _ h=>h) (λ_ h=>h.elim) (λ_ h=> .inl h),qC h.xr hb⟩
theorem vw.zqW (h:vw W X Q g sv mv nv xv sl ml nl xl sc mc nc) {o:Obj} {x:zi} {cs:List Value} (hx:zO (XQ Q g sv mv nv xv) X (λy=>qO y x cs)) (hc:cs.length=3) (h1:X1.ownsRow W.heap.size 42 3 sv' (sl.length+1) (sc.flatten++cs))
  (h4:Since (λk=>sv.ownBlock=some k) (X.alloc o) X1) (h5:∀k,sv'.ownBlock=some k->sv.ownBlock=some k\/k=(X.alloc o).heap.size):vw W (X1.setCell ⟨g,0,none⟩ sv') Q g sv' mv nv xv (sl++ [x]) ml nl xl (sc++ [cs]) mc nc:=by
 have hg:=zy h.box
 have s1:Since (λk=>sv.ownBlock=some k) X X1:=((Since.refl _ X).alloc o).trans h4 (λk hk=> .inl hk)
 have b1:X1.heap[g]? =some (.cells #[sv,mv,nv] 49 (0,0)):=(s1.block _ hg (λe=>yX h.st.row h.box (by decide) _ e rfl)).trans h.box
 have s2:Since (λk=>k=g\/sv.ownBlock=some k) X (X1.setCell ⟨g,0,none⟩ sv'):=(s1.mono (G:=λk=>k=g\/sv.ownBlock=some k) (λ_ _ h=> .inr h)).setCell (p:=⟨g,0,none⟩) (.inl (.inl rfl)) _
 have hG:∀k,(k=g\/sv.ownBlock=some k)->XQ Q g sv mv nv xv k\/X.heap.size<=k:=λk hk=> .inl (hk.elim (λh=> .inl (.inl h)) (λh=> .inr (.inl h)))
 have hF:∀k,XQ Q g sv' mv nv xv k->XQ Q g sv mv nv xv k\/X.heap.size<=k:=λk hk=>by
  rcases hk with hk|hk|hk
  ·exact .inl (.inl hk)
  ·rcases h5 k hk with h6|h6
   ·exact .inl (.inr (.inl h6))
   refine .inr ?_;simp at h6;omega
  exact .inl (.inr (.inr hk))
 have zl7:(X1.setCell ⟨g,0,none⟩ sv').ownsRow W.heap.size 42 3 sv' (sl.length+1) (sc.flatten++cs):=(Since.setCell (F:=λk=>k=g) (p:=⟨g,0,none⟩) (Since.refl _ X1) (.inl rfl) _).row h1 (λk hk e=>yX h1 b1 (by decide) k hk e)
 refine⟨h.below.trans (s2.below h.below.size (λk hk=>hk.elim (λe=>by rw [e];exact h.lo) (λe=>(h.st.row.lt k e).1))),h.lo,λk hk=>⟨Nat.lt_of_lt_of_le (h.vQ k hk).1 s2.size,(h.vQ k hk).2.1,zn0 (h.vQ k hk).1 (h.vQ k hk).2.2.1 h5,(h.vQ k hk).2.2.2⟩, ?_,h.st.push s2 hG hF hx hc zl7,h.mo.step s2 ?_ hG hF,h.ne.step s2 ?_ hG hF,s2.row h.xr ?_⟩
 ·have:=zD b1 0 sv';simpa using this
 ·exact λk hk e=>e.elim (λe=>yX h.mo.row h.box (by decide) k hk e) (λe=>yY h.mo.row h.st.row (by decide) k hk e)
 ·exact λk hk e=>e.elim (λe=>yX h.ne.row h.box (by decide) k hk e) (λe=>yY h.ne.row h.st.row (by decide) k hk e)
 exact λk hk e=>e.elim (λe=>yX h.xr h.box (by decide) k hk e) (λe=>yY h.xr h.st.row (by decide) k hk e)
theorem vw.zrc (h:vw W X Q g sv mv nv xv sl ml nl xl sc mc nc) {o:Obj} {x:Int} {xv':Value} (h1:X1.ownsRow W.heap.size 3 1 xv' (xl.length+1) (zq yU xl++ [.int .i64 x]))
  (h4:Since (λk=>xv.ownBlock=some k) (X.alloc o) X1) (h5:∀k,xv'.ownBlock=some k->xv.ownBlock=some k\/k=(X.alloc o).heap.size):vw W X1 Q g sv mv nv xv' sl ml nl (xl++ [x]) sc mc nc:=by
 have hg:=zy h.box
 have s1:Since (λk=>xv.ownBlock=some k) X X1:=((Since.refl _ X).alloc o).trans h4 (λk hk=> .inl hk)
 have hG:∀k,xv.ownBlock=some k->XQ Q g sv mv nv xv k\/X.heap.size<=k:=λk hk=> .inl (.inr (.inr (.inr (.inr hk))))
 have hF:∀k,XQ Q g sv mv nv xv' k->XQ Q g sv mv nv xv k\/X.heap.size<=k:=λk hk=>by
  rcases hk with hk|hk|hk|hk|hk
  ·exact .inl (.inl hk)
  ·exact .inl (.inr (.inl hk))
  ·exact .inl (.inr (.inr (.inl hk)))
  ·exact .inl (.inr (.inr (.inr (.inl hk))))
  rcases h5 k hk with h6|h6
  ·exact .inl (.inr (.inr (.inr (.inr h6))))
  refine .inr ?_;simp at h6;omega
 refine⟨h.below.trans (s1.below h.below.size (λk hk=>(h.xr.lt k hk).1)),h.lo,λk hk=>⟨Nat.lt_of_lt_of_le (h.vQ k hk).1 s1.size,(h.vQ k hk).2.1,(h.vQ k hk).2.2.1,(h.vQ k hk).2.2.2.1,(h.vQ k hk).2.2.2.2.1,zn0 (h.vQ k hk).1 (h.vQ k hk).2.2.2.2.2 h5⟩,(s1.block _ hg (λe=>yX h.xr h.box (by decide) _ e rfl)).trans h.box,h.st.step s1 ?_ hG hF,h.mo.step s1 ?_ hG hF,h.ne.step s1 ?_ hG hF, ?_⟩
 ·exact λk hk e=>yY h.st.row h.xr (by decide) k hk e
 ·exact λk hk e=>yY h.mo.row h.xr (by decide) k hk e
 ·exact λk hk e=>yY h.ne.row h.xr (by decide) k hk e
 rw [List.length_append,zcP];exact h1
theorem vw.both (h:vw W X Q g sv mv nv xv sl ml nl xl sc mc nc) {x:List zo} {cs:List Value} {mv' nv':Value} (hx:zO (XQ Q g sv mv nv xv) X (λy=>uG y x cs)) (hc:cs.length=1) (s1:Since (λk=>mv.ownBlock=some k\/nv.ownBlock=some k) X X1)
  (r1:X1.ownsRow W.heap.size 32 1 mv' (ml.length+1) (mc.flatten++cs)) (r2:X1.ownsRow W.heap.size 31 1 nv' (nl.length+1) (nc.flatten++ [xv])) (h5:∀k,mv'.ownBlock=some k->mv.ownBlock=some k\/X.heap.size<=k)
  (h6:∀k,nv'.ownBlock=some k->nv.ownBlock=some k\/X.heap.size<=k):vw W ((X1.setCell ⟨g,1,none⟩ mv').setCell ⟨g,2,none⟩ nv') Q g sv mv' nv' (.slice none 0 0) sl (ml++ [x]) (nl++ [xl]) [] sc (mc++ [cs]) (nc++ [[xv]]):=by
 have hg:=zy h.box
 have b1:X1.heap[g]? =some (.cells #[sv,mv,nv] 49 (0,0)):=(s1.block _ hg (λe=>e.elim (λe=>yX h.mo.row h.box (by decide) _ e rfl) (λe=>yX h.ne.row h.box (by decide) _ e rfl))).trans h.box
 have sg:Since (λk=>k=g) X1 ((X1.setCell ⟨g,1,none⟩ mv').setCell ⟨g,2,none⟩ nv'):=Since.setCell (F:=λk=>k=g) (p:=⟨g,2,none⟩) (Since.setCell (F:=λk=>k=g) (p:=⟨g,1,none⟩) (Since.refl _ X1) (.inl rfl) _) (.inl rfl) _
 have s2:Since (λk=>k=g\/mv.ownBlock=some k\/nv.ownBlock=some k) X ((X1.setCell ⟨g,1,none⟩ mv').setCell ⟨g,2,none⟩ nv'):=(s1.mono (G:=λk=>k=g\/mv.ownBlock=some k\/nv.ownBlock=some k) (λ_ _ h=> .inr h)).trans sg (λk hk=> .inl (.inl hk))
 have hG:∀k,(k=g\/mv.ownBlock=some k\/nv.ownBlock=some k)->XQ Q g sv mv nv xv k\/X.heap.size<=k:=λk hk=> .inl (hk.elim (λh=> .inl (.inl h)) (λh=>h.elim (λh=> .inr (.inr (.inl h))) (λh=> .inr (.inr (.inr (.inl h))))))
 have hF:∀k,XQ Q g sv mv' nv' (.slice none 0 0) k->XQ Q g sv mv nv xv k\/X.heap.size<=k:=λk hk=>by
  rcases hk with hk|hk|hk|hk|hk
  ·exact .inl (.inl hk)
  ·exact .inl (.inr (.inl hk))
  ·exact(h5 k hk).imp (λe=> .inr (.inr (.inl e))) id
  ·exact(h6 k hk).imp (λe=> .inr (.inr (.inr (.inl e)))) id
  simp [Value.ownBlock] at hk
 have zl7:=sg.row r1 (λk hk e=>yX r1 b1 (by decide) k hk e)
 have zuk:=sg.row r2 (λk hk e=>yX r2 b1 (by decide) k hk e)
 have hxx:∀k,xv.ownBlock=some k->¬(k=g\/mv.ownBlock=some k\/nv.ownBlock=some k):=λk hk e=>e.elim (λe=>yX h.xr h.box (by decide) k hk e) (λe=>e.elim (λe=>yY h.xr h.mo.row (by decide) k hk e) (λe=>yY h.xr h.ne.row (by decide) k hk e))
 have rx:=s2.row h.xr hxx
 have hxF:∀k,xv.ownBlock=some k->¬XQ Q g sv mv' nv' (.slice none 0 0) k:=λk hk e=>by
  rcases e with(e|e)|e|e|e|e
  ·exact yX h.xr h.box (by decide) k hk e
  ·exact(h.vQ k e).2.2.2.2.2 hk
  ·exact yY h.xr h.st.row (by decide) k hk e
  ·exact yY rx zl7 (by decide) k hk e
  ·exact yY rx zuk (by decide) k hk e
  simp [Value.ownBlock] at e
 have hnew:zO (XQ Q g sv mv' nv' (.slice none 0 0)) ((X1.setCell ⟨g,1,none⟩ mv').setCell ⟨g,2,none⟩ nv') (λy=>pR y xl [xv]):=λy hy=>⟨xv,rfl,zad (hy.row rx hxF)⟩
 refine⟨h.below.trans (s2.below h.below.size (λk hk=>hk.elim (λe=>by rw [e];exact h.lo) (λe=>e.elim (λe=>(h.mo.row.lt k e).1) (λe=>(h.ne.row.lt k e).1)))),h.lo,λk hk=> ?_, ?_,h.st.step s2 ?_ hG hF,h.mo.push s2 hG hF hx hc zl7, ?_,World.ownsRow_nil _ _ _ _⟩
 ·obtain⟨q1,q2,q3,q4,q5,q6⟩:=h.vQ k hk
  refine⟨Nat.lt_of_lt_of_le q1 s2.size,q2,q3,λe=> ?_,λe=> ?_,by simp [Value.ownBlock]⟩
  ·exact(h5 k e).elim q4 (λe=>by omega)
  exact(h6 k e).elim q5 (λe=>by omega)
 ·have:=zD (zD b1 1 mv') 2 nv';simpa using this
 ·exact λk hk e=>e.elim (λe=>yX h.st.row h.box (by decide) k hk e) (λe=>e.elim (λe=>yY h.st.row h.mo.row (by decide) k hk e) (λe=>yY h.st.row h.ne.row (by decide) k hk e))
 have h0:=h.ne.step (F':=XQ Q g sv mv' nv' (.slice none 0 0)) (Since.refl (λ_=>False) X) (λ_ _ h=>h) (λ_ h=>h.elim) hF
 refine⟨by simp [h.ne.len],λj hj=> ?_, ?_⟩
 ·rw [List.length_append] at hj
  simp only [List.length_cons,List.length_nil] at hj
  by_cases e:j=nl.length
  ·subst e
   rw [kQ,show nl.length=nc.length from h.ne.len.symm,kQ]
   exact⟨rfl,hnew⟩
  have hj':j<nl.length:=by omega
  rw [kR hj',kR (by rw [h.ne.len];exact hj')]
  exact⟨(h.ne.part j hj').1,(h.ne.part j hj').2.step s2 hG hF⟩
 rw [List.length_append,List.flatten_append]
 simpa using zuk
theorem vw.table (h:vw W X Q g sv mv nv xv sl ml nl xl sc mc nc) {F Q':Nat->Prop} (hs:Since F X X1) (hF:∀k,F k->Q k/\W.heap.size<=k) (hQ:∀k,Q' k->(Q k\/X.heap.size<=k)/\k<X1.heap.size):vw W X1 Q' g sv mv nv xv sl ml nl xl sc mc nc:=by
 have hG:∀k,F k->XQ Q g sv mv nv xv k\/X.heap.size<=k:=λk hk=> .inl (.inl (.inr (hF k hk).1))
 have hF2:∀k,XQ Q' g sv mv nv xv k->XQ Q g sv mv nv xv k\/X.heap.size<=k:=λk hk=>by
  rcases hk with(hk|hk)|hk
  ·exact .inl (.inl (.inl hk))
  ·exact(hQ k hk).1.imp (λe=> .inl (.inr e)) id
  exact .inl (.inr hk)
 have q:=λk (hk:F k)=>h.vQ k (hF k hk).1
 refine⟨h.below.trans (hs.below h.below.size (λk hk=>(hF k hk).2)),h.lo,λk hk=>⟨(hQ k hk).2, ?_⟩,(hs.block _ (zy h.box) (λe=>(q _ e).2.1 rfl)).trans h.box,h.st.step hs (λk hk e=>(q k e).2.2.1 hk) hG hF2,h.mo.step hs (λk hk e=>(q k e).2.2.2.1 hk) hG hF2,h.ne.step hs (λk hk e=>(q k e).2.2.2.2.1 hk) hG hF2,hs.row h.xr (λk hk e=>(q k e).2.2.2.2.2 hk)⟩
 rcases(hQ k hk).1 with e|e
 ·exact(h.vQ k e).2
 have:=zy h.box
 exact⟨by omega,λe2=>by have:=(h.st.row.lt k e2).2;omega,λe2=>by have:=(h.mo.row.lt k e2).2;omega,λe2=>by have:=(h.ne.row.lt k e2).2;omega,λe2=>by have:=(h.xr.lt k e2).2;omega⟩
theorem vw.blocks (h:vw W X Q g sv mv nv xv sl ml nl xl sc mc nc):∀k,XQ Q g sv mv nv xv k->k<X.heap.size:=λk hk=>by
 rcases hk with(hk|hk)|hk|hk|hk|hk
 ·rw [hk];exact zy h.box
 ·exact(h.vQ k hk).1
 ·exact(h.st.row.lt k hk).2
 ·exact(h.mo.row.lt k hk).2
 ·exact(h.ne.row.lt k hk).2
 exact(h.xr.lt k hk).2
theorem vw.zle {P:World->Prop} (h:zO (XQ Q g sv mv nv xv) X P) (hb:Below X.heap.size X X1):zO (XQ Q g sv mv nv xv) X1 P:=h.step (qA (λ_=>False) hb) (λ_ h=>h.elim) (λ_ h=> .inl h)
theorem vw.zvJ {P:World->Prop} (h:zO (XQ Q g sv mv nv xv) X P) {o:Obj} (h4:Since (λk=>sv.ownBlock=some k) (X.alloc o) X1) (h5:∀k,sv'.ownBlock=some k->sv.ownBlock=some k\/k=(X.alloc o).heap.size):zO (XQ Q g sv' mv nv xv) (X1.setCell ⟨g,0,none⟩ sv') P:=by
 have s1:Since (λk=>sv.ownBlock=some k) X X1:=((Since.refl _ X).alloc o).trans h4 (λk hk=> .inl hk)
 have s2:Since (λk=>k=g\/sv.ownBlock=some k) X (X1.setCell ⟨g,0,none⟩ sv'):=(s1.mono (G:=λk=>k=g\/sv.ownBlock=some k) (λ_ _ h=> .inr h)).setCell (p:=⟨g,0,none⟩) (.inl (.inl rfl)) _
 refine h.step s2 (λk hk=> .inl (hk.elim (λh=> .inl (.inl h)) (λh=> .inr (.inl h)))) (λk hk=> ?_)
 rcases hk with hk|hk|hk
 ·exact .inl (.inl hk)
 ·rcases h5 k hk with h6|h6
  ·exact .inl (.inr (.inl h6))
  refine .inr ?_;simp at h6;omega
 exact .inl (.inr (.inr hk))
theorem vw.zrd {P:World->Prop} (h:zO (XQ Q g sv mv nv xv) X P) {o:Obj} {xv':Value} (h4:Since (λk=>xv.ownBlock=some k) (X.alloc o) X1) (h5:∀k,xv'.ownBlock=some k->xv.ownBlock=some k\/k=(X.alloc o).heap.size):zO (XQ Q g sv mv nv xv') X1 P:=by
 have s1:Since (λk=>xv.ownBlock=some k) X X1:=((Since.refl _ X).alloc o).trans h4 (λk hk=> .inl hk)
 refine h.step s1 (λk hk=> .inl (.inr (.inr (.inr (.inr hk))))) (λk hk=> ?_)
 rcases hk with hk|hk|hk|hk|hk
 ·exact .inl (.inl hk)
 ·exact .inl (.inr (.inl hk))
 ·exact .inl (.inr (.inr (.inl hk)))
 ·exact .inl (.inr (.inr (.inr (.inl hk))))
 rcases h5 k hk with h6|h6
 ·exact .inl (.inr (.inr (.inr (.inr h6))))
 refine .inr ?_;simp at h6;omega
theorem vw.zrb {P:World->Prop} (h:zO (XQ Q g sv mv nv xv) X P) {F Q':Nat->Prop} (hs:Since F X X1) (hF:∀k,F k->Q k) (hQ:∀k,Q' k->Q k\/X.heap.size<=k):zO (XQ Q' g sv mv nv xv) X1 P:=
 h.step hs (λk hk=> .inl (.inl (.inr (hF k hk)))) (λk hk=>by
  rcases hk with(hk|hk)|hk
  ·exact .inl (.inl (.inl hk))
  ·exact(hQ k hk).imp (λe=> .inl (.inr e)) id
  exact .inl (.inr hk))
theorem zc6 {F:Nat->Prop} {B n cap:Nat} {e:TypeId} {a:Option Addr} {l:List zi} {css:List (List Value)} (h:yg F X qO 3 B e (.slice a n cap) l css) {i:Nat} (hi:i<l.length):∃b tv mv,a=some ⟨b,0,none⟩/\b<X.heap.size/\css.getD i [] = [tv,mv, .bool (l.getD i default).bad] /\
  X.cell? ⟨b,i*3,none⟩=some tv/\X.cell? ⟨b,i*3+1,none⟩=some mv/\X.cell? ⟨b,i*3+2,none⟩=some (.bool (l.getD i default).bad)/\zO F X (λy=>yG y (l.getD i default) tv mv):=by
 obtain⟨hlen,haw⟩:=h.part i hi
 obtain⟨tv,mv,hcs, -⟩:=haw.now
 have hrow:=h.row
 obtain⟨b,cap',he, -, -⟩:=jU hrow (by omega)
 cases he
 have hc:∀j,j<3->X.cell? ⟨b,i*3+j,none⟩=(css.getD i [])[j]? :=λj hj=>by
  rw [hrow.cellAt _ (by omega)]
  exact pQ (λj hj=>(h.part j (by rw [<-h.len];exact hj)).1) (by rw [h.len];exact hi) hj
 rw [hcs] at hc
 refine⟨b,tv,mv,rfl,(hrow.lt b rfl).2,hcs,hc 0 (by omega),hc 1 (by omega),hc 2 (by omega),λy hy=> ?_⟩
 obtain⟨tv',mv',hcs',hst⟩:=haw y hy
 rw [hcs] at hcs'
 simp only [List.cons.injEq,and_true] at hcs'
 rw [hcs'.1,hcs'.2]
 exact hst
def NxP (B:Nat) (va zv:Value) (ms:List zo) (ns:List zi) (css:List (List Value)) (y:World):Prop:=
 y.ownsRow B 70 3 va ms.length (zq zo.cells ms)/\y.ownsRow B 42 3 zv ns.length css.flatten/\css.length=ns.length/\∀j,j<ns.length->(css.getD j []).length=3/\qO y (ns.getD j default) (css.getD j [])
theorem zmM {w':World} {B:Nat} {va zv:Value} {ms:List zo} {ns:List zi} {css:List (List Value)} {F0:Nat->Prop} (hF:∀k,F0 k->k<B) (h1:w'.ownsRow B 70 3 va ms.length (zq zo.cells ms)) (h2:yg F0 w' qO 3 B 42 zv ns css):zO F0 w' (NxP B va zv ms ns css):=λy hy=>
 ⟨hy.row h1 (λk hk e=>by have:=(h1.lt k hk).1;have:=hF k e;omega),hy.row h2.row (λk hk e=>by have:=(h2.row.lt k hk).1;have:=hF k e;omega),h2.len,λj hj=>⟨(h2.part j hj).1,(h2.part j hj).2 y hy⟩⟩
theorem zmN {F:Nat->Prop} {B n cap:Nat} {va:Value} {a:Option Addr} {ms:List zo} {ns:List zi} {css:List (List Value)} (h:zO F X (NxP B va (.slice a n cap) ms ns css)) {i:Nat} (hi:i<ns.length):∃b tv mv,a=some ⟨b,0,none⟩/\css.getD i [] = [tv,mv, .bool (ns.getD i default).bad] /\
  X.cell? ⟨b,i*3,none⟩=some tv/\X.cell? ⟨b,i*3+1,none⟩=some mv/\X.cell? ⟨b,i*3+2,none⟩=some (.bool (ns.getD i default).bad)/\zO F X (λy=>yG y (ns.getD i default) tv mv):=by
 obtain⟨b,tv,mv,h1, -,h2⟩:=zc6 (F:=F) (B:=B) (e:=42) (a:=a) (n:=n) (cap:=cap) (l:=ns) (css:=css) (X:=X) ⟨h.now.2.2.1,λj hj=>⟨(h.now.2.2.2 j hj).1,λy hy=>((h y hy).2.2.2 j hj).2⟩,h.now.2.1⟩ hi
 exact⟨b,tv,mv,h1,h2⟩
theorem vw.fin (h:vw W X Q g sv mv nv xv sl ml nl xl sc mc nc) {B:Nat} (hB:B<=W.heap.size) (hs:Since (λk=>k=g) X X1) (hQ:∀k,k<B->Q k):zO (λk=>k<B) X1 (λy=>kC y ⟨sl,ml,nl⟩ sv mv nv):=λy hy=>by
 have hG:∀k,k=g->XQ Q g sv mv nv xv k\/X.heap.size<=k:=λk hk=> .inl (.inl (.inl hk))
 have hG2:∀k,k<B->XQ Q g sv mv nv xv k\/X1.heap.size<=k:=λk hk=> .inl (.inl (.inr (hQ k hk)))
 have hF2:∀k,False->XQ Q g sv mv nv xv k\/X1.heap.size<=k:=λ_ h=>h.elim
 have hF:∀k,XQ Q g sv mv nv xv k->XQ Q g sv mv nv xv k\/X.heap.size<=k:=λk hk=> .inl hk
 exact⟨((h.st.step hs (λk hk e=>yX h.st.row h.box (by decide) k hk e) hG hF).step hy (λk hk e=>by have:=(h.st.row.lt k hk).1;omega) hG2 hF2).slice,((h.mo.step hs (λk hk e=>yX h.mo.row h.box (by decide) k hk e) hG hF).step hy (λk hk e=>by have:=(h.mo.row.lt k hk).1;omega) hG2 hF2).slice,((h.ne.step hs (λk hk e=>yX h.ne.row h.box (by decide) k hk e) hG hF).step hy (λk hk e=>by have:=(h.ne.row.lt k hk).1;omega) hG2 hF2).slice⟩
end
theorem zmH (W:World):vw W (W.alloc (.cells #[.slice none 0 0, .slice none 0 0, .slice none 0 0] 49)) (λk=>k<W.heap.size) W.heap.size (.slice none 0 0) (.slice none 0 0) (.slice none 0 0) (.slice none 0 0) [] [] [] [] [] [] [] :=
 ⟨(Below.refl _ _).alloc (Nat.le_refl _) _,Nat.le_refl _,λk hk=>⟨by simp;omega,by omega,by simp [Value.ownBlock],by simp [Value.ownBlock],by simp [Value.ownBlock],by simp [Value.ownBlock]⟩,zS W _,yg.nil _ _ _ _ _ _,yg.nil _ _ _ _ _ _,yg.nil _ _ _ _ _ _,World.ownsRow_nil _ _ _ _⟩
theorem zgr {y:World} {g:Nat} {a b c:Value} (hy:y.heap[g]? =some (.cells #[a,b,c] 49 (0,0))) (p q r:Value):(((y.setCell ⟨g,0,none⟩ p).setCell ⟨g,1,none⟩ q).setCell ⟨g,2,none⟩ r).heap[g]? =some (.cells #[p,q,r] 49 (0,0))/\Since (λk=>k=g) y (((y.setCell ⟨g,0,none⟩ p).setCell ⟨g,1,none⟩ q).setCell ⟨g,2,none⟩ r):=by
 have h:=zD (zD (zD hy 0 p) 1 q) 2 r
 refine⟨by simpa using h,Since.setCell (F:=λk=>k=g) (p:=⟨g,2,none⟩) (Since.setCell (F:=λk=>k=g) (p:=⟨g,1,none⟩) (Since.setCell (F:=λk=>k=g) (p:=⟨g,0,none⟩) (Since.refl _ y) (.inl rfl) _) (.inl rfl) _) (.inl rfl) _⟩
theorem zkq {α:Type} {f:α->List Int} {b:Nat} :∀ {l:List α},(∀x∈l,(f x).length<=b)->(l.flatMap f).length<=l.length*b:=by
 intro l
 induction l with
 |nil=>intro _;simp
 |cons x l ih=>
 intro h
 have h1:=h x (List.mem_cons_self ..)
 have h2:=ih (λy hy=>h y (List.mem_cons_of_mem _ hy))
 simp only [List.flatMap_cons,List.length_append,List.length_cons,Nat.add_mul]
 omega
theorem zaA {c:zx} {m:zu} {s:zi} (hf:zP c m s=true) (hr:qE s):(wu s).length<=1000000:=by
 have h1:=uI hf
 have hs:=uH hf hr
 have h2:1<=c.vars/\c.vars<=4/\c.threads.length<=4:=by
  have h0:=hf
  unfold zP xC at h0
  simp only [Bool.and_eq_true,decide_eq_true_eq] at h0
  have:=yQ h0.1.1.1.1.1.1.1.1
  exact⟨this.1,this.2.1,this.2.2.2.2.2⟩
 have h3:=zkq (f:=qj) (b:=519) (l:=s.threads) (λt ht=>by
  have h:=hs.thr t ht
  have h4:=zkq (f:=jI) (b:=2) (l:=t.buf) (λe _=>by simp [jI])
  have:=h.len
  unfold qj
  simp only [List.length_append,List.length_map,h.regs,List.length_cons,List.length_nil]
  omega)
 have h5:s.threads.length*519<=4*519:=Nat.mul_le_mul_right _ (by omega)
 unfold wu
 simp only [List.length_cons,List.length_append,List.length_map]
 omega
theorem zgt {c:zx} {m:zu} {s:zi} (hf:zP c m s=true) (hr:qE s):(keyOf s).size<=maxLen:=by
 have:=zaA hf hr
 unfold keyOf maxLen
 rw [strOfNums_size];omega
theorem zpA {c:zx} {m:zu} {l:List zi} {t:zi} (hl:∀s∈l,zP c m s=true/\qE s) (ht:zP c m t=true/\qE t):wY (l.map keyOf) (keyOf t) (if t∈l then(l.idxOf t:Int) else -1):=by
 have hk:∀i,(h:i<l.length)->(l.map keyOf).getD i ByteArray.empty=keyOf l[i] :=λi h=>by
  rw [List.getD_eq_getElem?_getD,List.getElem?_eq_getElem (by simpa using h)];simp
 have inj:∀i,(h:i<l.length)->keyOf l[i] =keyOf t->l[i] =t:=λi h e=>by
  have:=hl _ (List.getElem_mem h)
  exact zpt this.1 ht.1 this.2 ht.2 e
 split
 ·rename_i hm
  have hi:=List.idxOf_lt_length_of_mem hm
  refine .inl ⟨l.idxOf t,by simpa using hi, ?_,rfl,λj hj=> ?_⟩
  ·rw [hk _ hi,List.getElem_idxOf]
  have hjl:j<l.length:=by omega
  rw [hk j hjl]
  intro e
  have e2:=inj j hjl e
  have:=List.not_of_lt_findIdx (p:=(· ==t)) (xs:=l) (i:=j) hj
  simp [e2] at this
 rename_i hm
 refine .inr ⟨rfl,λi hi=> ?_⟩
 have hil:i<l.length:=by simpa using hi
 rw [hk i hil]
 intro e
 exact hm (inj i hil e ▸ List.getElem_mem hil)
theorem zjV {c:zx} {m:zu} {l:List zi} {t:zi} {room:Nat} (hl:∀s∈l,zP c m s=true/\qE s) (ht:zP c m t=true/\qE t) (hr:l.length<=room):
  (t∈l/\zds (l.map keyOf) room (keyOf t) (l.idxOf t:Int) false (l.map keyOf)/\putAt l t=(l,l.idxOf t)/\l.idxOf t<room)\/
  (t ∉ l/\room<=l.length/\zds (l.map keyOf) room (keyOf t) (-1) false (l.map keyOf)/\putAt l t=(l++ [t],l.length))\/
  (t ∉ l/\l.length<room/\zds (l.map keyOf) room (keyOf t) (l.length:Int) true ((l++ [t]).map keyOf)/\putAt l t=(l++ [t],l.length)):=by
 have hf:=zpA hl ht
 by_cases hm:t∈l
 ·rw [if_pos hm] at hf
  have hi:=List.idxOf_lt_length_of_mem hm
  exact .inl ⟨hm, .inl ⟨hf,by omega,rfl,rfl⟩,by unfold putAt;rw [if_pos hm],by omega⟩
 rw [if_neg hm] at hf
 have hp:putAt l t=(l++ [t],l.length):=by unfold putAt;rw [if_neg hm]
 by_cases h2:room<=l.length
 ·exact .inr (.inl ⟨hm,h2, .inr (.inl ⟨hf,by simpa using h2,rfl,rfl,rfl⟩),hp⟩)
 exact .inr (.inr ⟨hm,by omega, .inr (.inr ⟨hf,by simpa using Nat.lt_of_not_le h2,by simp,rfl,by simp⟩),hp⟩)
def zul (l:List zi) (t:zi) (room:Nat) (a:Int) (is:Bool) (l2:List zi):Prop:=
 (0<=a/\is=false/\l2=l/\putAt l t=(l,a.toNat)/\a<room)\/(a= -1/\is=false/\putAt l t=(l++ [t],l.length)/\room<=l.length)\/(a=l.length/\is=true/\l2=l++ [t] /\putAt l t=(l++ [t],l.length)/\l.length<room)
theorem zpk {c:zx} {m:zu} {l:List zi} {t:zi} {room:Nat} (hl:∀s∈l,zP c m s=true/\qE s) (ht:zP c m t=true/\qE t) (hr:l.length<=room):∃a is l2,zds (l.map keyOf) room (keyOf t) a is (l2.map keyOf)/\zul l t room a is l2:=by
 rcases zjV hl ht hr with⟨-,h2,h3,h4⟩|⟨-,h2,h3,h4⟩|⟨-,h2,h3,h4⟩
 ·exact⟨_,_,l,h2, .inl ⟨by omega,rfl,rfl,by rw [h3];simp,by omega⟩⟩
 ·exact⟨_,_,l,h3, .inr (.inl ⟨rfl,rfl,h4,h2⟩)⟩
 exact⟨_,_,_,h3, .inr (.inr ⟨rfl,rfl,rfl,h4,h2⟩)⟩
theorem zjo {F:Nat->Prop} {X:World} {B:Nat} {e:TypeId} {v:Value} {l:List zi} {css:List (List Value)} (h:yg F X qO 3 B e v l css) {s:zi} (hs:s∈l):qE s:=by
 obtain⟨j,hj,rfl⟩:=zas hs
 obtain⟨tv,mv, -,hst⟩:=(h.part j hj).2.now
 exact hst.qE
