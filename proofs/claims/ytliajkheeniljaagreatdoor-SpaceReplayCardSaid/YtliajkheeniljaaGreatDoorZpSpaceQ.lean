/- Steps. -/
import Derived.Test.YtliajkheeniljaaGreatDoorZpExplore
import Derived.Test.YtliajkheeniljaaGreatDoorZpKeyP
import Derived.Test.YtliajkheeniljaaGreatDoorZpTabAdd
set_option linter.all false
namespace Go.Proofs.YtliajkheeniljaaGreatDoor
open Go.RowKit
set_option maxRecDepth 100000
set_option maxHeartbeats 16000000
def XQ (Q:Nat->Prop) (g:Nat) (sv mv nv xv:Value) (k:Nat):Prop:=(k=g\/Q k)\/sv.ownBlock=some k\/mv.ownBlock=some k\/nv.ownBlock=some k\/xv.ownBlock=some k
structure jG (W X:World) (Q:Nat->Prop) (g:Nat) (sv mv nv xv:Value) (sl:List zl) (ml:List (List zq)) (nl:List (List Int)) (xl:List Int) (sc mc nc:List (List Value)):Prop where
 below:Below W.heap.size W X
 lo:W.heap.size<=g
 jY:∀k,Q k->k<X.heap.size/\k≠g/\sv.ownBlock≠some k/\mv.ownBlock≠some k/\nv.ownBlock≠some k/\xv.ownBlock≠some k
 box:X.heap[g]? =some (.cells #[sv,mv,nv] 71 (0,0))
 st:xq (XQ Q g sv mv nv xv) X qp 3 W.heap.size 30 sv sl sc
 mo:xq (XQ Q g sv mv nv xv) X zay 1 W.heap.size 52 mv ml mc
 ne:xq (XQ Q g sv mv nv xv) X zbA 1 W.heap.size 28 nv nl nc
 xr:X.ownsRow W.heap.size 3 1 xv xl.length (zo yR xl)
section
variable {W X X1:World} {Q:Nat->Prop} {g:Nat} {sv mv nv xv sv':Value} {sl:List zl} {ml:List (List zq)} {nl:List (List Int)} {xl:List Int} {sc mc nc:List (List Value)}
theorem zrG {X:World} {v v':Value} {o:Obj} {k:Nat} (hk:k<X.heap.size) (hv:v.ownBlock≠some k) (h5:∀k,v'.ownBlock=some k->v.ownBlock=some k\/k=(X.alloc o).heap.size):v'.ownBlock≠some k:=λe=>by
 rcases h5 k e with e2|e2
 ·exact hv e2
 simp at e2;omega
theorem jG.call (h:jG W X Q g sv mv nv xv sl ml nl xl sc mc nc) (hb:Below X.heap.size X X1):jG W X1 Q g sv mv nv xv sl ml nl xl sc mc nc:=by
 have hs:Since (λ_=>False) X X1:=qw _ hb
 exact⟨zG h.below hb,h.lo,λk hk=>⟨Nat.lt_of_lt_of_le (h.jY k hk).1 hb.size,(h.jY k hk).2⟩,(hb.block _ (zx h.box)).trans h.box,h.st.step hs (λ_ _ h=>h) (λ_ h=>h.elim) (λ_ h=> .inl h),h.mo.step hs (λ_ _ h=>h) (λ_ h=>h.elim) (λ_ h=> .inl h),h.ne.step hs (λ_ _ h=>h) (λ_ h=>h.elim) (λ_ h=> .inl h),xO h.xr hb⟩
theorem jG.zvu (h:jG W X Q g sv mv nv xv sl ml nl xl sc mc nc) {o:Obj} {x:zl} {cs:List Value} (hx:zZ (XQ Q g sv mv nv xv) X (λy=>qp y x cs)) (hc:cs.length=3) (h1:X1.ownsRow W.heap.size 30 3 sv' (sl.length+1) (sc.flatten++cs))
  (h4:Since (λk=>sv.ownBlock=some k) (X.alloc o) X1) (h5:∀k,sv'.ownBlock=some k->sv.ownBlock=some k\/k=(X.alloc o).heap.size):jG W (X1.setCell ⟨g,0,none⟩ sv') Q g sv' mv nv xv (sl++ [x]) ml nl xl (sc++ [cs]) mc nc:=by
 have hg:=zx h.box
 have s1:Since (λk=>sv.ownBlock=some k) X X1:=((Since.refl _ X).alloc o).trans h4 (λk hk=> .inl hk)
 have b1:X1.heap[g]? =some (.cells #[sv,mv,nv] 71 (0,0)):=(s1.block _ hg (λe=>xW h.st.row h.box (by decide) _ e rfl)).trans h.box
 have s2:Since (λk=>k=g\/sv.ownBlock=some k) X (X1.setCell ⟨g,0,none⟩ sv'):=(s1.mono (G:=λk=>k=g\/sv.ownBlock=some k) (λ_ _ h=> .inr h)).setCell (p:=⟨g,0,none⟩) (.inl (.inl rfl)) _
 have hG:∀k,(k=g\/sv.ownBlock=some k)->XQ Q g sv mv nv xv k\/X.heap.size<=k:=λk hk=> .inl (hk.elim (λh=> .inl (.inl h)) (λh=> .inr (.inl h)))
 have hF:∀k,XQ Q g sv' mv nv xv k->XQ Q g sv mv nv xv k\/X.heap.size<=k:=λk hk=>by
  rcases hk with hk|hk|hk
  ·exact .inl (.inl hk)
  ·rcases h5 k hk with h6|h6
   ·exact .inl (.inr (.inl h6))
   refine .inr ?_;simp at h6;omega
  exact .inl (.inr (.inr hk))
 have zoW:(X1.setCell ⟨g,0,none⟩ sv').ownsRow W.heap.size 30 3 sv' (sl.length+1) (sc.flatten++cs):=(Since.setCell (F:=λk=>k=g) (p:=⟨g,0,none⟩) (Since.refl _ X1) (.inl rfl) _).row h1 (λk hk e=>xW h1 b1 (by decide) k hk e)
 refine⟨h.below.trans (s2.below h.below.size (λk hk=>hk.elim (λe=>by rw [e];exact h.lo) (λe=>(h.st.row.lt k e).1))),h.lo,λk hk=>⟨Nat.lt_of_lt_of_le (h.jY k hk).1 s2.size,(h.jY k hk).2.1,zrG (h.jY k hk).1 (h.jY k hk).2.2.1 h5,(h.jY k hk).2.2.2⟩, ?_,h.st.push s2 hG hF hx hc zoW,h.mo.step s2 ?_ hG hF,h.ne.step s2 ?_ hG hF,s2.row h.xr ?_⟩
 ·have:=zw b1 0 sv';simpa using this
 ·exact λk hk e=>e.elim (λe=>xW h.mo.row h.box (by decide) k hk e) (λe=>qy h.mo.row h.st.row (by decide) k hk e)
 ·exact λk hk e=>e.elim (λe=>xW h.ne.row h.box (by decide) k hk e) (λe=>qy h.ne.row h.st.row (by decide) k hk e)
 exact λk hk e=>e.elim (λe=>xW h.xr h.box (by decide) k hk e) (λe=>qy h.xr h.st.row (by decide) k hk e)
theorem jG.zvy (h:jG W X Q g sv mv nv xv sl ml nl xl sc mc nc) {o:Obj} {x:Int} {xv':Value} (h1:X1.ownsRow W.heap.size 3 1 xv' (xl.length+1) (zo yR xl++ [.int .i64 x]))
  (h4:Since (λk=>xv.ownBlock=some k) (X.alloc o) X1) (h5:∀k,xv'.ownBlock=some k->xv.ownBlock=some k\/k=(X.alloc o).heap.size):jG W X1 Q g sv mv nv xv' sl ml nl (xl++ [x]) sc mc nc:=by
 have hg:=zx h.box
 have s1:Since (λk=>xv.ownBlock=some k) X X1:=((Since.refl _ X).alloc o).trans h4 (λk hk=> .inl hk)
 have hG:∀k,xv.ownBlock=some k->XQ Q g sv mv nv xv k\/X.heap.size<=k:=λk hk=> .inl (.inr (.inr (.inr (.inr hk))))
 have hF:∀k,XQ Q g sv mv nv xv' k->XQ Q g sv mv nv xv k\/X.heap.size<=k:=λk hk=>by
  rcases hk with hk|hk|hk|hk|hk
  ·exact .inl (.inl hk)
  ·exact .inl (.inr (.inl hk))
  ·exact .inl (.inr (.inr (.inl hk)))
  ·exact .inl (.inr (.inr (.inr (.inl hk))))
  rcases h5 k hk with h6|h6
  ·exact .inl (.inr (.inr (.inr (.inr h6))))
  refine .inr ?_;simp at h6;omega
 refine⟨h.below.trans (s1.below h.below.size (λk hk=>(h.xr.lt k hk).1)),h.lo,λk hk=>⟨Nat.lt_of_lt_of_le (h.jY k hk).1 s1.size,(h.jY k hk).2.1,(h.jY k hk).2.2.1,(h.jY k hk).2.2.2.1,(h.jY k hk).2.2.2.2.1,zrG (h.jY k hk).1 (h.jY k hk).2.2.2.2.2 h5⟩,(s1.block _ hg (λe=>xW h.xr h.box (by decide) _ e rfl)).trans h.box,h.st.step s1 ?_ hG hF,h.mo.step s1 ?_ hG hF,h.ne.step s1 ?_ hG hF, ?_⟩
 ·exact λk hk e=>qy h.st.row h.xr (by decide) k hk e
 ·exact λk hk e=>qy h.mo.row h.xr (by decide) k hk e
 ·exact λk hk e=>qy h.ne.row h.xr (by decide) k hk e
 rw [List.length_append,zc8];exact h1
theorem jG.both (h:jG W X Q g sv mv nv xv sl ml nl xl sc mc nc) {x:List zq} {cs:List Value} {mv' nv':Value} (hx:zZ (XQ Q g sv mv nv xv) X (λy=>zay y x cs)) (hc:cs.length=1) (s1:Since (λk=>mv.ownBlock=some k\/nv.ownBlock=some k) X X1)
  (r1:X1.ownsRow W.heap.size 52 1 mv' (ml.length+1) (mc.flatten++cs)) (r2:X1.ownsRow W.heap.size 28 1 nv' (nl.length+1) (nc.flatten++ [xv])) (h5:∀k,mv'.ownBlock=some k->mv.ownBlock=some k\/X.heap.size<=k)
  (h6:∀k,nv'.ownBlock=some k->nv.ownBlock=some k\/X.heap.size<=k):jG W ((X1.setCell ⟨g,1,none⟩ mv').setCell ⟨g,2,none⟩ nv') Q g sv mv' nv' (.slice none 0 0) sl (ml++ [x]) (nl++ [xl]) [] sc (mc++ [cs]) (nc++ [[xv]]):=by
 have hg:=zx h.box
 have b1:X1.heap[g]? =some (.cells #[sv,mv,nv] 71 (0,0)):=(s1.block _ hg (λe=>e.elim (λe=>xW h.mo.row h.box (by decide) _ e rfl) (λe=>xW h.ne.row h.box (by decide) _ e rfl))).trans h.box
 have sg:Since (λk=>k=g) X1 ((X1.setCell ⟨g,1,none⟩ mv').setCell ⟨g,2,none⟩ nv'):=Since.setCell (F:=λk=>k=g) (p:=⟨g,2,none⟩) (Since.setCell (F:=λk=>k=g) (p:=⟨g,1,none⟩) (Since.refl _ X1) (.inl rfl) _) (.inl rfl) _
 have s2:Since (λk=>k=g\/mv.ownBlock=some k\/nv.ownBlock=some k) X ((X1.setCell ⟨g,1,none⟩ mv').setCell ⟨g,2,none⟩ nv'):=(s1.mono (G:=λk=>k=g\/mv.ownBlock=some k\/nv.ownBlock=some k) (λ_ _ h=> .inr h)).trans sg (λk hk=> .inl (.inl hk))
 have hG:∀k,(k=g\/mv.ownBlock=some k\/nv.ownBlock=some k)->XQ Q g sv mv nv xv k\/X.heap.size<=k:=λk hk=> .inl (hk.elim (λh=> .inl (.inl h)) (λh=>h.elim (λh=> .inr (.inr (.inl h))) (λh=> .inr (.inr (.inr (.inl h))))))
 have hF:∀k,XQ Q g sv mv' nv' (.slice none 0 0) k->XQ Q g sv mv nv xv k\/X.heap.size<=k:=λk hk=>by
  rcases hk with hk|hk|hk|hk|hk
  ·exact .inl (.inl hk)
  ·exact .inl (.inr (.inl hk))
  ·exact(h5 k hk).imp (λe=> .inr (.inr (.inl e))) id
  ·exact(h6 k hk).imp (λe=> .inr (.inr (.inr (.inl e)))) id
  simp [Value.ownBlock] at hk
 have zoW:=sg.row r1 (λk hk e=>xW r1 b1 (by decide) k hk e)
 have zzM:=sg.row r2 (λk hk e=>xW r2 b1 (by decide) k hk e)
 have hxx:∀k,xv.ownBlock=some k->¬(k=g\/mv.ownBlock=some k\/nv.ownBlock=some k):=λk hk e=>e.elim (λe=>xW h.xr h.box (by decide) k hk e) (λe=>e.elim (λe=>qy h.xr h.mo.row (by decide) k hk e) (λe=>qy h.xr h.ne.row (by decide) k hk e))
 have rx:=s2.row h.xr hxx
 have hxF:∀k,xv.ownBlock=some k->¬XQ Q g sv mv' nv' (.slice none 0 0) k:=λk hk e=>by
  rcases e with(e|e)|e|e|e|e
  ·exact xW h.xr h.box (by decide) k hk e
  ·exact(h.jY k e).2.2.2.2.2 hk
  ·exact qy h.xr h.st.row (by decide) k hk e
  ·exact qy rx zoW (by decide) k hk e
  ·exact qy rx zzM (by decide) k hk e
  simp [Value.ownBlock] at e
 have hnew:zZ (XQ Q g sv mv' nv' (.slice none 0 0)) ((X1.setCell ⟨g,1,none⟩ mv').setCell ⟨g,2,none⟩ nv') (λy=>zbA y xl [xv]):=λy hy=>⟨xv,rfl,uo (hy.row rx hxF)⟩
 refine⟨h.below.trans (s2.below h.below.size (λk hk=>hk.elim (λe=>by rw [e];exact h.lo) (λe=>e.elim (λe=>(h.mo.row.lt k e).1) (λe=>(h.ne.row.lt k e).1)))),h.lo,λk hk=> ?_, ?_,h.st.step s2 ?_ hG hF,h.mo.push s2 hG hF hx hc zoW, ?_,World.ownsRow_nil _ _ _ _⟩
 ·obtain⟨q1,q2,q3,q4,q5,q6⟩:=h.jY k hk
  refine⟨Nat.lt_of_lt_of_le q1 s2.size,q2,q3,λe=> ?_,λe=> ?_,by simp [Value.ownBlock]⟩
  ·exact(h5 k e).elim q4 (λe=>by omega)
  exact(h6 k e).elim q5 (λe=>by omega)
 ·have:=zw (zw b1 1 mv') 2 nv';simpa using this
 ·exact λk hk e=>e.elim (λe=>xW h.st.row h.box (by decide) k hk e) (λe=>e.elim (λe=>qy h.st.row h.mo.row (by decide) k hk e) (λe=>qy h.st.row h.ne.row (by decide) k hk e))
 have h0:=h.ne.step (F':=XQ Q g sv mv' nv' (.slice none 0 0)) (Since.refl (λ_=>False) X) (λ_ _ h=>h) (λ_ h=>h.elim) hF
 refine⟨by simp [h.ne.len],λj hj=> ?_, ?_⟩
 ·rw [List.length_append] at hj
  simp only [List.length_cons,List.length_nil] at hj
  by_cases e:j=nl.length
  ·subst e
   rw [wW,show nl.length=nc.length from h.ne.len.symm,wW]
   exact⟨rfl,hnew⟩
  have hj':j<nl.length:=by omega
  rw [uO hj',uO (by rw [h.ne.len];exact hj')]
  exact⟨(h.ne.part j hj').1,(h.ne.part j hj').2.step s2 hG hF⟩
 rw [List.length_append,List.flatten_append]
 simpa using zzM
theorem jG.table (h:jG W X Q g sv mv nv xv sl ml nl xl sc mc nc) {F Q':Nat->Prop} (hs:Since F X X1) (hF:∀k,F k->Q k/\W.heap.size<=k) (hQ:∀k,Q' k->(Q k\/X.heap.size<=k)/\k<X1.heap.size):jG W X1 Q' g sv mv nv xv sl ml nl xl sc mc nc:=by
 have hG:∀k,F k->XQ Q g sv mv nv xv k\/X.heap.size<=k:=λk hk=> .inl (.inl (.inr (hF k hk).1))
 have hF2:∀k,XQ Q' g sv mv nv xv k->XQ Q g sv mv nv xv k\/X.heap.size<=k:=λk hk=>by
  rcases hk with(hk|hk)|hk
  ·exact .inl (.inl (.inl hk))
  ·exact(hQ k hk).1.imp (λe=> .inl (.inr e)) id
  exact .inl (.inr hk)
 have q:=λk (hk:F k)=>h.jY k (hF k hk).1
 refine⟨h.below.trans (hs.below h.below.size (λk hk=>(hF k hk).2)),h.lo,λk hk=>⟨(hQ k hk).2, ?_⟩,(hs.block _ (zx h.box) (λe=>(q _ e).2.1 rfl)).trans h.box,h.st.step hs (λk hk e=>(q k e).2.2.1 hk) hG hF2,h.mo.step hs (λk hk e=>(q k e).2.2.2.1 hk) hG hF2,h.ne.step hs (λk hk e=>(q k e).2.2.2.2.1 hk) hG hF2,hs.row h.xr (λk hk e=>(q k e).2.2.2.2.2 hk)⟩
 rcases(hQ k hk).1 with e|e
 ·exact(h.jY k e).2
 have:=zx h.box
 exact⟨by omega,λe2=>by have:=(h.st.row.lt k e2).2;omega,λe2=>by have:=(h.mo.row.lt k e2).2;omega,λe2=>by have:=(h.ne.row.lt k e2).2;omega,λe2=>by have:=(h.xr.lt k e2).2;omega⟩
theorem jG.blocks (h:jG W X Q g sv mv nv xv sl ml nl xl sc mc nc):∀k,XQ Q g sv mv nv xv k->k<X.heap.size:=λk hk=>by
 rcases hk with(hk|hk)|hk|hk|hk|hk
 ·rw [hk];exact zx h.box
 ·exact(h.jY k hk).1
 ·exact(h.st.row.lt k hk).2
 ·exact(h.mo.row.lt k hk).2
 ·exact(h.ne.row.lt k hk).2
 exact(h.xr.lt k hk).2
theorem jG.zon {P:World->Prop} (h:zZ (XQ Q g sv mv nv xv) X P) (hb:Below X.heap.size X X1):zZ (XQ Q g sv mv nv xv) X1 P:=h.step (qw (λ_=>False) hb) (λ_ h=>h.elim) (λ_ h=> .inl h)
theorem jG.z1p {P:World->Prop} (h:zZ (XQ Q g sv mv nv xv) X P) {o:Obj} (h4:Since (λk=>sv.ownBlock=some k) (X.alloc o) X1) (h5:∀k,sv'.ownBlock=some k->sv.ownBlock=some k\/k=(X.alloc o).heap.size):zZ (XQ Q g sv' mv nv xv) (X1.setCell ⟨g,0,none⟩ sv') P:=by
 have s1:Since (λk=>sv.ownBlock=some k) X X1:=((Since.refl _ X).alloc o).trans h4 (λk hk=> .inl hk)
 have s2:Since (λk=>k=g\/sv.ownBlock=some k) X (X1.setCell ⟨g,0,none⟩ sv'):=(s1.mono (G:=λk=>k=g\/sv.ownBlock=some k) (λ_ _ h=> .inr h)).setCell (p:=⟨g,0,none⟩) (.inl (.inl rfl)) _
 refine h.step s2 (λk hk=> .inl (hk.elim (λh=> .inl (.inl h)) (λh=> .inr (.inl h)))) (λk hk=> ?_)
 rcases hk with hk|hk|hk
 ·exact .inl (.inl hk)
 ·rcases h5 k hk with h6|h6
  ·exact .inl (.inr (.inl h6))
  refine .inr ?_;simp at h6;omega
 exact .inl (.inr (.inr hk))
theorem jG.zvz {P:World->Prop} (h:zZ (XQ Q g sv mv nv xv) X P) {o:Obj} {xv':Value} (h4:Since (λk=>xv.ownBlock=some k) (X.alloc o) X1) (h5:∀k,xv'.ownBlock=some k->xv.ownBlock=some k\/k=(X.alloc o).heap.size):zZ (XQ Q g sv mv nv xv') X1 P:=by
 have s1:Since (λk=>xv.ownBlock=some k) X X1:=((Since.refl _ X).alloc o).trans h4 (λk hk=> .inl hk)
 refine h.step s1 (λk hk=> .inl (.inr (.inr (.inr (.inr hk))))) (λk hk=> ?_)
 rcases hk with hk|hk|hk|hk|hk
 ·exact .inl (.inl hk)
 ·exact .inl (.inr (.inl hk))
 ·exact .inl (.inr (.inr (.inl hk)))
 ·exact .inl (.inr (.inr (.inr (.inl hk))))
 rcases h5 k hk with h6|h6
 ·exact .inl (.inr (.inr (.inr (.inr h6))))
 refine .inr ?_;simp at h6;omega
theorem jG.zvx {P:World->Prop} (h:zZ (XQ Q g sv mv nv xv) X P) {F Q':Nat->Prop} (hs:Since F X X1) (hF:∀k,F k->Q k) (hQ:∀k,Q' k->Q k\/X.heap.size<=k):zZ (XQ Q' g sv mv nv xv) X1 P:=
 h.step hs (λk hk=> .inl (.inl (.inr (hF k hk)))) (λk hk=>by
  rcases hk with(hk|hk)|hk
  ·exact .inl (.inl (.inl hk))
  ·exact(hQ k hk).imp (λe=> .inl (.inr e)) id
  exact .inl (.inr hk))
theorem zeT {F:Nat->Prop} {B n cap:Nat} {e:TypeId} {a:Option Addr} {l:List zl} {css:List (List Value)} (h:xq F X qp 3 B e (.slice a n cap) l css) {i:Nat} (hi:i<l.length):∃b tv mv,a=some ⟨b,0,none⟩/\b<X.heap.size/\css.getD i [] = [tv,mv, .bool (l.getD i default).bad] /\
  X.cell? ⟨b,i*3,none⟩=some tv/\X.cell? ⟨b,i*3+1,none⟩=some mv/\X.cell? ⟨b,i*3+2,none⟩=some (.bool (l.getD i default).bad)/\zZ F X (λy=>zY y (l.getD i default) tv mv):=by
 obtain⟨hlen,haw⟩:=h.part i hi
 obtain⟨tv,mv,hcs, -⟩:=haw.now
 have hrow:=h.row
 obtain⟨b,cap',he, -, -⟩:=wN hrow (by omega)
 cases he
 have hc:∀j,j<3->X.cell? ⟨b,i*3+j,none⟩=(css.getD i [])[j]? :=λj hj=>by
  rw [hrow.cellAt _ (by omega)]
  exact zdA (λj hj=>(h.part j (by rw [<-h.len];exact hj)).1) (by rw [h.len];exact hi) hj
 rw [hcs] at hc
 refine⟨b,tv,mv,rfl,(hrow.lt b rfl).2,hcs,hc 0 (by omega),hc 1 (by omega),hc 2 (by omega),λy hy=> ?_⟩
 obtain⟨tv',mv',hcs',hst⟩:=haw y hy
 rw [hcs] at hcs'
 simp only [List.cons.injEq,and_true] at hcs'
 rw [hcs'.1,hcs'.2]
 exact hst
def NxP (B:Nat) (va zv:Value) (ms:List zq) (ns:List zl) (css:List (List Value)) (y:World):Prop:=
 y.ownsRow B 32 3 va ms.length (zo zq.cells ms)/\y.ownsRow B 30 3 zv ns.length css.flatten/\css.length=ns.length/\∀j,j<ns.length->(css.getD j []).length=3/\qp y (ns.getD j default) (css.getD j [])
theorem zqv {w':World} {B:Nat} {va zv:Value} {ms:List zq} {ns:List zl} {css:List (List Value)} {F0:Nat->Prop} (hF:∀k,F0 k->k<B) (h1:w'.ownsRow B 32 3 va ms.length (zo zq.cells ms)) (h2:xq F0 w' qp 3 B 30 zv ns css):zZ F0 w' (NxP B va zv ms ns css):=λy hy=>
 ⟨hy.row h1 (λk hk e=>by have:=(h1.lt k hk).1;have:=hF k e;omega),hy.row h2.row (λk hk e=>by have:=(h2.row.lt k hk).1;have:=hF k e;omega),h2.len,λj hj=>⟨(h2.part j hj).1,(h2.part j hj).2 y hy⟩⟩
theorem zqw {F:Nat->Prop} {B n cap:Nat} {va:Value} {a:Option Addr} {ms:List zq} {ns:List zl} {css:List (List Value)} (h:zZ F X (NxP B va (.slice a n cap) ms ns css)) {i:Nat} (hi:i<ns.length):∃b tv mv,a=some ⟨b,0,none⟩/\css.getD i [] = [tv,mv, .bool (ns.getD i default).bad] /\
  X.cell? ⟨b,i*3,none⟩=some tv/\X.cell? ⟨b,i*3+1,none⟩=some mv/\X.cell? ⟨b,i*3+2,none⟩=some (.bool (ns.getD i default).bad)/\zZ F X (λy=>zY y (ns.getD i default) tv mv):=by
 obtain⟨b,tv,mv,h1, -,h2⟩:=zeT (F:=F) (B:=B) (e:=30) (a:=a) (n:=n) (cap:=cap) (l:=ns) (css:=css) (X:=X) ⟨h.now.2.2.1,λj hj=>⟨(h.now.2.2.2 j hj).1,λy hy=>((h y hy).2.2.2 j hj).2⟩,h.now.2.1⟩ hi
 exact⟨b,tv,mv,h1,h2⟩
theorem jG.fin (h:jG W X Q g sv mv nv xv sl ml nl xl sc mc nc) {B:Nat} (hB:B<=W.heap.size) (hs:Since (λk=>k=g) X X1) (hQ:∀k,k<B->Q k):zZ (λk=>k<B) X1 (λy=>jL y ⟨sl,ml,nl⟩ sv mv nv):=λy hy=>by
 have hG:∀k,k=g->XQ Q g sv mv nv xv k\/X.heap.size<=k:=λk hk=> .inl (.inl (.inl hk))
 have hG2:∀k,k<B->XQ Q g sv mv nv xv k\/X1.heap.size<=k:=λk hk=> .inl (.inl (.inr (hQ k hk)))
 have hF2:∀k,False->XQ Q g sv mv nv xv k\/X1.heap.size<=k:=λ_ h=>h.elim
 have hF:∀k,XQ Q g sv mv nv xv k->XQ Q g sv mv nv xv k\/X.heap.size<=k:=λk hk=> .inl hk
 exact⟨((h.st.step hs (λk hk e=>xW h.st.row h.box (by decide) k hk e) hG hF).step hy (λk hk e=>by have:=(h.st.row.lt k hk).1;omega) hG2 hF2).slice,((h.mo.step hs (λk hk e=>xW h.mo.row h.box (by decide) k hk e) hG hF).step hy (λk hk e=>by have:=(h.mo.row.lt k hk).1;omega) hG2 hF2).slice,((h.ne.step hs (λk hk e=>xW h.ne.row h.box (by decide) k hk e) hG hF).step hy (λk hk e=>by have:=(h.ne.row.lt k hk).1;omega) hG2 hF2).slice⟩
end
theorem zqp (W:World):jG W (W.alloc (.cells #[.slice none 0 0, .slice none 0 0, .slice none 0 0] 71)) (λk=>k<W.heap.size) W.heap.size (.slice none 0 0) (.slice none 0 0) (.slice none 0 0) (.slice none 0 0) [] [] [] [] [] [] [] :=
 ⟨(Below.refl _ _).alloc (Nat.le_refl _) _,Nat.le_refl _,λk hk=>⟨by simp;omega,by omega,by simp [Value.ownBlock],by simp [Value.ownBlock],by simp [Value.ownBlock],by simp [Value.ownBlock]⟩,yj W _,xq.nil _ _ _ _ _ _,xq.nil _ _ _ _ _ _,xq.nil _ _ _ _ _ _,World.ownsRow_nil _ _ _ _⟩
theorem ziX {y:World} {g:Nat} {a b c:Value} (hy:y.heap[g]? =some (.cells #[a,b,c] 71 (0,0))) (p q r:Value):(((y.setCell ⟨g,0,none⟩ p).setCell ⟨g,1,none⟩ q).setCell ⟨g,2,none⟩ r).heap[g]? =some (.cells #[p,q,r] 71 (0,0))/\Since (λk=>k=g) y (((y.setCell ⟨g,0,none⟩ p).setCell ⟨g,1,none⟩ q).setCell ⟨g,2,none⟩ r):=by
 have h:=zw (zw (zw hy 0 p) 1 q) 2 r
 refine⟨by simpa using h,Since.setCell (F:=λk=>k=g) (p:=⟨g,2,none⟩) (Since.setCell (F:=λk=>k=g) (p:=⟨g,1,none⟩) (Since.setCell (F:=λk=>k=g) (p:=⟨g,0,none⟩) (Since.refl _ y) (.inl rfl) _) (.inl rfl) _) (.inl rfl) _⟩
theorem zn4 {α:Type} {f:α->List Int} {b:Nat} :∀ {l:List α},(∀x∈l,(f x).length<=b)->(l.flatMap f).length<=l.length*b:=by
 intro l
 induction l with
 |nil=>intro _;simp
 |cons x l ih=>
 intro h
 have h1:=h x (List.mem_cons_self ..)
 have h2:=ih (λy hy=>h y (List.mem_cons_of_mem _ hy))
 simp only [List.flatMap_cons,List.length_append,List.length_cons,Nat.add_mul]
 omega
theorem zeS {c:zI} {m:zF} {s:zl} (hf:yF c m s=true) (hr:kK s):(zb2 s).length<=1000000:=by
 have h1:=zdD hf
 have hs:=zdC hf hr
 have h2:1<=c.vars/\c.vars<=4/\c.threads.length<=4:=by
  have h0:=hf
  unfold yF vO at h0
  simp only [Bool.and_eq_true,decide_eq_true_eq] at h0
  have:=xM h0.1.1.1.1.1.1.1.1
  exact⟨this.1,this.2.1,this.2.2.2.2.2⟩
 have h3:=zn4 (f:=vB) (b:=519) (l:=s.threads) (λt ht=>by
  have h:=hs.thr t ht
  have h4:=zn4 (f:=wZ) (b:=2) (l:=t.buf) (λe _=>by simp [wZ])
  have:=h.len
  unfold vB
  simp only [List.length_append,List.length_map,h.regs,List.length_cons,List.length_nil]
  omega)
 have h5:s.threads.length*519<=4*519:=Nat.mul_le_mul_right _ (by omega)
 unfold zb2
 simp only [List.length_cons,List.length_append,List.length_map]
 omega
theorem ziZ {c:zI} {m:zF} {s:zl} (hf:yF c m s=true) (hr:kK s):(keyOf s).size<=maxLen:=by
 have:=zeS hf hr
 unfold keyOf maxLen
 rw [strOfNums_size];omega
theorem zux {c:zI} {m:zF} {l:List zl} {t:zl} (hl:∀s∈l,yF c m s=true/\kK s) (ht:yF c m t=true/\kK t):pF (l.map keyOf) (keyOf t) (if t∈l then(l.idxOf t:Int) else -1):=by
 have hk:∀i,(h:i<l.length)->(l.map keyOf).getD i ByteArray.empty=keyOf l[i] :=λi h=>by
  rw [List.getD_eq_getElem?_getD,List.getElem?_eq_getElem (by simpa using h)];simp
 have inj:∀i,(h:i<l.length)->keyOf l[i] =keyOf t->l[i] =t:=λi h e=>by
  have:=hl _ (List.getElem_mem h)
  exact zsL this.1 ht.1 this.2 ht.2 e
 split
 ·rename_i hm
  have hi:=List.idxOf_lt_length_of_mem hm
  refine .inl ⟨l.idxOf t,by simpa using hi, ?_,rfl,λj hj=> ?_⟩
  ·rw [hk _ hi,List.getElem_idxOf]
  have hjl:j<l.length:=by omega
  rw [hk j hjl]
  intro e
  have e2:=inj j hjl e
  have:=List.not_of_lt_findIdx (p:=(· ==t)) (xs:=l) (i:=j) hj
  simp [e2] at this
 rename_i hm
 refine .inr ⟨rfl,λi hi=> ?_⟩
 have hil:i<l.length:=by simpa using hi
 rw [hk i hil]
 intro e
 exact hm (inj i hil e ▸ List.getElem_mem hil)
theorem zna {c:zI} {m:zF} {l:List zl} {t:zl} {room:Nat} (hl:∀s∈l,yF c m s=true/\kK s) (ht:yF c m t=true/\kK t) (hr:l.length<=room):
  (t∈l/\zfs (l.map keyOf) room (keyOf t) (l.idxOf t:Int) false (l.map keyOf)/\putAt l t=(l,l.idxOf t)/\l.idxOf t<room)\/
  (t ∉ l/\room<=l.length/\zfs (l.map keyOf) room (keyOf t) (-1) false (l.map keyOf)/\putAt l t=(l++ [t],l.length))\/
  (t ∉ l/\l.length<room/\zfs (l.map keyOf) room (keyOf t) (l.length:Int) true ((l++ [t]).map keyOf)/\putAt l t=(l++ [t],l.length)):=by
 have hf:=zux hl ht
 by_cases hm:t∈l
 ·rw [if_pos hm] at hf
  have hi:=List.idxOf_lt_length_of_mem hm
  exact .inl ⟨hm, .inl ⟨hf,by omega,rfl,rfl⟩,by unfold putAt;rw [if_pos hm],by omega⟩
 rw [if_neg hm] at hf
 have hp:putAt l t=(l++ [t],l.length):=by unfold putAt;rw [if_neg hm]
 by_cases h2:room<=l.length
 ·exact .inr (.inl ⟨hm,h2, .inr (.inl ⟨hf,by simpa using h2,rfl,rfl,rfl⟩),hp⟩)
 exact .inr (.inr ⟨hm,by omega, .inr (.inr ⟨hf,by simpa using Nat.lt_of_not_le h2,by simp,rfl,by simp⟩),hp⟩)
def zzN (l:List zl) (t:zl) (room:Nat) (a:Int) (is:Bool) (l2:List zl):Prop:=
 (0<=a/\is=false/\l2=l/\putAt l t=(l,a.toNat)/\a<room)\/(a= -1/\is=false/\putAt l t=(l++ [t],l.length)/\room<=l.length)\/(a=l.length/\is=true/\l2=l++ [t] /\putAt l t=(l++ [t],l.length)/\l.length<room)
theorem zte {c:zI} {m:zF} {l:List zl} {t:zl} {room:Nat} (hl:∀s∈l,yF c m s=true/\kK s) (ht:yF c m t=true/\kK t) (hr:l.length<=room):∃a is l2,zfs (l.map keyOf) room (keyOf t) a is (l2.map keyOf)/\zzN l t room a is l2:=by
 rcases zna hl ht hr with⟨-,h2,h3,h4⟩|⟨-,h2,h3,h4⟩|⟨-,h2,h3,h4⟩
 ·exact⟨_,_,l,h2, .inl ⟨by omega,rfl,rfl,by rw [h3];simp,by omega⟩⟩
 ·exact⟨_,_,l,h3, .inr (.inl ⟨rfl,rfl,h4,h2⟩)⟩
 exact⟨_,_,_,h3, .inr (.inr ⟨rfl,rfl,rfl,h4,h2⟩)⟩
theorem zms {F:Nat->Prop} {X:World} {B:Nat} {e:TypeId} {v:Value} {l:List zl} {css:List (List Value)} (h:xq F X qp 3 B e v l css) {s:zl} (hs:s∈l):kK s:=by
 obtain⟨j,hj,rfl⟩:=zbY hs
 obtain⟨tv,mv, -,hst⟩:=(h.part j hj).2.now
 exact hst.kK
