/- Steps. -/
import Derived.Test.YteggflahafiieaaGreatDoorZgDo
import Derived.Test.YteggflahafiieaaGreatDoorZgExpQ
import Derived.Test.YteggflahafiieaaGreatDoorZgPTryP
set_option linter.all false
namespace Go.Proofs.YteggflahafiieaaGreatDoor
open Go.RowKit
set_option maxRecDepth 100000
set_option maxHeartbeats 16000000
theorem zuB {w V:World} {B mb mc:Nat} {pc r0 r1 r2 r3 dom:Int} {buf:List zi} {bv:Value} {m:zF} {mem:List Int} {bad:Bool} (hbf:zW w bv buf) (hwV:Below w.heap.size w V) (hw:w.heap.size<=B) (hB:B<=V.heap.size) (hrow:V.ownsRow B 3 1 (.slice (some ⟨mb,0,none⟩) mem.length mc) mem.length (zl yO mem)):
  xq bv (V.alloc (.cells #[.int .i64 pc, .int .i64 r0, .int .i64 r1, .int .i64 r2, .int .i64 r3,bv, .int .i64 m.model, .int .i64 m.bound, .int .i64 dom, .slice (some ⟨mb,0,none⟩) mem.length mc, .bool bad] 142)) B V.heap.size pc r0 r1 r2 r3 buf bv m dom mem mb mc bad:=by
 have hA:=(Below.refl V.heap.size V).alloc (Nat.le_refl _) (.cells #[.int .i64 pc, .int .i64 r0, .int .i64 r1, .int .i64 r2, .int .i64 r3,bv, .int .i64 m.model, .int .i64 m.bound, .int .i64 dom, .slice (some ⟨mb,0,none⟩) mem.length mc, .bool bad] 142)
 have hm:=hrow.lt mb rfl
 exact⟨yE V _,xX hrow hA,zW.below hbf (zB hwV hA),hB,by omega,λhn b o n c e=>by have:=zta hbf hn b o n c e;exact⟨by omega,by omega⟩, .inl rfl⟩
theorem zuG {w:World} {B n cap:Nat} {a:Option Addr} {l:List Int} (h:w.ownsRow B 3 1 (.slice a n cap) n (zl yO l)) (hl:0<l.length):∃g,a=some ⟨g,0,none⟩:=by
 obtain⟨g,cap',he, -⟩:=qX h (zhg hl)
 cases he
 exact⟨g,rfl⟩
theorem zeJ {w:World} {B n cap:Nat} {a:Option Addr} {l:List zo} {bs:List Value} (h:w.ownsRow B 47 6 (.slice a n cap) n (zU l bs)) (hl:0<l.length):∃g,a=some ⟨g,0,none⟩:=by
 obtain⟨g,cap',he, -⟩:=qX h (j:=0) (u:= .int .i64 (l.getD 0 default).pc) (show(zU l bs)[0]? =some (.int .i64 (l.getD 0 default).pc) from(qV (bs:=bs) (j:=0) (i:=0) hl (by omega)).trans rfl)
 cases he
 exact⟨g,rfl⟩
theorem gY {w y:World} {g:Nat} (hb:y.heap[g]? =some (.cells #[.slice none 0 0, .slice none 0 0, .bool false] 35 (0,0))) (hy:Below w.heap.size w y) (hg:w.heap.size<=g):
  (y.cell? ⟨g,0,none⟩=some (.slice none 0 0)/\y.cell? ⟨g,1,none⟩=some (.slice none 0 0)/\y.cell? ⟨g,2,none⟩=some (.bool false))/\(y.frozen? ⟨g,0,none⟩=false/\y.frozen? ⟨g,1,none⟩=false/\y.frozen? ⟨g,2,none⟩=false)/\
   ∀a b c:Value,(((y.setCell ⟨g,0,none⟩ a).setCell ⟨g,1,none⟩ b).setCell ⟨g,2,none⟩ c).heap[g]? =some (.cells #[a,b,c] 35 (0,0))/\
    Since (λk=>k=g) y (((y.setCell ⟨g,0,none⟩ a).setCell ⟨g,1,none⟩ b).setCell ⟨g,2,none⟩ c)/\Below w.heap.size w (((y.setCell ⟨g,0,none⟩ a).setCell ⟨g,1,none⟩ b).setCell ⟨g,2,none⟩ c):=by
 refine⟨⟨za hb 0,za hb 1,za hb 2⟩,⟨zw hb 0,zw hb 1,zw hb 2⟩,λa b c=> ?_⟩
 have hset:=zu (zu (zu hb 0 a) 1 b) 2 c
 simp only [List.setIfInBounds_toArray,List.set_cons_zero,List.set_cons_succ] at hset
 have hS:Since (λk=>k=g) y (((y.setCell ⟨g,0,none⟩ a).setCell ⟨g,1,none⟩ b).setCell ⟨g,2,none⟩ c):=Since.setCell (F:=λk=>k=g) (p:=⟨g,2,none⟩) (Since.setCell (F:=λk=>k=g) (p:=⟨g,1,none⟩) (Since.setCell (F:=λk=>k=g) (p:=⟨g,0,none⟩) (Since.refl _ y) (.inl rfl) _) (.inl rfl) _) (.inl rfl) _
 exact⟨hset,hS,hy.trans (hS.below hy.size (λk e=>by omega))⟩
theorem zdF {α:Type} [Inhabited α] {R:World->α->List Value->Prop} {size:Nat} {w w':World} {sv:Value} {l:List α} (h:ze R size w sv l) (hz:0<size) (hR:∀x cs,R w x cs->(∃z,cs[0]? =some (.int .i64 z))/\R w' x cs) {g:Nat} {t:TypeId} {f:Nat × Nat} {a1 a2:Option Addr} {n1 c1 n2 c2:Nat} {bad:Bool}
  (hg:w.heap[g]? =some (.cells #[.slice a1 n1 c1, .slice a2 n2 c2, .bool bad] t f)) (hs:Since (λk=>k=g) w w'):ze R size w' sv l:=by
 obtain⟨a,cap,h1,h2,h4⟩:=h
 refine⟨a,cap,h1,h2,λj hj=> ?_⟩
 obtain⟨b,off,cs,h5,h6,h7,h8,h9⟩:=h4 j hj
 obtain⟨⟨z,hz0⟩,h10⟩:=hR _ _ h9
 have hne:b≠g:=by
  intro e
  subst e
  have h11:=(h8 0 hz).trans hz0
  rw [za hg] at h11
  have:∀j:Nat,(#[Value.slice a1 n1 c1, .slice a2 n2 c2, .bool bad] :Array Value)[j]? ≠some (.int .i64 z):=by
   intro j
   rcases j with _|_|_|j<;>simp
  exact this _ h11
 exact⟨b,off,cs,h5,Nat.lt_of_lt_of_le h6 hs.size,h7,λi hi=>(hs.cell (p:=⟨b,off+j*size+i,none⟩) h6 hne).trans (h8 i hi),h10⟩
theorem zal {w w':World} {s:zm} {tv mv:Value} (h:yh w s tv mv) {g:Nat} {t:TypeId} {f:Nat × Nat} {a1 a2:Option Addr} {n1 c1 n2 c2:Nat} {bad:Bool} (hg:w.heap[g]? =some (.cells #[.slice a1 n1 c1, .slice a2 n2 c2, .bool bad] t f)) (hs:Since (λk=>k=g) w w'):yh w' s tv mv:=
 ⟨zdF h.threads (by decide) (λx cs ⟨h0,bv,h1,h2⟩=>⟨⟨x.pc,by rw [h1];rfl⟩,h0,bv,h1,zdF h2 (by decide) (λy ds e=>⟨⟨y.var,by rw [show ds=zi.cells y from e];rfl⟩,e⟩) hg hs⟩) hg hs,
  zdF h.mem (by decide) (λy ds e=>⟨⟨y,by rw [show ds=yO y from e];rfl⟩,e⟩) hg hs⟩
theorem zvz (w:World) (p:Addr) (u:Value):(w.setCell p u).drew=w.drew.setCell p u:=rfl
theorem zlJ (w:World) (p0 p1 p2 p3 p4 p5 p6 p7:Addr) (u0 u1 u2 u3 u4 u5 u6 u7:Value):
  ((((((((w.setCell p0 u0).setCell p1 u1).setCell p2 u2).setCell p3 u3).setCell p4 u4).setCell p5 u5).setCell p6 u6).setCell p7 u7).drew=(((((((w.drew.setCell p0 u0).setCell p1 u1).setCell p2 u2).setCell p3 u3).setCell p4 u4).setCell p5 u5).setCell p6 u6).setCell p7 u7:=by
 simp only [zvz]
theorem zx0 {c:zK} (h:codeOk c=true) {i k:Nat} (hi:i<c.threads.length) (hk:k<(c.threads.getD i []).length):zqJ ((c.threads.getD i []).getD k default).op:=by
 unfold codeOk at h
 simp only [Bool.and_eq_true,decide_eq_true_eq] at h
 have h1:=h.2
 rw [List.all_eq_true] at h1
 have h2:=h1 (c.threads.getD i []) (qP hi)
 unfold rowOk at h2
 simp only [Bool.and_eq_true,decide_eq_true_eq] at h2
 obtain⟨h3,h4⟩:=h2
 rw [List.all_eq_true] at h4
 have h5:=h4 ((c.threads.getD i []).getD k default) (qP hk)
 generalize (c.threads.getD i []).getD k default=y at h5 ⊢
 unfold xW at h5
 unfold zqJ
 split at h5
 ·omega
 split at h5
 ·omega
 split at h5
 ·cases h5
 unfold qW at h5
 simp only [Bool.and_eq_true,decide_eq_true_eq] at h5
 obtain⟨⟨⟨⟨h6,h7⟩, -⟩, -⟩, -⟩:=h5
 omega
def wS (c:zK) (m:zF) (s:zm) (i:Nat) (kind vr:Int) (d:Nat):Option zm:=
 if kind=1/\vr=0 then vT c m s i d else if kind=2/\vr∈yD (s.threads.getD i default).buf m.model then some (kI s i vr) else none
def zgb (w:World) (FW:World->zm->Value->Value->Prop) (r:Option zm) (e:Ending) (w':World):Prop:=Below w.heap.size w w'/\((r=none/\e= .returned (.tuple #[.agg #[.slice none 0 0, .slice none 0 0, .bool false], .bool false]))\/∃s xa xn xc ya yn yc,r=some s/\e= .returned (.tuple #[.agg #[.slice xa xn xc, .slice ya yn yc, .bool s.bad], .bool true])/\FW w' s (.slice xa xn xc) (.slice ya yn yc))
theorem zx1 {w:World} {a:Option Addr} {n c:Nat} {ts:List zo} {bs:List Value} {i b o:Nat} {v:Value} (h:SrcOf w (.slice a n c) ts.length 6 (zU ts bs)) (ha:a=some ⟨b,o,none⟩) (hi:i<ts.length) (hv:w.cell? ⟨b,o+i*6+5,none⟩=some v):v=bs.getD i (.slice none 0 0):=by
 obtain⟨a',cap,e, -, -,hcell⟩:=h
 cases e
 have hx:(zU ts bs)[i*6+5]? =some (bs.getD i (.slice none 0 0)):=(qV (bs:=bs) (i:=5) hi (by omega)).trans rfl
 have hw:=hcell _ ha _ _ hx
 have hw2:w.cell? ⟨b,o+i*6+5,none⟩=some (bs.getD i (.slice none 0 0)):=by simpa [Addr.add,Nat.add_assoc] using hw
 rw [hv] at hw2
 injection hw2
def zqm (s:zm) (i:Nat) (r:zo × List Int × Bool):zm:=⟨s.threads.set i r.1,r.2.1,r.2.2⟩
theorem zrV {c:zK} {m:zF} {s:zm} {i:Nat} {kind vr:Int} {d:Nat} (hk:kind=1) (hv:vr=0):wS c m s i kind vr d=(if (s.threads.getD i default).pc<((c.threads.getD i []).length:Int) then stepT c m s (s.threads.getD i default) ((c.threads.getD i []).getD (s.threads.getD i default).pc.toNat default) d else none).map (zqm s i):=by
 unfold wS vT
 rw [if_pos ⟨hk,hv⟩]
 split<;>rfl
theorem zqi {c:zK} {m:zF} {s:zm} {i:Nat} {kind vr:Int} {d:Nat} (hk:kind=2) (hh:vr∈yD (s.threads.getD i default).buf m.model->∃n,takeB (s.threads.getD i default).buf vr=(some ⟨vr,n⟩,(takeB (s.threads.getD i default).buf vr).2)):
  wS c m s i kind vr d=(if vr∈yD (s.threads.getD i default).buf m.model then some (⟨(s.threads.getD i default).pc,(s.threads.getD i default).regs,(takeB (s.threads.getD i default).buf vr).2⟩,s.mem.set vr.toNat ((takeB (s.threads.getD i default).buf vr).1.getD default).n,s.bad) else none).map (zqm s i):=by
 unfold wS
 rw [if_neg (by omega)]
 by_cases h:vr∈yD (s.threads.getD i default).buf m.model
 ·rw [if_pos ⟨hk,h⟩,if_pos h]
  obtain⟨n,hn⟩:=hh h
  unfold kI zqm
  rw [hn]
  rfl
 rw [if_neg (λe=>h e.2),if_neg h];rfl
theorem zrW {c:zK} {m:zF} {s:zm} {i:Nat} {kind vr:Int} {d:Nat} (h1:¬(kind=1/\vr=0)) (h2:¬kind=2):wS c m s i kind vr d=none:=by
 unfold wS
 rw [if_neg h1,if_neg (λe=>h2 e.1)]
theorem zhf {c:zK} {m:zF} {s:zm} {x:zN} {d:Nat} (hf:xR c m s=true) (h:0<=x.thread/\x.thread<(s.threads.length:Int)):ji c m s x d=zkS (wS c m s x.thread.toNat x.kind x.var d):=by
 unfold ji wS
 rw [if_pos hf,if_pos h]
 by_cases h1:x.kind=1/\x.var=0
 ·rw [if_pos h1,if_pos h1];rfl
 rw [if_neg h1,if_neg h1]
 split<;>rfl
end Go.Proofs.YteggflahafiieaaGreatDoor
namespace Go.Proofs.YteggflahafiieaaGreatDoor
open Go.RowKit
set_option maxRecDepth 100000
set_option maxHeartbeats 16000000
structure uy (V X:World) (B:Nat) (u1 u2:Value) (e1:TypeId) (s1:Nat) (v1:Value) (n1:Nat) (xs1:List Value) (e2:TypeId) (s2:Nat) (v2:Value) (n2:Nat) (xs2:List Value) (bs:List (Nat × TypeId × List Value)):Prop where
 since:Since (λx=>u1.ownBlock=some x\/u2.ownBlock=some x) V X
 r1:X.ownsRow B e1 s1 v1 n1 xs1
 r2:X.ownsRow B e2 s2 v2 n2 xs2
 l1:∀x,v1.ownBlock=some x->u1.ownBlock=some x\/V.heap.size<=x
 l2:∀x,v2.ownBlock=some x->u2.ownBlock=some x\/V.heap.size<=x
 news:∀p∈bs,X.heap[p.1]? =some (.cells p.2.2.toArray p.2.1 (0,0))/\v1.ownBlock≠some p.1/\v2.ownBlock≠some p.1
 base:B<=X.heap.size
section
variable {V X:World} {B:Nat} {u1 u2 v1 v2:Value} {e1 e2:TypeId} {s1 s2 n1 n2:Nat} {xs1 xs2:List Value} {bs:List (Nat × TypeId × List Value)}
theorem uy.start (h1:V.ownsRow B e1 s1 v1 n1 xs1) (h2:V.ownsRow B e2 s2 v2 n2 xs2) (hB:B<=V.heap.size):uy V V.drew B v1 v2 e1 s1 v1 n1 xs1 e2 s2 v2 n2 xs2 [] :=
 ⟨(Since.refl _ _).drew,(Since.refl (λ_=>False) V).drew.row h1 (λ_ _ h=>h),(Since.refl (λ_=>False) V).drew.row h2 (λ_ _ h=>h),λ_ h=> .inl h,λ_ h=> .inl h,by simp,hB⟩
theorem uy.alloc (h:uy V X B u1 u2 e1 s1 v1 n1 xs1 e2 s2 v2 n2 xs2 bs) (t:TypeId) (cs:List Value):uy V (X.alloc (.cells cs.toArray t)) B u1 u2 e1 s1 v1 n1 xs1 e2 s2 v2 n2 xs2 ((X.heap.size,t,cs)::bs):=by
 refine⟨h.since.alloc _,h.r1.alloc _,h.r2.alloc _,h.l1,h.l2, ?_,by have:=h.base;simp;omega⟩
 intro p hp
 rcases List.mem_cons.1 hp with rfl|hp
 ·exact⟨yE X _,λe=>by have:=(h.r1.lt _ e).2;simp at this,λe=>by have:=(h.r2.lt _ e).2;simp at this⟩
 obtain⟨a,b,c⟩:=h.news p hp
 exact⟨(Below.heap_alloc _ _ _ (zq a)).trans a,b,c⟩
theorem uy.app1 (h:uy V X B u1 u2 e1 s1 v1 n1 xs1 e2 s2 v2 n2 xs2 bs) (hne:e1≠e2) {X':World} {v1':Value} {m:Nat} {xs':List Value} (ho:X'.ownsRow B e1 s1 v1' m xs') (hs:Since (λk=>v1.ownBlock=some k) X X') (hl:∀k,v1'.ownBlock=some k->v1.ownBlock=some k\/k=X.heap.size):
  uy V X' B u1 u2 e1 s1 v1' m xs' e2 s2 v2 n2 xs2 bs:=by
 refine⟨h.since.trans hs (λi hi=>(h.l1 i hi).imp .inl id),ho,hs.row h.r2 (λk hk e=>zaJ h.r1 h.r2 hne k e hk),λx hx=> ?_,h.l2,λp hp=> ?_,Nat.le_trans h.base hs.size⟩
 ·rcases hl x hx with e|rfl
  ·exact h.l1 x e
  exact .inr h.since.size
 obtain⟨a,b,c⟩:=h.news p hp
 refine⟨(hs.block _ (zq a) b).trans a,λe=> ?_,c⟩
 rcases hl _ e with e'|e'
 ·exact b e'
 have:=zq a;omega
theorem uy.zut (h:uy V X B u1 u2 e1 s1 v1 n1 xs1 e2 s2 v2 n2 xs2 bs) (hne:e1≠e2) {X':World} {v2':Value} {m:Nat} {xs':List Value} (ho:X'.ownsRow B e2 s2 v2' m xs') (hs:Since (λk=>v2.ownBlock=some k) X X') (hl:∀k,v2'.ownBlock=some k->v2.ownBlock=some k\/k=X.heap.size):
  uy V X' B u1 u2 e1 s1 v1 n1 xs1 e2 s2 v2' m xs' bs:=by
 refine⟨h.since.trans hs (λi hi=>(h.l2 i hi).imp .inr id),hs.row h.r1 (λk hk e=>zaJ h.r1 h.r2 hne k hk e),ho,h.l1,λx hx=> ?_,λp hp=> ?_,Nat.le_trans h.base hs.size⟩
 ·rcases hl x hx with e|rfl
  ·exact h.l2 x e
  exact .inr h.since.size
 obtain⟨a,b,c⟩:=h.news p hp
 refine⟨(hs.block _ (zq a) c).trans a,b,λe=> ?_⟩
 rcases hl _ e with e'|e'
 ·exact c e'
 have:=zq a;omega
theorem uy.cell (h:uy V X B u1 u2 e1 s1 v1 n1 xs1 e2 s2 v2 n2 xs2 bs) {b:Nat} {t:TypeId} {cs:List Value} (hb:(b,t,cs)∈bs):∀j x,cs[j]? =some x->X.cell? ((⟨b,0,none⟩:Addr).add j)=some x:=by
 intro j x hj
 have:=za (h.news _ hb).1 j
 rw [show(⟨b,0,none⟩:Addr).add j=⟨b,j,none⟩ by simp [Addr.add];omega,this,List.getElem?_toArray]
 exact hj
end
def NF (F0:Nat->Prop) (v1 v2:Value) (k:Nat):Prop:=F0 k\/v1.ownBlock=some k\/v2.ownBlock=some k
structure vR (F0:Nat->Prop) (W X:World) (v1 v2:Value) (ml:List zN) (nl:List zm) (css:List (List Value)):Prop where
 row:X.ownsRow W.heap.size 43 3 v1 ml.length (zl zN.cells ml)
 st:qp (NF F0 v1 v2) X zaO 3 W.heap.size 35 v2 nl css
 below:Below W.heap.size W X
section
variable {F0:Nat->Prop} {W V X:World} {v1 v2:Value} {ml:List zN} {nl:List zm} {css:List (List Value)}
theorem vR.begin (hb:Below W.heap.size W X):vR F0 W X (.slice none 0 0) (.slice none 0 0) [] [] [] :=
 ⟨World.ownsRow_nil _ _ _ _,qp.nil _ _ _ _ _ _,hb⟩
theorem vR.later (h:vR F0 W V v1 v2 ml nl css) (hb:Below V.heap.size V X):vR F0 W X v1 v2 ml nl css:=
 ⟨xX h.row hb,h.st.step (G:=λ_=>False) (wm _ hb) (λ_ _ h=>h) (λ_ h=>h.elim) (λ_ hk=> .inl hk),zB h.below hb⟩
theorem vR.push (h:vR F0 W V v1 v2 ml nl css) {v1' v2':Value} {x:zN} {t:zm} {cs:List Value} {bs:List (Nat × TypeId × List Value)}
  (hT:uy V X W.heap.size v1 v2 43 3 v1' (ml.length+1) (zl zN.cells ml++zN.cells x) 35 3 v2' (nl.length+1) (css.flatten++cs) bs) (hx:yK (NF F0 v1 v2) V (λy=>zaO y t cs)) (hc:cs.length=3):
  vR F0 W X v1' v2' (ml++ [x]) (nl++ [t]) (css++ [cs]):=by
 refine⟨?_, ?_, ?_⟩
 ·rw [List.length_append,zde];exact hT.r1
 ·refine h.st.push (G:=λk=>v1.ownBlock=some k\/v2.ownBlock=some k) hT.since (λk hk=> .inl (.inr hk)) (λk hk=> ?_) hx hc hT.r2
  rcases hk with e|e|e
  ·exact .inl (.inl e)
  ·exact(hT.l1 k e).elim (λe=> .inl (.inr (.inl e))) .inr
  exact(hT.l2 k e).elim (λe=> .inl (.inr (.inr e))) .inr
 refine h.below.trans (hT.since.below h.below.size (λk hk=> ?_))
 rcases hk with e|e
 ·exact(h.row.lt k e).1
 exact(h.st.row.lt k e).1
theorem vR.less (h:vR F0 W V v1 v2 ml nl css) {F1:Nat->Prop} (hF:∀k,F1 k->F0 k\/V.heap.size<=k):vR F1 W V v1 v2 ml nl css:=by
 refine⟨h.row,h.st.step (G:=λ_=>False) (Since.refl _ _) (λ_ _ h=>h) (λ_ h=>h.elim) (λk hk=> ?_),h.below⟩
 rcases hk with e|e
 ·exact(hF k e).imp .inl id
 exact .inl (.inr e)
theorem vR.side (h:vR F0 W V v1 v2 ml nl css) {B n:Nat} {av:Value} {xs:List Value} {o:Obj} (ha:V.ownsRow B 43 3 av n xs) (hB:∀k,B<=k->F0 k) (hWB:W.heap.size<=B) (hne:∀k,v1.ownBlock=some k->av.ownBlock≠some k) (hs:Since (λk=>av.ownBlock=some k) (V.alloc o) X):
  vR F0 W X v1 v2 ml nl css:=by
 have hs2:Since (λk=>av.ownBlock=some k) V X:=((Since.refl _ V).alloc o).trans hs (λ_ hk=> .inl hk)
 refine⟨hs2.row h.row (λk hk e=>hne k hk e),h.st.step hs2 (λk hk e=>zaJ ha h.st.row (by decide) k e hk) (λk hk=> .inl (.inl (hB k (ha.lt k hk).1))) (λ_ hk=> .inl hk),h.below.trans (hs2.below h.below.size (λk hk=>Nat.le_trans hWB (ha.lt k hk).1))⟩
theorem vR.beside (h:vR F0 W V v1 v2 ml nl css) {B n:Nat} {av v1' v2':Value} {xs:List Value} {n1 n2:Nat} {xs1 xs2:List Value} {bs:List (Nat × TypeId × List Value)} (ha:V.ownsRow B 43 3 av n xs) (hne:∀k,v1.ownBlock=some k->av.ownBlock≠some k)
  (hT:uy V X W.heap.size v1 v2 43 3 v1' n1 xs1 35 3 v2' n2 xs2 bs):X.ownsRow B 43 3 av n xs/\∀k,v1'.ownBlock=some k->av.ownBlock≠some k:=by
 refine⟨hT.since.row ha (λk hk e=> ?_),λk hk e=> ?_⟩
 ·rcases e with e|e
  ·exact hne k e hk
  exact zaJ ha h.st.row (by decide) k hk e
 rcases hT.l1 k hk with e1|e1
 ·exact hne k e1 e
 have:=(ha.lt k e).2;omega
end
theorem zgb.told {w w':World} {FW:World->zm->Value->Value->Prop} {r:Option zm} {e:Ending} (h:zgb w FW r e w'):∃xa xn xc ya yn yc bd isv,e= .returned (.tuple #[.agg #[.slice xa xn xc, .slice ya yn yc, .bool bd], .bool isv])/\isv=r.isSome/\∀t,r=some t->bd=t.bad/\FW w' t (.slice xa xn xc) (.slice ya yn yc):=by
 rcases h.2 with⟨h1,h2⟩|⟨t,xa,xn,xc,ya,yn,yc,h1,h2,h3⟩
 ·exact⟨none,0,0,none,0,0,false,false,h2,by rw [h1];rfl,λt ht=>by rw [h1] at ht;cases ht⟩
 exact⟨xa,xn,xc,ya,yn,yc,t.bad,true,h2,by rw [h1];rfl,λt' ht=>by rw [h1] at ht;cases ht;exact⟨rfl,h3⟩⟩
def allT (m:zF) (s:zm) (i:Nat):List zN:=⟨1,(i:Int),0⟩::(yD (s.threads.getD i default).buf m.model).map λv=>⟨2,(i:Int),v⟩
def zcv (c:zK) (m:zF) (s:zm) (d i:Nat) (x:zN):Option zm:=wS c m s i x.kind x.var d
theorem ztb (c:zK) (m:zF) (s:zm) (d i:Nat):zcv c m s d i ⟨1,(i:Int),0⟩=vT c m s i d:=by
 unfold zcv wS
 rw [if_pos ⟨rfl,rfl⟩]
theorem zqT {c:zK} {m:zF} {s:zm} {d i:Nat} {v:Int} (hv:v∈yD (s.threads.getD i default).buf m.model):zcv c m s d i ⟨2,(i:Int),v⟩=some (kI s i v):=by
 unfold zcv wS
 rw [if_neg (by rintro⟨h, -⟩;simp at h),if_pos ⟨rfl,hv⟩]
theorem all_some {α β:Type} (f:α->Option β) (g:α->β):∀l:List α,(∀x∈l,f x=some (g x))->l.filter (λx=>(f x).isSome)=l/\l.filterMap f=l.map g
 | [],_=>⟨rfl,rfl⟩
 |x::l,h=>by
  obtain⟨h1,h2⟩:=all_some f g l (λy hy=>h y (List.mem_cons_of_mem _ hy))
  have hx:=h x (List.mem_cons_self ..)
  refine⟨?_, ?_⟩
  ·rw [List.filter_cons_of_pos (by rw [hx];rfl),h1]
  rw [List.filterMap_cons_some hx,h2];rfl
def zkP (c:zK) (m:zF) (s:zm) (d i:Nat):List zm:=(wK c m s d i).map λx=>(ji c m s x d).1
def zkO (c:zK) (m:zF) (s:zm) (d:Nat):List zm:=(qM c m s d).map λx=>(ji c m s x d).1
theorem zr2 {c:zK} {m:zF} {s:zm} {d i:Nat} (hf:xR c m s=true) (hi:i<s.threads.length):(allT m s i).filter (λx=>(zcv c m s d i x).isSome)=wK c m s d i/\(allT m s i).filterMap (zcv c m s d i)=zkP c m s d i:=by
 have hr:∀x∈(yD (s.threads.getD i default).buf m.model).map (λv=>(⟨2,(i:Int),v⟩:zN)),zcv c m s d i x=some (ji c m s x d).1:=by
  intro x hx
  obtain⟨v,hv,rfl⟩:=List.mem_map.1 hx
  have h:=zqT (c:=c) (d:=d) hv
  have hdo:=zhf (x:=⟨2,(i:Int),v⟩) (d:=d) hf ⟨by simp,by simpa using hi⟩
  simp only [Int.toNat_natCast] at hdo
  rw [h,hdo,show wS c m s i 2 v d=some (kI s i v) from h];rfl
 obtain⟨h1,h2⟩:=all_some (zcv c m s d i) (λx=>(ji c m s x d).1) _ hr
 have hdo:=zhf (c:=c) (m:=m) (x:=⟨1,(i:Int),0⟩) (d:=d) hf ⟨by simp,by simpa using hi⟩
 simp only [Int.toNat_natCast] at hdo
 have hst:=ztb c m s d i
 unfold zkP wK allT
 cases hs:vT c m s i d with
 |none=>
  rw [hs] at hst
  rw [List.filter_cons_of_neg (by rw [hst];simp),h1,List.filterMap_cons_none hst,h2]
  exact⟨rfl,rfl⟩
 |some t=>
 rw [hs] at hst
 have e:(ji c m s ⟨1,(i:Int),0⟩ d).1=t:=by rw [hdo,show wS c m s i 1 0 d=some t from hst];rfl
 rw [List.filter_cons_of_pos (by rw [hst];rfl),h1,List.filterMap_cons_some hst,h2]
 refine⟨rfl, ?_⟩
 show t::_=(ji c m s ⟨1,(i:Int),0⟩ d).1::_
 rw [e]
 rfl
theorem zuk {c:zK} {m:zF} {s:zm} {d:Nat} (hf:xR c m s=true):zkO c m s d=(List.range s.threads.length).flatMap (zkP c m s d):=by
 unfold zkO qM
 rw [if_pos hf,List.map_flatMap];rfl
theorem zo3 {α:Type} [Inhabited α] {l:List α} {k:Nat} (hk:k<l.length) (p:α->Bool):(l.take (k+1)).filter p=(l.take k).filter p++(if p (l.getD k default) then [l.getD k default] else []):=by
 rw [kU hk rfl,List.filter_append]
 congr 1
 cases h:p (l.getD k default)
 ·rw [List.filter_cons_of_neg (by rw [h];simp)];simp
 rw [List.filter_cons_of_pos h];simp
theorem zgT {α β:Type} [Inhabited α] {l:List α} {k:Nat} (hk:k<l.length) (f:α->Option β):(l.take (k+1)).filterMap f=(l.take k).filterMap f++(match f (l.getD k default) with|some y=> [y] |none=> []):=by
 rw [kU hk rfl,List.filterMap_append]
 congr 1
 cases h:f (l.getD k default)
 ·rw [List.filterMap_cons_none h];rfl
 rw [List.filterMap_cons_some h];rfl
def zlm (F0:Nat->Prop) (w:World) (ml:List zN) (nl:List zm) (e:Ending) (w':World):Prop:=
 (∃va vc xa xc css,e= .returned (.tuple #[.slice va ml.length vc, .slice xa nl.length xc])/\w'.ownsRow w.heap.size 43 3 (.slice va ml.length vc) ml.length (zl zN.cells ml)/\qp F0 w' zaO 3 w.heap.size 35 (.slice xa nl.length xc) nl css)/\Below w.heap.size w w'
theorem vR.fin {F0:Nat->Prop} {w W X:World} {va xa:Option Addr} {n vc k xc:Nat} {ml:List zN} {nl:List zm} {css:List (List Value)} (h:vR F0 W X (.slice va n vc) (.slice xa k xc) ml nl css) (hb:Below w.heap.size w W) (hn:ml.length=n) (hk:nl.length=k):
  zlm F0 w ml nl (.returned (.tuple #[.slice va n vc, .slice xa k xc])) X:=by
 subst hn hk
 refine⟨⟨va,vc,xa,xc,css,rfl,xw h.row hb.size, ?_⟩,hb.trans (h.below.mono hb.size)⟩
 exact⟨h.st.len,λj hj=>⟨(h.st.part j hj).1,λy hy=>(h.st.part j hj).2 y (hy.mono (λk _ hk=> .inl hk))⟩,xw h.st.row hb.size⟩
