/- Steps. -/
import Derived.Test.YtliajkheeniljaaGreatDoorZmPart
set_option linter.all false
namespace Go.Proofs.YtliajkheeniljaaGreatDoor
open Go.RowKit
set_option maxRecDepth 100000
set_option maxHeartbeats 16000000
def zY:List zA->List Value->List Value
 | [],_=> []
 |t::l,bs=>t.cells (bs.getD 0 (.slice none 0 0))++zY l (bs.drop 1)
theorem kL (t:zA) (b:Value):(t.cells b).length=6:=rfl
theorem gG (l:List zA):∀bs,(zY l bs).length=l.length*6:=by
 induction l with
 |nil=>intro bs;rfl
 |cons t l ih=>intro bs;simp only [zY,List.length_append,kL,List.length_cons];rw [ih];omega
theorem vF:∀ {l:List zA} {bs:List Value} {j i:Nat},j<l.length->i<6->(zY l bs)[j*6+i]? =((l.getD j default).cells (bs.getD j (.slice none 0 0)))[i]? :=by
 intro l
 induction l with
 |nil=>intro bs j i hj;simp at hj
 |cons t l ih=>
 intro bs j i hj hi
 unfold zY
 cases j with
 |zero=>rw [Nat.zero_mul,Nat.zero_add,List.getElem?_append_left (by rw [kL];exact hi)];rfl
 |succ j=>
 rw [List.getElem?_append_right (by rw [kL,Nat.add_mul];omega),kL,show(j+1)*6+i - 6=j*6+i by rw [Nat.add_mul];omega]
 rw [ih (by simpa using hj) hi]
 simp [List.getD_eq_getElem?_getD]
theorem zc8 (l:List zA) (t:zA) (b:Value):∀bs:List Value,bs.length=l.length->zY (l++ [t]) (bs++ [b])=zY l bs++t.cells b:=by
 induction l with
 |nil=>
  intro bs h
  obtain rfl:bs= [] :=List.eq_nil_of_length_eq_zero h
  simp [zY]
 |cons u l ih=>
 intro bs h
 cases bs with
 |nil=>simp at h
 |cons b0 bs=>
 have h2:=ih bs (by simpa using h)
 simp only [List.cons_append,zY,List.getD_cons_zero,List.drop_one,List.tail_cons,h2,List.append_assoc]
structure OwnAt (B:Nat) (X:World) (tv mv:Value) (ts:List zA) (mem:List Int) (bs:List Value):Prop where
 row:X.ownsRow B 48 6 tv ts.length (zY ts bs)
 mem:X.ownsRow B 3 1 mv mem.length (zq yO mem)
 regs:∀j,j<ts.length->(ts.getD j default).regs.length=4
 len:bs.length=ts.length
 buf:∀j,j<ts.length->X.ownsRow B 50 2 (bs.getD j (.slice none 0 0)) (ts.getD j default).buf.length (zq zk.cells (ts.getD j default).buf)
 ne:∀j,j<ts.length->∀k,(bs.getD j (.slice none 0 0)).ownBlock=some k->tv.ownBlock≠some k/\mv.ownBlock≠some k
 dis:∀k,tv.ownBlock=some k->mv.ownBlock≠some k
 one:∀i j,i<ts.length->j<ts.length->i≠j->∀k,(bs.getD i (.slice none 0 0)).ownBlock=some k->(bs.getD j (.slice none 0 0)).ownBlock≠some k
theorem zos {t:zA} {b:Value} (hb:b.oneCell'=true):∀u∈t.cells b,u.oneCell'=true:=by
 intro u hu
 simp only [zA.cells,List.mem_cons,List.not_mem_nil,or_false] at hu
 rcases hu with rfl|rfl|rfl|rfl|rfl|rfl<;>first|rfl|exact hb
theorem OwnAt.state {B:Nat} {X:World} {tv mv:Value} {ts:List zA} {mem:List Int} {bs:List Value} (h:OwnAt B X tv mv ts mem bs) (bad:Bool):yj X ⟨ts,mem,bad⟩ tv mv:=
 ⟨zh.zcb h.row λj hj=>⟨(ts.getD j default).cells (bs.getD j (.slice none 0 0)),kL _ _,λ_ hi=>vF hj hi,h.regs j hj,_,rfl,kS (h.buf j hj)⟩,gH h.mem⟩
theorem OwnAt.below {B:Nat} {X X':World} {tv mv:Value} {ts:List zA} {mem:List Int} {bs:List Value} (h:OwnAt B X tv mv ts mem bs) (hb:Below X.heap.size X X'):OwnAt B X' tv mv ts mem bs:=
 ⟨xX h.row hb,xX h.mem hb,h.regs,h.len,λj hj=>xX (h.buf j hj) hb,h.ne,h.dis,h.one⟩
theorem OwnAt.lower {B C:Nat} {X:World} {tv mv:Value} {ts:List zA} {mem:List Int} {bs:List Value} (h:OwnAt B X tv mv ts mem bs) (hC:C<=B):OwnAt C X tv mv ts mem bs:=
 ⟨xu h.row hC,xu h.mem hC,h.regs,h.len,λj hj=>xu (h.buf j hj) hC,h.ne,h.dis,h.one⟩
theorem OwnAt.since {F:Nat->Prop} {B:Nat} {X X':World} {tv mv:Value} {ts:List zA} {mem:List Int} {bs:List Value} (h:OwnAt B X tv mv ts mem bs) (hs:Since F X X') (h1:∀k,tv.ownBlock=some k->¬F k) (h2:∀k,mv.ownBlock=some k->¬F k)
  (h3:∀j,j<ts.length->∀k,(bs.getD j (.slice none 0 0)).ownBlock=some k->¬F k):OwnAt B X' tv mv ts mem bs:=
 ⟨hs.row h.row h1,hs.row h.mem h2,h.regs,h.len,λj hj=>hs.row (h.buf j hj) (h3 j hj),h.ne,h.dis,h.one⟩
structure vK (W X:World) (gb:Nat) (tv mv:Value) (bad:Bool) (ts:List zA) (mem:List Int) (bs:List Value):Prop where
 own:OwnAt W.heap.size X tv mv ts mem bs
 box:X.heap[gb]? =some (.cells #[tv,mv, .bool bad] 30 (0,0))
 below:Below W.heap.size W X
 lo:W.heap.size<=gb
 n1:tv.ownBlock≠some gb
 n2:mv.ownBlock≠some gb
 n3:∀j,j<ts.length->(bs.getD j (.slice none 0 0)).ownBlock≠some gb
theorem gX {α:Type} {l:List α} {x d:α} {j:Nat} (hj:j<l.length+1):(l++ [x]).getD j d=if j=l.length then x else l.getD j d:=by
 simp only [List.getD_eq_getElem?_getD]
 by_cases h:j=l.length
 ·subst h;simp
 rw [if_neg h,List.getElem?_append_left (by omega)]
theorem vK.push {W X X1 X2 X3:World} {gb nb:Nat} {tv mv tv' bv:Value} {bad:Bool} {ts:List zA} {mem:List Int} {bs:List Value} {t:zA} (h:vK W X gb tv mv bad ts mem bs) (hr:t.regs.length=4)
  (hs1:Since (λ_=>False) X X1) (hb:X1.ownsRow W.heap.size 50 2 bv t.buf.length (zq zk.cells t.buf)) (hbn:∀k,bv.ownBlock=some k->X.heap.size<=k/\k≠nb) (hs2:Since (λk=>k=nb) X1 X2) (hnb:X.heap.size<=nb)
  (hrow:X3.ownsRow W.heap.size 48 6 tv' (ts.length+1) (zY ts bs++t.cells bv)) (hs3:Since (λk=>tv.ownBlock=some k) X2 X3) (hl:∀k,tv'.ownBlock=some k->tv.ownBlock=some k\/k=X2.heap.size):
  vK W (X3.setCell ⟨gb,0,none⟩ tv') gb tv' mv bad (ts++ [t]) mem (bs++ [bv]):=by
 have hgb:gb<X.heap.size:=zw h.box
 have hX1:=hs1.size
 have hX2:=hs2.size
 have hX3:=hs3.size
 have hS3:∀k,k<X.heap.size->tv.ownBlock≠some k->X3.heap[k]? =X.heap[k]? :=λk hk hne=>
  (hs3.block k (by omega) hne).trans ((hs2.block k (by omega) (by omega)).trans (hs1.block k hk (λe=>e)))
 have bg:X3.heap[gb]? =some (.cells #[tv,mv, .bool bad] 30 (0,0)):=(hS3 gb hgb h.n1).trans h.box
 have hrow':∀ {e size v n xs},X.ownsRow W.heap.size e size v n xs->(∀k,v.ownBlock=some k->tv.ownBlock≠some k)->X3.ownsRow W.heap.size e size v n xs:=λho hn=>
  hs3.row (hs2.row (hs1.row ho (λ_ _ e=>e)) (λk hk e=>by have:=(ho.lt k hk).2;omega)) hn
 have z4c:X3.ownsRow W.heap.size 50 2 bv t.buf.length (zq zk.cells t.buf):=hs3.row (hs2.row hb (λk hk=>(hbn k hk).2)) (λk hk e=>by have:=(hbn k hk).1;have:=(h.own.row.lt k e).2;omega)
 have hsS:Since (λk=>k=gb) X3 (X3.setCell ⟨gb,0,none⟩ tv'):=Since.setCell (F:=λk=>k=gb) (p:=⟨gb,0,none⟩) (Since.refl _ _) (.inl rfl) _
 have hn1':tv'.ownBlock≠some gb:=λe=>by
  rcases hl _ e with e'|e'
  ·exact h.n1 e'
  omega
 have hlen:=h.own.len
 have hnew:∀k,bv.ownBlock=some k->tv'.ownBlock≠some k/\mv.ownBlock≠some k/\k≠gb:=λk hk=>by
  have h1:=(hbn k hk).1
  refine⟨λe=> ?_,λe=>by have:=(h.own.mem.lt k e).2;omega,by omega⟩
  rcases hl _ e with e'|e'
  ·have:=(h.own.row.lt k e').2;omega
  have:=(hb.lt k hk).2;omega
 refine⟨⟨?_, ?_, ?_, ?_, ?_, ?_, ?_, ?_⟩, ?_, ?_,h.lo,hn1',h.n2, ?_⟩
 ·rw [List.length_append,zc8 _ _ _ _ hlen];exact hsS.row hrow (λk hk e=>hn1' (e ▸ hk))
 ·exact hsS.row (hrow' h.own.mem (λk hk e=>h.own.dis k e hk)) (λk hk e=>h.n2 (e ▸ hk))
 ·intro j hj
  rw [List.length_append,List.length_singleton] at hj
  rw [gX hj]
  split
  ·exact hr
  exact h.own.regs j (by omega)
 ·simp [hlen]
 ·intro j hj
  rw [List.length_append,List.length_singleton] at hj
  rw [gX hj,gX (by rw [hlen];exact hj),hlen]
  split
  ·exact hsS.row z4c (λk hk e=>(hnew k hk).2.2 e)
  exact hsS.row (hrow' (h.own.buf j (by omega)) (λk hk=>(h.own.ne j (by omega) k hk).1)) (λk hk e=>h.n3 j (by omega) (e ▸ hk))
 ·intro j hj k hk
  rw [List.length_append,List.length_singleton] at hj
  rw [gX (by rw [hlen];exact hj),hlen] at hk
  split at hk
  ·exact⟨(hnew k hk).1,(hnew k hk).2.1⟩
  refine⟨λe=> ?_,(h.own.ne j (by omega) k hk).2⟩
  rcases hl _ e with e'|e'
  ·exact(h.own.ne j (by omega) k hk).1 e'
  have:=((h.own.buf j (by omega)).lt k hk).2;omega
 ·intro k hk e
  rcases hl _ hk with e'|e'
  ·exact h.own.dis k e' e
  have:=(h.own.mem.lt k e).2;omega
 ·intro i j hi hj hij k hk
  rw [List.length_append,List.length_singleton] at hi hj
  rw [gX (by rw [hlen];exact hi),hlen] at hk
  rw [gX (by rw [hlen];exact hj),hlen]
  split at hk
  ·rw [if_neg (by omega)]
   intro e
   have h1:=(hbn k hk).1
   have h2:=((h.own.buf j (by omega)).lt k e).2
   omega
  split
  ·intro e
   have h1:=(hbn k e).1
   have h2:=((h.own.buf i (by omega)).lt k hk).2
   omega
  exact h.own.one i j (by omega) (by omega) hij k hk
 ·have:=zu bg 0 tv'
  simpa using this
 ·exact h.below.trans ((((hs1.below h.below.size (λ_ e=>e.elim)).trans (hs2.below (Nat.le_trans h.below.size hX1) (λk e=>by have:=h.below.size;omega))).trans (hs3.below (by have:=h.below.size;omega) (λk hk=>(h.own.row.lt k hk).1))).trans (hsS.below (by have:=h.below.size;omega) (λk e=>by have:=h.lo;omega)))
 intro j hj
 rw [List.length_append,List.length_singleton] at hj
 rw [gX (by rw [hlen];exact hj),hlen]
 split
 ·exact λe=>(hnew gb e).2.2 rfl
 exact h.n3 j (by omega)
theorem za5 (w:World) (o1 o2 o3:Obj):Below w.heap.size w (((w.alloc o1).alloc o2).alloc o3):=(xg w o1 o2).alloc (by simp;omega) o3
theorem za6 (w:World) (o1 o2 o3:Obj):(((w.alloc o1).alloc o2).alloc o3).heap[w.heap.size]? =some o1:=(Below.heap_alloc _ _ _ (by simp;omega)).trans (xP w o1 o2)
theorem zai (w:World) (o1 o2 o3:Obj):(((w.alloc o1).alloc o2).alloc o3).heap[w.heap.size+1]? =some o2:=(Below.heap_alloc _ _ _ (by simp)).trans (xw w o1 o2)
theorem za7 (w:World) (o1 o2 o3:Obj):(((w.alloc o1).alloc o2).alloc o3).heap[w.heap.size+2]? =some o3:=by
 have:=yh ((w.alloc o1).alloc o2) o3
 simpa using this
theorem kR {l:List Int} (h:l.length=4):∃a b c d,l= [a,b,c,d] :=by
 match l,h with
 | [a,b,c,d],_=>exact⟨a,b,c,d,rfl⟩
theorem gY {α:Type} [Inhabited α] {l:List α} {i:Nat} {t:α} (hi:i<l.length) (ht:t=l.getD i default):l.take (i+1)=l.take i++ [t] :=by
 rw [List.take_add_one,ht,List.getElem?_eq_getElem hi,List.getD_eq_getElem?_getD,List.getElem?_eq_getElem hi];rfl
structure kT (e:TypeId) (size:Nat) (t:TypeId) (V X:World) (v:Value) (n:Nat) (xs:List Value) (bs:List (Nat × List Value)):Prop where
 below:Below V.heap.size V X
 row:X.ownsRow V.heap.size e size v n xs
 news:∀p∈bs,X.heap[p.1]? =some (.cells p.2.toArray t (0,0))/\v.ownBlock≠some p.1/\V.heap.size<=p.1
section
variable {e t:TypeId} {size:Nat} {V X:World} {v:Value} {n:Nat} {xs:List Value} {bs:List (Nat × List Value)}
theorem kT.start (e:TypeId) (size:Nat) (t:TypeId) (V:World):kT e size t V V (.slice none 0 0) 0 [] [] :=⟨Below.refl _ _,World.ownsRow_nil _ _ _ _,by simp⟩
theorem kT.drew (h:kT e size t V X v n xs bs):kT e size t V X.drew v n xs bs:=⟨h.below.drew,(Since.refl (λ_=>False) X).drew.row h.row (λ_ _ h=>h),h.news⟩
theorem kT.alloc (h:kT e size t V X v n xs bs) (cs:List Value):kT e size t V (X.alloc (.cells cs.toArray t)) v n xs ((X.heap.size,cs)::bs):=by
 refine⟨h.below.alloc h.below.size _,h.row.alloc _, ?_⟩
 intro p hp
 rcases List.mem_cons.1 hp with rfl|hp
 ·exact⟨yh X _,λe=>by have:=(h.row.lt _ e).2;simp at this,h.below.size⟩
 obtain⟨a,b,c⟩:=h.news p hp
 exact⟨(Below.heap_alloc _ _ _ (zw a)).trans a,b,c⟩
theorem kT.app (h:kT e size t V X v n xs bs) {X':World} {v':Value} {m:Nat} {xs':List Value} (ho:X'.ownsRow V.heap.size e size v' m xs') (hs:Since (λk=>v.ownBlock=some k) X X') (hl:∀k,v'.ownBlock=some k->v.ownBlock=some k\/k=X.heap.size):kT e size t V X' v' m xs' bs:=by
 refine⟨h.below.trans (hs.below h.below.size (λk hk=>(h.row.lt k hk).1)),ho,λp hp=> ?_⟩
 obtain⟨a,b,c⟩:=h.news p hp
 refine⟨(hs.block _ (zw a) b).trans a,λe=> ?_,c⟩
 rcases hl _ e with e'|e'
 ·exact b e'
 have:=zw a;omega
theorem kT.zhu (h:kT e size t V X v n xs bs) {gb:Nat} {a b c:Value} (hb:(gb, [a,b,c])∈bs) (u0 u1 u2:Value):
  Below V.heap.size V (((X.setCell ⟨gb,0,none⟩ u0).setCell ⟨gb,1,none⟩ u1).setCell ⟨gb,2,none⟩ u2)/\(((X.setCell ⟨gb,0,none⟩ u0).setCell ⟨gb,1,none⟩ u1).setCell ⟨gb,2,none⟩ u2).ownsRow V.heap.size e size v n xs/\
   (((X.setCell ⟨gb,0,none⟩ u0).setCell ⟨gb,1,none⟩ u1).setCell ⟨gb,2,none⟩ u2).heap[gb]? =some (.cells #[u0,u1,u2] t (0,0))/\V.heap.size<=gb/\v.ownBlock≠some gb:=by
 obtain⟨h1,h2,h3⟩:=h.news _ hb
 have hS:Since (λk=>k=gb) X (((X.setCell ⟨gb,0,none⟩ u0).setCell ⟨gb,1,none⟩ u1).setCell ⟨gb,2,none⟩ u2):=
  Since.setCell (F:=λk=>k=gb) (p:=⟨gb,2,none⟩) (Since.setCell (F:=λk=>k=gb) (p:=⟨gb,1,none⟩) (Since.setCell (F:=λk=>k=gb) (p:=⟨gb,0,none⟩) (Since.refl _ _) (.inl rfl) _) (.inl rfl) _) (.inl rfl) _
 refine⟨h.below.trans (hS.below h.below.size (λk e=>by omega)),hS.row h.row (λk hk e=>h2 (e ▸ hk)), ?_,h3,h2⟩
 have:=zu (zu (zu h1 0 u0) 1 u1) 2 u2
 simpa using this
end
theorem vK.start {W X:World} {gb:Nat} {mv:Value} {bad:Bool} {mem:List Int} (hr:X.ownsRow W.heap.size 3 1 mv mem.length (zq yO mem)) (hb:Below W.heap.size W X) (hx:X.heap[gb]? =some (.cells #[.slice none 0 0,mv, .bool bad] 30 (0,0))) (hl:W.heap.size<=gb) (hn:mv.ownBlock≠some gb):
  vK W X gb (.slice none 0 0) mv bad [] mem [] :=
 ⟨⟨World.ownsRow_nil _ _ _ _,hr,λj hj=>by simp at hj,rfl,λj hj=>by simp at hj,λj hj=>by simp at hj,λk hk=>by simp [Value.ownBlock] at hk,λi j hi=>by simp at hi⟩,hx,hb,hl,by simp [Value.ownBlock],hn,λj hj=>by simp at hj⟩
theorem qN (w:World) (l:List Value) (t:TypeId):∀j u,l[j]? =some u->(w.alloc (.cells l.toArray t)).cell? ((⟨w.heap.size,0,none⟩:Addr).add j)=some u:=by
 intro j u hj
 have:=ze (yh w (.cells l.toArray t)) j
 rw [show(⟨w.heap.size,0,none⟩:Addr).add j=⟨w.heap.size,j,none⟩ by simp only [Addr.add];split<;>simp_all,this]
 simpa using hj
theorem zI:(Tryz.prog.info? 30).map (·.size)=some 3:=by kernel_rfl
theorem bU:(Tryz.prog.info? 30).map (λi=>(i.zero,i.size,i.bytes))=some (some (.agg #[.slice none 0 0, .slice none 0 0, .bool false]),3,56):=by kernel_rfl
theorem zad:(Tryz.prog.info? 48).map (λi=>(i.zero,i.size,i.bytes))=some (some (.agg #[.int .i64 0, .int .i64 0, .int .i64 0, .int .i64 0, .int .i64 0, .slice none 0 0]),6,64):=by kernel_rfl
end Go.Proofs.YtliajkheeniljaaGreatDoor
namespace Go.Proofs.YtliajkheeniljaaGreatDoor
open Go.RowKit
set_option maxRecDepth 100000
set_option maxHeartbeats 16000000
theorem bV {w:World} {B g n cap j size:Nat} {e:TypeId} {xs:List Value} (h:w.ownsRow B e size (.slice (some ⟨g,0,none⟩) n cap) n xs) (u:Value):(w.setCell ⟨g,j,none⟩ u).ownsRow B e size (.slice (some ⟨g,0,none⟩) n cap) n (xs.set j u):=by
 refine⟨by rw [List.length_set];exact h.1, ?_⟩
 rcases h.2 with⟨h1, -⟩|⟨g',cap',cur,h1,h2,h3,h4,h5,h6,h7⟩
 ·cases h1
 cases h1
 refine .inr ⟨g,cap,cur.setIfInBounds j u,rfl,h2,zu h3 j u,h4,h5,by rw [Array.size_setIfInBounds];exact h6, ?_⟩
 rw [Array.toList_setIfInBounds,List.take_set,h7]
theorem vI {w:World} {B:Nat} {e:TypeId} {size:Nat} {v:Value} {n:Nat} {xs:List Value} (h:w.ownsRow B e size v n xs) {j:Nat} {u:Value} (hj:xs[j]? =some u):∃g cap,v= .slice (some ⟨g,0,none⟩) n cap/\B<=g/\w.cell? ⟨g,j,none⟩=some u/\w.frozen? ⟨g,j,none⟩=false:=by
 have hlt:j<xs.length:=by
  rcases Nat.lt_or_ge j xs.length with h'|h'
  ·exact h'
  rw [List.getElem?_eq_none h'] at hj;cases hj
 rcases h.2 with⟨h1,h2⟩|⟨g,cap,cur,h1,h2,h3,h4,h5,h6,h7⟩
 ·have:=h.1;rw [h2] at this;omega
 refine⟨g,cap,h1,h2, ?_,zB h3 j⟩
 rw [ze h3, <-hj, <-h7,List.getElem?_take_of_lt (by rw [h.1] at hlt;exact hlt)]
 simp
theorem kU:∀ {l:List zA} {bs:List Value} {i k:Nat} {t:zA} {b u:Value},i<l.length->bs.length=l.length->k<6->t.cells b=((l.getD i default).cells (bs.getD i (.slice none 0 0))).set k u->
  zY (l.set i t) (bs.set i b)=(zY l bs).set (i*6+k) u:=by
 intro l
 induction l with
 |nil=>intro bs i k t b u hi;simp at hi
 |cons x l ih=>
 intro bs i k t b u hi hb hk hc
 cases bs with
 |nil=>simp at hb
 |cons y bs=>
 cases i with
 |zero=>
  simp only [List.getD_cons_zero] at hc
  simp only [List.set_cons_zero,zY,List.getD_cons_zero,List.drop_one,List.tail_cons,Nat.zero_mul,Nat.zero_add,hc]
  rw [List.set_append_left _ _ (by rw [kL];exact hk)]
 |succ i=>
 simp only [List.getD_cons_succ] at hc
 simp only [List.set_cons_succ,zY,List.getD_cons_zero,List.drop_one,List.tail_cons]
 rw [ih (by simpa using hi) (by simpa using hb) hk hc,List.set_append_right _ _ (by rw [kL,Nat.add_mul];omega),kL,show(i+1)*6+k - 6=i*6+k by rw [Nat.add_mul];omega]
theorem qQ {α:Type} {l:List α} {i j:Nat} {x d:α} (hj:j<l.length):(l.set i x).getD j d=if j=i then x else l.getD j d:=by
 simp only [List.getD_eq_getElem?_getD]
 by_cases h:j=i
 ·subst h;rw [if_pos rfl,List.getElem?_set_self (by exact hj)];rfl
 rw [if_neg h,List.getElem?_set_ne (Ne.symm h)]
theorem zkB {l:List Int} {j:Nat} {x:Int} :zq yO (l.set j x)=(zq yO l).set j (.int .i64 x):=by
 have h:∀l:List Int,zq yO l=l.map (Value.int .i64):=λl=>by
  induction l with
  |nil=>rfl
  |cons y l ih=>simp only [zq,List.flatMap_cons,yO,List.map_cons] at ih ⊢;rw [ih];rfl
 rw [h,h,List.map_set]
theorem vK.thread {W X:World} {gb tb n tc:Nat} {mv:Value} {bad:Bool} {ts:List zA} {mem:List Int} {bs:List Value} (h:vK W X gb (.slice (some ⟨tb,0,none⟩) n tc) mv bad ts mem bs) {i k:Nat} (hi:i<ts.length) (hk:k<6) {t:zA} {b u:Value}
  (hc:t.cells b=((ts.getD i default).cells (bs.getD i (.slice none 0 0))).set k u) (hr:t.regs.length=4) (hb:X.ownsRow W.heap.size 50 2 b t.buf.length (zq zk.cells t.buf)) (hn:∀k,b.ownBlock=some k->k≠tb/\mv.ownBlock≠some k/\k≠gb)
  (hd:∀k,b.ownBlock=some k->∀j,j<ts.length->j≠i->(bs.getD j (.slice none 0 0)).ownBlock≠some k):
  vK W (X.setCell ⟨tb,i*6+k,none⟩ u) gb (.slice (some ⟨tb,0,none⟩) n tc) mv bad (ts.set i t) mem (bs.set i b):=by
 obtain⟨⟨h1,h2,h3,h4,h5,h6,h7,h14⟩,h8,h9,h10,h11,h12,h13⟩:=h
 have hnn:n=ts.length:=by
  rcases h1.2 with⟨e, -⟩|⟨g,cap,cur,e, -⟩
  ·cases e
  cases e;rfl
 subst hnn
 have hS:Since (λx=>x=tb) X (X.setCell ⟨tb,i*6+k,none⟩ u):=Since.setCell (F:=λx=>x=tb) (p:=⟨tb,i*6+k,none⟩) (Since.refl _ _) (.inl rfl) _
 have htb:W.heap.size<=tb:=(h1.lt tb rfl).1
 have hgb:gb≠tb:=λe=>h11 (by rw [e];rfl)
 have hbt:∀j,j<ts.length->∀k,(bs.getD j (.slice none 0 0)).ownBlock=some k->k≠tb:=λj hj k hk e=>(h6 j hj k hk).1 (by rw [e];rfl)
 refine⟨⟨?_, ?_, ?_, ?_, ?_, ?_,h7, ?_⟩, ?_, ?_,h10,h11,h12, ?_⟩
 ·rw [List.length_set,kU hi h4 hk hc];exact bV h1 u
 ·exact hS.row h2 (λk hk e=>h7 tb rfl (e ▸ hk))
 ·intro j hj;rw [List.length_set] at hj;rw [qQ hj];split
  ·exact hr
  exact h3 j hj
 ·rw [List.length_set,List.length_set];exact h4
 ·intro j hj;rw [List.length_set] at hj;rw [qQ hj,qQ (by omega)];split
  ·exact hS.row hb (λk hk=>(hn k hk).1)
  exact hS.row (h5 j hj) (hbt j hj)
 ·intro j hj k hk;rw [List.length_set] at hj;rw [qQ (by omega)] at hk;split at hk
  ·exact⟨λe=>(hn k hk).1 (by simpa [Value.ownBlock] using e.symm),(hn k hk).2.1⟩
  exact h6 j hj k hk
 ·intro x y hx hy hxy k hk
  rw [List.length_set] at hx hy
  rw [qQ (by omega)] at hk
  rw [qQ (by omega)]
  split at hk
  ·rw [if_neg (by omega)]
   exact hd k hk y hy (by omega)
  split
  ·intro e;exact hd k e x hx (by omega) hk
  exact h14 x y hx hy hxy k hk
 ·exact(hS.block _ (zw h8) hgb).trans h8
 ·exact h9.trans (hS.below h9.size (λx e=>by omega))
 intro j hj;rw [List.length_set] at hj;rw [qQ (by omega)];split
 ·exact λe=>(hn gb e).2.2 rfl
 exact h13 j hj
theorem vK.mem {W X:World} {gb mb n mc:Nat} {tv:Value} {bad:Bool} {ts:List zA} {mem:List Int} {bs:List Value} (h:vK W X gb tv (.slice (some ⟨mb,0,none⟩) n mc) bad ts mem bs) (j:Nat) (x:Int):
  vK W (X.setCell ⟨mb,j,none⟩ (.int .i64 x)) gb tv (.slice (some ⟨mb,0,none⟩) n mc) bad ts (mem.set j x) bs:=by
 obtain⟨⟨h1,h2,h3,h4,h5,h6,h7,h14⟩,h8,h9,h10,h11,h12,h13⟩:=h
 have hnn:n=mem.length:=by
  rcases h2.2 with⟨e, -⟩|⟨g,cap,cur,e, -⟩
  ·cases e
  cases e;rfl
 subst hnn
 have hS:Since (λx=>x=mb) X (X.setCell ⟨mb,j,none⟩ (.int .i64 x)):=Since.setCell (F:=λx=>x=mb) (p:=⟨mb,j,none⟩) (Since.refl _ _) (.inl rfl) _
 have hmb:W.heap.size<=mb:=(h2.lt mb rfl).1
 have hgb:gb≠mb:=λe=>h12 (by rw [e];rfl)
 refine⟨⟨hS.row h1 (λk hk e=>h7 k hk (by rw [e];rfl)), ?_,h3,h4,λk hk=>hS.row (h5 k hk) (λy hy e=>(h6 k hk y hy).2 (by rw [e];rfl)),h6,h7,h14⟩,(hS.block _ (zw h8) hgb).trans h8,h9.trans (hS.below h9.size (λx e=>by omega)),h10,h11,h12,h13⟩
 rw [List.length_set,zkB]
 exact bV h2 _
theorem vK.isBad {W X:World} {gb:Nat} {tv mv:Value} {bad:Bool} {ts:List zA} {mem:List Int} {bs:List Value} (h:vK W X gb tv mv bad ts mem bs) (b:Bool):vK W (X.setCell ⟨gb,2,none⟩ (.bool b)) gb tv mv b ts mem bs:=by
 obtain⟨⟨h1,h2,h3,h4,h5,h6,h7,h14⟩,h8,h9,h10,h11,h12,h13⟩:=h
 have hS:Since (λx=>x=gb) X (X.setCell ⟨gb,2,none⟩ (.bool b)):=Since.setCell (F:=λx=>x=gb) (p:=⟨gb,2,none⟩) (Since.refl _ _) (.inl rfl) _
 refine⟨⟨hS.row h1 (λk hk e=>h11 (e ▸ hk)),hS.row h2 (λk hk e=>h12 (e ▸ hk)),h3,h4,λk hk=>hS.row (h5 k hk) (λy hy e=>h13 k hk (e ▸ hy)),h6,h7,h14⟩, ?_,h9.trans (hS.below h9.size (λx e=>by omega)),h10,h11,h12,h13⟩
 have:=zu h8 2 (.bool b)
 simpa using this
theorem vK.later {W X X':World} {gb:Nat} {tv mv:Value} {bad:Bool} {ts:List zA} {mem:List Int} {bs:List Value} (h:vK W X gb tv mv bad ts mem bs) (hb:Below X.heap.size X X'):vK W X' gb tv mv bad ts mem bs:=
 ⟨h.own.below hb,(hb.block _ (zw h.box)).trans h.box,zF h.below hb,h.lo,h.n1,h.n2,h.n3⟩
theorem vK.zpZ {W X:World} {tv mv:Value} {ts:List zA} {mem:List Int} {bs:List Value} (h:OwnAt W.heap.size X tv mv ts mem bs) (hb:Below W.heap.size W X) (bad:Bool):vK W (X.alloc (.cells #[tv,mv, .bool bad] 30)) X.heap.size tv mv bad ts mem bs:=
 ⟨h.below ((Below.refl _ _).alloc (Nat.le_refl _) _),yh X _,hb.alloc hb.size _,hb.size,λe=>by have:=(h.row.lt _ e).2;omega,λe=>by have:=(h.mem.lt _ e).2;omega,λj hj e=>by have:=((h.buf j hj).lt _ e).2;omega⟩
theorem vK.threads {W X:World} {gb:Nat} {tv mv:Value} {bad:Bool} {ts:List zA} {mem:List Int} {bs:List Value} (h:vK W X gb tv mv bad ts mem bs) {i:Nat} (hi:i<ts.length):∃tb tc,tv= .slice (some ⟨tb,0,none⟩) ts.length tc/\W.heap.size<=tb/\
  ∀k u,k<6->((ts.getD i default).cells (bs.getD i (.slice none 0 0)))[k]? =some u->X.cell? ⟨tb,i*6+k,none⟩=some u/\X.frozen? ⟨tb,i*6+k,none⟩=false:=by
 have h0:=vF (bs:=bs) (i:=0) hi (by omega)
 obtain⟨tb,tc,e1,e2, -, -⟩:=vI h.own.row (j:=i*6+0) (u:= .int .i64 (ts.getD i default).pc) (by rw [h0];rfl)
 refine⟨tb,tc,e1,e2,λk u hk hu=> ?_⟩
 obtain⟨g,c,e3, -,e4,e5⟩:=vI h.own.row (j:=i*6+k) (u:=u) (by rw [vF hi hk];exact hu)
 rw [e1] at e3
 cases e3
 exact⟨e4,e5⟩
theorem ziJ {l:List Int} {j:Nat} (hj:j<l.length):(zq yO l)[j]? =some (.int .i64 (l.getD j 0)):=by
 have:=zam (f:=yO) (size:=1) zay (l:=l) (j:=j) (i:=0) hj (by omega)
 rw [Nat.mul_one,Nat.add_zero] at this
 exact this
theorem vK.vars {W X:World} {gb:Nat} {tv mv:Value} {bad:Bool} {ts:List zA} {mem:List Int} {bs:List Value} (h:vK W X gb tv mv bad ts mem bs) (hm:0<mem.length):∃mb mc,mv= .slice (some ⟨mb,0,none⟩) mem.length mc/\W.heap.size<=mb/\
  ∀j,j<mem.length->X.cell? ⟨mb,j,none⟩=some (.int .i64 (mem.getD j 0))/\X.frozen? ⟨mb,j,none⟩=false:=by
 obtain⟨mb,mc,e1,e2, -, -⟩:=vI h.own.mem (ziJ hm)
 refine⟨mb,mc,e1,e2,λj hj=> ?_⟩
 obtain⟨g,c,e3, -,e4,e5⟩:=vI h.own.mem (ziJ hj)
 rw [e1] at e3
 cases e3
 exact⟨e4,e5⟩
