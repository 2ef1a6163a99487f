/- Steps. -/
import Derived.Test.YteggflahafiieaaGreatDoorZgPart
set_option linter.all false
namespace Go.Proofs.YteggflahafiieaaGreatDoor
open Go.RowKit
set_option maxRecDepth 100000
set_option maxHeartbeats 16000000
theorem uf {w:World} {B g n cap j size:Nat} {e:TypeId} {xs:List Value} (h:w.ownsRow B e size (.slice (some ⟨g,0,none⟩) n cap) n xs) (u:Value):(w.setCell ⟨g,j,none⟩ u).ownsRow B e size (.slice (some ⟨g,0,none⟩) n cap) n (xs.set j u):=by
 refine⟨by rw [List.length_set];exact h.1, ?_⟩
 rcases h.2 with⟨h1, -⟩|⟨g',cap',cur,h1,h2,h3,h4,h5,h6,h7⟩
 ·cases h1
 cases h1
 refine .inr ⟨g,cap,cur.setIfInBounds j u,rfl,h2,zu h3 j u,h4,h5,by rw [Array.size_setIfInBounds];exact h6, ?_⟩
 rw [Array.toList_setIfInBounds,List.take_set,h7]
theorem qX {w:World} {B:Nat} {e:TypeId} {size:Nat} {v:Value} {n:Nat} {xs:List Value} (h:w.ownsRow B e size v n xs) {j:Nat} {u:Value} (hj:xs[j]? =some u):∃g cap,v= .slice (some ⟨g,0,none⟩) n cap/\B<=g/\w.cell? ⟨g,j,none⟩=some u/\w.frozen? ⟨g,j,none⟩=false:=by
 have hlt:j<xs.length:=by
  rcases Nat.lt_or_ge j xs.length with h'|h'
  ·exact h'
  rw [List.getElem?_eq_none h'] at hj;cases hj
 rcases h.2 with⟨h1,h2⟩|⟨g,cap,cur,h1,h2,h3,h4,h5,h6,h7⟩
 ·have:=h.1;rw [h2] at this;omega
 refine⟨g,cap,h1,h2, ?_,zw h3 j⟩
 rw [za h3, <-hj, <-h7,List.getElem?_take_of_lt (by rw [h.1] at hlt;exact hlt)]
 simp
theorem jL:∀ {l:List zo} {bs:List Value} {i k:Nat} {t:zo} {b u:Value},i<l.length->bs.length=l.length->k<6->t.cells b=((l.getD i default).cells (bs.getD i (.slice none 0 0))).set k u->
  zU (l.set i t) (bs.set i b)=(zU l bs).set (i*6+k) u:=by
 intro l
 induction l with
 |nil=>intro bs i k t b u hi;simp at hi
 |cons x l ih=>
 intro bs i k t b u hi hb hk hc
 cases bs with
 |nil=>simp at hb
 |cons y bs=>
 cases i with
 |zero=>
  simp only [List.getD_cons_zero] at hc
  simp only [List.set_cons_zero,zU,List.getD_cons_zero,List.drop_one,List.tail_cons,Nat.zero_mul,Nat.zero_add,hc]
  rw [List.set_append_left _ _ (by rw [j6];exact hk)]
 |succ i=>
 simp only [List.getD_cons_succ] at hc
 simp only [List.set_cons_succ,zU,List.getD_cons_zero,List.drop_one,List.tail_cons]
 rw [ih (by simpa using hi) (by simpa using hb) hk hc,List.set_append_right _ _ (by rw [j6,Nat.add_mul];omega),j6,show(i+1)*6+k - 6=i*6+k by rw [Nat.add_mul];omega]
theorem qg {α:Type} {l:List α} {i j:Nat} {x d:α} (hj:j<l.length):(l.set i x).getD j d=if j=i then x else l.getD j d:=by
 simp only [List.getD_eq_getElem?_getD]
 by_cases h:j=i
 ·subst h;rw [if_pos rfl,List.getElem?_set_self (by exact hj)];rfl
 rw [if_neg h,List.getElem?_set_ne (Ne.symm h)]
theorem znW {l:List Int} {j:Nat} {x:Int} :zl yO (l.set j x)=(zl yO l).set j (.int .i64 x):=by
 have h:∀l:List Int,zl yO l=l.map (Value.int .i64):=λl=>by
  induction l with
  |nil=>rfl
  |cons y l ih=>simp only [zl,List.flatMap_cons,yO,List.map_cons] at ih ⊢;rw [ih];rfl
 rw [h,h,List.map_set]
theorem qZ.thread {W X:World} {gb tb n tc:Nat} {mv:Value} {bad:Bool} {ts:List zo} {mem:List Int} {bs:List Value} (h:qZ W X gb (.slice (some ⟨tb,0,none⟩) n tc) mv bad ts mem bs) {i k:Nat} (hi:i<ts.length) (hk:k<6) {t:zo} {b u:Value}
  (hc:t.cells b=((ts.getD i default).cells (bs.getD i (.slice none 0 0))).set k u) (hr:t.regs.length=4) (hb:X.ownsRow W.heap.size 136 2 b t.buf.length (zl zi.cells t.buf)) (hn:∀k,b.ownBlock=some k->k≠tb/\mv.ownBlock≠some k/\k≠gb)
  (hd:∀k,b.ownBlock=some k->∀j,j<ts.length->j≠i->(bs.getD j (.slice none 0 0)).ownBlock≠some k):
  qZ W (X.setCell ⟨tb,i*6+k,none⟩ u) gb (.slice (some ⟨tb,0,none⟩) n tc) mv bad (ts.set i t) mem (bs.set i b):=by
 obtain⟨⟨h1,h2,h3,h4,h5,h6,h7,h14⟩,h8,h9,h10,h11,h12,h13⟩:=h
 have hnn:n=ts.length:=by
  rcases h1.2 with⟨e, -⟩|⟨g,cap,cur,e, -⟩
  ·cases e
  cases e;rfl
 subst hnn
 have hS:Since (λx=>x=tb) X (X.setCell ⟨tb,i*6+k,none⟩ u):=Since.setCell (F:=λx=>x=tb) (p:=⟨tb,i*6+k,none⟩) (Since.refl _ _) (.inl rfl) _
 have htb:W.heap.size<=tb:=(h1.lt tb rfl).1
 have hgb:gb≠tb:=λe=>h11 (by rw [e];rfl)
 have hbt:∀j,j<ts.length->∀k,(bs.getD j (.slice none 0 0)).ownBlock=some k->k≠tb:=λj hj k hk e=>(h6 j hj k hk).1 (by rw [e];rfl)
 refine⟨⟨?_, ?_, ?_, ?_, ?_, ?_,h7, ?_⟩, ?_, ?_,h10,h11,h12, ?_⟩
 ·rw [List.length_set,jL hi h4 hk hc];exact uf h1 u
 ·exact hS.row h2 (λk hk e=>h7 tb rfl (e ▸ hk))
 ·intro j hj;rw [List.length_set] at hj;rw [qg hj];split
  ·exact hr
  exact h3 j hj
 ·rw [List.length_set,List.length_set];exact h4
 ·intro j hj;rw [List.length_set] at hj;rw [qg hj,qg (by omega)];split
  ·exact hS.row hb (λk hk=>(hn k hk).1)
  exact hS.row (h5 j hj) (hbt j hj)
 ·intro j hj k hk;rw [List.length_set] at hj;rw [qg (by omega)] at hk;split at hk
  ·exact⟨λe=>(hn k hk).1 (by simpa [Value.ownBlock] using e.symm),(hn k hk).2.1⟩
  exact h6 j hj k hk
 ·intro x y hx hy hxy k hk
  rw [List.length_set] at hx hy
  rw [qg (by omega)] at hk
  rw [qg (by omega)]
  split at hk
  ·rw [if_neg (by omega)]
   exact hd k hk y hy (by omega)
  split
  ·intro e;exact hd k e x hx (by omega) hk
  exact h14 x y hx hy hxy k hk
 ·exact(hS.block _ (zq h8) hgb).trans h8
 ·exact h9.trans (hS.below h9.size (λx e=>by omega))
 intro j hj;rw [List.length_set] at hj;rw [qg (by omega)];split
 ·exact λe=>(hn gb e).2.2 rfl
 exact h13 j hj
theorem qZ.mem {W X:World} {gb mb n mc:Nat} {tv:Value} {bad:Bool} {ts:List zo} {mem:List Int} {bs:List Value} (h:qZ W X gb tv (.slice (some ⟨mb,0,none⟩) n mc) bad ts mem bs) (j:Nat) (x:Int):
  qZ W (X.setCell ⟨mb,j,none⟩ (.int .i64 x)) gb tv (.slice (some ⟨mb,0,none⟩) n mc) bad ts (mem.set j x) bs:=by
 obtain⟨⟨h1,h2,h3,h4,h5,h6,h7,h14⟩,h8,h9,h10,h11,h12,h13⟩:=h
 have hnn:n=mem.length:=by
  rcases h2.2 with⟨e, -⟩|⟨g,cap,cur,e, -⟩
  ·cases e
  cases e;rfl
 subst hnn
 have hS:Since (λx=>x=mb) X (X.setCell ⟨mb,j,none⟩ (.int .i64 x)):=Since.setCell (F:=λx=>x=mb) (p:=⟨mb,j,none⟩) (Since.refl _ _) (.inl rfl) _
 have hmb:W.heap.size<=mb:=(h2.lt mb rfl).1
 have hgb:gb≠mb:=λe=>h12 (by rw [e];rfl)
 refine⟨⟨hS.row h1 (λk hk e=>h7 k hk (by rw [e];rfl)), ?_,h3,h4,λk hk=>hS.row (h5 k hk) (λy hy e=>(h6 k hk y hy).2 (by rw [e];rfl)),h6,h7,h14⟩,(hS.block _ (zq h8) hgb).trans h8,h9.trans (hS.below h9.size (λx e=>by omega)),h10,h11,h12,h13⟩
 rw [List.length_set,znW]
 exact uf h2 _
theorem qZ.isBad {W X:World} {gb:Nat} {tv mv:Value} {bad:Bool} {ts:List zo} {mem:List Int} {bs:List Value} (h:qZ W X gb tv mv bad ts mem bs) (b:Bool):qZ W (X.setCell ⟨gb,2,none⟩ (.bool b)) gb tv mv b ts mem bs:=by
 obtain⟨⟨h1,h2,h3,h4,h5,h6,h7,h14⟩,h8,h9,h10,h11,h12,h13⟩:=h
 have hS:Since (λx=>x=gb) X (X.setCell ⟨gb,2,none⟩ (.bool b)):=Since.setCell (F:=λx=>x=gb) (p:=⟨gb,2,none⟩) (Since.refl _ _) (.inl rfl) _
 refine⟨⟨hS.row h1 (λk hk e=>h11 (e ▸ hk)),hS.row h2 (λk hk e=>h12 (e ▸ hk)),h3,h4,λk hk=>hS.row (h5 k hk) (λy hy e=>h13 k hk (e ▸ hy)),h6,h7,h14⟩, ?_,h9.trans (hS.below h9.size (λx e=>by omega)),h10,h11,h12,h13⟩
 have:=zu h8 2 (.bool b)
 simpa using this
theorem qZ.later {W X X':World} {gb:Nat} {tv mv:Value} {bad:Bool} {ts:List zo} {mem:List Int} {bs:List Value} (h:qZ W X gb tv mv bad ts mem bs) (hb:Below X.heap.size X X'):qZ W X' gb tv mv bad ts mem bs:=
 ⟨h.own.below hb,(hb.block _ (zq h.box)).trans h.box,zB h.below hb,h.lo,h.n1,h.n2,h.n3⟩
theorem qZ.zrK {W X:World} {tv mv:Value} {ts:List zo} {mem:List Int} {bs:List Value} (h:OwnAt W.heap.size X tv mv ts mem bs) (hb:Below W.heap.size W X) (bad:Bool):qZ W (X.alloc (.cells #[tv,mv, .bool bad] 35)) X.heap.size tv mv bad ts mem bs:=
 ⟨h.below ((Below.refl _ _).alloc (Nat.le_refl _) _),yE X _,hb.alloc hb.size _,hb.size,λe=>by have:=(h.row.lt _ e).2;omega,λe=>by have:=(h.mem.lt _ e).2;omega,λj hj e=>by have:=((h.buf j hj).lt _ e).2;omega⟩
theorem qZ.threads {W X:World} {gb:Nat} {tv mv:Value} {bad:Bool} {ts:List zo} {mem:List Int} {bs:List Value} (h:qZ W X gb tv mv bad ts mem bs) {i:Nat} (hi:i<ts.length):∃tb tc,tv= .slice (some ⟨tb,0,none⟩) ts.length tc/\W.heap.size<=tb/\
  ∀k u,k<6->((ts.getD i default).cells (bs.getD i (.slice none 0 0)))[k]? =some u->X.cell? ⟨tb,i*6+k,none⟩=some u/\X.frozen? ⟨tb,i*6+k,none⟩=false:=by
 have h0:=qV (bs:=bs) (i:=0) hi (by omega)
 obtain⟨tb,tc,e1,e2, -, -⟩:=qX h.own.row (j:=i*6+0) (u:= .int .i64 (ts.getD i default).pc) (by rw [h0];rfl)
 refine⟨tb,tc,e1,e2,λk u hk hu=> ?_⟩
 obtain⟨g,c,e3, -,e4,e5⟩:=qX h.own.row (j:=i*6+k) (u:=u) (by rw [qV hi hk];exact hu)
 rw [e1] at e3
 cases e3
 exact⟨e4,e5⟩
theorem zhg {l:List Int} {j:Nat} (hj:j<l.length):(zl yO l)[j]? =some (.int .i64 (l.getD j 0)):=by
 have:=zaR (f:=yO) (size:=1) uZ (l:=l) (j:=j) (i:=0) hj (by omega)
 rw [Nat.mul_one,Nat.add_zero] at this
 exact this
theorem qZ.vars {W X:World} {gb:Nat} {tv mv:Value} {bad:Bool} {ts:List zo} {mem:List Int} {bs:List Value} (h:qZ W X gb tv mv bad ts mem bs) (hm:0<mem.length):∃mb mc,mv= .slice (some ⟨mb,0,none⟩) mem.length mc/\W.heap.size<=mb/\
  ∀j,j<mem.length->X.cell? ⟨mb,j,none⟩=some (.int .i64 (mem.getD j 0))/\X.frozen? ⟨mb,j,none⟩=false:=by
 obtain⟨mb,mc,e1,e2, -, -⟩:=qX h.own.mem (zhg hm)
 refine⟨mb,mc,e1,e2,λj hj=> ?_⟩
 obtain⟨g,c,e3, -,e4,e5⟩:=qX h.own.mem (zhg hj)
 rw [e1] at e3
 cases e3
 exact⟨e4,e5⟩
end Go.Proofs.YteggflahafiieaaGreatDoor
namespace Go.Proofs.YteggflahafiieaaGreatDoor
open Go.RowKit
set_option maxRecDepth 100000
set_option maxHeartbeats 16000000
section
variable {c:zK} {m:zF} {s:zm} {t:zo} {x:zT} {d:Nat}
theorem kY (h:x.op=1):stepT c m s t x d=some (⟨t.pc+1,t.regs.set x.reg.toNat ((kF t.buf x.var).getD (s.mem.getD x.var.toNat 0)),t.buf⟩,s.mem,s.bad):=by simp [stepT,h]
theorem kJ (h:x.op=2) (hm:m.model=0):stepT c m s t x d=some (⟨t.pc+1,t.regs,t.buf⟩,s.mem.set x.var.toNat (zZ t.regs c.domain d x.a),s.bad):=by simp [stepT,h,hm]
theorem kK (h:x.op=2) (hm:¬m.model=0) (hp:xY t.buf m ⟨x.var,zZ t.regs c.domain d x.a⟩=true):stepT c m s t x d=some (⟨t.pc+1,t.regs,vF t.buf m ⟨x.var,zZ t.regs c.domain d x.a⟩⟩,s.mem,s.bad):=by simp [stepT,h,hm,hp]
theorem kL (h:x.op=2) (hm:¬m.model=0) (hp:xY t.buf m ⟨x.var,zZ t.regs c.domain d x.a⟩=false):stepT c m s t x d=none:=by simp [stepT,h,hm,hp]
theorem uW (h:x.op=3):stepT c m s t x d=some (⟨t.pc+1,t.regs.set x.reg.toNat (zZ t.regs c.domain d x.a),t.buf⟩,s.mem,s.bad):=by simp [stepT,h]
theorem ku (h:x.op=4):stepT c m s t x d=if t.buf.length=0 then some (⟨t.pc+1,t.regs,t.buf⟩,s.mem,s.bad) else none:=by simp [stepT,h]
theorem jV (h:x.op=5):stepT c m s t x d=if t.buf.length=0\/¬m.model=2 then some (⟨t.pc+1,t.regs,t.buf⟩,s.mem,s.bad) else none:=by simp [stepT,h]
theorem kZ (h:x.op=6) (hv:s.mem.getD x.var.toNat 0=zZ t.regs c.domain d x.a):stepT c m s t x d=if t.buf.length=0 then some (⟨t.pc+1,t.regs.set x.reg.toNat 1,t.buf⟩,s.mem.set x.var.toNat (zZ t.regs c.domain d x.b),s.bad) else none:=by
 unfold stepT
 simp only [h,hv]
 simp
theorem wh (h:x.op=6) (hv:¬s.mem.getD x.var.toNat 0=zZ t.regs c.domain d x.a):stepT c m s t x d=if t.buf.length=0 then some (⟨t.pc+1,t.regs.set x.reg.toNat 0,t.buf⟩,s.mem,s.bad) else none:=by
 unfold stepT
 simp only [h]
 simp only [if_neg hv]
 simp
theorem jW (h:x.op=7):stepT c m s t x d=if t.buf.length=0/\s.mem.getD x.var.toNat 0=0 then some (⟨t.pc+1,t.regs,t.buf⟩,s.mem.set x.var.toNat 1,s.bad) else none:=by simp [stepT,h]
theorem jG (h:x.op=8):stepT c m s t x d=if t.buf.length=0 then some (⟨t.pc+1,t.regs,t.buf⟩,s.mem.set x.var.toNat 0,s.bad) else none:=by simp [stepT,h]
theorem jk (h:x.op=9):stepT c m s t x d=some (⟨t.pc+1,t.regs,t.buf⟩,s.mem,s.bad||decide (zZ t.regs c.domain d x.a=0)):=by simp [stepT,h]
theorem jH (h:x.op=12):stepT c m s t x d=some (if zZ t.regs c.domain d x.a=0 then⟨x.dest,t.regs,t.buf⟩ else⟨t.pc+1,t.regs,t.buf⟩,s.mem,s.bad):=by simp [stepT,h]
theorem uF (h1:¬x.op=1) (h2:¬x.op=2) (h3:¬x.op=3) (h4:¬x.op=4) (h5:¬x.op=5) (h6:¬x.op=6) (h7:¬x.op=7) (h8:¬x.op=8) (h9:¬x.op=9) (h12:¬x.op=12) (h13:¬x.op=13):stepT c m s t x d=some (⟨t.pc+1,t.regs,t.buf⟩,s.mem,s.bad):=by simp [stepT,h1,h2,h3,h4,h5,h6,h7,h8,h9,h12,h13]
theorem gV (h:x.op=13):stepT c m s t x d=some (⟨x.dest,t.regs,t.buf⟩,s.mem,s.bad):=by simp [stepT,h]
end
theorem bD {c:zK} {m:zF} {s:zm} (h:xR c m s=true):codeOk c=true/\jP c m=true/\s.threads.length=c.threads.length/\(s.mem.length:Int)=c.vars/\
  ∀i,i<s.threads.length->0<=(s.threads.getD i default).pc/\(s.threads.getD i default).pc<=((c.threads.getD i []).length:Int):=by
 unfold xR at h
 simp only [Bool.and_eq_true,decide_eq_true_eq] at h
 obtain⟨⟨⟨⟨h1,h2⟩,h3⟩, -⟩,h5⟩:=h
 have h6:=h1
 unfold jP at h6
 simp only [Bool.and_eq_true,decide_eq_true_eq] at h6
 refine⟨h6.1.1.1.1,h1,h2,h3,λi hi=> ?_⟩
 rw [List.all_eq_true] at h5
 have:=h5 i (List.mem_range.2 hi)
 unfold qD at this
 simp only [Bool.and_eq_true,decide_eq_true_eq] at this
 exact this.1.1
theorem qP {α:Type} {l:List α} {k:Nat} {x:α} (hk:k<l.length):l.getD k x∈l:=by
 rw [List.getD_eq_getElem?_getD,List.getElem?_eq_getElem hk];exact List.getElem_mem hk
theorem zgu {c:zK} (h:codeOk c=true) {i k:Nat} (hi:i<c.threads.length) (hk:k<(c.threads.getD i []).length):
  (c.threads.getD i []).length<=600/\0<=((c.threads.getD i []).getD k default).reg/\((c.threads.getD i []).getD k default).reg<4/\0<=((c.threads.getD i []).getD k default).var/\((c.threads.getD i []).getD k default).var<c.vars:=by
 have hb:=qA h
 unfold codeOk at h
 simp only [Bool.and_eq_true,decide_eq_true_eq] at h
 have h1:=h.2
 rw [List.all_eq_true] at h1
 have h2:=h1 (c.threads.getD i []) (qP hi)
 unfold rowOk at h2
 simp only [Bool.and_eq_true,decide_eq_true_eq] at h2
 obtain⟨h3,h4⟩:=h2
 rw [List.all_eq_true] at h4
 have h5:=h4 ((c.threads.getD i []).getD k default) (qP hk)
 obtain⟨y,hy⟩:∃y,y=(c.threads.getD i []).getD k default:=⟨_,rfl⟩
 rw [<-hy] at h5 ⊢
 have key:∀kind yA,qW c.vars c.domain kind yA y=true->0<=y.reg/\y.reg<4/\0<=y.var/\y.var<c.vars:=by
  intro kind yA h
  unfold qW qm bF wU at h
  simp only [Bool.and_eq_true] at h
  obtain⟨-,⟨⟨h6,h7⟩, -⟩, -⟩:=h
  constructor
  ·split at h6
   ·simp only [Bool.and_eq_true,decide_eq_true_eq] at h6;exact h6.1
   simp only [decide_eq_true_eq] at h6;omega
  constructor
  ·split at h6
   ·simp only [Bool.and_eq_true,decide_eq_true_eq] at h6;exact h6.2
   simp only [decide_eq_true_eq] at h6;omega
  split at h7
  ·simp only [Bool.and_eq_true,decide_eq_true_eq] at h7;exact h7
  simp only [decide_eq_true_eq] at h7;omega
 unfold xW at h5
 refine⟨h3, ?_⟩
 split at h5
 ·exact key _ _ h5
 split at h5
 ·exact key _ _ h5
 split at h5
 ·cases h5
 exact key _ _ h5
theorem zaW (w:World) (o1 o2 o3 o4:Obj):Below w.heap.size w ((((w.alloc o1).alloc o2).alloc o3).alloc o4)/\((((w.alloc o1).alloc o2).alloc o3).alloc o4).heap[w.heap.size]? =some o1/\((((w.alloc o1).alloc o2).alloc o3).alloc o4).heap[w.heap.size+1]? =some o2/\
  ((((w.alloc o1).alloc o2).alloc o3).alloc o4).heap[w.heap.size+2]? =some o3/\((((w.alloc o1).alloc o2).alloc o3).alloc o4).heap[w.heap.size+3]? =some o4/\((((w.alloc o1).alloc o2).alloc o3).alloc o4).heap.size=w.heap.size+4:=by
 refine⟨(bI w o1 o2 o3).alloc (by simp;omega) o4,(Below.heap_alloc _ _ _ (by simp;omega)).trans (bJ w o1 o2 o3),(Below.heap_alloc _ _ _ (by simp;try omega)).trans (uO w o1 o2 o3),(Below.heap_alloc _ _ _ (by simp;try omega)).trans (bK w o1 o2 o3), ?_,by simp⟩
 have:=yE (((w.alloc o1).alloc o2).alloc o3) o4
 simpa using this
def zY (X:World) (g:Nat):Nat->List Value->World
 |_, [] =>X
 |j,u::l=>zY (X.setCell ⟨g,j,none⟩ u) g (j+1) l
theorem yX {g:Nat} (l:List Value):∀(X:World) (j:Nat),Since (λk=>k=g) X (zY X g j l):=by
 induction l with
 |nil=>intro X j;exact Since.refl _ _
 |cons u l ih=>
 intro X j
 exact(Since.setCell (F:=λk=>k=g) (p:=⟨g,j,none⟩) (Since.refl _ X) (.inl rfl) u).trans (ih _ _) (λ_ h=> .inl h)
theorem zou {g:Nat} {t:TypeId} {f:Nat × Nat} (l:List Value):∀(X:World) (pre post:List Value),post.length=l.length->X.heap[g]? =some (.cells (pre++post).toArray t f)->(zY X g pre.length l).heap[g]? =some (.cells (pre++l).toArray t f):=by
 induction l with
 |nil=>
  intro X pre post hl h
  obtain rfl:post= [] :=List.eq_nil_of_length_eq_zero hl
  exact h
 |cons u l ih=>
 intro X pre post hl h
 cases post with
 |nil=>simp at hl
 |cons v post=>
 have h2:=zu h pre.length u
 have h3:((pre++v::post).toArray).setIfInBounds pre.length u=((pre++ [u])++post).toArray:=by
  rw [List.setIfInBounds_toArray,List.set_append_right _ _ (Nat.le_refl _)]
  simp
 rw [h3] at h2
 have:=ih _ (pre++ [u]) post (by simpa using hl) h2
 simpa [zY] using this
theorem xS {g:Nat} {t:TypeId} {f:Nat × Nat} {X:World} {cs:List Value} (l:List Value) (hl:cs.length=l.length) (h:X.heap[g]? =some (.cells cs.toArray t f)):(zY X g 0 l).heap[g]? =some (.cells l.toArray t f):=zou l X [] cs hl h
end Go.Proofs.YteggflahafiieaaGreatDoor
namespace Go.Proofs.YteggflahafiieaaGreatDoor
open Go.RowKit
set_option maxRecDepth 100000
set_option maxHeartbeats 16000000
structure Loc (V X:World) (bs:List (Nat × TypeId × List Value)):Prop where
 below:Below V.heap.size V X
 news:∀p∈bs,X.heap[p.1]? =some (.cells p.2.2.toArray p.2.1 (0,0))/\V.heap.size<=p.1
 apart:(bs.map (·.1)).Nodup
def upd (g:Nat) (l:List Value) (bs:List (Nat × TypeId × List Value)):List (Nat × TypeId × List Value):=bs.map λp=>if p.1=g then(p.1,p.2.1,l) else p
section
variable {V X:World} {bs:List (Nat × TypeId × List Value)}
theorem Loc.start (V:World):Loc V V [] :=⟨Below.refl _ _,by simp,by simp⟩
theorem Loc.drew (h:Loc V X bs):Loc V X.drew bs:=⟨h.below.drew,h.news,h.apart⟩
theorem Loc.later (h:Loc V X bs) {X':World} (hb:Below X.heap.size X X'):Loc V X' bs:=⟨zB h.below hb,λp hp=>⟨(hb.block _ (zq (h.news p hp).1)).trans (h.news p hp).1,(h.news p hp).2⟩,h.apart⟩
theorem Loc.alloc (h:Loc V X bs) (t:TypeId) (cs:List Value):Loc V (X.alloc (.cells cs.toArray t)) ((X.heap.size,t,cs)::bs):=by
 refine⟨h.below.alloc h.below.size _, ?_, ?_⟩
 ·intro p hp
  rcases List.mem_cons.1 hp with rfl|hp
  ·exact⟨yE X _,h.below.size⟩
  exact⟨(Below.heap_alloc _ _ _ (zq (h.news p hp).1)).trans (h.news p hp).1,(h.news p hp).2⟩
 simp only [List.map_cons,List.nodup_cons]
 refine⟨?_,h.apart⟩
 intro hm
 obtain⟨p,hp,e⟩:=List.mem_map.1 hm
 have:=zq (h.news p hp).1
 omega
theorem Loc.store (h:Loc V X bs) {g:Nat} {t:TypeId} {cs:List Value} (hg:(g,t,cs)∈bs) (l:List Value) (hl:cs.length=l.length):Loc V (zY X g 0 l) (upd g l bs):=by
 have hS:=yX (g:=g) l X 0
 refine⟨h.below.trans (hS.below h.below.size (λk e=>by rw [e];exact(h.news _ hg).2)), ?_, ?_⟩
 ·intro p hp
  obtain⟨q,hq,rfl⟩:=List.mem_map.1 hp
  by_cases e:q.1=g
  ·simp only [if_pos e]
   have hqe:q=(g,t,cs):=by
    have h1:=h.news q hq
    have h2:=h.news _ hg
    rw [e] at h1
    obtain⟨a,b,c⟩:=q
    simp only [] at e h1 h2
    subst e
    have h3:=h1.1.symm.trans h2.1
    simp only [Option.some.injEq,Obj.cells.injEq] at h3
    obtain⟨h4,h5, -⟩:=h3
    have h6:c=cs:=by simpa using h4
    rw [h5,h6]
   subst hqe
   exact⟨xS l hl (h.news _ hg).1,(h.news _ hg).2⟩
  rw [if_neg e]
  exact⟨(hS.block _ (zq (h.news q hq).1) e).trans (h.news q hq).1,(h.news q hq).2⟩
 have:(upd g l bs).map (·.1)=bs.map (·.1):=by
  unfold upd
  rw [List.map_map]
  refine List.map_congr_left (λp _=> ?_)
  simp only [Function.comp]
  split<;>rfl
 rw [this];exact h.apart
theorem bq {g:Nat} {t:TypeId} {cs l:List Value} (h:(g,t,cs)∈bs):(g,t,l)∈upd g l bs:=List.mem_map.2 ⟨_,h,by simp⟩
theorem je {g:Nat} {l:List Value} {p:Nat × TypeId × List Value} (h:p∈bs) (hne:p.1≠g):p∈upd g l bs:=List.mem_map.2 ⟨p,h,by simp [hne]⟩
theorem Loc.zam (h:Loc V X bs) {p:Nat × TypeId × List Value} (hp:p∈bs):p.1≠X.heap.size:=Nat.ne_of_lt (zq (h.news p hp).1)
end
end Go.Proofs.YteggflahafiieaaGreatDoor
namespace Go.Proofs.YteggflahafiieaaGreatDoor
open Go.RowKit
set_option maxRecDepth 100000
set_option maxHeartbeats 16000000
theorem zvC {x v:Int} {l:List Int} (h:v∈jC x l):v=x\/v∈l:=by
 induction l with
 |nil=>simp only [jC,List.mem_singleton] at h;exact .inl h
 |cons y l ih=>
 unfold jC at h
 split at h
 ·rcases List.mem_cons.1 h with rfl|h
  ·exact .inl rfl
  exact .inr h
 rcases List.mem_cons.1 h with rfl|h
 ·exact .inr (List.mem_cons_self ..)
 exact(ih h).imp id (λh=>List.mem_cons_of_mem _ h)
theorem zoQ {l:List zi} {v:Int} {i:Nat} (h:v∈yJ l i):∃j,j<i/\(l.getD j default).var=v:=by
 induction i with
 |zero=>simp [yJ] at h
 |succ i ih=>
 unfold yJ at h
 split at h
 ·rcases zvC h with rfl|h
  ·exact⟨i,by omega,rfl⟩
  obtain⟨j,hj,e⟩:=ih h;exact⟨j,by omega,e⟩
 obtain⟨j,hj,e⟩:=ih h;exact⟨j,by omega,e⟩
theorem ztw {l:List zi} {v model:Int} (h:v∈yD l model):∃j,j<l.length/\(l.getD j default).var=v:=by
 unfold yD at h
 split at h
 ·exact zoQ h
 split at h
 ·cases l with
  |nil=>cases h
  |cons x r=>
  simp only [List.mem_singleton] at h
  exact⟨0,by simp,by rw [h];rfl⟩
 cases h
theorem zrh {l:List zi} {v:Int} {i:Nat} (h:∃j,j<i/\(l.getD j default).var=v):∃n,(yC l v i).1=some ⟨v,n⟩:=by
 induction i with
 |zero=>obtain⟨j,hj, -⟩:=h;omega
 |succ i ih=>
 unfold yC
 by_cases hs:(yC l v i).1.isNone
 ·by_cases hv:(l.getD i default).var=v
  ·rw [if_pos (by simp only [hs,Bool.true_and];exact decide_eq_true hv)]
   exact⟨(l.getD i default).n,by rw [<-hv]⟩
  obtain⟨j,hj,e⟩:=h
  have hj2:j<i:=by
   rcases Nat.lt_or_ge j i with h1|h1
   ·exact h1
   obtain rfl:j=i:=by omega
   exact absurd e hv
  obtain⟨n,hn⟩:=ih ⟨j,hj2,e⟩
  rw [hn] at hs;cases hs
 rw [if_neg (by simp only [Bool.and_eq_true];exact λh=>hs h.1)]
 have:∃y,(yC l v i).1=some y:=by
  cases h3:(yC l v i).1 with
  |none=>rw [h3] at hs;exact absurd rfl hs
  |some y=>exact⟨y,rfl⟩
 obtain⟨y,hy⟩:=this
 have hyv:∀k y,(yC l v k).1=some y->y.var=v:=by
  intro k
  induction k with
  |zero=>intro y h;cases h
  |succ k ihk=>
  intro y h
  unfold yC at h
  split at h
  ·rename_i h4
   simp only [Bool.and_eq_true,decide_eq_true_eq] at h4
   cases h
   exact h4.2
  exact ihk y h
 have hv:=hyv i y hy
 exact⟨y.n,by rw [hy, <-hv]⟩
theorem zaC {c:zK} {m:zF} {s:zm} (h:xR c m s=true) {i:Nat} (hi:i<s.threads.length) {v:Int} (hv:v∈yD (s.threads.getD i default).buf m.model):
  0<=v/\v<c.vars/\∃n,takeB (s.threads.getD i default).buf v=(some ⟨v,n⟩,(takeB (s.threads.getD i default).buf v).2):=by
 obtain⟨j,hj,e⟩:=ztw hv
 unfold xR at h
 simp only [Bool.and_eq_true] at h
 have h5:=h.2
 rw [List.all_eq_true] at h5
 have h6:=h5 i (List.mem_range.2 hi)
 unfold qD at h6
 simp only [Bool.and_eq_true] at h6
 have h7:=h6.2
 rw [List.all_eq_true] at h7
 have h8:=h7 j (List.mem_range.2 hj)
 unfold xU at h8
 simp only [Bool.and_eq_true,decide_eq_true_eq] at h8
 rw [e] at h8
 obtain⟨n,hn⟩:=zrh (l:=(s.threads.getD i default).buf) ⟨j,hj,e⟩
 exact⟨h8.1.1.1.2,h8.1.1.2,n,Prod.ext hn rfl⟩
structure zob where
 mem:List Int
 regs:List (List Int)
 deriving DecidableEq
instance:Inhabited zob:=⟨⟨[], []⟩⟩
