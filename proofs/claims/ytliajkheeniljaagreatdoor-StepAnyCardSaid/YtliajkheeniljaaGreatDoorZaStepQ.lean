/- A thread's step: the document's answer: what is so of it, as plain Lean. Blocks of a call's own that are known whole, whichever order they came in. A flush: what is so of it, as plain Lean. What is there in the end: the document's answer, as plain Lean; finals that are sorted, each once, are those that are put in one by one. -/
import Derived.Test.YtliajkheeniljaaGreatDoorZaHeads
import Derived.Test.YtliajkheeniljaaGreatDoorZaOwnP
import Derived.Test.YtliajkheeniljaaGreatDoorZaShort
set_option linter.all false
namespace Go.Proofs.YtliajkheeniljaaGreatDoor
open Go.RowKit
set_option maxRecDepth 100000
set_option maxHeartbeats 16000000
section
variable {c:zS} {m:zM} {s:zu} {t:zw} {x:yB} {d:Nat}
theorem zbk (h:x.op=1):stepT c m s t x d=some (⟨t.pc+1,t.regs.set x.reg.toNat ((j6 t.buf x.var).getD (s.mem.getD x.var.toNat 0)),t.buf⟩,s.mem,s.bad):=by simp [stepT,h]
theorem zcc (h:x.op=2) (hm:m.model=0):stepT c m s t x d=some (⟨t.pc+1,t.regs,t.buf⟩,s.mem.set x.var.toNat (zZ t.regs c.domain d x.a),s.bad):=by simp [stepT,h,hm]
theorem zcd (h:x.op=2) (hm:¬m.model=0) (hp:qN t.buf m ⟨x.var,zZ t.regs c.domain d x.a⟩=true):stepT c m s t x d=some (⟨t.pc+1,t.regs,vC t.buf m ⟨x.var,zZ t.regs c.domain d x.a⟩⟩,s.mem,s.bad):=by simp [stepT,h,hm,hp]
theorem zce (h:x.op=2) (hm:¬m.model=0) (hp:qN t.buf m ⟨x.var,zZ t.regs c.domain d x.a⟩=false):stepT c m s t x d=none:=by simp [stepT,h,hm,hp]
theorem zfd (h:x.op=3):stepT c m s t x d=some (⟨t.pc+1,t.regs.set x.reg.toNat (zZ t.regs c.domain d x.a),t.buf⟩,s.mem,s.bad):=by simp [stepT,h]
theorem za2 (h:x.op=4):stepT c m s t x d=if t.buf.length=0 then some (⟨t.pc+1,t.regs,t.buf⟩,s.mem,s.bad) else none:=by simp [stepT,h]
theorem bQ (h:x.op=5):stepT c m s t x d=if t.buf.length=0\/¬m.model=2 then some (⟨t.pc+1,t.regs,t.buf⟩,s.mem,s.bad) else none:=by simp [stepT,h]
theorem zbl (h:x.op=6) (hv:s.mem.getD x.var.toNat 0=zZ t.regs c.domain d x.a):stepT c m s t x d=if t.buf.length=0 then some (⟨t.pc+1,t.regs.set x.reg.toNat 1,t.buf⟩,s.mem.set x.var.toNat (zZ t.regs c.domain d x.b),s.bad) else none:=by
 unfold stepT
 simp only [h,hv]
 simp
theorem zbm (h:x.op=6) (hv:¬s.mem.getD x.var.toNat 0=zZ t.regs c.domain d x.a):stepT c m s t x d=if t.buf.length=0 then some (⟨t.pc+1,t.regs.set x.reg.toNat 0,t.buf⟩,s.mem,s.bad) else none:=by
 unfold stepT
 simp only [h]
 simp only [if_neg hv]
 simp
theorem bR (h:x.op=7):stepT c m s t x d=if t.buf.length=0/\s.mem.getD x.var.toNat 0=0 then some (⟨t.pc+1,t.regs,t.buf⟩,s.mem.set x.var.toNat 1,s.bad) else none:=by simp [stepT,h]
theorem pR (h:x.op=8):stepT c m s t x d=if t.buf.length=0 then some (⟨t.pc+1,t.regs,t.buf⟩,s.mem.set x.var.toNat 0,s.bad) else none:=by simp [stepT,h]
theorem gT (h:x.op=9):stepT c m s t x d=some (⟨t.pc+1,t.regs,t.buf⟩,s.mem,s.bad||decide (zZ t.regs c.domain d x.a=0)):=by simp [stepT,h]
theorem pU (h:x.op=12):stepT c m s t x d=some (if zZ t.regs c.domain d x.a=0 then⟨x.dest,t.regs,t.buf⟩ else⟨t.pc+1,t.regs,t.buf⟩,s.mem,s.bad):=by simp [stepT,h]
theorem zh2 (h1:¬x.op=1) (h2:¬x.op=2) (h3:¬x.op=3) (h4:¬x.op=4) (h5:¬x.op=5) (h6:¬x.op=6) (h7:¬x.op=7) (h8:¬x.op=8) (h9:¬x.op=9) (h12:¬x.op=12) (h13:¬x.op=13):stepT c m s t x d=some (⟨t.pc+1,t.regs,t.buf⟩,s.mem,s.bad):=by simp [stepT,h1,h2,h3,h4,h5,h6,h7,h8,h9,h12,h13]
theorem zdP (h:x.op=13):stepT c m s t x d=some (⟨x.dest,t.regs,t.buf⟩,s.mem,s.bad):=by simp [stepT,h]
end
theorem gM {c:zS} {m:zM} {s:zu} (h:xX c m s=true):codeOk c=true/\gK c m=true/\s.threads.length=c.threads.length/\(s.mem.length:Int)=c.vars/\
  ∀i,i<s.threads.length->0<=(s.threads.getD i default).pc/\(s.threads.getD i default).pc<=((c.threads.getD i []).length:Int):=by
 unfold xX at h
 simp only [Bool.and_eq_true,decide_eq_true_eq] at h
 obtain⟨⟨⟨⟨h1,h2⟩,h3⟩, -⟩,h5⟩:=h
 have h6:=h1
 unfold gK at h6
 simp only [Bool.and_eq_true,decide_eq_true_eq] at h6
 refine⟨h6.1.1.1.1,h1,h2,h3,fun i hi=> ?_⟩
 rw [List.all_eq_true] at h5
 have:=h5 i (List.mem_range.2 hi)
 unfold qw at this
 simp only [Bool.and_eq_true,decide_eq_true_eq] at this
 exact this.1.1
theorem jB {α:Type} {l:List α} {k:Nat} {x:α} (hk:k<l.length):l.getD k x∈l:=by
 rw [List.getD_eq_getElem?_getD,List.getElem?_eq_getElem hk];exact List.getElem_mem hk
theorem zdQ {c:zS} (h:codeOk c=true) {i k:Nat} (hi:i<c.threads.length) (hk:k<(c.threads.getD i []).length):
  (c.threads.getD i []).length<=600/\0<=((c.threads.getD i []).getD k default).reg/\((c.threads.getD i []).getD k default).reg<4/\0<=((c.threads.getD i []).getD k default).var/\((c.threads.getD i []).getD k default).var<c.vars:=by
 have hb:=qP h
 unfold codeOk at h
 simp only [Bool.and_eq_true,decide_eq_true_eq] at h
 have h1:=h.2
 rw [List.all_eq_true] at h1
 have h2:=h1 (c.threads.getD i []) (jB hi)
 unfold rowOk at h2
 simp only [Bool.and_eq_true,decide_eq_true_eq] at h2
 obtain⟨h3,h4⟩:=h2
 rw [List.all_eq_true] at h4
 have h5:=h4 ((c.threads.getD i []).getD k default) (jB hk)
 obtain⟨y,hy⟩:∃y,y=(c.threads.getD i []).getD k default:=⟨_,rfl⟩
 rw [<-hy] at h5 ⊢
 have key:∀kind yC,kV c.vars c.domain kind yC y=true->0<=y.reg/\y.reg<4/\0<=y.var/\y.var<c.vars:=by
  intro kind yC h
  unfold kV jr zpU zpV at h
  simp only [Bool.and_eq_true] at h
  obtain⟨-,⟨⟨h6,h7⟩, -⟩, -⟩:=h
  constructor
  ·split at h6
   ·simp only [Bool.and_eq_true,decide_eq_true_eq] at h6;exact h6.1
   ·simp only [decide_eq_true_eq] at h6;omega
  constructor
  ·split at h6
   ·simp only [Bool.and_eq_true,decide_eq_true_eq] at h6;exact h6.2
   ·simp only [decide_eq_true_eq] at h6;omega
  ·split at h7
   ·simp only [Bool.and_eq_true,decide_eq_true_eq] at h7;exact h7
   ·simp only [decide_eq_true_eq] at h7;omega
 unfold xS at h5
 refine⟨h3, ?_⟩
 split at h5
 ·exact key _ _ h5
 ·split at h5
  ·exact key _ _ h5
  ·split at h5
   ·cases h5
   ·exact key _ _ h5
theorem kM (w:World) (o1 o2 o3 o4:Obj):Below w.heap.size w ((((w.alloc o1).alloc o2).alloc o3).alloc o4)/\((((w.alloc o1).alloc o2).alloc o3).alloc o4).heap[w.heap.size]? =some o1/\((((w.alloc o1).alloc o2).alloc o3).alloc o4).heap[w.heap.size+1]? =some o2/\
  ((((w.alloc o1).alloc o2).alloc o3).alloc o4).heap[w.heap.size+2]? =some o3/\((((w.alloc o1).alloc o2).alloc o3).alloc o4).heap[w.heap.size+3]? =some o4/\((((w.alloc o1).alloc o2).alloc o3).alloc o4).heap.size=w.heap.size+4:=by
 refine⟨(gB w o1 o2 o3).alloc (by simp;omega) o4,(Below.heap_alloc _ _ _ (by simp;omega)).trans (gD w o1 o2 o3),(Below.heap_alloc _ _ _ (by simp;try omega)).trans (wE w o1 o2 o3),(Below.heap_alloc _ _ _ (by simp;try omega)).trans (gF w o1 o2 o3), ?_,by simp⟩
 have:=yK (((w.alloc o1).alloc o2).alloc o3) o4
 simpa using this
def zU (X:World) (g:Nat):Nat->List Value->World
 |_, [] =>X
 |j,u::l=>zU (X.setCell ⟨g,j,none⟩ u) g (j+1) l
theorem xK {g:Nat} (l:List Value):∀(X:World) (j:Nat),Since (fun k=>k=g) X (zU X g j l):=by
 induction l with
 |nil=>intro X j;exact Since.refl _ _
 |cons u l ih=>
  intro X j
  exact(Since.setCell (F:=fun k=>k=g) (p:=⟨g,j,none⟩) (Since.refl _ X) (.inl rfl) u).trans (ih _ _) (fun _ h=> .inl h)
theorem zgA {g:Nat} {t:TypeId} {f:Nat × Nat} (l:List Value):∀(X:World) (pre post:List Value),post.length=l.length->X.heap[g]? =some (.cells (pre++post).toArray t f)->(zU X g pre.length l).heap[g]? =some (.cells (pre++l).toArray t f):=by
 induction l with
 |nil=>
  intro X pre post hl h
  obtain rfl:post= [] :=List.eq_nil_of_length_eq_zero hl
  exact h
 |cons u l ih=>
  intro X pre post hl h
  cases post with
  |nil=>simp at hl
  |cons v post=>
   have h2:=zx h pre.length u
   have h3:((pre++v::post).toArray).setIfInBounds pre.length u=((pre++ [u])++post).toArray:=by
    rw [List.setIfInBounds_toArray,List.set_append_right _ _ (Nat.le_refl _)]
    simp
   rw [h3] at h2
   have:=ih _ (pre++ [u]) post (by simpa using hl) h2
   simpa [zU] using this
theorem qX {g:Nat} {t:TypeId} {f:Nat × Nat} {X:World} {cs:List Value} (l:List Value) (hl:cs.length=l.length) (h:X.heap[g]? =some (.cells cs.toArray t f)):(zU X g 0 l).heap[g]? =some (.cells l.toArray t f):=zgA l X [] cs hl h
end Go.Proofs.YtliajkheeniljaaGreatDoor
namespace Go.Proofs.YtliajkheeniljaaGreatDoor
open Go.RowKit
set_option maxRecDepth 100000
set_option maxHeartbeats 16000000
structure Loc (V X:World) (bs:List (Nat × TypeId × List Value)):Prop where
 below:Below V.heap.size V X
 news:∀p∈bs,X.heap[p.1]? =some (.cells p.2.2.toArray p.2.1 (0,0))/\V.heap.size<=p.1
 apart:(bs.map (·.1)).Nodup
def upd (g:Nat) (l:List Value) (bs:List (Nat × TypeId × List Value)):List (Nat × TypeId × List Value):=bs.map fun p=>if p.1=g then(p.1,p.2.1,l) else p
section
variable {V X:World} {bs:List (Nat × TypeId × List Value)}
theorem Loc.start (V:World):Loc V V [] :=⟨Below.refl _ _,by simp,by simp⟩
theorem Loc.drew (h:Loc V X bs):Loc V X.drew bs:=⟨h.below.drew,h.news,h.apart⟩
theorem Loc.later (h:Loc V X bs) {X':World} (hb:Below X.heap.size X X'):Loc V X' bs:=⟨zB h.below hb,fun p hp=>⟨(hb.block _ (zJ (h.news p hp).1)).trans (h.news p hp).1,(h.news p hp).2⟩,h.apart⟩
theorem Loc.alloc (h:Loc V X bs) (t:TypeId) (cs:List Value):Loc V (X.alloc (.cells cs.toArray t)) ((X.heap.size,t,cs)::bs):=by
 refine⟨h.below.alloc h.below.size _, ?_, ?_⟩
 ·intro p hp
  rcases List.mem_cons.1 hp with rfl|hp
  ·exact⟨yK X _,h.below.size⟩
  ·exact⟨(Below.heap_alloc _ _ _ (zJ (h.news p hp).1)).trans (h.news p hp).1,(h.news p hp).2⟩
 ·simp only [List.map_cons,List.nodup_cons]
  refine⟨?_,h.apart⟩
  intro hm
  obtain⟨p,hp,e⟩:=List.mem_map.1 hm
  have:=zJ (h.news p hp).1
  omega
theorem Loc.store (h:Loc V X bs) {g:Nat} {t:TypeId} {cs:List Value} (hg:(g,t,cs)∈bs) (l:List Value) (hl:cs.length=l.length):Loc V (zU X g 0 l) (upd g l bs):=by
 have hS:=xK (g:=g) l X 0
 refine⟨h.below.trans (hS.below h.below.size (fun k e=>by rw [e];exact(h.news _ hg).2)), ?_, ?_⟩
 ·intro p hp
  obtain⟨q,hq,rfl⟩:=List.mem_map.1 hp
  by_cases e:q.1=g
  ·simp only [if_pos e]
   have hqe:q=(g,t,cs):=by
    have h1:=h.news q hq
    have h2:=h.news _ hg
    rw [e] at h1
    obtain⟨a,b,c⟩:=q
    simp only [] at e h1 h2
    subst e
    have h3:=h1.1.symm.trans h2.1
    simp only [Option.some.injEq,Obj.cells.injEq] at h3
    obtain⟨h4,h5, -⟩:=h3
    have h6:c=cs:=by simpa using h4
    rw [h5,h6]
   subst hqe
   exact⟨qX l hl (h.news _ hg).1,(h.news _ hg).2⟩
  ·rw [if_neg e]
   exact⟨(hS.block _ (zJ (h.news q hq).1) e).trans (h.news q hq).1,(h.news q hq).2⟩
 ·have:(upd g l bs).map (·.1)=bs.map (·.1):=by
   unfold upd
   rw [List.map_map]
   refine List.map_congr_left (fun p _=> ?_)
   simp only [Function.comp]
   split<;>rfl
  rw [this];exact h.apart
theorem wU {g:Nat} {t:TypeId} {cs l:List Value} (h:(g,t,cs)∈bs):(g,t,l)∈upd g l bs:=List.mem_map.2 ⟨_,h,by simp⟩
theorem qV {g:Nat} {l:List Value} {p:Nat × TypeId × List Value} (h:p∈bs) (hne:p.1≠g):p∈upd g l bs:=List.mem_map.2 ⟨p,h,by simp [hne]⟩
theorem Loc.uP (h:Loc V X bs) {p:Nat × TypeId × List Value} (hp:p∈bs):p.1≠X.heap.size:=Nat.ne_of_lt (zJ (h.news p hp).1)
end
end Go.Proofs.YtliajkheeniljaaGreatDoor
namespace Go.Proofs.YtliajkheeniljaaGreatDoor
open Go.RowKit
set_option maxRecDepth 100000
set_option maxHeartbeats 16000000
theorem zoC {x v:Int} {l:List Int} (h:v∈vN x l):v=x\/v∈l:=by
 induction l with
 |nil=>simp only [vN,List.mem_singleton] at h;exact .inl h
 |cons y l ih=>
  unfold vN at h
  split at h
  ·rcases List.mem_cons.1 h with rfl|h
   ·exact .inl rfl
   ·exact .inr h
  ·rcases List.mem_cons.1 h with rfl|h
   ·exact .inr (List.mem_cons_self ..)
   ·exact(ih h).imp id (fun h=>List.mem_cons_of_mem _ h)
theorem zh3 {l:List zn} {v:Int} {i:Nat} (h:v∈yA l i):∃j,j<i/\(l.getD j default).var=v:=by
 induction i with
 |zero=>simp [yA] at h
 |succ i ih=>
  unfold yA at h
  split at h
  ·rcases zoC h with rfl|h
   ·exact⟨i,by omega,rfl⟩
   ·obtain⟨j,hj,e⟩:=ih h;exact⟨j,by omega,e⟩
  ·obtain⟨j,hj,e⟩:=ih h;exact⟨j,by omega,e⟩
theorem zme {l:List zn} {v model:Int} (h:v∈yh l model):∃j,j<l.length/\(l.getD j default).var=v:=by
 unfold yh at h
 split at h
 ·exact zh3 h
 ·split at h
  ·cases l with
   |nil=>cases h
   |cons x r=>
    simp only [List.mem_singleton] at h
    exact⟨0,by simp,by rw [h];rfl⟩
  ·cases h
theorem zjy {l:List zn} {v:Int} {i:Nat} (h:∃j,j<i/\(l.getD j default).var=v):∃n,(yH l v i).1=some ⟨v,n⟩:=by
 induction i with
 |zero=>obtain⟨j,hj, -⟩:=h;omega
 |succ i ih=>
  unfold yH
  by_cases hs:(yH l v i).1.isNone
  ·by_cases hv:(l.getD i default).var=v
   ·rw [if_pos (by simp only [hs,Bool.true_and];exact decide_eq_true hv)]
    exact⟨(l.getD i default).n,by rw [<-hv]⟩
   ·obtain⟨j,hj,e⟩:=h
    have hj2:j<i:=by
     rcases Nat.lt_or_ge j i with h1|h1
     ·exact h1
     ·obtain rfl:j=i:=by omega
      exact absurd e hv
    obtain⟨n,hn⟩:=ih ⟨j,hj2,e⟩
    rw [hn] at hs;cases hs
  rw [if_neg (by simp only [Bool.and_eq_true];exact fun h=>hs h.1)]
  have:∃y,(yH l v i).1=some y:=by
   cases h3:(yH l v i).1 with
   |none=>rw [h3] at hs;exact absurd rfl hs
   |some y=>exact⟨y,rfl⟩
  obtain⟨y,hy⟩:=this
  have hyv:∀k y,(yH l v k).1=some y->y.var=v:=by
   intro k
   induction k with
   |zero=>intro y h;cases h
   |succ k ihk=>
    intro y h
    unfold yH at h
    split at h
    ·rename_i h4
     simp only [Bool.and_eq_true,decide_eq_true_eq] at h4
     cases h
     exact h4.2
    ·exact ihk y h
  have hv:=hyv i y hy
  exact⟨y.n,by rw [hy, <-hv]⟩
theorem zdJ {c:zS} {m:zM} {s:zu} (h:xX c m s=true) {i:Nat} (hi:i<s.threads.length) {v:Int} (hv:v∈yh (s.threads.getD i default).buf m.model):
  0<=v/\v<c.vars/\∃n,takeB (s.threads.getD i default).buf v=(some ⟨v,n⟩,(takeB (s.threads.getD i default).buf v).2):=by
 obtain⟨j,hj,e⟩:=zme hv
 unfold xX at h
 simp only [Bool.and_eq_true] at h
 have h5:=h.2
 rw [List.all_eq_true] at h5
 have h6:=h5 i (List.mem_range.2 hi)
 unfold qw at h6
 simp only [Bool.and_eq_true] at h6
 have h7:=h6.2
 rw [List.all_eq_true] at h7
 have h8:=h7 j (List.mem_range.2 hj)
 unfold vF at h8
 simp only [Bool.and_eq_true,decide_eq_true_eq] at h8
 rw [e] at h8
 obtain⟨n,hn⟩:=zjy (l:=(s.threads.getD i default).buf) ⟨j,hj,e⟩
 exact⟨h8.1.1.1.2,h8.1.1.2,n,Prod.ext hn rfl⟩
end Go.Proofs.YtliajkheeniljaaGreatDoor
namespace Go.Proofs.YtliajkheeniljaaGreatDoor
open Go.RowKit
set_option maxRecDepth 100000
set_option maxHeartbeats 16000000
structure zgB where
 mem:List Int
 regs:List (List Int)
 deriving DecidableEq
instance:Inhabited zgB:=⟨⟨[], []⟩⟩
end Go.Proofs.YtliajkheeniljaaGreatDoor
