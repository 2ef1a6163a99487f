/- Steps. -/
import Derived.LoopIn
import Derived.LoopNIn
import Derived.OwnWalkIn
import Derived.RangeFuncBound
import Derived.RangeFuncNested
import Derived.Shelf.RegionOpen
import Derived.Test.YtliajkheeniljaaGreatDoorZmPSrc
set_option linter.all false
namespace Go.Proofs.YtliajkheeniljaaGreatDoor
open Go.RowKit
set_option maxRecDepth 100000
set_option maxHeartbeats 16000000
section
variable {c:zO} {m:zH} {s:zl} {t:zA} {x:zW} {d:Nat}
theorem pz (h:x.op=1):stepT c m s t x d=some (⟨t.pc+1,t.regs.set x.reg.toNat ((gD t.buf x.var).getD (s.mem.getD x.var.toNat 0)),t.buf⟩,s.mem,s.bad):=by simp [stepT,h]
theorem bB (h:x.op=2) (hm:m.model=0):stepT c m s t x d=some (⟨t.pc+1,t.regs,t.buf⟩,s.mem.set x.var.toNat (yw t.regs c.domain d x.a),s.bad):=by simp [stepT,h,hm]
theorem bC (h:x.op=2) (hm:¬m.model=0) (hp:qB t.buf m ⟨x.var,yw t.regs c.domain d x.a⟩=true):stepT c m s t x d=some (⟨t.pc+1,t.regs,jm t.buf m ⟨x.var,yw t.regs c.domain d x.a⟩⟩,s.mem,s.bad):=by simp [stepT,h,hm,hp]
theorem bD (h:x.op=2) (hm:¬m.model=0) (hp:qB t.buf m ⟨x.var,yw t.regs c.domain d x.a⟩=false):stepT c m s t x d=none:=by simp [stepT,h,hm,hp]
theorem zbs (h:x.op=3):stepT c m s t x d=some (⟨t.pc+1,t.regs.set x.reg.toNat (yw t.regs c.domain d x.a),t.buf⟩,s.mem,s.bad):=by simp [stepT,h]
theorem uO (h:x.op=4):stepT c m s t x d=if t.buf.length=0 then some (⟨t.pc+1,t.regs,t.buf⟩,s.mem,s.bad) else none:=by simp [stepT,h]
theorem uw (h:x.op=5):stepT c m s t x d=if t.buf.length=0\/¬m.model=2 then some (⟨t.pc+1,t.regs,t.buf⟩,s.mem,s.bad) else none:=by simp [stepT,h]
theorem pE (h:x.op=6) (hv:s.mem.getD x.var.toNat 0=yw t.regs c.domain d x.a):stepT c m s t x d=if t.buf.length=0 then some (⟨t.pc+1,t.regs.set x.reg.toNat 1,t.buf⟩,s.mem.set x.var.toNat (yw t.regs c.domain d x.b),s.bad) else none:=by
 unfold stepT
 simp only [h,hv]
 simp
theorem pF (h:x.op=6) (hv:¬s.mem.getD x.var.toNat 0=yw t.regs c.domain d x.a):stepT c m s t x d=if t.buf.length=0 then some (⟨t.pc+1,t.regs.set x.reg.toNat 0,t.buf⟩,s.mem,s.bad) else none:=by
 unfold stepT
 simp only [h]
 simp only [if_neg hv]
 simp
theorem uy (h:x.op=7):stepT c m s t x d=if t.buf.length=0/\s.mem.getD x.var.toNat 0=0 then some (⟨t.pc+1,t.regs,t.buf⟩,s.mem.set x.var.toNat 1,s.bad) else none:=by simp [stepT,h]
theorem gP (h:x.op=8):stepT c m s t x d=if t.buf.length=0 then some (⟨t.pc+1,t.regs,t.buf⟩,s.mem.set x.var.toNat 0,s.bad) else none:=by simp [stepT,h]
theorem kY (h:x.op=9):stepT c m s t x d=some (⟨t.pc+1,t.regs,t.buf⟩,s.mem,s.bad||decide (yw t.regs c.domain d x.a=0)):=by simp [stepT,h]
theorem gQ (h:x.op=12):stepT c m s t x d=some (if yw t.regs c.domain d x.a=0 then⟨x.dest,t.regs,t.buf⟩ else⟨t.pc+1,t.regs,t.buf⟩,s.mem,s.bad):=by simp [stepT,h]
theorem zbi (h1:¬x.op=1) (h2:¬x.op=2) (h3:¬x.op=3) (h4:¬x.op=4) (h5:¬x.op=5) (h6:¬x.op=6) (h7:¬x.op=7) (h8:¬x.op=8) (h9:¬x.op=9) (h12:¬x.op=12) (h13:¬x.op=13):stepT c m s t x d=some (⟨t.pc+1,t.regs,t.buf⟩,s.mem,s.bad):=by simp [stepT,h1,h2,h3,h4,h5,h6,h7,h8,h9,h12,h13]
theorem za8 (h:x.op=13):stepT c m s t x d=some (⟨x.dest,t.regs,t.buf⟩,s.mem,s.bad):=by simp [stepT,h]
end
theorem pI {c:zO} {m:zH} {s:zl} (h:yJ c m s=true):codeOk c=true/\jk c m=true/\s.threads.length=c.threads.length/\(s.mem.length:Int)=c.vars/\
  ∀i,i<s.threads.length->0<=(s.threads.getD i default).pc/\(s.threads.getD i default).pc<=((c.threads.getD i []).length:Int):=by
 unfold yJ at h
 simp only [Bool.and_eq_true,decide_eq_true_eq] at h
 obtain⟨⟨⟨⟨h1,h2⟩,h3⟩, -⟩,h5⟩:=h
 have h6:=h1
 unfold jk at h6
 simp only [Bool.and_eq_true,decide_eq_true_eq] at h6
 refine⟨h6.1.1.1.1,h1,h2,h3,λi hi=> ?_⟩
 rw [List.all_eq_true] at h5
 have:=h5 i (List.mem_range.2 hi)
 unfold qI at this
 simp only [Bool.and_eq_true,decide_eq_true_eq] at this
 exact this.1.1
theorem vB {α:Type} {l:List α} {k:Nat} {x:α} (hk:k<l.length):l.getD k x∈l:=by
 rw [List.getD_eq_getElem?_getD,List.getElem?_eq_getElem hk];exact List.getElem_mem hk
theorem zii {c:zO} (h:codeOk c=true) {i k:Nat} (hi:i<c.threads.length) (hk:k<(c.threads.getD i []).length):
  (c.threads.getD i []).length<=600/\0<=((c.threads.getD i []).getD k default).reg/\((c.threads.getD i []).getD k default).reg<4/\0<=((c.threads.getD i []).getD k default).var/\((c.threads.getD i []).getD k default).var<c.vars:=by
 have hb:=xS h
 unfold codeOk at h
 simp only [Bool.and_eq_true,decide_eq_true_eq] at h
 have h1:=h.2
 rw [List.all_eq_true] at h1
 have h2:=h1 (c.threads.getD i []) (vB hi)
 unfold rowOk at h2
 simp only [Bool.and_eq_true,decide_eq_true_eq] at h2
 obtain⟨h3,h4⟩:=h2
 rw [List.all_eq_true] at h4
 have h5:=h4 ((c.threads.getD i []).getD k default) (vB hk)
 obtain⟨y,hy⟩:∃y,y=(c.threads.getD i []).getD k default:=⟨_,rfl⟩
 rw [<-hy] at h5 ⊢
 have key:∀kind yI,qD c.vars c.domain kind yI y=true->0<=y.reg/\y.reg<4/\0<=y.var/\y.var<c.vars:=by
  intro kind yI h
  unfold qD qA uY kg at h
  simp only [Bool.and_eq_true] at h
  obtain⟨-,⟨⟨h6,h7⟩, -⟩, -⟩:=h
  constructor
  ·split at h6
   ·simp only [Bool.and_eq_true,decide_eq_true_eq] at h6;exact h6.1
   simp only [decide_eq_true_eq] at h6;omega
  constructor
  ·split at h6
   ·simp only [Bool.and_eq_true,decide_eq_true_eq] at h6;exact h6.2
   simp only [decide_eq_true_eq] at h6;omega
  split at h7
  ·simp only [Bool.and_eq_true,decide_eq_true_eq] at h7;exact h7
  simp only [decide_eq_true_eq] at h7;omega
 unfold qw at h5
 refine⟨h3, ?_⟩
 split at h5
 ·exact key _ _ h5
 split at h5
 ·exact key _ _ h5
 split at h5
 ·cases h5
 exact key _ _ h5
theorem zcv (w:World) (o1 o2 o3 o4:Obj):Below w.heap.size w ((((w.alloc o1).alloc o2).alloc o3).alloc o4)/\((((w.alloc o1).alloc o2).alloc o3).alloc o4).heap[w.heap.size]? =some o1/\((((w.alloc o1).alloc o2).alloc o3).alloc o4).heap[w.heap.size+1]? =some o2/\
  ((((w.alloc o1).alloc o2).alloc o3).alloc o4).heap[w.heap.size+2]? =some o3/\((((w.alloc o1).alloc o2).alloc o3).alloc o4).heap[w.heap.size+3]? =some o4/\((((w.alloc o1).alloc o2).alloc o3).alloc o4).heap.size=w.heap.size+4:=by
 refine⟨(za5 w o1 o2 o3).alloc (by simp;omega) o4,(Below.heap_alloc _ _ _ (by simp;omega)).trans (za6 w o1 o2 o3),(Below.heap_alloc _ _ _ (by simp;try omega)).trans (zai w o1 o2 o3),(Below.heap_alloc _ _ _ (by simp;try omega)).trans (za7 w o1 o2 o3), ?_,by simp⟩
 have:=yh (((w.alloc o1).alloc o2).alloc o3) o4
 simpa using this
def yG (X:World) (g:Nat):Nat->List Value->World
 |_, [] =>X
 |j,u::l=>yG (X.setCell ⟨g,j,none⟩ u) g (j+1) l
theorem qj {g:Nat} (l:List Value):∀(X:World) (j:Nat),Since (λk=>k=g) X (yG X g j l):=by
 induction l with
 |nil=>intro X j;exact Since.refl _ _
 |cons u l ih=>
 intro X j
 exact(Since.setCell (F:=λk=>k=g) (p:=⟨g,j,none⟩) (Since.refl _ X) (.inl rfl) u).trans (ih _ _) (λ_ h=> .inl h)
theorem zl7 {g:Nat} {t:TypeId} {f:Nat × Nat} (l:List Value):∀(X:World) (pre post:List Value),post.length=l.length->X.heap[g]? =some (.cells (pre++post).toArray t f)->(yG X g pre.length l).heap[g]? =some (.cells (pre++l).toArray t f):=by
 induction l with
 |nil=>
  intro X pre post hl h
  obtain rfl:post= [] :=List.eq_nil_of_length_eq_zero hl
  exact h
 |cons u l ih=>
 intro X pre post hl h
 cases post with
 |nil=>simp at hl
 |cons v post=>
 have h2:=zu h pre.length u
 have h3:((pre++v::post).toArray).setIfInBounds pre.length u=((pre++ [u])++post).toArray:=by
  rw [List.setIfInBounds_toArray,List.set_append_right _ _ (Nat.le_refl _)]
  simp
 rw [h3] at h2
 have:=ih _ (pre++ [u]) post (by simpa using hl) h2
 simpa [yG] using this
theorem vZ {g:Nat} {t:TypeId} {f:Nat × Nat} {X:World} {cs:List Value} (l:List Value) (hl:cs.length=l.length) (h:X.heap[g]? =some (.cells cs.toArray t f)):(yG X g 0 l).heap[g]? =some (.cells l.toArray t f):=zl7 l X [] cs hl h
end Go.Proofs.YtliajkheeniljaaGreatDoor
namespace Go.Proofs.YtliajkheeniljaaGreatDoor
open Go.RowKit
set_option maxRecDepth 100000
set_option maxHeartbeats 16000000
structure Loc (V X:World) (bs:List (Nat × TypeId × List Value)):Prop where
 below:Below V.heap.size V X
 news:∀p∈bs,X.heap[p.1]? =some (.cells p.2.2.toArray p.2.1 (0,0))/\V.heap.size<=p.1
 apart:(bs.map (·.1)).Nodup
def upd (g:Nat) (l:List Value) (bs:List (Nat × TypeId × List Value)):List (Nat × TypeId × List Value):=bs.map λp=>if p.1=g then(p.1,p.2.1,l) else p
section
variable {V X:World} {bs:List (Nat × TypeId × List Value)}
theorem Loc.start (V:World):Loc V V [] :=⟨Below.refl _ _,by simp,by simp⟩
theorem Loc.drew (h:Loc V X bs):Loc V X.drew bs:=⟨h.below.drew,h.news,h.apart⟩
theorem Loc.later (h:Loc V X bs) {X':World} (hb:Below X.heap.size X X'):Loc V X' bs:=⟨zF h.below hb,λp hp=>⟨(hb.block _ (zw (h.news p hp).1)).trans (h.news p hp).1,(h.news p hp).2⟩,h.apart⟩
theorem Loc.alloc (h:Loc V X bs) (t:TypeId) (cs:List Value):Loc V (X.alloc (.cells cs.toArray t)) ((X.heap.size,t,cs)::bs):=by
 refine⟨h.below.alloc h.below.size _, ?_, ?_⟩
 ·intro p hp
  rcases List.mem_cons.1 hp with rfl|hp
  ·exact⟨yh X _,h.below.size⟩
  exact⟨(Below.heap_alloc _ _ _ (zw (h.news p hp).1)).trans (h.news p hp).1,(h.news p hp).2⟩
 simp only [List.map_cons,List.nodup_cons]
 refine⟨?_,h.apart⟩
 intro hm
 obtain⟨p,hp,e⟩:=List.mem_map.1 hm
 have:=zw (h.news p hp).1
 omega
theorem Loc.store (h:Loc V X bs) {g:Nat} {t:TypeId} {cs:List Value} (hg:(g,t,cs)∈bs) (l:List Value) (hl:cs.length=l.length):Loc V (yG X g 0 l) (upd g l bs):=by
 have hS:=qj (g:=g) l X 0
 refine⟨h.below.trans (hS.below h.below.size (λk e=>by rw [e];exact(h.news _ hg).2)), ?_, ?_⟩
 ·intro p hp
  obtain⟨q,hq,rfl⟩:=List.mem_map.1 hp
  by_cases e:q.1=g
  ·simp only [if_pos e]
   have hqe:q=(g,t,cs):=by
    have h1:=h.news q hq
    have h2:=h.news _ hg
    rw [e] at h1
    obtain⟨a,b,c⟩:=q
    simp only [] at e h1 h2
    subst e
    have h3:=h1.1.symm.trans h2.1
    simp only [Option.some.injEq,Obj.cells.injEq] at h3
    obtain⟨h4,h5, -⟩:=h3
    have h6:c=cs:=by simpa using h4
    rw [h5,h6]
   subst hqe
   exact⟨vZ l hl (h.news _ hg).1,(h.news _ hg).2⟩
  rw [if_neg e]
  exact⟨(hS.block _ (zw (h.news q hq).1) e).trans (h.news q hq).1,(h.news q hq).2⟩
 have:(upd g l bs).map (·.1)=bs.map (·.1):=by
  unfold upd
  rw [List.map_map]
  refine List.map_congr_left (λp _=> ?_)
  simp only [Function.comp]
  split<;>rfl
 rw [this];exact h.apart
theorem uP {g:Nat} {t:TypeId} {cs l:List Value} (h:(g,t,cs)∈bs):(g,t,l)∈upd g l bs:=List.mem_map.2 ⟨_,h,by simp⟩
theorem jJ {g:Nat} {l:List Value} {p:Nat × TypeId × List Value} (h:p∈bs) (hne:p.1≠g):p∈upd g l bs:=List.mem_map.2 ⟨p,h,by simp [hne]⟩
theorem Loc.zby (h:Loc V X bs) {p:Nat × TypeId × List Value} (hp:p∈bs):p.1≠X.heap.size:=Nat.ne_of_lt (zw (h.news p hp).1)
end
end Go.Proofs.YtliajkheeniljaaGreatDoor
namespace Go.Proofs.YtliajkheeniljaaGreatDoor
open Go.RowKit
set_option maxRecDepth 100000
set_option maxHeartbeats 16000000
theorem ztS {x v:Int} {l:List Int} (h:v∈wB x l):v=x\/v∈l:=by
 induction l with
 |nil=>simp only [wB,List.mem_singleton] at h;exact .inl h
 |cons y l ih=>
 unfold wB at h
 split at h
 ·rcases List.mem_cons.1 h with rfl|h
  ·exact .inl rfl
  exact .inr h
 rcases List.mem_cons.1 h with rfl|h
 ·exact .inr (List.mem_cons_self ..)
 exact(ih h).imp id (λh=>List.mem_cons_of_mem _ h)
theorem zmG {l:List zk} {v:Int} {i:Nat} (h:v∈yR l i):∃j,j<i/\(l.getD j default).var=v:=by
 induction i with
 |zero=>simp [yR] at h
 |succ i ih=>
 unfold yR at h
 split at h
 ·rcases ztS h with rfl|h
  ·exact⟨i,by omega,rfl⟩
  obtain⟨j,hj,e⟩:=ih h;exact⟨j,by omega,e⟩
 obtain⟨j,hj,e⟩:=ih h;exact⟨j,by omega,e⟩
theorem zrr {l:List zk} {v model:Int} (h:v∈yL l model):∃j,j<l.length/\(l.getD j default).var=v:=by
 unfold yL at h
 split at h
 ·exact zmG h
 split at h
 ·cases l with
  |nil=>cases h
  |cons x r=>
  simp only [List.mem_singleton] at h
  exact⟨0,by simp,by rw [h];rfl⟩
 cases h
theorem zpe {l:List zk} {v:Int} {i:Nat} (h:∃j,j<i/\(l.getD j default).var=v):∃n,(yM l v i).1=some ⟨v,n⟩:=by
 induction i with
 |zero=>obtain⟨j,hj, -⟩:=h;omega
 |succ i ih=>
 unfold yM
 by_cases hs:(yM l v i).1.isNone
 ·by_cases hv:(l.getD i default).var=v
  ·rw [if_pos (by simp only [hs,Bool.true_and];exact decide_eq_true hv)]
   exact⟨(l.getD i default).n,by rw [<-hv]⟩
  obtain⟨j,hj,e⟩:=h
  have hj2:j<i:=by
   rcases Nat.lt_or_ge j i with h1|h1
   ·exact h1
   obtain rfl:j=i:=by omega
   exact absurd e hv
  obtain⟨n,hn⟩:=ih ⟨j,hj2,e⟩
  rw [hn] at hs;cases hs
 rw [if_neg (by simp only [Bool.and_eq_true];exact λh=>hs h.1)]
 have:∃y,(yM l v i).1=some y:=by
  cases h3:(yM l v i).1 with
  |none=>rw [h3] at hs;exact absurd rfl hs
  |some y=>exact⟨y,rfl⟩
 obtain⟨y,hy⟩:=this
 have hyv:∀k y,(yM l v k).1=some y->y.var=v:=by
  intro k
  induction k with
  |zero=>intro y h;cases h
  |succ k ihk=>
  intro y h
  unfold yM at h
  split at h
  ·rename_i h4
   simp only [Bool.and_eq_true,decide_eq_true_eq] at h4
   cases h
   exact h4.2
  exact ihk y h
 have hv:=hyv i y hy
 exact⟨y.n,by rw [hy, <-hv]⟩
theorem zeo {c:zO} {m:zH} {s:zl} (h:yJ c m s=true) {i:Nat} (hi:i<s.threads.length) {v:Int} (hv:v∈yL (s.threads.getD i default).buf m.model):
  0<=v/\v<c.vars/\∃n,takeB (s.threads.getD i default).buf v=(some ⟨v,n⟩,(takeB (s.threads.getD i default).buf v).2):=by
 obtain⟨j,hj,e⟩:=zrr hv
 unfold yJ at h
 simp only [Bool.and_eq_true] at h
 have h5:=h.2
 rw [List.all_eq_true] at h5
 have h6:=h5 i (List.mem_range.2 hi)
 unfold qI at h6
 simp only [Bool.and_eq_true] at h6
 have h7:=h6.2
 rw [List.all_eq_true] at h7
 have h8:=h7 j (List.mem_range.2 hj)
 unfold qm at h8
 simp only [Bool.and_eq_true,decide_eq_true_eq] at h8
 rw [e] at h8
 obtain⟨n,hn⟩:=zpe (l:=(s.threads.getD i default).buf) ⟨j,hj,e⟩
 exact⟨h8.1.1.1.2,h8.1.1.2,n,Prod.ext hn rfl⟩
structure zl8 where
 mem:List Int
 regs:List (List Int)
 deriving DecidableEq
instance:Inhabited zl8:=⟨⟨[], []⟩⟩
end Go.Proofs.YtliajkheeniljaaGreatDoor
namespace Go.Proofs.YtliajkheeniljaaGreatDoor
open Go.RowKit Go.Shelf
set_option maxRecDepth 100000
set_option maxHeartbeats 16000000
attribute [local go_sem] Oper.semAt_some
def upTo {α:Type} (f:Nat->α) (k:Nat):List α:=(List.range k).map f
theorem zcT {α:Type} (f:Nat->α) (k:Nat):upTo f (k+1)=upTo f k++ [f k] :=by simp [upTo,List.range_succ]
theorem zmH {α:Type} (f:Nat->α) (k:Nat):(upTo f k).length=k:=by simp [upTo]
def wR (l:List zk) (k:Nat):Int × zk:=((l.length:Int) - 1 - (k:Int),l.getD (l.length - 1 - k) default)
theorem ztT (n l Bs n0 len cap:Nat) (a:Option Addr) (L:List zk) (hlen:len=L.length) (zrs:len<=1000000) (hn:1<=n) (J Jx:List (Int × zk)->World->Prop)
  (hY:∀pre x W,J pre W->pre.length<len->YieldAt Fence.wide (n - 1) Tryz.prog l #[.int .i64 x.1, .agg #[.int .i64 x.2.var, .int .i64 x.2.n]] W λe W'=>
   (e= .returned (.bool true)/\J (pre++ [x]) W'/\Below n0 W W')\/(e= .returned (.bool false)/\Jx (pre++ [x]) W'))
  (W:World) (hBs:W.cell? ⟨Bs,0,none⟩=some (.slice a len cap)) (hBl:Bs<n0) (hc:∀j,j<len->∃b off,a=some ⟨b,off,none⟩/\b<n0/\W.cell? ⟨b,off+j*2,none⟩=some (.int .i64 (L.getD j default).var)/\W.cell? ⟨b,off+j*2+1,none⟩=some (.int .i64 (L.getD j default).n)) (h0:J [] W):
  CallsIn Fence.wide n Tryz.prog 188 #[.func (.yield l) #[] #[], .pointer (some ⟨Bs,0,none⟩)] W λe W'=>(∃v,e= .returned v)/\
   ((∃ys,ys=upTo (wR L) len/\J ys W')\/(∃pre,(∃k,k<=len/\pre=upTo (wR L) k)/\Jx pre W')):=by
 refine callsIn_of_wp Tryz.func188 rfl trivial ?_ rfl
 simp only [Tryz.ntmps188,List.size_toArray,List.length_cons,List.length_nil,Nat.reduceAdd,Nat.reduceSub,Array.replicate_succ,Array.replicate_zero,List.push_toArray,List.append_toArray,List.nil_append,List.cons_append]
 have HLE:=qh hlen
 clear hlen
 gi_wp2
 gi_loopw [3] (λi wr=>∃k:Nat,k<=len/\i= .int .i64 ((len:Int) - 1 - k)/\J (upTo (wR L) k) wr/\Below n0 W wr)
  (λi _=>(intOf i+1).toNat)
 case atStart=>exact⟨0,Nat.zero_le _,by simp,h0,Below.refl _ _⟩
 case round=>
 obtain⟨k,hk,rfl,hJs,hnx⟩:=hrel
 by_cases hlt:k<len
 rotate_left
 ·obtain rfl:len=k:=by omega
  have hz:(len:Int) - 1 - (len:Int)= -1:=by omega
  rw [hz]
  clear hz
  gi_wp2
  go_end0
  exact⟨⟨_,rfl⟩, .inl ⟨_,rfl,hJs⟩⟩
 obtain⟨q,hq⟩:∃q:Nat,q=len - 1 - k:=⟨_,rfl⟩
 have hqi:(len:Int) - 1 - (k:Int)=(q:Int):=by omega
 have hql:q<len:=by omega
 obtain⟨b,off,rfl,hb,f0,f1⟩:=hc q hql
 have e0:=(hnx.cell (p:=⟨b,off+q*2,none⟩) hb).trans f0
 have e1:=(hnx.cell (p:=⟨b,off+q*2+1,none⟩) hb).trans f1
 clear f0 f1
 have eb:=(hnx.cell (p:=⟨Bs,0,none⟩) hBl).trans hBs
 obtain⟨fn,tmps,assign,body,hy,hR⟩:=hY _ (wR L k) wr hJs (by rw [zmH];exact hlt)
 have hbk:wR L k=((q:Int),L.getD q default):=by unfold wR;rw [<-HLE.out,hqi, <-hq]
 rw [hbk] at hy
 dsimp only at hy
 obtain⟨ev,hev⟩:∃ev,ev=(L.getD q default).var:=⟨_,rfl⟩
 obtain⟨en,hen⟩:∃en,en=(L.getD q default).n:=⟨_,rfl⟩
 rw [<-hev] at e0 hy
 rw [<-hen] at e1 hy
 clear hev hen
 rw [hqi]
 have hlI:(q:Int)<(len:Int):=by omega
 have HW1:=qh (show wrap64 ((q:Int) - 1)=(q:Int) - 1 by unfold wrap64;omega)
 have HQI:=qh hqi
 clear hq hqi hbk
 gi_wp2
 refine hR.mono ?_
 rintro e W3 (⟨rfl,hJ3,hk3⟩|⟨rfl,hJx3⟩)
 ·gi_wp2
  go_roundw
  case rel=>exact⟨k+1,by omega,by have:=HQI.out;have:=HW1.out;simp<;>omega,by rw [zcT];exact hJ3,hnx.trans hk3⟩
  case measure=>have:=HQI.out;have:=HW1.out;simp [intOf] <;>omega
 gi_wp2
 refine bodyPost_ret (results_none rfl _ _ _) rfl ?_
 exact⟨⟨_,rfl⟩, .inr ⟨_,⟨k+1,by omega,(zcT _ _).symm⟩,hJx3⟩⟩
theorem zpf (n Bs n0:Nat) (a:Option Addr) (cap:Nat) (L:List zk) (zrs:L.length<=1000000) (hn:1<=n) (w:World) (hBs:Bs<w.heap.size) (hBl:Bs<n0) (hn0:n0<=w.heap.size) (hc:w.cell? ⟨Bs,0,none⟩=some (.slice a L.length cap))
  (hI:∀j,j<L.length->∃b off,a=some ⟨b,off,none⟩/\b<n0/\w.cell? ⟨b,off+j*2,none⟩=some (.int .i64 (L.getD j default).var)/\w.cell? ⟨b,off+j*2+1,none⟩=some (.int .i64 (L.getD j default).n)):
  SeqStopsK Fence.wide n Tryz.prog 188 #[.pointer (some ⟨Bs,0,none⟩)] (λx:Int × zk=> #[Value.int .i64 x.1,Value.agg #[Value.int .i64 x.2.var,Value.int .i64 x.2.n]]) (Below n0) (λys=>ys=upTo (wR L) L.length)
   (λpre=>∃k,k<=L.length/\pre=upTo (wR L) k) L.length w:=λl J Jx W hW _ _ hY h0=>
 ztT n l Bs n0 L.length cap a L rfl zrs hn J Jx hY W ((hW.cell (p:=⟨Bs,0,none⟩) hBs).trans hc) hBl (λj hj=>by
  obtain⟨b,off,e,hb,f0,f1⟩:=hI j hj
  exact⟨b,off,e,hb,(hW.cell (p:=⟨b,off+j*2,none⟩) (Nat.lt_of_lt_of_le hb hn0)).trans f0,(hW.cell (p:=⟨b,off+j*2+1,none⟩) (Nat.lt_of_lt_of_le hb hn0)).trans f1⟩) h0
theorem zwZ (n:Nat) (a:Option Addr) (len cap:Nat) (w:World):
  CallsIn Fence.wide n Tryz.prog 182 #[.slice a len cap] w λe w'=>e= .returned (.func (.func 188) #[] #[.pointer (some ⟨w.heap.size,0,none⟩)])/\w'=w.alloc (.cells #[.slice a len cap] 46):=by
 refine callsIn_of_wp Tryz.func182 rfl trivial ?_ rfl
 simp only [Tryz.ntmps182,List.size_toArray,List.length_cons,List.length_nil,Nat.reduceAdd,Nat.reduceSub,Array.replicate_succ,Array.replicate_zero,List.push_toArray,List.append_toArray,List.nil_append,List.cons_append]
 gi_wp2
 go_ret
 exact⟨rfl,rfl⟩
theorem zl9 (l:List zk) (v:Int):∀k,k<=l.length->(∀p∈upTo (wR l) k,p.2.var≠v)->gD l v=pJ l v (l.length - k):=by
 intro k
 induction k with
 |zero=>intro _ _;rfl
 |succ k ih=>
 intro hk h
 rw [zcT] at h
 rw [ih (by omega) (λp hp=>h p (List.mem_append.2 (.inl hp)))]
 have hne:=h (wR l k) (List.mem_append.2 (.inr (by simp)))
 obtain⟨q,hq⟩:∃q,l.length - k=q+1:=⟨l.length - k - 1,by omega⟩
 have hq2:l.length - (k+1)=q:=by omega
 have hq3:l.length - 1 - k=q:=by omega
 rw [hq,hq2]
 unfold wR at hne
 rw [hq3] at hne
 rw [show pJ l v (q+1)=if (l.getD q default).var=v then some (l.getD q default).n else pJ l v q from rfl,if_neg hne]
theorem ztU (l:List zk) (v:Int) (k:Nat) (hk:k<l.length) (h:∀p∈upTo (wR l) k,p.2.var≠v) (hv:(wR l k).2.var=v):gD l v=some (wR l k).2.n:=by
 rw [zl9 l v k (by omega) h]
 obtain⟨q,hq⟩:∃q,l.length - k=q+1:=⟨l.length - k - 1,by omega⟩
 have hq3:l.length - 1 - k=q:=by omega
 rw [hq]
 unfold wR at hv ⊢
 rw [hq3] at hv ⊢
 rw [show pJ l v (q+1)=if (l.getD q default).var=v then some (l.getD q default).n else pJ l v q from rfl,if_pos hv]
theorem zrt (w:World) (bv:Value) (l:List zk) (h:zV w bv l) (hl:l.length<=1000000) (v:Int):
  Calls Tryz.prog 166 #[bv, .int .i64 v] w λe w'=>e= .returned (.tuple #[.int .i64 ((gD l v).getD 0), .bool (gD l v).isSome])/\Below w.heap.size w w':=by
 obtain⟨ba,bc,rfl, -⟩:=zh.slice h
 have hI:∀j,j<l.length->∃b off,ba=some ⟨b,off,none⟩/\b<w.heap.size/\w.cell? ⟨b,off+j*2,none⟩=some (.int .i64 (l.getD j default).var)/\w.cell? ⟨b,off+j*2+1,none⟩=some (.int .i64 (l.getD j default).n):=λj hj=>h.part j hj
 refine(callsIn_wide (n:=8)).1 ?_
 refine callsIn_of_wp_marks Tryz.func166 rfl trivial ?_ rfl
 simp only [Tryz.ntmps166,List.size_toArray,List.length_cons,List.length_nil,Nat.reduceAdd,Nat.reduceSub,Array.replicate_succ,Array.replicate_zero,List.push_toArray,List.append_toArray,List.nil_append,List.cons_append]
 have hB:=zcv w (.cells #[.int .i64 v] 3) (.cells #[.int .i64 0] 3) (.cells #[.bool false] 4) (.cells #[.slice ba l.length bc] 46)
 obtain⟨hB0,b0,b1,b2,b3,hsz⟩:=hB
 gi_wp2_with (refine⟨trivial, ?_⟩;gi_at_call 182;refine(zwZ (8 - 1) _ _ _ _).mono ?_;rintro e w' ⟨rfl,rfl⟩)
 obtain⟨W0,hW0⟩:∃W0,(((w.alloc (.cells #[.int .i64 v] 3)).alloc (.cells #[.int .i64 0] 3)).alloc (.cells #[.bool false] 4)).alloc (.cells #[.slice ba l.length bc] 46)=W0:=⟨_,rfl⟩
 rw [hW0] at hB0 b0 b1 b2 b3 hsz ⊢
 clear hW0
 refine wpIn_rangeFunc_ownH rfl (by decide) (gf:=188) (lb:= #[.pointer (some ⟨w.heap.size+1+1+1,0,none⟩)]) rfl trivial (enters_of Tryz.func188 (by kernel_rfl) rfl)
  (zpf (8 - 1) (w.heap.size+3) (w.heap.size+4) ba bc l hl (by decide) W0 (by omega) (by omega) (by omega) (ze b3 0) (λj hj=>by
   obtain⟨b,off,e,hb,f0,f1⟩:=hI j hj
   exact⟨b,off,e,by omega,zi hB0 _ _ f0,zi hB0 _ _ f1⟩)) belowK_t (belowK_b (by omega)) (Below.refl _ _) (λ_=>rfl)
  (λpre W=>((∀p∈pre,p.2.var≠v)/\Boxed W w.heap.size 3 (.int .i64 v)/\Boxed W (w.heap.size+1) 3 (.int .i64 0)/\Boxed W (w.heap.size+2) 4 (.bool false))/\Below (w.heap.size+4) W0 W)
  (λc pre W=>(c= .ret/\∃ini last,pre=ini++ [last] /\(∀p∈ini,p.2.var≠v)/\last.2.var=v/\Boxed W (w.heap.size+1) 3 (.int .i64 last.2.n)/\Boxed W (w.heap.size+2) 4 (.bool true))/\Below w.heap.size w W)
  (OwnFrom.and (λs X Y row hs hg hr=>⟨hs.1,boxed_own _ _ (λ(_:Unit)=>Value.int .i64 v) () X Y row hs.2.1 hg (λr e=>(hr r e).2),boxed_own _ _ (λ(_:Unit)=>Value.int .i64 0) () X Y row hs.2.2.1 hg (λr e=>(hr r e).2),boxed_own _ _ (λ(_:Unit)=>Value.bool false) () X Y row hs.2.2.2 hg (λr e=>(hr r e).2)⟩) (ownFrom_below (by omega) (by omega)))
  (λc=>OwnFrom.and (λs X Y row hs hg hr=>by
   obtain⟨hc,ini,last,e1,e2,e3,e4,e5⟩:=hs
   exact⟨hc,ini,last,e1,e2,e3,boxed_own _ _ (λ(_:Unit)=>Value.int .i64 last.2.n) () X Y row e4 hg (λr e=>(hr r e).2),boxed_own _ _ (λ(_:Unit)=>Value.bool true) () X Y row e5 hg (λr e=>(hr r e).2)⟩) (ownFrom_below (Nat.le_refl _) (by omega)))
  ⟨⟨by simp,b0,b1,b2⟩,(Below.refl _ _)⟩
  (λx a' W=>∃Bx,w.heap.size+3<Bx/\W.heap[Bx]? =some (.cells #[.int .i64 x.2.var, .int .i64 x.2.n] 50 (0,0))/\a'= { tmps:= #[.slice ba l.length bc, .int .i64 v,undef, .pointer (some ⟨w.heap.size,0,none⟩), .pointer (some ⟨w.heap.size+1,0,none⟩), .pointer (some ⟨w.heap.size+1+1,0,none⟩),undef, .pointer (some ⟨Bx,0,none⟩), .slice ba l.length bc, .func (.func 188) #[] #[.pointer (some ⟨w.heap.size+1+1+1,0,none⟩)], .int .i64 x.1, .agg #[.int .i64 x.2.var, .int .i64 x.2.n],undef,undef,undef,undef,undef,undef],defers:= [] })
  (λx a' _ X Y row hs hg hr=>by
   obtain⟨Bx,h1,h2,h3⟩:=hs
   refine⟨Bx,h1, ?_,h3⟩
   refine(hg.block Bx (zw h2) (λe=> ?_)).trans h2
   obtain⟨o,ho,hc⟩:=(hr Bx e.symm).2
   rw [h2] at ho;cases ho;cases hc)
  ?assign ?body ?done ?stop
 case assign=>
  rintro l2 pre x W K ⟨⟨hp,x1,x2,x3⟩,hB1⟩ hK
  gi_wp2
  exact hK _ _ ((KeepsOthers.alloc _ _).from _) ((Below.refl _ W).alloc (by have:=hB1.size;omega) _) ⟨⟨hp,x1.alloc _,x2.alloc _,x3.alloc _⟩,hB1.alloc (by have:=hB1.size;omega) _⟩ ⟨W.heap.size,by have:=x3.lt;have:=hB1.size;omega,yh W _,rfl⟩
 case body=>
  rintro l2 pre x a' W hl2 - ⟨⟨hp,x1,x2,x3⟩,hB1⟩ ⟨Bx,hBx,bX,rfl⟩ hlt
  have d0:W.cell? ⟨Bx,0,none⟩=some (.int .i64 x.2.var):=ze bX 0
  have d1:W.cell? ⟨Bx,1,none⟩=some (.int .i64 x.2.n):=ze bX 1
  have c1:=x1.cell
  have c2:=x2.cell
  have c3:=x3.cell
  have f2:=x2.frozen
  have f3:=x3.frozen
  gi_wp2
  ·have hx:(x.2.var==v)=true:=by assumption
   have hx2:x.2.var=v:=by simpa using hx
   refine⟨((KeepsOthers.setCell _ _ _).trans (KeepsOthers.setCell _ _ _)).from _,⟨rfl,pre,x,rfl,hp,hx2,(x2.set _).other (by omega) _,(x3.other (by omega) _).set _⟩, ?_⟩
   exact((hB0.trans (hB1.mono (by omega))).setCell (p:=⟨w.heap.size+1,0,none⟩) (by simp) _).setCell (p:=⟨w.heap.size+2,0,none⟩) (by simp) _
  have hx:(x.2.var==v)=false:=by assumption
  have hx2:x.2.var≠v:=by simpa using hx
  exact⟨KeepsFrom.refl _ _,Below.refl _ _,⟨λp hp'=>(List.mem_append.1 hp').elim (hp p) (λe=>by simp at e;subst e;exact hx2),x1,x2,x3⟩,hB1⟩
 case done=>
  rintro D ys W hD rfl ⟨⟨hp,x1,x2,x3⟩,hB1⟩ hK
  have c2:=x2.cell
  have c3:=x3.cell
  have f2:=x2.frozen
  have f3:=x3.frozen
  have hn:gD l v=none:=by rw [zl9 l v l.length (Nat.le_refl _) hp,Nat.sub_self];rfl
  have HN:=qh hn
  clear hn
  gi_wp2
  have y2:=(x2.set (.int .i64 0)).other (B':=w.heap.size+2) (by omega) (.bool false)
  have y3:=(x3.other (B':=w.heap.size+1) (by omega) (.int .i64 0)).set (.bool false)
  have hK':=((KeepsOthers.setCell W ⟨w.heap.size+1,0,none⟩ (.int .i64 0)).trans (KeepsOthers.setCell _ ⟨w.heap.size+2,0,none⟩ (.bool false))).same D _ hK rfl
  refine⟨by simp, .inl ⟨_,_,rfl,run_takeDeferred hK', ?_⟩⟩
  have hc4:=cell_kept y2.cell (grownBy_putObj' _ D (.deferred none)) (λr e=>by cases e;exact⟨_,hK',rfl⟩)
  have hc5:=cell_kept y3.cell (grownBy_putObj' _ D (.deferred none)) (λr e=>by cases e;exact⟨_,hK',rfl⟩)
  refine⟨.tuple #[.int .i64 0, .bool false], ?_,by rw [HN.out];rfl,(((hB0.trans (hB1.mono (by omega))).setCell (p:=⟨w.heap.size+1,0,none⟩) (by simp) _).setCell (p:=⟨w.heap.size+2,0,none⟩) (by simp) _).trans (belowK_b (w:=w) (Nat.le_refl _) _ D _ _ (by omega) hK' rfl rfl)⟩
  simp [results,Tryz.f166,go_sem,hc4,hc5]
 case stop=>
 rintro D c pre W hD ⟨k,hk,rfl⟩ ⟨⟨rfl,ini,last,e1,e2,e3,x2,x3⟩,hB1⟩ hK
 gi_wp2
 refine⟨by simp, .inl ⟨_,_,rfl,run_takeDeferred hK, ?_⟩⟩
 have hc4:=cell_kept x2.cell (grownBy_putObj' _ D (.deferred none)) (λr e=>by cases e;exact⟨_,hK,rfl⟩)
 have hc5:=cell_kept x3.cell (grownBy_putObj' _ D (.deferred none)) (λr e=>by cases e;exact⟨_,hK,rfl⟩)
 obtain⟨k',rfl⟩:∃k',k=k'+1:=by
  cases k with
  |zero=>simp [upTo] at e1
  |succ k'=>exact⟨k',rfl⟩
 rw [zcT] at e1
 obtain⟨rfl,e5⟩:=List.append_inj' e1 rfl
 obtain rfl:wR l k'=last:=by simpa using e5
 have hn:=ztU l v k' (by omega) e2 e3
 refine⟨.tuple #[.int .i64 (wR l k').2.n, .bool true], ?_,by rw [hn];rfl,hB1.trans (belowK_b (w:=w) (Nat.le_refl _) W D _ _ (by omega) hK rfl rfl)⟩
 simp [results,Tryz.f166,go_sem,hc4,hc5]
