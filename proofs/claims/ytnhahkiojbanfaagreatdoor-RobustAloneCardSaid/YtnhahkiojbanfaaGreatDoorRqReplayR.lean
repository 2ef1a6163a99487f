/- Steps. -/
import Derived.Test.YtnhahkiojbanfaaGreatDoorRqClosedP
import Derived.Test.YtnhahkiojbanfaaGreatDoorRqPTrail
import Derived.Test.YtnhahkiojbanfaaGreatDoorRqPTry
import Derived.Test.YtnhahkiojbanfaaGreatDoorRqPackW
import Derived.Test.YtnhahkiojbanfaaGreatDoorRqSpaceQ
set_option linter.all false
namespace Go.Proofs.YtnhahkiojbanfaaGreatDoor
open Go.RowKit
set_option maxRecDepth 100000
set_option maxHeartbeats 16000000
structure z0N (w W X:World) (g gs:Nat) (s:zi) (tv mv:Value):Prop where
 since:Since (λk=>k=gs) W X
 below:Below w.heap.size w W
 lo:w.heap.size<=g/\g<gs/\gs<W.heap.size
 res:X.heap[g]? =some (.cells #[.slice none 0 0, .slice none 0 0, .bool false] 42 (0,0))
 box:X.heap[gs]? =some (.cells #[tv,mv, .bool s.bad] 42 (0,0))
 st:yG X s tv mv
section
variable {w W X Y:World} {g gs:Nat} {s t:zi} {tv mv:Value}
end
end Go.Proofs.YtnhahkiojbanfaaGreatDoor
namespace Go.Proofs.YtnhahkiojbanfaaGreatDoor
open Go.RowKit
set_option maxRecDepth 100000
set_option maxHeartbeats 16000000
structure Bfs (S:yj) (n:Nat) (L:Nat->Nat):Prop where
 zero:L 0=1
 lt:∀i,i<n->i<L i
 le:∀i,i<n->L i<=L (i+1)
 below:∀i,i<n->∀j,j<(S.next.getD i []).length->(S.next.getD i []).getD j 0<(L (i+1):Int)
 all:∀i,i<n->∀b,L i<=b->b<L (i+1)->∃j,j<(S.next.getD i []).length/\(S.next.getD i []).getD j 0=(b:Int)
section
variable {S:yj} {n:Nat} {L:Nat->Nat}
end
end Go.Proofs.YtnhahkiojbanfaaGreatDoor
namespace Go.Proofs.YtnhahkiojbanfaaGreatDoor
open Go.RowKit
set_option maxRecDepth 100000
set_option maxHeartbeats 16000000
def xK (s:zi):zi:=⟨s.threads,s.mem,false⟩
def ze6 (T:List zi) (s:zi):Bool:=decide (xK s∈T.map xK)
def bU (T:List zi) (s:zi):Bool:=wZ s && !ze6 T s
def zi8 (l T:List zi):Option Nat:=(List.range l.length).find? λi=>bU T (l.getD i default)
def uS (S T:yj):Bool × List zo × Int:=
 match zi8 S.states T.states with
 |some i=>(false,(xV S i (i:Int)).reverse,0)
 |none=>(true, [],0)
def yD (c:zx) (m:zu) (R:Int) (d:Nat):Bool × List zo × Int:=
 if (zV c m R d).2=0 then
  if (zV c jf R d).2=0 then uS (zV c m R d).1 (zV c jf R d).1
  else(false, [],(zV c jf R d).2)
 else(false, [],(zV c m R d).2)
theorem find_range {p:Nat->Bool} :∀ {n i:Nat},(∀j,j<i->p j=false)->p i=true->i<n->(List.range n).find? p=some i:=by
 intro n
 induction n with
 |zero=>intro i _ _ h;omega
 |succ n ih=>
 intro i h1 h2 h3
 rw [List.range_succ,List.find?_append]
 rcases Nat.lt_or_ge i n with h|h
 ·rw [ih h1 h2 h];rfl
 obtain rfl:i=n:=by omega
 rw [List.find?_eq_none.2 (λx hx=>by rw [h1 x (List.mem_range.1 hx)];simp)]
 simp [h2]
theorem zpN {l T:List zi} {i:Nat} (h1:∀j,j<i->bU T (l.getD j default)=false) (h2:bU T (l.getD i default)=true) (h3:i<l.length):zi8 l T=some i:=find_range h1 h2 h3
theorem zi9 {l T:List zi} (h1:∀j,j<l.length->bU T (l.getD j default)=false):zi8 l T=none:=by
 unfold zi8
 rw [List.find?_eq_none]
 intro x hx
 rw [h1 x (List.mem_range.1 hx)];simp
theorem zfU {l T:List zi} (h:∀s∈l,wZ s=true->xK s∈T.map xK):zi8 l T=none:=zi9 λj hj=>by
 unfold bU ze6
 have hm:l.getD j default∈l:=yC hj
 cases hc:wZ (l.getD j default)
 ·rfl
 rw [decide_eq_true (h _ hm hc)];rfl
theorem gH {c:zx} {m:zu} {d:Nat} {R:Int} (h:(zV c m R d).2=0):xC c m=true/\1<=R/\R<=100000:=by
 unfold zV at h
 split at h
 ·cases h
 rename_i hr
 refine⟨?_, ?_, ?_⟩
 ·cases e:xC c m
  ·exact absurd (.inl e) hr
  rfl
 ·exact Int.not_lt.1 λe=>hr (.inr (.inl e))
 exact Int.not_lt.1 λe=>hr (.inr (.inr e))
theorem zdV {c:zx} {m:zu} {d:Nat} {R:Int} (hm:xC c m=true) (h1:1<=R) (h2:R<=100000):(zV c m R d).2=0\/(zV c m R d).2=40:=by
 rcases jH (d:=d) hm h1 h2 with⟨h, -⟩|h
 ·exact .inl h
 exact .inr h
theorem zmW {c:zx} {m:zu} (h:xC c m=true):xC c jf=true:=by
 unfold xC at h ⊢
 simp only [Bool.and_eq_true,decide_eq_true_eq,jf] at h ⊢
 obtain⟨⟨⟨⟨h1, -⟩, -⟩, -⟩, -⟩:=h
 exact⟨⟨⟨⟨h1,by decide⟩,by decide⟩,by decide⟩,by decide⟩
theorem zpO {c:zx} {m m':zu} {s:zi} {t:zA} {x:zC} {d:Nat} (h:m.model=0) (h':m'.model=0) (hb:t.buf= []):stepT c m s t x d=stepT c m' s t x d:=by
 by_cases h2:x.op=2
 ·rw [jF h2 h,jF h2 h']
 exact zdD h2 hb
theorem zpP {c:zx} {m m':zu} {s:zi} {i d:Nat} (h:m.model=0) (h':m'.model=0) (hb:Bare s) (hi:i<s.threads.length):vF c m s i d=vF c m' s i d:=by
 unfold vF
 rw [zpO h h' (hb i hi)]
theorem zsw {c:zx} {m m':zu} {d:Nat} {T:yj} (hm:xC c m'=true) (h0:m.model=0) (h0':m'.model=0) (h:Closed c m' d T) {s:zi} (hs:s∈T.states) (hb:Bare s) {x:zo} (hx:x∈yF c m s d):(qD c m s x d).1∈T.states/\Bare (qD c m s x d).1:=by
 have hfs:=(za4 hx).1
 have hf:=zmE hm hb hfs
 obtain⟨i,hi,hx2⟩:=zb6 hx
 rcases hx2 with⟨rfl,t,ht,he⟩|⟨v,rfl,hv, -⟩
 ·rw [he]
  have hst:=ht
  rw [zpP h0 h0' hb hi] at hst
  obtain⟨g1,g2⟩:=zbE (d:=d) hf hi hst
  have:=h.step hs g1
  rw [g2] at this
  refine⟨this, ?_⟩
  unfold vF at ht
  split at ht
  ·obtain⟨r,hr,rfl⟩:=Option.map_eq_some_iff.1 ht
   exact zpg hb (zkZ hr h0 (hb i hi))
  cases ht
 rw [hb i hi] at hv
 simp [yE,h0] at hv
theorem zfy (c:zx):Bare (xq c):=by
 intro i hi
 have:=zlm c
 have h:(xq c).threads=List.replicate c.threads.length default\/True:= .inr trivial
 unfold xq at hi ⊢
 split at hi
 ·rename_i hc
  rw [if_pos hc] at*
  simp only [List.length_replicate] at hi
  rw [List.getD_eq_getElem?_getD,List.getElem?_replicate,if_pos hi];rfl
 rename_i hc
 simp at hi
theorem zu5 {c:zx} {m:zu} {d R:Nat} {T:yj} (hm:xC c jf=true) (h0:m.model=0) (h:Closed c jf d T):∀s∈(zV c m R d).1.states,s∈T.states:=by
 have h2:∀s∈(zV c m R d).1.states,s∈T.states/\Bare s:=(kM (P:=λs=>s∈T.states/\Bare s) (λs hs x hx=>zsw hm h0 rfl h hs.1 hs.2 hx) ⟨by rw [<-h.first];exact yC h.pos,zfy c⟩).1
 exact λs hs=>(h2 s hs).1
theorem zn9 {c:zx} {m:zu} {d R:Nat} (h0:m.model=0) (h:(yD c m R d).2.2=0):yD c m R d=(true, [],0):=by
 unfold yD at h ⊢
 split at h
 ·rename_i e1
  rw [if_pos e1]
  split at h
  ·rename_i e2
   rw [if_pos e2]
   obtain⟨m1,r1,r2⟩:=gH e2
   rcases jH (d:=d) m1 r1 r2 with⟨-,hc⟩|h40
   ·unfold uS
    rw [zfU λs hs _=>List.mem_map.2 ⟨s,zu5 m1 h0 hc s hs,rfl⟩]
   rw [h40] at e2;cases e2
  exact absurd h ‹_›
 exact absurd h ‹_›
theorem zly {c:zx} {m:zu} {d R:Nat} (hm:xC c m=true) (h1:1<=R) (h2:R<=100000):(yD c m R d).2.2=0\/(yD c m R d)=(false, [],40):=by
 unfold yD
 rcases zdV (d:=d) hm (Int.ofNat_le.2 h1) (Int.ofNat_le.2 h2) with h|h
 ·rw [if_pos h]
  rcases zdV (d:=d) (zmW hm) (Int.ofNat_le.2 h1) (Int.ofNat_le.2 h2) with h'|h'
  ·rw [if_pos h']
   refine .inl ?_
   unfold uS
   split<;>rfl
  rw [if_neg (by rw [h'];decide),h'];exact .inr rfl
 rw [if_neg (by rw [h];decide),h];exact .inr rfl
theorem yG.plain {w:World} {s:zi} {tv mv:Value} (h:yG w s tv mv):yG w (xK s) tv mv:=⟨h.threads,h.mem⟩
theorem zgE (w:World) (s:zi) (a b:Option Addr) (n c k f:Nat) (bd:Bool) (hs:yG w s (.slice a n c) (.slice b k f)) (hl:(wu (xK s)).length<=1000000):Calls Tryz.prog 20 #[.agg #[.slice a n c, .slice b k f, .bool bd]] w (znA w (keyOf (xK s))):=by
 obtain⟨W,hW⟩:∃W,W=w.alloc (.cells #[.slice a n c, .slice b k f, .bool bd] 42):=⟨_,rfl⟩
 have h1:W.heap[w.heap.size]? =some (.cells #[.slice a n c, .slice b k f, .bool bd] 42 (0,0)):=by rw [hW];exact zS _ _
 have hB0:Below w.heap.size w W:=by rw [hW];exact(Below.refl _ _).alloc (Nat.le_refl _) _
 have hs1:Since (λk=>k=w.heap.size) W (W.setCell ⟨w.heap.size,2,none⟩ (.bool false)):=Since.setCell (F:=λk=>k=w.heap.size) (p:=⟨w.heap.size,2,none⟩) (Since.refl _ _) (.inl rfl) _
 have hx:(W.setCell ⟨w.heap.size,2,none⟩ (.bool false)).heap[w.heap.size]? =some (.cells #[.slice a n c, .slice b k f, .bool false] 42 (0,0)):=by have:=zD h1 2 (.bool false);simpa using this
 have hB:=hB0.trans (hs1.below hB0.size (λk hk=>Nat.le_of_eq hk.symm))
 have hk:=zfR (W.setCell ⟨w.heap.size,2,none⟩ (.bool false)) (xK s) _ _ ((hs.below hB).plain) hl
 unfold vI at hk
 have e:(xK s).bad=false:=rfl
 rw [e] at hk
 have y2:=ze h1 2
 have f2:=zK h1 2
 have HK:=qh hk
 have HB:=qh hB
 have HW:=qh hW
 have HX:=qh hx
 clear hk hB hB0 hs1 h1 hx e hs hl hW
 go_enter Tryz.func20,Tryz.ntmps20
 go_upto_region 1 with fail
 rw [<-HW.out]
 clear HW
 go_upto_region 2 with fail
 clear y2 f2
 generalize World.setCell W _ _=X at HX HB HK ⊢
 have z0:=ze HX.out 0
 have z1:=ze HX.out 1
 have z2:=ze HX.out 2
 go_wp2_with(go_at_call 38;go_must(refine(HK.out).mono ?_);rintro e Y ⟨rfl,hb⟩;(have HY:=qh hb);clear hb)
 go_ret
 exact⟨rfl,HB.out.trans (HY.out.mono HB.out.size)⟩
def drain:List Int->List zl->List Int
 |mem, [] =>mem
 |mem,e::r=>drain (mem.set e.var.toNat e.n) r
theorem uK (e:zl):∀(l:List zl) (mem:List Int),drain mem (l++ [e])=(drain mem l).set e.var.toNat e.n:=by
 intro l
 induction l with
 |nil=>intro mem;rfl
 |cons x l ih=>intro mem;exact ih _
theorem znB:∀(l:List zl) (mem:List Int),(drain mem l).length=mem.length:=by
 intro l
 induction l with
 |nil=>intro mem;rfl
 |cons x l ih=>intro mem;rw [drain,ih,List.length_set]
theorem znC {k:Nat} {n:Int} :∀(l:List zl) (mem:List Int),(∀e∈l,e.var.toNat≠k)->drain (mem.set k n) l=(drain mem l).set k n:=by
 intro l
 induction l with
 |nil=>intro mem _;rfl
 |cons x l ih=>
 intro mem h
 show drain ((mem.set k n).set x.var.toNat x.n) l=(drain (mem.set x.var.toNat x.n) l).set k n
 rw [List.set_comm _ _ (λe=>h x (List.mem_cons_self ..) e.symm),ih _ (λe he=>h e (List.mem_cons_of_mem _ he))]
theorem zfz {l:List zl} {i:Nat} (hi:i<l.length):l.take (i+1)=l.take i++ [l.getD i default] :=by
 rw [List.take_succ_eq_append_getElem hi,List.getD_eq_getElem?_getD,List.getElem?_eq_getElem hi];rfl
theorem zlG {l:List zl} {mem:List Int} {v:Int} (hl:∀k,k<l.length->0<=(l.getD k default).var/\(l.getD k default).var.toNat<mem.length) (hv:0<=v):∀i,i<=l.length->(gB l v i).getD (mem.getD v.toNat 0)=(drain mem (l.take i)).getD v.toNat 0:=by
 intro i
 induction i with
 |zero=>intro _;rfl
 |succ i ih=>
 intro hi
 have h1:=hl i (by omega)
 rw [zfz (by omega),uK]
 unfold gB
 rw [List.getD_eq_getElem?_getD (l:=List.set _ _ _),List.getElem?_set]
 split
 ·rename_i e
  rw [if_pos (by rw [e]),if_pos (by rw [znB];exact h1.2)]
  rfl
 rename_i e
 rw [if_neg (by omega), <-List.getD_eq_getElem?_getD]
 exact ih (by omega)
theorem zlH {l:List zl} {mem:List Int} {v:Int} (hl:∀k,k<l.length->0<=(l.getD k default).var) (hv:0<=v):∀i,i<=l.length->((yL l v i).1=none->(yL l v i).2=l.take i/\∀e∈l.take i,e.var.toNat≠v.toNat)/\∀e,(yL l v i).1=some e->drain (mem.set e.var.toNat e.n) (yL l v i).2=drain mem (l.take i):=by
 intro i
 induction i with
 |zero=>intro _;exact⟨λ_=>⟨rfl,λe he=>by simp at he⟩,λe h=>by cases h⟩
 |succ i ih=>
 intro hi
 obtain⟨h1,h2⟩:=ih (by omega)
 have h0:=hl i (by omega)
 rw [zfz (show i<l.length by omega)]
 unfold yL
 split
 ·rename_i h
  simp only [Bool.and_eq_true,decide_eq_true_eq,Option.isNone_iff_eq_none] at h
  obtain⟨g1,g2⟩:=h1 h.1
  refine⟨(λe=>by cases e),λe he=> ?_⟩
  cases he
  show drain _ (yL l v i).2=_
  rw [uK,g1,znC _ _ (λe he=>by rw [h.2];exact g2 e he)]
 rename_i h
 simp only [Bool.and_eq_true,decide_eq_true_eq,Option.isNone_iff_eq_none] at h
 refine⟨λe=> ?_,λe he=> ?_⟩
 ·obtain⟨g1,g2⟩:=h1 e
  refine⟨by show(yL l v i).2++_=_;rw [g1],λx hx=> ?_⟩
  rcases List.mem_append.1 hx with hx|hx
  ·exact g2 x hx
  rw [List.mem_singleton] at hx
  subst hx
  exact λe2=>h ⟨e,by omega⟩
 have:=h2 e he
 show drain _ ((yL l v i).2++ [l.getD i default])=_
 rw [uK,uK,this]
def gy (t:zA):zA:=⟨t.pc,t.regs, []⟩
def vB (s:zi):zi:=⟨[gy (s.threads.getD 0 default)],drain s.mem (s.threads.getD 0 default).buf,s.bad⟩
theorem zj5 {c:zx} {m:zu} {s u:zi} {t:zA} {x:zC} {d many:Nat} {r:zA × List Int × Bool} (hx:qF c.vars c.domain many x=true) (hl:∀k,k<t.buf.length->0<=(t.buf.getD k default).var/\(t.buf.getD k default).var.toNat<s.mem.length)
  (hu:u.mem=drain s.mem t.buf) (hb:u.bad=s.bad) (hm:m.model≠0) (h:stepT c m s t x d=some r):stepT c jf u (gy t) x d=some (gy r.1,drain r.2.1 r.1.buf,r.2.2):=by
 obtain⟨f12,f13,fp⟩:=zd8 hx
 obtain⟨pc,regs,buf⟩:=t
 obtain⟨um,z0O,ub⟩:=u
 simp only [] at hu hb hl
 subst hu hb
 unfold stepT at h ⊢
 simp only [gy] at h ⊢
 by_cases h1:x.op=1
 ·rw [if_pos h1] at h ⊢
  have hv:=(uw (fp (by omega) (by omega))).1 (by rw [h1];rfl)
  cases h
  have hs:=zlG hl hv.1 buf.length (Nat.le_refl _)
  rw [List.take_length] at hs
  unfold wI
  rw [hs]
  rfl
 rw [if_neg h1] at h ⊢
 by_cases h2:x.op=2
 ·rw [if_pos h2] at h ⊢
  rw [if_neg hm] at h
  rw [if_pos (show jf.model=0 from rfl)]
  split at h
  ·rename_i hp
   cases h
   unfold wP
   rw [if_pos hp,uK]
  cases h
 rw [if_neg h2] at h ⊢
 by_cases h3:x.op=3
 ·rw [if_pos h3] at h ⊢;cases h;rfl
 rw [if_neg h3] at h ⊢
 by_cases h4:x.op=4
 ·rw [if_pos h4] at h ⊢
  split at h
  ·cases h;rfl
  cases h
 rw [if_neg h4] at h ⊢
 by_cases h5:x.op=5
 ·rw [if_pos h5] at h ⊢
  split at h
  ·cases h;rfl
  cases h
 rw [if_neg h5] at h ⊢
 by_cases h6:x.op=6
 ·rw [if_pos h6] at h ⊢
  split at h
  ·rename_i he
   obtain rfl:buf= [] :=List.eq_nil_of_length_eq_zero (by simpa using he)
   simp only [drain] at h ⊢
   split at h
   ·rename_i hq
    cases h
    simp only [List.getD_eq_getElem?_getD] at hq
    simp [hq,drain]
   rename_i hq
   cases h
   simp only [List.getD_eq_getElem?_getD] at hq
   simp [hq,drain]
  cases h
 rw [if_neg h6] at h ⊢
 by_cases h7:x.op=7
 ·rw [if_pos h7] at h ⊢
  split at h
  ·rename_i he
   rw [Bool.and_eq_true] at he
   obtain rfl:buf= [] :=List.eq_nil_of_length_eq_zero (by simpa using he.1)
   simp only [drain] at h ⊢
   cases h
   have hq:=of_decide_eq_true he.2
   simp only [List.getD_eq_getElem?_getD] at hq
   simp [hq,drain]
  cases h
 rw [if_neg h7] at h ⊢
 by_cases h8:x.op=8
 ·rw [if_pos h8] at h ⊢
  split at h
  ·rename_i he
   obtain rfl:buf= [] :=List.eq_nil_of_length_eq_zero (by simpa using he)
   cases h;rfl
  cases h
 rw [if_neg h8] at h ⊢
 by_cases h9:x.op=9
 ·rw [if_pos h9] at h ⊢;cases h;rfl
 rw [if_neg h9] at h ⊢
 by_cases h12:x.op=12
 ·rw [if_pos h12] at h ⊢;cases h
  by_cases hq:zW regs c.domain d x.a=0
  ·simp only [if_pos hq]
   refine congrArg some (Prod.ext ?_ rfl)
   show(if zW regs c.domain d x.a=0 then _ else _)=_
   rw [if_pos hq]
  simp only [if_neg hq]
  refine congrArg some (Prod.ext ?_ rfl)
  show(if zW regs c.domain d x.a=0 then _ else _)=_
  rw [if_neg hq]
 rw [if_neg h12] at h ⊢
 by_cases h13:x.op=13
 ·rw [if_pos h13] at h ⊢;cases h;rfl
 rw [if_neg h13] at h ⊢
 cases h;rfl
theorem zu6 {l:List zA} (h:l.length=1):l= [l.getD 0 default] :=by
 match l,h with
 | [x],_=>rfl
theorem zlI {c:zx} {m:zu} {d:Nat} {T:yj} (hm:xC c m=true) (h1:c.threads.length=1) (h0:m.model≠0) (hc:Closed c jf d T) (hT:∀t∈T.states,zP c jf t=true) {s:zi} (hs:vB s∈T.states) {x:zo} (hx:x∈yF c m s d):vB (qD c m s x d).1∈T.states:=by
 have hf:=(za4 hx).1
 obtain⟨g1,g2,g3,g4,g5⟩:=kN.1 hf
 obtain⟨hcode, -⟩:=kP hm
 have hn:s.threads.length=1:=g2.trans h1
 obtain⟨i,hi,hx2⟩:=zb6 hx
 obtain rfl:i=0:=by omega
 have hth:=g5 0 hi
 have hbuf:∀k,k<(s.threads.getD 0 default).buf.length->0<=((s.threads.getD 0 default).buf.getD k default).var/\((s.threads.getD 0 default).buf.getD k default).var.toNat<s.mem.length:=λk hk=>by
  have hw:=wH (hth.2.2.2 k hk)
  exact⟨hw.2.1,by omega⟩
 rcases hx2 with⟨rfl,t,ht,he⟩|⟨v,rfl,hv,he⟩
 ·rw [he]
  unfold vF at ht
  split at ht
  ·rename_i hpc
   obtain⟨r,hr,rfl⟩:=Option.map_eq_some_iff.1 ht
   have hk:(s.threads.getD 0 default).pc.toNat<(c.threads.getD 0 []).length:=by have:=hth.1;omega
   have hst:=zj5 (u:=vB s) (zgo hcode (by omega) hk) hbuf rfl rfl h0 hr
   have zb8:vF c jf (vB s) 0 d=some ⟨(vB s).threads.set 0 (gy r.1),drain r.2.1 r.1.buf,r.2.2⟩:=by
    unfold vF
    show(if (s.threads.getD 0 default).pc<_ then _ else _)=_
    rw [if_pos hpc]
    have:(vB s).threads.getD 0 default=gy (s.threads.getD 0 default):=rfl
    rw [this]
    show Option.map _ (stepT c jf (vB s) (gy (s.threads.getD 0 default)) ((c.threads.getD 0 []).getD (s.threads.getD 0 default).pc.toNat default) d)=_
    rw [hst];rfl
   obtain⟨k1,k2⟩:=zbE (hT _ hs) (by show 0<1;omega) zb8
   have:=hc.step hs k1
   rw [k2] at this
   have e:vB ⟨s.threads.set 0 r.1,r.2.1,r.2.2⟩=⟨(vB s).threads.set 0 (gy r.1),drain r.2.1 r.1.buf,r.2.2⟩:=by
    have hg:(s.threads.set 0 r.1).getD 0 default=r.1:=by
     rw [List.getD_eq_getElem?_getD,List.getElem?_set,if_pos rfl,if_pos hi];rfl
    unfold vB
    simp only [hg]
    rfl
   rw [e]
   exact this
  cases ht
 rw [he]
 obtain⟨v0,v1,n,hn2⟩:=zb1 hf hi hv
 have h2:=(zlH (mem:=s.mem) (λk hk=>(hbuf k hk).1) v0 _ (Nat.le_refl _)).2 ⟨v,n⟩ (by have:=congrArg Prod.fst hn2;exact this)
 rw [List.take_length] at h2
 have e:vB (wV s 0 v)=vB s:=by
  have hg:∀t:zA,(s.threads.set 0 t).getD 0 default=t:=λt=>by
   rw [List.getD_eq_getElem?_getD,List.getElem?_set,if_pos rfl,if_pos hi];rfl
  have hn1:(takeB (s.threads.getD 0 default).buf v).1=some ⟨v,n⟩:=by rw [hn2]
  unfold wV
  rw [hn1]
  unfold vB
  simp only [hg]
  exact congrArg (λb=>zi.mk [gy (s.threads.getD 0 default)] b s.bad) h2
 show vB (wV s 0 v)∈_
 rw [e];exact hs
theorem zdW {s:zi} (hn:s.threads.length=1) (hc:wZ s=true):vB s=s:=by
 obtain⟨ts,mem,bad⟩:=s
 simp only [] at hn
 have ho:=zu6 hn
 unfold wZ at hc
 rw [List.all_eq_true] at hc
 have hb:(ts.getD 0 default).buf= [] :=List.eq_nil_of_length_eq_zero (by
  have:=hc (ts.getD 0 default) (yC (show 0<ts.length by omega))
  simpa using this)
 unfold vB gy
 simp only [hb,drain]
 refine congrArg (λa=>zi.mk a mem bad) ?_
 rw [<-hb]
 exact ho.symm
theorem zj6 {c:zx} (hc:codeOk c=true) (h1:c.threads.length=1):vB (xq c)=xq c:=by
 refine zdW (by unfold xq;rw [if_pos hc];simpa using h1) ?_
 unfold wZ
 rw [List.all_eq_true]
 intro t ht
 obtain⟨i,hi,rfl⟩:=List.getElem_of_mem ht
 have:=zfy c i hi
 rw [List.getD_eq_getElem?_getD,List.getElem?_eq_getElem hi] at this
 simpa using this
theorem zio {c:zx} {m:zu} {d R:Nat} (h1:c.threads.length=1) (h:(yD c m R d).2.2=0):yD c m R d=(true, [],0):=by
 by_cases h0:m.model=0
 ·exact zn9 h0 h
 unfold yD at h ⊢
 split at h
 ·rename_i e1
  rw [if_pos e1]
  split at h
  ·rename_i e2
   rw [if_pos e2]
   obtain⟨m1, -, -⟩:=gH e1
   obtain⟨m2,r1,r2⟩:=gH e2
   rcases jH (d:=d) m2 r1 r2 with⟨-,hc⟩|h40
   ·have hT:=(kM (c:=c) (m:=jf) (d:=d) (R:=R) (P:=λs=>zP c jf s=true) (λ_ _ _ hx=>zbb hx) (uy m2)).1
    have hS:=(kM (c:=c) (m:=m) (d:=d) (R:=R) (P:=λs=>vB s∈(zV c jf R d).1.states/\s.threads.length=1) (λs hs x hx=>⟨zlI m1 h1 h0 hc hT hs.1 hx,((kN.1 (zbb hx)).2.1).trans h1⟩) ⟨by rw [zj6 (kP m1).1 h1, <-hc.first];exact yC hc.pos,((kN.1 (uy m1)).2.1).trans h1⟩).1
    unfold uS
    rw [zfU λs hs hcl=>List.mem_map.2 ⟨s,by have:=hS s hs;rw [zdW this.2 hcl] at this;exact this.1,rfl⟩]
   rw [h40] at e2;cases e2
  exact absurd h ‹_›
 exact absurd h ‹_›
