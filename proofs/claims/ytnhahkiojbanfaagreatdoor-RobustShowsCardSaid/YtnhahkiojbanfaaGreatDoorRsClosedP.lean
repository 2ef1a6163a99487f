/- Steps. -/
import Derived.Test.YtnhahkiojbanfaaGreatDoorRsPDo
import Derived.Test.YtnhahkiojbanfaaGreatDoorRsRangeZ
set_option linter.all false
namespace Go.Proofs.YtnhahkiojbanfaaGreatDoor
open Go.RowKit
set_option maxRecDepth 100000
set_option maxHeartbeats 16000000
structure zgp (c:zD) (m:zy) (d:Nat) (l:List zi) (s:zi) (ms:List zq) (nx:List Int):Prop where
 len:nx.length=ms.length
 land:∀j,j<ms.length->∃t:Nat,t<l.length/\nx.getD j 0=t/\l.getD t default=(qB c m s (ms.getD j default) d).1
def Goes (l l':List zi):Prop:=∃x,l'=l++x
theorem Goes.refl (l:List zi):Goes l l:=⟨[],by simp⟩
theorem Goes.trans {a b c:List zi} (h:Goes a b) (k:Goes b c):Goes a c:=by
 obtain⟨x,rfl⟩:=h
 obtain⟨y,rfl⟩:=k
 exact⟨x++y,by simp⟩
theorem Goes.len {a b:List zi} (h:Goes a b):a.length<=b.length:=by obtain⟨x,rfl⟩:=h;simp
theorem Goes.get {a b:List zi} (h:Goes a b) {i:Nat} (hi:i<a.length):b.getD i default=a.getD i default:=by
 obtain⟨x,rfl⟩:=h
 simp only [List.getD_eq_getElem?_getD]
 rw [List.getElem?_append_left hi]
theorem zgp.goes {c:zD} {m:zy} {d:Nat} {l l':List zi} {s:zi} {ms:List zq} {nx:List Int} (h:zgp c m d l s ms nx) (hg:Goes l l'):zgp c m d l' s ms nx:=
 ⟨h.len,λj hj=>by
  obtain⟨t,h1,h2,h3⟩:=h.land j hj
  exact⟨t,by have:=hg.len;omega,h2,by rw [hg.get h1];exact h3⟩⟩
theorem ziN (l:List zi) (t:zi):Goes l (putAt l t).1:=by
 unfold putAt
 split
 ·exact .refl _
 exact⟨[t],rfl⟩
theorem zms (l:List zi) (t:zi):(putAt l t).2<(putAt l t).1.length/\(putAt l t).1.getD (putAt l t).2 default=t:=by
 unfold putAt
 split
 ·rename_i h
  have:=List.idxOf_lt_length_of_mem h
  refine⟨this, ?_⟩
  simp only [List.getD_eq_getElem?_getD]
  rw [List.getElem?_eq_getElem this]
  simp
 simp
theorem znx {l:List zi} (t:zi) (h:l.Nodup):(putAt l t).1.Nodup:=by
 unfold putAt
 split
 ·exact h
 rename_i hn
 rw [List.nodup_append]
 refine⟨h,by simp,λa ha b hb e=> ?_⟩
 simp only [List.mem_singleton] at hb
 subst hb e
 exact hn ha
theorem zmt {c:zD} {m:zy} {d:Nat} {R:Int} {s:zi} :∀(ms:List zq) (l:List zi) (nx:List Int) (r:List zi × List Int),l.Nodup->xX c m d R s ms l nx=some r->
  Goes l r.1/\r.1.Nodup/\∃tx,r.2=nx++tx/\zgp c m d r.1 s ms tx:=by
 intro ms
 induction ms with
 |nil=>
  intro l nx r hl h
  rw [xX] at h
  cases h
  exact⟨.refl _,hl, [],by simp,rfl,λj hj=>by simp at hj⟩
 |cons x ms ih=>
 intro l nx r hl h
 rw [xX] at h
 split at h
 ·cases h
 obtain⟨h1,h2,tx,h3,h4⟩:=ih _ _ r (znx _ hl) h
 refine⟨(ziN _ _).trans h1,h2,((putAt l (qB c m s x d).1).2:Int)::tx,by rw [h3];simp,by simp [h4.len],λj hj=> ?_⟩
 cases j with
 |zero=>
  obtain⟨p1,p2⟩:=zms l (qB c m s x d).1
  exact⟨_,by have:=h1.len;omega,rfl,by rw [h1.get p1];exact p2⟩
 |succ j=>
 obtain⟨t,g1,g2,g3⟩:=h4.land j (by simpa using hj)
 exact⟨t,g1,by simpa using g2,by simpa using g3⟩
def Gone (c:zD) (m:zy) (d:Nat) (l:List zi) (ml:List (List zq)) (nl:List (List Int)):Prop:=
 ml.length=nl.length/\∀i,i<ml.length->i<l.length/\ml.getD i [] =xH c m (l.getD i default) d/\zgp c m d l (l.getD i default) (ml.getD i []) (nl.getD i [])
theorem Gone.goes {c:zD} {m:zy} {d:Nat} {l l':List zi} {ml:List (List zq)} {nl:List (List Int)} (h:Gone c m d l ml nl) (hg:Goes l l'):Gone c m d l' ml nl:=
 ⟨h.1,λi hi=>by
  obtain⟨h1,h2,h3⟩:=h.2 i hi
  rw [hg.get h1]
  exact⟨by have:=hg.len;omega,h2,h3.goes hg⟩⟩
structure Closed (c:zD) (m:zy) (d:Nat) (S:yH):Prop where
 moves:S.moves.length=S.states.length
 next:S.next.length=S.states.length
 pos:0<S.states.length
 first:S.states.getD 0 default=xY c
 apart:S.states.Nodup
 lead:∀i,i<S.states.length->S.moves.getD i [] =xH c m (S.states.getD i default) d/\zgp c m d S.states (S.states.getD i default) (S.moves.getD i []) (S.next.getD i [])
theorem zk9 {c:zD} {m:zy} {d:Nat} {R:Int} :∀(f i:Nat) (l:List zi) (ml:List (List zq)) (nl:List (List Int)) (r:yH),l.Nodup->ml.length=i->i<=l.length->Gone c m d l ml nl->0<l.length->l.getD 0 default=xY c->qO c m d R f i l ml nl=some r->Closed c m d r:=by
 intro f
 induction f with
 |zero=>intro i l ml nl r _ _ _ _ _ _ h;exact absurd h (by unfold qO;simp)
 |succ f ih=>
 intro i l ml nl r hl hm hil hg hp h0 h
 unfold qO at h
 split at h
 ·rename_i hi
  cases hx:xX c m d R (l.getD i default) (xH c m (l.getD i default) d) l [] with
  |none=>rw [hx] at h;cases h
  |some q=>
  rw [hx] at h
  obtain⟨q1,q2,tx,q3,q4⟩:=zmt _ _ _ q hl hx
  rw [List.nil_append] at q3
  refine ih (i+1) q.1 _ _ r q2 (by simp [hm]) (by have:=q1.len;omega) ⟨by simp [hg.1],λj hj=> ?_⟩ (by have:=q1.len;omega) (by rw [q1.get hp];exact h0) h
  have hg2:=hg.goes q1
  rcases Nat.lt_or_ge j i with hlt|hge
  ·obtain⟨g1,g2,g3⟩:=hg2.2 j (by omega)
   have e1:(ml++ [xH c m (l.getD i default) d]).getD j [] =ml.getD j [] :=by simp only [List.getD_eq_getElem?_getD];rw [List.getElem?_append_left (by omega)]
   have e2:(nl++ [q.2]).getD j [] =nl.getD j [] :=by simp only [List.getD_eq_getElem?_getD];rw [List.getElem?_append_left (by have:=hg.1;omega)]
   rw [e1,e2]
   exact⟨g1,g2,g3⟩
  obtain rfl:j=i:=by simp at hj;omega
  have e1:(ml++ [xH c m (l.getD j default) d]).getD j [] =xH c m (l.getD j default) d:=by simp only [List.getD_eq_getElem?_getD];rw [List.getElem?_append_right (by omega),hm];simp
  have e2:(nl++ [q.2]).getD j [] =q.2:=by simp only [List.getD_eq_getElem?_getD];rw [List.getElem?_append_right (by have:=hg.1;omega), <-hg.1,hm];simp
  rw [e1,e2,q1.get hi,q3]
  exact⟨by have:=q1.len;omega,rfl,q4⟩
 cases h
 have hn:i=l.length:=by omega
 have hg1:=hg.1
 exact⟨show ml.length=l.length by omega,show nl.length=l.length by omega,hp,h0,hl,λj hj=>(hg.2 j (by have hj2:j<l.length:=hj;omega)).2⟩
theorem pW {c:zD} {m:zy} {d:Nat} {R:Int} (hm:qA c m=true) (h1:1<=R) (h2:R<=100000):((yt c m R d).2=0/\Closed c m d (yt c m R d).1)\/(yt c m R d).2=40:=by
 unfold yt
 rw [if_neg (by rintro(h|h|h)<;>first|(rw [hm] at h;cases h)|omega)]
 cases hx:qO c m d R (R.toNat+1) 0 [xY c] [] [] with
 |none=>exact .inr rfl
 |some q=>exact .inl ⟨rfl,zk9 (R.toNat+1) 0 [xY c] [] [] q (List.pairwise_singleton _ _) rfl (Nat.zero_le _) ⟨rfl,λi hi=>absurd hi (Nat.not_lt_zero _)⟩ (Nat.zero_lt_one) rfl hx⟩
end Go.Proofs.YtnhahkiojbanfaaGreatDoor
namespace Go.Proofs.YtnhahkiojbanfaaGreatDoor
open Go.RowKit
set_option maxRecDepth 100000
set_option maxHeartbeats 16000000
inductive zmu (c:zD) (m:zy) (d:Nat):zi->Prop
 |start:zmu c m d (xY c)
 |step {s:zi} {x:zq} :zmu c m d s->x∈xH c m s d->zmu c m d (qB c m s x d).1
def z7i (w:World) (c:zD) (m:zy) (d:Nat) (en:Ending) (w':World):Prop:=(∃s tv mv bs,en= .returned (yA s tv mv)/\zmu c m d s/\OwnAt w.heap.size w' tv mv s.threads s.mem bs)/\Below w.heap.size w w'
def WF (w:World) (gs gr k:Nat):Prop:=k<w.heap.size\/k=gs\/k=gr
structure z9F (w V X:World) (gs gr:Nat) (c:zD) (m:zy) (d:Nat) (s:zi) (tv mv:Value):Prop where
 since:Since (λk=>k=gs) V X
 below:Below w.heap.size w V
 lo:w.heap.size<=gs/\w.heap.size<=gr/\gs≠gr
 box:X.heap[gs]? =some (.cells #[tv,mv, .bool s.bad] 42 (0,0))
 res:V.heap[gr]? =some (.cells #[.slice none 0 0, .slice none 0 0, .bool false] 42 (0,0))
 own:∃bs,OwnAt w.heap.size X tv mv s.threads s.mem bs/\∀k,k=gs\/k=gr->tv.ownBlock≠some k/\mv.ownBlock≠some k/\∀j,j<s.threads.length->(bs.getD j (.slice none 0 0)).ownBlock≠some k
 come:zmu c m d s
section
variable {w V X Y:World} {gs gr d:Nat} {c:zD} {m:zy} {s:zi} {tv mv:Value}
end
end Go.Proofs.YtnhahkiojbanfaaGreatDoor
namespace Go.Proofs.YtnhahkiojbanfaaGreatDoor
open Go.RowKit
set_option maxRecDepth 100000
set_option maxHeartbeats 16000000
def Bare (s:zi):Prop:=∀i,i<s.threads.length->(s.threads.getD i default).buf= []
def kS:zy:=⟨0,1⟩
theorem zs5 {c:zD} {m m':zy} {s:zi} (hm:qA c m'=true) (hb:Bare s) (h:yB c m s=true):yB c m' s=true:=by
 rw [zc7] at h ⊢
 obtain⟨-,h2,h3,h4,h5⟩:=h
 refine⟨hm,h2,h3,h4,λi hi=> ?_⟩
 have:=h5 i hi
 have hbi:=hb i hi
 unfold zc6 at this ⊢
 rw [hbi] at this ⊢
 exact⟨this.1,this.2.1,this.2.2.1,λk hk=>by simp at hk⟩
theorem zny {c:zD} {m m':zy} {s:zi} {t:zx} {x:zS} {d:Nat} (h:¬x.op=2) (hb:t.buf= []):stepT c m s t x d=stepT c m' s t x d:=by
 simp [stepT,h,hb]
theorem zpU {c:zD} {m:zy} {s:zi} {t:zx} {x:zS} {d:Nat} {r:zx × List Int × Bool} (h:stepT c m s t x d=some r) (hm:m.model=0) (hb:t.buf= []):r.1.buf= [] :=by
 by_cases h1:x.op=1
 ·rw [uE h1] at h;cases h;exact hb
 by_cases h2:x.op=2
 ·rw [jW h2 hm] at h;cases h;exact hb
 by_cases h3:x.op=3
 ·rw [za9 h3] at h;cases h;exact hb
 by_cases h4:x.op=4
 ·rw [gF h4] at h;split at h<;>cases h;exact hb
 by_cases h5:x.op=5
 ·rw [wU h5] at h;split at h<;>cases h;exact hb
 by_cases h6:x.op=6
 ·by_cases hv:s.mem.getD x.var.toNat 0=yw t.regs c.domain d x.a
  ·rw [uF h6 hv] at h;split at h<;>cases h;exact hb
  rw [uG h6 hv] at h;split at h<;>cases h;exact hb
 by_cases h7:x.op=7
 ·rw [wV h7] at h;split at h<;>cases h;exact hb
 by_cases h8:x.op=8
 ·rw [kZ h8] at h;split at h<;>cases h;exact hb
 by_cases h9:x.op=9
 ·rw [jX h9] at h;cases h;exact hb
 by_cases h12:x.op=12
 ·rw [wh h12] at h;cases h;split<;>exact hb
 by_cases h13:x.op=13
 ·rw [pG h13] at h;cases h;exact hb
 rw [zar h1 h2 h3 h4 h5 h6 h7 h8 h9 h12 h13] at h;cases h;exact hb
theorem zvr {s:zi} {i:Nat} {t:zx} {mem:List Int} {bad:Bool} (hb:Bare s) (ht:t.buf= []):Bare ⟨s.threads.set i t,mem,bad⟩:=by
 intro j hj
 simp only [List.length_set] at hj
 have hj2:=hb j hj
 simp only [List.getD_eq_getElem?_getD] at hj2 ⊢
 rw [List.getElem?_set]
 split
 ·rename_i e
  subst e
  rw [if_pos hj];exact ht
 exact hj2
theorem zpV {c:zD} {m:zy} {s t:zi} {d i:Nat} (hf:yB c m s=true) (hi:i<s.threads.length) (h:jl c m s i d=some t):(⟨1,i,0⟩:zq)∈xH c m s d/\qB c m s ⟨1,i,0⟩ d=(t,0):=by
 refine⟨?_, ?_⟩
 ·unfold xH
  rw [if_pos hf,List.mem_flatMap]
  exact⟨i,List.mem_range.2 hi,List.mem_append.2 (.inl (by rw [if_pos (by rw [h];rfl)];simp))⟩
 unfold qB
 rw [if_pos hf,if_pos ⟨by simp only [];omega,by simp only [];omega⟩,if_pos ⟨rfl,rfl⟩,Int.toNat_natCast,h]
theorem Closed.step {c:zD} {m:zy} {d:Nat} {S:yH} (h:Closed c m d S) {s:zi} (hs:s∈S.states) {x:zq} (hx:x∈xH c m s d):(qB c m s x d).1∈S.states:=by
 obtain⟨i,hi,rfl⟩:=List.getElem_of_mem hs
 have hg:S.states.getD i default=S.states[i] :=by rw [List.getD_eq_getElem?_getD,List.getElem?_eq_getElem hi];rfl
 obtain⟨h1,h2⟩:=h.lead i hi
 rw [hg] at h1 h2
 rw [<-h1] at hx
 obtain⟨j,hj,rfl⟩:=List.getElem_of_mem hx
 obtain⟨t,ht, -,h3⟩:=h2.land j hj
 have hm:(S.moves.getD i []).getD j default=(S.moves.getD i [])[j] :=by rw [List.getD_eq_getElem?_getD,List.getElem?_eq_getElem hj];rfl
 rw [hm] at h3
 rw [<-h3]
 exact xS ht
section
variable {c:zD} {m:zy} {d:Nat} {S:yH}
end
end Go.Proofs.YtnhahkiojbanfaaGreatDoor
namespace Go.Proofs.YtnhahkiojbanfaaGreatDoor
open Go.RowKit
set_option maxRecDepth 100000
set_option maxHeartbeats 16000000
structure Bfs (S:yH) (n:Nat) (L:Nat->Nat):Prop where
 zero:L 0=1
 lt:∀i,i<n->i<L i
 le:∀i,i<n->L i<=L (i+1)
 below:∀i,i<n->∀j,j<(S.next.getD i []).length->(S.next.getD i []).getD j 0<(L (i+1):Int)
 all:∀i,i<n->∀b,L i<=b->b<L (i+1)->∃j,j<(S.next.getD i []).length/\(S.next.getD i []).getD j 0=(b:Int)
theorem zpW {c:zD} {m:zy} {d:Nat} {R:Int} {s:zi} :∀(ms:List zq) (l:List zi) (nx:List Int) (r:List zi × List Int),xX c m d R s ms l nx=some r->
  l.length<=r.1.length/\∃tx,r.2=nx++tx/\(∀y∈tx,y<(r.1.length:Int))/\∀b:Nat,l.length<=b->b<r.1.length->(b:Int)∈tx:=by
 intro ms
 induction ms with
 |nil=>
  intro l nx r h
  rw [xX] at h
  cases h
  exact⟨Nat.le_refl _, [],by simp,λy hy=>by simp at hy,λb h1 h2=>by simp only [] at h2;omega⟩
 |cons x ms ih=>
 intro l nx r h
 rw [xX] at h
 split at h
 ·cases h
 obtain⟨h0,tx,h1,h2,h3⟩:=ih _ _ r h
 have hg:=(ziN l (qB c m s x d).1).len
 have ha:=(zms l (qB c m s x d).1).1
 refine⟨by omega,((putAt l (qB c m s x d).1).2:Int)::tx,by rw [h1];simp,λy hy=> ?_,λb hb1 hb2=> ?_⟩
 ·rcases List.mem_cons.1 hy with rfl|hy
  ·omega
  exact h2 y hy
 rcases Nat.lt_or_ge b (putAt l (qB c m s x d).1).1.length with hlt|hge
 ·have:b=(putAt l (qB c m s x d).1).2:=by
   unfold putAt at hlt ⊢
   split
   ·rename_i hin
    rw [if_pos hin] at hlt
    simp only [] at hlt
    omega
   rename_i hin
   rw [if_neg hin] at hlt
   simp only [List.length_append,List.length_singleton] at hlt
   simp only []
   omega
  rw [this]
  exact List.mem_cons_self ..
 exact List.mem_cons_of_mem _ (h3 b hge hb2)
theorem zpX {c:zD} {m:zy} {d:Nat} {R:Int} :∀(f i:Nat) (l:List zi) (ml:List (List zq)) (nl:List (List Int)) (r:yH) (L:Nat->Nat),nl.length=i->i<=l.length->L i=l.length->Bfs ⟨l,ml,nl⟩ i L->qO c m d R f i l ml nl=some r->
  ∃L',Bfs r r.states.length L'/\L' r.states.length=r.states.length:=by
 intro f
 induction f with
 |zero=>intro i l ml nl r L _ _ _ _ h;exact absurd h (by unfold qO;simp)
 |succ f ih=>
 intro i l ml nl r L hn hil hL hb h
 unfold qO at h
 split at h
 ·rename_i hi
  cases hx:xX c m d R (l.getD i default) (xH c m (l.getD i default) d) l [] with
  |none=>rw [hx] at h;cases h
  |some q=>
  rw [hx] at h
  obtain⟨h0,tx,h1,h2,h3⟩:=zpW _ _ _ q hx
  rw [List.nil_append] at h1
  have hg:∀k,k<i->(nl++ [q.2]).getD k [] =nl.getD k [] :=λk hk=>by simp only [List.getD_eq_getElem?_getD];rw [List.getElem?_append_left (by omega)]
  have hgi:(nl++ [q.2]).getD i [] =q.2:=by simp only [List.getD_eq_getElem?_getD];rw [List.getElem?_append_right (by omega),hn];simp
  refine ih (i+1) q.1 _ _ r (λk=>if k=i+1 then q.1.length else L k) (by simp [hn]) (by omega) (by simp) ⟨?_,λk hk=> ?_,λk hk=> ?_,λk hk j hj=> ?_,λk hk b hb1 hb2=> ?_⟩ h
  ·(try simp only []);rw [if_neg (by omega)];exact hb.zero
  ·(try simp only []);rw [if_neg (by omega)]
   rcases Nat.lt_or_ge k i with e|e
   ·exact hb.lt k e
   obtain rfl:k=i:=by omega
   omega
  ·(try simp only []);rw [if_neg (by omega)]
   split
   ·rename_i e
    obtain rfl:k=i:=by omega
    omega
   exact hb.le k (by omega)
  ·try simp only [] at hj ⊢
   rcases Nat.lt_or_ge k i with e|e
   ·rw [hg k e] at hj ⊢
    rw [if_neg (by omega)]
    exact hb.below k e j hj
   obtain rfl:k=i:=by omega
   rw [hgi] at hj ⊢
   rw [if_pos rfl]
   refine h2 _ ?_
   rw [<-h1]
   exact xS (x:=(0:Int)) hj
  try simp only [] at hb1 hb2 ⊢
  rw [if_neg (by omega)] at hb1
  rcases Nat.lt_or_ge k i with e|e
  ·rw [if_neg (by omega)] at hb2
   rw [hg k e]
   exact hb.all k e b hb1 hb2
  obtain rfl:k=i:=by omega
  rw [if_pos rfl] at hb2
  rw [hgi]
  have hm:=h3 b (by omega) hb2
  rw [<-h1] at hm
  obtain⟨j,hj,he⟩:=List.getElem_of_mem hm
  exact⟨j,hj,by rw [List.getD_eq_getElem?_getD,List.getElem?_eq_getElem hj];exact he⟩
 cases h
 obtain rfl:i=l.length:=by omega
 exact⟨L,hb,hL⟩
theorem znz {c:zD} {m:zy} {d:Nat} {R:Int} {S:yH} (h:yt c m R d=(S,0)):∃L,Bfs S S.states.length L/\L S.states.length=S.states.length:=by
 unfold yt at h
 split at h
 ·exact absurd (congrArg Prod.snd h) (show¬(1:Int)=0 by decide)
 cases hx:qO c m d R (R.toNat+1) 0 [xY c] [] [] with
 |none=>rw [hx] at h;exact absurd (congrArg Prod.snd h) (show¬(40:Int)=0 by decide)
 |some q=>
 rw [hx] at h
 obtain rfl:q=S:=congrArg Prod.fst h
 exact zpX _ 0 [xY c] [] [] q (λ_=>1) rfl (Nat.zero_le _) rfl ⟨rfl,λi hi=>absurd hi (Nat.not_lt_zero _),λi hi=>absurd hi (Nat.not_lt_zero _),λi hi=>absurd hi (Nat.not_lt_zero _),λi hi=>absurd hi (Nat.not_lt_zero _)⟩ hx
section
variable {S:yH} {n:Nat} {L:Nat->Nat}
theorem Bfs.mono (h:Bfs S n L):∀b a,a<=b->b<=n->L a<=L b:=by
 intro b
 induction b with
 |zero=>
  intro a ha _
  obtain rfl:a=0:=by omega
  exact Nat.le_refl _
 |succ b ih=>
 intro a ha hb
 rcases Nat.lt_or_ge a (b+1) with e|e
 ·exact Nat.le_trans (ih a (by omega) (by omega)) (h.le b (by omega))
 obtain rfl:a=b+1:=by omega
 exact Nat.le_refl _
theorem Bfs.par (h:Bfs S n L) (hn:L n=n) {b:Nat} (h1:1<=b) (hb:b<n):∃i,i<n/\i<b/\L i<=b/\b<L (i+1):=by
 have key:∀k,k<=n->b<L k->∃i,i<k/\L i<=b/\b<L (i+1):=by
  intro k
  induction k with
  |zero=>intro _ hk;rw [h.zero] at hk;omega
  |succ k ih=>
  intro hk hb2
  rcases Nat.lt_or_ge b (L k) with e|e
  ·obtain⟨i,g1,g2,g3⟩:=ih (by omega) e
   exact⟨i,by omega,g2,g3⟩
  exact⟨k,by omega,e,hb2⟩
 obtain⟨i,g1,g2,g3⟩:=key n (Nat.le_refl _) (by omega)
 exact⟨i,g1,by have:=h.lt i g1;omega,g2,g3⟩
theorem zgQ:∀(l:List (Int × zq × Nat)) (b:Int),ji l b=none->∀e∈l,e.1≠b:=by
 intro l b
 induction l with
 |nil=>intro _ e he;cases he
 |cons a l ih=>
 intro h e he
 unfold ji at h
 split at h
 ·cases h
 rename_i hne
 rcases List.mem_cons.1 he with rfl|he
 ·exact hne
 exact ih h e he
theorem zn0 {k i j:Nat} (hi:i<k) (hj:j<(S.next.getD i []).length) (hm:j<(S.moves.getD i []).length) (h:(i:Int)<(S.next.getD i []).getD j 0):((S.next.getD i []).getD j 0,(S.moves.getD i []).getD j default,i)∈yY S k:=by
 unfold yY qR uQ
 rw [List.mem_flatMap]
 refine⟨i,List.mem_range.2 hi, ?_⟩
 rw [List.mem_flatMap]
 exact⟨j,List.mem_range.2 hj,by rw [if_pos ⟨h,hm⟩];simp⟩
theorem ze8 {k:Nat} {e:Int × zq × Nat} (h:e∈yY S k):e.2.2<k/\∃j,j<(S.next.getD e.2.2 []).length/\j<(S.moves.getD e.2.2 []).length/\e.1=(S.next.getD e.2.2 []).getD j 0/\e.2.1=(S.moves.getD e.2.2 []).getD j default:=by
 unfold yY qR uQ at h
 simp only [List.mem_flatMap,List.mem_range] at h
 obtain⟨i,hi,j,hj,h⟩:=h
 split at h
 ·rename_i hc
  simp only [List.mem_singleton] at h
  subst h
  exact⟨hi,j,hj,hc.2,rfl,rfl⟩
 cases h
theorem zfJ (k:Nat):yY S (k+1)=yY S k++qR (S.moves.getD k []) k (S.next.getD k []) (S.next.getD k []).length:=by
 unfold yY
 rw [List.range_succ,List.flatMap_append]
 simp
theorem zmv:∀(k:Nat) (b:Int) (x:zq × Nat),ji (yY S k) b=some x->∀e∈yY S k,e.1=b->x.2<=e.2.2:=by
 intro k
 induction k with
 |zero=>intro b x _ e he;simp [yY] at he
 |succ k ih=>
 intro b x h e he pq
 have hx:=(ze8 (zcp _ _ _ h)).1
 simp only [] at hx
 rw [zfJ,zbN] at h
 rw [zfJ] at he
 cases hf:ji (yY S k) b with
 |some y=>
  rw [hf] at h
  cases h
  have hy:=(ze8 (zcp _ _ _ hf)).1
  simp only [] at hy
  rcases List.mem_append.1 he with he|he
  ·exact ih b x hf e he pq
  have:e.2.2=k:=by
   unfold qR uQ at he
   simp only [List.mem_flatMap,List.mem_range] at he
   obtain⟨j,hj,he⟩:=he
   split at he
   ·simp only [List.mem_singleton] at he;rw [he]
   cases he
  omega
 |none=>
 rcases List.mem_append.1 he with he|he
 ·exact absurd pq (zgQ _ _ hf e he)
 have:e.2.2=k:=by
  unfold qR uQ at he
  simp only [List.mem_flatMap,List.mem_range] at he
  obtain⟨j,hj,he⟩:=he
  split at he
  ·simp only [List.mem_singleton] at he;rw [he]
  cases he
 omega
theorem Bfs.way (h:Bfs S n L) (hn:L n=n) (hl:S.next.length=n) (hlen:∀i,i<n->(S.next.getD i []).length=(S.moves.getD i []).length) {b:Nat} (h1:1<=b) (hb:b<n):
  ∃i j,zbp S (b:Int)=some ((S.moves.getD i []).getD j default,i)/\i<n/\i<b/\j<(S.moves.getD i []).length/\(S.next.getD i []).getD j 0=(b:Int)/\L i<=b/\b<L (i+1):=by
 obtain⟨p,p1,p2,p3,p4⟩:=h.par hn h1 hb
 obtain⟨j0,j1,j2⟩:=h.all p p1 b p3 p4
 have hm:=zn0 (S:=S) (k:=n) p1 j1 (by rw [<-hlen p p1];exact j1) (by rw [j2];omega)
 unfold zbp
 rw [hl]
 cases hf:ji (yY S n) (b:Int) with
 |none=>exact absurd j2 (zgQ _ _ hf _ hm)
 |some x=>
 obtain⟨mv,i⟩:=x
 obtain⟨g1,j,g2,g3,g4,g5⟩:=ze8 (zcp _ _ _ hf)
 simp only [] at g1 g2 g3 g4 g5
 have hle:=zmv n (b:Int) (mv,i) hf _ hm j2
 simp only [] at hle
 have hbl:=h.below i g1 j g2
 rw [<-g4] at hbl
 have hip:i=p:=by
  rcases Nat.lt_or_ge i p with e|e
  ·have:=h.mono p (i+1) e (by omega)
   omega
  omega
 subst hip
 exact⟨i,j,by rw [g5],g1,p2,g3,g4.symm,p3,p4⟩
theorem zs6 {b i:Nat} {mv:zq} (h1:1<=b) (h:zbp S (b:Int)=some (mv,i)):qJ S b (b:Int)=mv::qJ S i (i:Int):=by
 have:=ziO (S:=S) (t:=(b:Int)) (by omega) h
 simpa using this
end
