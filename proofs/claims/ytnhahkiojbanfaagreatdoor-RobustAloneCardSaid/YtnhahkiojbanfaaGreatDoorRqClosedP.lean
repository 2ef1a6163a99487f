/- Steps. -/
import Derived.Test.YtnhahkiojbanfaaGreatDoorRqFinMadeP
set_option linter.all false
namespace Go.Proofs.YtnhahkiojbanfaaGreatDoor
open Go.RowKit
set_option maxRecDepth 100000
set_option maxHeartbeats 16000000
structure zdr (c:zx) (m:zu) (d:Nat) (l:List zi) (s:zi) (ms:List zo) (nx:List Int):Prop where
 len:nx.length=ms.length
 land:∀j,j<ms.length->∃t:Nat,t<l.length/\nx.getD j 0=t/\l.getD t default=(qD c m s (ms.getD j default) d).1
def Goes (l l':List zi):Prop:=∃x,l'=l++x
theorem Goes.refl (l:List zi):Goes l l:=⟨[],by simp⟩
theorem Goes.trans {a b c:List zi} (h:Goes a b) (k:Goes b c):Goes a c:=by
 obtain⟨x,rfl⟩:=h
 obtain⟨y,rfl⟩:=k
 exact⟨x++y,by simp⟩
theorem Goes.len {a b:List zi} (h:Goes a b):a.length<=b.length:=by obtain⟨x,rfl⟩:=h;simp
theorem Goes.get {a b:List zi} (h:Goes a b) {i:Nat} (hi:i<a.length):b.getD i default=a.getD i default:=by
 obtain⟨x,rfl⟩:=h
 simp only [List.getD_eq_getElem?_getD]
 rw [List.getElem?_append_left hi]
theorem zdr.goes {c:zx} {m:zu} {d:Nat} {l l':List zi} {s:zi} {ms:List zo} {nx:List Int} (h:zdr c m d l s ms nx) (hg:Goes l l'):zdr c m d l' s ms nx:=
 ⟨h.len,λj hj=>by
  obtain⟨t,h1,h2,h3⟩:=h.land j hj
  exact⟨t,by have:=hg.len;omega,h2,by rw [hg.get h1];exact h3⟩⟩
theorem zeY (l:List zi) (t:zi):Goes l (putAt l t).1:=by
 unfold putAt
 split
 ·exact .refl _
 exact⟨[t],rfl⟩
theorem zhC (l:List zi) (t:zi):(putAt l t).2<(putAt l t).1.length/\(putAt l t).1.getD (putAt l t).2 default=t:=by
 unfold putAt
 split
 ·rename_i h
  have:=List.idxOf_lt_length_of_mem h
  refine⟨this, ?_⟩
  simp only [List.getD_eq_getElem?_getD]
  rw [List.getElem?_eq_getElem this]
  simp
 simp
theorem zdC {l:List zi} (t:zi) (h:l.Nodup):(putAt l t).1.Nodup:=by
 unfold putAt
 split
 ·exact h
 rename_i hn
 rw [List.nodup_append]
 refine⟨h,by simp,λa ha b hb e=> ?_⟩
 simp only [List.mem_singleton] at hb
 subst hb e
 exact hn ha
theorem zhD {c:zx} {m:zu} {d:Nat} {R:Int} {s:zi} :∀(ms:List zo) (l:List zi) (nx:List Int) (r:List zi × List Int),l.Nodup->xX c m d R s ms l nx=some r->
  Goes l r.1/\r.1.Nodup/\∃tx,r.2=nx++tx/\zdr c m d r.1 s ms tx:=by
 intro ms
 induction ms with
 |nil=>
  intro l nx r hl h
  rw [xX] at h
  cases h
  exact⟨.refl _,hl, [],by simp,rfl,λj hj=>by simp at hj⟩
 |cons x ms ih=>
 intro l nx r hl h
 rw [xX] at h
 split at h
 ·cases h
 obtain⟨h1,h2,tx,h3,h4⟩:=ih _ _ r (zdC _ hl) h
 refine⟨(zeY _ _).trans h1,h2,((putAt l (qD c m s x d).1).2:Int)::tx,by rw [h3];simp,by simp [h4.len],λj hj=> ?_⟩
 cases j with
 |zero=>
  obtain⟨p1,p2⟩:=zhC l (qD c m s x d).1
  exact⟨_,by have:=h1.len;omega,rfl,by rw [h1.get p1];exact p2⟩
 |succ j=>
 obtain⟨t,g1,g2,g3⟩:=h4.land j (by simpa using hj)
 exact⟨t,g1,by simpa using g2,by simpa using g3⟩
def Gone (c:zx) (m:zu) (d:Nat) (l:List zi) (ml:List (List zo)) (nl:List (List Int)):Prop:=
 ml.length=nl.length/\∀i,i<ml.length->i<l.length/\ml.getD i [] =yF c m (l.getD i default) d/\zdr c m d l (l.getD i default) (ml.getD i []) (nl.getD i [])
theorem Gone.goes {c:zx} {m:zu} {d:Nat} {l l':List zi} {ml:List (List zo)} {nl:List (List Int)} (h:Gone c m d l ml nl) (hg:Goes l l'):Gone c m d l' ml nl:=
 ⟨h.1,λi hi=>by
  obtain⟨h1,h2,h3⟩:=h.2 i hi
  rw [hg.get h1]
  exact⟨by have:=hg.len;omega,h2,h3.goes hg⟩⟩
structure Closed (c:zx) (m:zu) (d:Nat) (S:yj):Prop where
 moves:S.moves.length=S.states.length
 next:S.next.length=S.states.length
 pos:0<S.states.length
 first:S.states.getD 0 default=xq c
 apart:S.states.Nodup
 lead:∀i,i<S.states.length->S.moves.getD i [] =yF c m (S.states.getD i default) d/\zdr c m d S.states (S.states.getD i default) (S.moves.getD i []) (S.next.getD i [])
theorem zhb {c:zx} {m:zu} {d:Nat} {R:Int} :∀(f i:Nat) (l:List zi) (ml:List (List zo)) (nl:List (List Int)) (r:yj),l.Nodup->ml.length=i->i<=l.length->Gone c m d l ml nl->0<l.length->l.getD 0 default=xq c->qz c m d R f i l ml nl=some r->Closed c m d r:=by
 intro f
 induction f with
 |zero=>intro i l ml nl r _ _ _ _ _ _ h;exact absurd h (by unfold qz;simp)
 |succ f ih=>
 intro i l ml nl r hl hm hil hg hp h0 h
 unfold qz at h
 split at h
 ·rename_i hi
  cases hx:xX c m d R (l.getD i default) (yF c m (l.getD i default) d) l [] with
  |none=>rw [hx] at h;cases h
  |some q=>
  rw [hx] at h
  obtain⟨q1,q2,tx,q3,q4⟩:=zhD _ _ _ q hl hx
  rw [List.nil_append] at q3
  refine ih (i+1) q.1 _ _ r q2 (by simp [hm]) (by have:=q1.len;omega) ⟨by simp [hg.1],λj hj=> ?_⟩ (by have:=q1.len;omega) (by rw [q1.get hp];exact h0) h
  have hg2:=hg.goes q1
  rcases Nat.lt_or_ge j i with hlt|hge
  ·obtain⟨g1,g2,g3⟩:=hg2.2 j (by omega)
   have e1:(ml++ [yF c m (l.getD i default) d]).getD j [] =ml.getD j [] :=by simp only [List.getD_eq_getElem?_getD];rw [List.getElem?_append_left (by omega)]
   have e2:(nl++ [q.2]).getD j [] =nl.getD j [] :=by simp only [List.getD_eq_getElem?_getD];rw [List.getElem?_append_left (by have:=hg.1;omega)]
   rw [e1,e2]
   exact⟨g1,g2,g3⟩
  obtain rfl:j=i:=by simp at hj;omega
  have e1:(ml++ [yF c m (l.getD j default) d]).getD j [] =yF c m (l.getD j default) d:=by simp only [List.getD_eq_getElem?_getD];rw [List.getElem?_append_right (by omega),hm];simp
  have e2:(nl++ [q.2]).getD j [] =q.2:=by simp only [List.getD_eq_getElem?_getD];rw [List.getElem?_append_right (by have:=hg.1;omega), <-hg.1,hm];simp
  rw [e1,e2,q1.get hi,q3]
  exact⟨by have:=q1.len;omega,rfl,q4⟩
 cases h
 have hn:i=l.length:=by omega
 have hg1:=hg.1
 exact⟨show ml.length=l.length by omega,show nl.length=l.length by omega,hp,h0,hl,λj hj=>(hg.2 j (by have hj2:j<l.length:=hj;omega)).2⟩
theorem jH {c:zx} {m:zu} {d:Nat} {R:Int} (hm:xC c m=true) (h1:1<=R) (h2:R<=100000):((zV c m R d).2=0/\Closed c m d (zV c m R d).1)\/(zV c m R d).2=40:=by
 unfold zV
 rw [if_neg (by rintro(h|h|h)<;>first|(rw [hm] at h;cases h)|omega)]
 cases hx:qz c m d R (R.toNat+1) 0 [xq c] [] [] with
 |none=>exact .inr rfl
 |some q=>exact .inl ⟨rfl,zhb (R.toNat+1) 0 [xq c] [] [] q (List.pairwise_singleton _ _) rfl (Nat.zero_le _) ⟨rfl,λi hi=>absurd hi (Nat.not_lt_zero _)⟩ (Nat.zero_lt_one) rfl hx⟩
end Go.Proofs.YtnhahkiojbanfaaGreatDoor
namespace Go.Proofs.YtnhahkiojbanfaaGreatDoor
open Go.RowKit
set_option maxRecDepth 100000
set_option maxHeartbeats 16000000
inductive zhE (c:zx) (m:zu) (d:Nat):zi->Prop
 |start:zhE c m d (xq c)
 |step {s:zi} {x:zo} :zhE c m d s->x∈yF c m s d->zhE c m d (qD c m s x d).1
def zy5 (w:World) (c:zx) (m:zu) (d:Nat) (en:Ending) (w':World):Prop:=(∃s tv mv bs,en= .returned (vI s tv mv)/\zhE c m d s/\OwnAt w.heap.size w' tv mv s.threads s.mem bs)/\Below w.heap.size w w'
def WF (w:World) (gs gr k:Nat):Prop:=k<w.heap.size\/k=gs\/k=gr
structure z03 (w V X:World) (gs gr:Nat) (c:zx) (m:zu) (d:Nat) (s:zi) (tv mv:Value):Prop where
 since:Since (λk=>k=gs) V X
 below:Below w.heap.size w V
 lo:w.heap.size<=gs/\w.heap.size<=gr/\gs≠gr
 box:X.heap[gs]? =some (.cells #[tv,mv, .bool s.bad] 42 (0,0))
 res:V.heap[gr]? =some (.cells #[.slice none 0 0, .slice none 0 0, .bool false] 42 (0,0))
 own:∃bs,OwnAt w.heap.size X tv mv s.threads s.mem bs/\∀k,k=gs\/k=gr->tv.ownBlock≠some k/\mv.ownBlock≠some k/\∀j,j<s.threads.length->(bs.getD j (.slice none 0 0)).ownBlock≠some k
 come:zhE c m d s
section
variable {w V X Y:World} {gs gr d:Nat} {c:zx} {m:zu} {s:zi} {tv mv:Value}
end
end Go.Proofs.YtnhahkiojbanfaaGreatDoor
namespace Go.Proofs.YtnhahkiojbanfaaGreatDoor
open Go.RowKit
set_option maxRecDepth 100000
set_option maxHeartbeats 16000000
theorem zhF {c:zx} {m:zu} {d R:Nat} (hm:xC c m=true) (h1:1<=R) (h2:R<=100000):zV c m R d=(match qz c m d R (R+1) 0 [xq c] [] [] with|some s=>(s,0)|none=>(⟨[], [], []⟩,40)):=by
 unfold zV
 rw [if_neg (by rintro(h|h|h)<;>first|(rw [hm] at h;cases h)|omega),Int.toNat_natCast]
 cases qz c m d (R:Int) (R+1) 0 [xq c] [] [] <;>rfl
def Bare (s:zi):Prop:=∀i,i<s.threads.length->(s.threads.getD i default).buf= []
def jf:zu:=⟨0,1⟩
theorem zmE {c:zx} {m m':zu} {s:zi} (hm:xC c m'=true) (hb:Bare s) (h:zP c m s=true):zP c m' s=true:=by
 rw [kN] at h ⊢
 obtain⟨-,h2,h3,h4,h5⟩:=h
 refine⟨hm,h2,h3,h4,λi hi=> ?_⟩
 have:=h5 i hi
 have hbi:=hb i hi
 unfold zaj at this ⊢
 rw [hbi] at this ⊢
 exact⟨this.1,this.2.1,this.2.2.1,λk hk=>by simp at hk⟩
theorem zdD {c:zx} {m m':zu} {s:zi} {t:zA} {x:zC} {d:Nat} (h:¬x.op=2) (hb:t.buf= []):stepT c m s t x d=stepT c m' s t x d:=by
 simp [stepT,h,hb]
theorem zkZ {c:zx} {m:zu} {s:zi} {t:zA} {x:zC} {d:Nat} {r:zA × List Int × Bool} (h:stepT c m s t x d=some r) (hm:m.model=0) (hb:t.buf= []):r.1.buf= [] :=by
 by_cases h1:x.op=1
 ·rw [uh h1] at h;cases h;exact hb
 by_cases h2:x.op=2
 ·rw [jF h2 hm] at h;cases h;exact hb
 by_cases h3:x.op=3
 ·rw [za5 h3] at h;cases h;exact hb
 by_cases h4:x.op=4
 ·rw [uZ h4] at h;split at h<;>cases h;exact hb
 by_cases h5:x.op=5
 ·rw [pz h5] at h;split at h<;>cases h;exact hb
 by_cases h6:x.op=6
 ·by_cases hv:s.mem.getD x.var.toNat 0=zW t.regs c.domain d x.a
  ·rw [p8 h6 hv] at h;split at h<;>cases h;exact hb
  rw [p9 h6 hv] at h;split at h<;>cases h;exact hb
 by_cases h7:x.op=7
 ·rw [pE h7] at h;split at h<;>cases h;exact hb
 by_cases h8:x.op=8
 ·rw [uj h8] at h;split at h<;>cases h;exact hb
 by_cases h9:x.op=9
 ·rw [uo h9] at h;cases h;exact hb
 by_cases h12:x.op=12
 ·rw [uq h12] at h;cases h;split<;>exact hb
 by_cases h13:x.op=13
 ·rw [pF h13] at h;cases h;exact hb
 rw [zaN h1 h2 h3 h4 h5 h6 h7 h8 h9 h12 h13] at h;cases h;exact hb
theorem zpg {s:zi} {i:Nat} {t:zA} {mem:List Int} {bad:Bool} (hb:Bare s) (ht:t.buf= []):Bare ⟨s.threads.set i t,mem,bad⟩:=by
 intro j hj
 simp only [List.length_set] at hj
 have hj2:=hb j hj
 simp only [List.getD_eq_getElem?_getD] at hj2 ⊢
 rw [List.getElem?_set]
 split
 ·rename_i e
  subst e
  rw [if_pos hj];exact ht
 exact hj2
theorem zbE {c:zx} {m:zu} {s t:zi} {d i:Nat} (hf:zP c m s=true) (hi:i<s.threads.length) (h:vF c m s i d=some t):(⟨1,i,0⟩:zo)∈yF c m s d/\qD c m s ⟨1,i,0⟩ d=(t,0):=by
 refine⟨?_, ?_⟩
 ·unfold yF
  rw [if_pos hf,List.mem_flatMap]
  exact⟨i,List.mem_range.2 hi,List.mem_append.2 (.inl (by rw [if_pos (by rw [h];rfl)];simp))⟩
 unfold qD
 rw [if_pos hf,if_pos ⟨by simp only [];omega,by simp only [];omega⟩,if_pos ⟨rfl,rfl⟩,Int.toNat_natCast,h]
theorem Closed.step {c:zx} {m:zu} {d:Nat} {S:yj} (h:Closed c m d S) {s:zi} (hs:s∈S.states) {x:zo} (hx:x∈yF c m s d):(qD c m s x d).1∈S.states:=by
 obtain⟨i,hi,rfl⟩:=List.getElem_of_mem hs
 have hg:S.states.getD i default=S.states[i] :=by rw [List.getD_eq_getElem?_getD,List.getElem?_eq_getElem hi];rfl
 obtain⟨h1,h2⟩:=h.lead i hi
 rw [hg] at h1 h2
 rw [<-h1] at hx
 obtain⟨j,hj,rfl⟩:=List.getElem_of_mem hx
 obtain⟨t,ht, -,h3⟩:=h2.land j hj
 have hm:(S.moves.getD i []).getD j default=(S.moves.getD i [])[j] :=by rw [List.getD_eq_getElem?_getD,List.getElem?_eq_getElem hj];rfl
 rw [hm] at h3
 rw [<-h3]
 exact yC ht
theorem zgq {l:List zi} :∀ {k:List zi},l.Nodup->(∀x∈l,x∈k)->l.length<=k.length:=by
 induction l with
 |nil=>intro k _ _;exact Nat.zero_le _
 |cons a l ih=>
 intro k h hs
 rw [List.nodup_cons] at h
 have ha:=hs a (List.mem_cons_self ..)
 have:=ih (k:=k.erase a) h.2 λx hx=>(List.mem_erase_of_ne (λe=>h.1 (by rw [<-e];exact hx))).2 (hs x (List.mem_cons_of_mem _ hx))
 rw [List.length_erase_of_mem ha] at this
 have:=List.length_pos_of_mem ha
 simp only [List.length_cons]
 omega
section
variable {c:zx} {m:zu} {d:Nat} {S:yj}
end
