/- Steps. -/
import Derived.Test.YtliajkheeniljaaGreatDoorZxFinMadeP
set_option linter.all false
namespace Go.Proofs.YtliajkheeniljaaGreatDoor
open Go.RowKit
set_option maxRecDepth 100000
set_option maxHeartbeats 16000000
structure zfT (c:zF) (m:zA) (d:Nat) (l:List zk) (s:zk) (ms:List zu) (nx:List Int):Prop where
 len:nx.length=ms.length
 land:∀j,j<ms.length->∃t:Nat,t<l.length/\nx.getD j 0=t/\l.getD t default=(qz c m s (ms.getD j default) d).1
def Goes (l l':List zk):Prop:=∃x,l'=l++x
theorem Goes.refl (l:List zk):Goes l l:=⟨[],by simp⟩
theorem Goes.trans {a b c:List zk} (h:Goes a b) (k:Goes b c):Goes a c:=by
 obtain⟨x,rfl⟩:=h
 obtain⟨y,rfl⟩:=k
 exact⟨x++y,by simp⟩
theorem Goes.len {a b:List zk} (h:Goes a b):a.length<=b.length:=by obtain⟨x,rfl⟩:=h;simp
theorem Goes.get {a b:List zk} (h:Goes a b) {i:Nat} (hi:i<a.length):b.getD i default=a.getD i default:=by
 obtain⟨x,rfl⟩:=h
 simp only [List.getD_eq_getElem?_getD]
 rw [List.getElem?_append_left hi]
theorem zfT.goes {c:zF} {m:zA} {d:Nat} {l l':List zk} {s:zk} {ms:List zu} {nx:List Int} (h:zfT c m d l s ms nx) (hg:Goes l l'):zfT c m d l' s ms nx:=
 ⟨h.len,λj hj=>by
  obtain⟨t,h1,h2,h3⟩:=h.land j hj
  exact⟨t,by have:=hg.len;omega,h2,by rw [hg.get h1];exact h3⟩⟩
theorem zes (l:List zk) (t:zk):Goes l (putAt l t).1:=by
 unfold putAt
 split
 ·exact .refl _
 exact⟨[t],rfl⟩
theorem zhf (l:List zk) (t:zk):(putAt l t).2<(putAt l t).1.length/\(putAt l t).1.getD (putAt l t).2 default=t:=by
 unfold putAt
 split
 ·rename_i h
  have:=List.idxOf_lt_length_of_mem h
  refine⟨this, ?_⟩
  simp only [List.getD_eq_getElem?_getD]
  rw [List.getElem?_eq_getElem this]
  simp
 simp
theorem zg4 {l:List zk} (t:zk) (h:l.Nodup):(putAt l t).1.Nodup:=by
 unfold putAt
 split
 ·exact h
 rename_i hn
 rw [List.nodup_append]
 refine⟨h,by simp,λa ha b hb e=> ?_⟩
 simp only [List.mem_singleton] at hb
 subst hb e
 exact hn ha
theorem zlR {c:zF} {m:zA} {d:Nat} {R:Int} {s:zk} :∀(ms:List zu) (l:List zk) (nx:List Int) (r:List zk × List Int),l.Nodup->xU c m d R s ms l nx=some r->
  Goes l r.1/\r.1.Nodup/\∃tx,r.2=nx++tx/\zfT c m d r.1 s ms tx:=by
 intro ms
 induction ms with
 |nil=>
  intro l nx r hl h
  rw [xU] at h
  cases h
  exact⟨.refl _,hl, [],by simp,rfl,λj hj=>by simp at hj⟩
 |cons x ms ih=>
 intro l nx r hl h
 rw [xU] at h
 split at h
 ·cases h
 obtain⟨h1,h2,tx,h3,h4⟩:=ih _ _ r (zg4 _ hl) h
 refine⟨(zes _ _).trans h1,h2,((putAt l (qz c m s x d).1).2:Int)::tx,by rw [h3];simp,by simp [h4.len],λj hj=> ?_⟩
 cases j with
 |zero=>
  obtain⟨p1,p2⟩:=zhf l (qz c m s x d).1
  exact⟨_,by have:=h1.len;omega,rfl,by rw [h1.get p1];exact p2⟩
 |succ j=>
 obtain⟨t,g1,g2,g3⟩:=h4.land j (by simpa using hj)
 exact⟨t,g1,by simpa using g2,by simpa using g3⟩
def Gone (c:zF) (m:zA) (d:Nat) (l:List zk) (ml:List (List zu)) (nl:List (List Int)):Prop:=
 ml.length=nl.length/\∀i,i<ml.length->i<l.length/\ml.getD i [] =yY c m (l.getD i default) d/\zfT c m d l (l.getD i default) (ml.getD i []) (nl.getD i [])
theorem Gone.goes {c:zF} {m:zA} {d:Nat} {l l':List zk} {ml:List (List zu)} {nl:List (List Int)} (h:Gone c m d l ml nl) (hg:Goes l l'):Gone c m d l' ml nl:=
 ⟨h.1,λi hi=>by
  obtain⟨h1,h2,h3⟩:=h.2 i hi
  rw [hg.get h1]
  exact⟨by have:=hg.len;omega,h2,h3.goes hg⟩⟩
structure Closed (c:zF) (m:zA) (d:Nat) (S:yM):Prop where
 moves:S.moves.length=S.states.length
 next:S.next.length=S.states.length
 pos:0<S.states.length
 first:S.states.getD 0 default=xM c
 apart:S.states.Nodup
 lead:∀i,i<S.states.length->S.moves.getD i [] =yY c m (S.states.getD i default) d/\zfT c m d S.states (S.states.getD i default) (S.moves.getD i []) (S.next.getD i [])
theorem zkz {c:zF} {m:zA} {d:Nat} {R:Int} :∀(f i:Nat) (l:List zk) (ml:List (List zu)) (nl:List (List Int)) (r:yM),l.Nodup->ml.length=i->i<=l.length->Gone c m d l ml nl->0<l.length->l.getD 0 default=xM c->xX c m d R f i l ml nl=some r->Closed c m d r:=by
 intro f
 induction f with
 |zero=>intro i l ml nl r _ _ _ _ _ _ h;exact absurd h (by unfold xX;simp)
 |succ f ih=>
 intro i l ml nl r hl hm hil hg hp h0 h
 unfold xX at h
 split at h
 ·rename_i hi
  cases hx:xU c m d R (l.getD i default) (yY c m (l.getD i default) d) l [] with
  |none=>rw [hx] at h;cases h
  |some q=>
  rw [hx] at h
  obtain⟨q1,q2,tx,q3,q4⟩:=zlR _ _ _ q hl hx
  rw [List.nil_append] at q3
  refine ih (i+1) q.1 _ _ r q2 (by simp [hm]) (by have:=q1.len;omega) ⟨by simp [hg.1],λj hj=> ?_⟩ (by have:=q1.len;omega) (by rw [q1.get hp];exact h0) h
  have hg2:=hg.goes q1
  rcases Nat.lt_or_ge j i with hlt|hge
  ·obtain⟨g1,g2,g3⟩:=hg2.2 j (by omega)
   have e1:(ml++ [yY c m (l.getD i default) d]).getD j [] =ml.getD j [] :=by simp only [List.getD_eq_getElem?_getD];rw [List.getElem?_append_left (by omega)]
   have e2:(nl++ [q.2]).getD j [] =nl.getD j [] :=by simp only [List.getD_eq_getElem?_getD];rw [List.getElem?_append_left (by have:=hg.1;omega)]
   rw [e1,e2]
   exact⟨g1,g2,g3⟩
  obtain rfl:j=i:=by simp at hj;omega
  have e1:(ml++ [yY c m (l.getD j default) d]).getD j [] =yY c m (l.getD j default) d:=by simp only [List.getD_eq_getElem?_getD];rw [List.getElem?_append_right (by omega),hm];simp
  have e2:(nl++ [q.2]).getD j [] =q.2:=by simp only [List.getD_eq_getElem?_getD];rw [List.getElem?_append_right (by have:=hg.1;omega), <-hg.1,hm];simp
  rw [e1,e2,q1.get hi,q3]
  exact⟨by have:=q1.len;omega,rfl,q4⟩
 cases h
 have hn:i=l.length:=by omega
 have hg1:=hg.1
 exact⟨show ml.length=l.length by omega,show nl.length=l.length by omega,hp,h0,hl,λj hj=>(hg.2 j (by have hj2:j<l.length:=hj;omega)).2⟩
theorem zdG {c:zF} {m:zA} {d:Nat} {R:Int} (hm:qm c m=true) (h1:1<=R) (h2:R<=100000):((yQ c m R d).2=0/\Closed c m d (yQ c m R d).1)\/(yQ c m R d).2=40:=by
 unfold yQ
 rw [if_neg (by rintro(h|h|h)<;>first|(rw [hm] at h;cases h)|omega)]
 cases hx:xX c m d R (R.toNat+1) 0 [xM c] [] [] with
 |none=>exact .inr rfl
 |some q=>exact .inl ⟨rfl,zkz (R.toNat+1) 0 [xM c] [] [] q (List.pairwise_singleton _ _) rfl (Nat.zero_le _) ⟨rfl,λi hi=>absurd hi (Nat.not_lt_zero _)⟩ (Nat.zero_lt_one) rfl hx⟩
theorem zlS {c:zF} {m:zA} {d R:Nat} :∀s∈(yQ c m R d).1.states,gB 33 s:=(zfv (P:=gB 33) (λ_ _ _ _=>ziT) (zdU c)).1
theorem znk {c:zF} {m:zA} {d R:Nat} :(yQ c m R d).1.states.length<=R:=(zfv (P:=gB 33) (λ_ _ _ _=>ziT) (zdU c)).2
end Go.Proofs.YtliajkheeniljaaGreatDoor
namespace Go.Proofs.YtliajkheeniljaaGreatDoor
open Go.RowKit
set_option maxRecDepth 100000
set_option maxHeartbeats 16000000
inductive zlT (c:zF) (m:zA) (d:Nat):zk->Prop
 |start:zlT c m d (xM c)
 |step {s:zk} {x:zu} :zlT c m d s->x∈yY c m s d->zlT c m d (qz c m s x d).1
def z7j (w:World) (c:zF) (m:zA) (d:Nat) (en:Ending) (w':World):Prop:=(∃s tv mv bs,en= .returned (yF s tv mv)/\zlT c m d s/\OwnAt w.heap.size w' tv mv s.threads s.mem bs)/\Below w.heap.size w w'
def WF (w:World) (gs gr k:Nat):Prop:=k<w.heap.size\/k=gs\/k=gr
structure z9Y (w V X:World) (gs gr:Nat) (c:zF) (m:zA) (d:Nat) (s:zk) (tv mv:Value):Prop where
 since:Since (λk=>k=gs) V X
 below:Below w.heap.size w V
 lo:w.heap.size<=gs/\w.heap.size<=gr/\gs≠gr
 box:X.heap[gs]? =some (.cells #[tv,mv, .bool s.bad] 30 (0,0))
 res:V.heap[gr]? =some (.cells #[.slice none 0 0, .slice none 0 0, .bool false] 30 (0,0))
 own:∃bs,OwnAt w.heap.size X tv mv s.threads s.mem bs/\∀k,k=gs\/k=gr->tv.ownBlock≠some k/\mv.ownBlock≠some k/\∀j,j<s.threads.length->(bs.getD j (.slice none 0 0)).ownBlock≠some k
 come:zlT c m d s
section
variable {w V X Y:World} {gs gr d:Nat} {c:zF} {m:zA} {s:zk} {tv mv:Value}
end
end Go.Proofs.YtliajkheeniljaaGreatDoor
namespace Go.Proofs.YtliajkheeniljaaGreatDoor
open Go.RowKit
set_option maxRecDepth 100000
set_option maxHeartbeats 16000000
theorem zyb {c:zF} {m:zA} {s:zk} (h:yA c m s=true) (hm:m.model=0) {i:Nat} (hi:i<s.threads.length):(s.threads.getD i default).buf= [] :=by
 obtain⟨-, -, -, -,f5⟩:=zbi.1 h
 rcases Nat.eq_zero_or_pos (s.threads.getD i default).buf.length with e|e
 ·exact List.eq_nil_of_length_eq_zero e
 exfalso
 have hp:=(pI ((f5 i hi).2.2.2 0 e)).1
 unfold qo at hp
 simp only [Bool.and_eq_true,Bool.or_eq_true,decide_eq_true_eq] at hp
 omega
end Go.Proofs.YtliajkheeniljaaGreatDoor
namespace Go.Proofs.YtliajkheeniljaaGreatDoor
open Go.RowKit
set_option maxRecDepth 100000
set_option maxHeartbeats 16000000
theorem zdp {c:zF} {m:zA} {d:Nat} {R:Int} {s:zk} :∀(ms:List zu) (l:List zk) (nx:List Int) (r:List zk × List Int),xU c m d R s ms l nx=some r->Goes l r.1:=by
 intro ms
 induction ms with
 |nil=>intro l nx r h;rw [xU] at h;cases h;exact .refl _
 |cons x ms ih=>
 intro l nx r h
 rw [xU] at h
 split at h
 ·cases h
 exact(zes _ _).trans (ih _ _ r h)
theorem znl {c:zF} {m:zA} {d:Nat} {R R':Int} {s:zk} :∀(ms:List zu) (l:List zk) (nx:List Int) (r:List zk × List Int),xU c m d R s ms l nx=some r->(r.1.length:Int)<=R'->xU c m d R' s ms l nx=some r:=by
 intro ms
 induction ms with
 |nil=>intro l nx r h _;rw [xU] at h ⊢;exact h
 |cons x ms ih=>
 intro l nx r h hr
 rw [xU] at h ⊢
 split at h
 ·cases h
 have hg:=zdp _ _ _ r h
 have hp:=(zhf l (qz c m s x d).1).1
 have hl:=hg.len
 rw [if_neg (by omega)]
 exact ih _ _ r h hr
theorem zdq {c:zF} {m:zA} {d:Nat} {R:Int} :∀(f i:Nat) (l:List zk) (ml:List (List zu)) (nl:List (List Int)) (r:yM),xX c m d R f i l ml nl=some r->Goes l r.states:=by
 intro f
 induction f with
 |zero=>intro i l ml nl r h;exact absurd h (by unfold xX;simp)
 |succ f ih=>
 intro i l ml nl r h
 unfold xX at h
 split at h
 ·cases hx:xU c m d R (l.getD i default) (yY c m (l.getD i default) d) l [] with
  |none=>rw [hx] at h;cases h
  |some q=>rw [hx] at h;exact(zdp _ _ _ q hx).trans (ih _ _ _ _ r h)
 cases h;exact .refl _
theorem zg5 {c:zF} {m:zA} {d:Nat} {R R':Int} :∀(f i:Nat) (l:List zk) (ml:List (List zu)) (nl:List (List Int)) (r:yM) (f':Nat),xX c m d R f i l ml nl=some r->(r.states.length:Int)<=R'->i<=l.length->r.states.length<i+f'->xX c m d R' f' i l ml nl=some r:=by
 intro f
 induction f with
 |zero=>intro i l ml nl r f' h;exact absurd h (by unfold xX;simp)
 |succ f ih=>
 intro i l ml nl r f' h hr hi hf
 have hg:=(zdq _ _ _ _ _ r h).len
 obtain⟨g,rfl⟩:∃g,f'=g+1:=⟨f' - 1,by omega⟩
 unfold xX at h ⊢
 split at h
 ·rename_i hil
  rw [if_pos hil]
  cases hx:xU c m d R (l.getD i default) (yY c m (l.getD i default) d) l [] with
  |none=>rw [hx] at h;cases h
  |some q=>
  rw [hx] at h
  have hg2:=(zdq _ _ _ _ _ r h).len
  have hg3:=(zdp _ _ _ q hx).len
  rw [znl _ _ _ q hx (by omega)]
  exact ih _ _ _ _ r g h hr (by omega) (by omega)
 rename_i hil
 rw [if_neg hil]
 exact h
theorem ziv {c:zF} {m:zA} {d R:Nat} {f i:Nat} {l:List zk} {ml:List (List zu)} {nl:List (List Int)} {r:yM} (hl:l.length<=R) (h:xX c m d R f i l ml nl=some r):r.states.length<=R:=
 (zim (P:=λ_=>True) (λ_ _ _ _=>trivial) f i l ml nl r (λ_ _=>trivial) hl h).2
theorem bN {c:zF} {m:zA} {d R:Nat} (hm:qm c m=true) (h1:1<=R) (h2:R<=100000):yQ c m R d=(match xX c m d R (R+1) 0 [xM c] [] [] with|some s=>(s,0)|none=>(⟨[], [], []⟩,40)):=by
 unfold yQ
 rw [if_neg (by rintro(h|h|h)<;>first|(rw [hm] at h;cases h)|omega),Int.toNat_natCast]
 cases xX c m d (R:Int) (R+1) 0 [xM c] [] [] <;>rfl
theorem zjX {c:zF} {m:zA} {d:Nat} (hm:qm c m=true) {S:yM} (h:yQ c m 400 d=(S,0)):yQ c m S.states.length d=(S,0)/\1<=S.states.length/\S.states.length<=400:=by
 have h4:=bN (c:=c) (m:=m) (d:=d) (R:=400) hm (by omega) (by omega)
 rw [show((400:Nat):Int)=400 from rfl,h] at h4
 cases hx:xX c m d (400:Nat) (400+1) 0 [xM c] [] [] with
 |none=>rw [show((400:Nat):Int)=400 from rfl] at hx;rw [hx] at h4;exact absurd (congrArg Prod.snd h4) (show¬(0:Int)=40 by decide)
 |some q=>
 have hl:=ziv (R:=400) (by simp) hx
 have hg:=(zdq _ _ _ _ _ q hx).len
 rw [show((400:Nat):Int)=400 from rfl] at hx
 rw [hx] at h4
 obtain rfl:S=q:=congrArg Prod.fst h4
 have h1:1<=S.states.length:=by simpa using hg
 rw [bN hm h1 (by omega),zg5 _ _ _ _ _ S (S.states.length+1) hx (by omega) (by simp) (by omega)]
 exact⟨rfl,h1,hl⟩
theorem zrL {c:zF} {m:zA} {d:Nat} (hm:qm c m=true) {S:yM} (h:yQ c m 400 d=(S,0)) (h1:1<S.states.length):(yQ c m ((S.states.length - 1:Nat):Int) d).2=40:=by
 obtain⟨-, -,hl⟩:=zjX hm h
 rw [bN hm (by omega) (by omega)]
 cases hx:xX c m d ((S.states.length - 1:Nat):Int) (S.states.length - 1+1) 0 [xM c] [] [] with
 |none=>rfl
 |some q=>
 exfalso
 have hq:=ziv (by simp;omega) hx
 have hy:=zg5 _ _ _ _ _ q (400+1) hx (R':=(400:Nat)) (by omega) (by simp) (by omega)
 have h4:=bN (c:=c) (m:=m) (d:=d) (R:=400) hm (by omega) (by omega)
 rw [hy,show((400:Nat):Int)=400 from rfl,h] at h4
 obtain rfl:S=q:=congrArg Prod.fst h4
 omega
def Bare (s:zk):Prop:=∀i,i<s.threads.length->(s.threads.getD i default).buf= []
def bO:zA:=⟨0,1⟩
theorem zrM {c:zF} {m m':zA} {s:zk} (hm:qm c m'=true) (hb:Bare s) (h:yA c m s=true):yA c m' s=true:=by
 rw [zbi] at h ⊢
 obtain⟨-,h2,h3,h4,h5⟩:=h
 refine⟨hm,h2,h3,h4,λi hi=> ?_⟩
 have:=h5 i hi
 have hbi:=hb i hi
 unfold zcu at this ⊢
 rw [hbi] at this ⊢
 exact⟨this.1,this.2.1,this.2.2.1,λk hk=>by simp at hk⟩
theorem znm {c:zF} {m m':zA} {s:zk} {t:zy} {x:zS} {d:Nat} (h:¬x.op=2) (hb:t.buf= []):stepT c m s t x d=stepT c m' s t x d:=by
 simp [stepT,h,hb]
theorem zp5 {c:zF} {m:zA} {s:zk} {t:zy} {x:zS} {d:Nat} {r:zy × List Int × Bool} (h:stepT c m s t x d=some r) (hm:m.model=0) (hb:t.buf= []):r.1.buf= [] :=by
 by_cases h1:x.op=1
 ·rw [uo h1] at h;cases h;exact hb
 by_cases h2:x.op=2
 ·rw [jC h2 hm] at h;cases h;exact hb
 by_cases h3:x.op=3
 ·rw [za8 h3] at h;cases h;exact hb
 by_cases h4:x.op=4
 ·rw [wV h4] at h;split at h<;>cases h;exact hb
 by_cases h5:x.op=5
 ·rw [wL h5] at h;split at h<;>cases h;exact hb
 by_cases h6:x.op=6
 ·by_cases hv:s.mem.getD x.var.toNat 0=yh t.regs c.domain d x.a
  ·rw [uq h6 hv] at h;split at h<;>cases h;exact hb
  rw [uw h6 hv] at h;split at h<;>cases h;exact hb
 by_cases h7:x.op=7
 ·rw [wM h7] at h;split at h<;>cases h;exact hb
 by_cases h8:x.op=8
 ·rw [wh h8] at h;split at h<;>cases h;exact hb
 by_cases h9:x.op=9
 ·rw [jR h9] at h;cases h;exact hb
 by_cases h12:x.op=12
 ·rw [wu h12] at h;cases h;split<;>exact hb
 by_cases h13:x.op=13
 ·rw [pG h13] at h;cases h;exact hb
 rw [zam h1 h2 h3 h4 h5 h6 h7 h8 h9 h12 h13] at h;cases h;exact hb
theorem zu8 {s:zk} {i:Nat} {t:zy} {mem:List Int} {bad:Bool} (hb:Bare s) (ht:t.buf= []):Bare ⟨s.threads.set i t,mem,bad⟩:=by
 intro j hj
 simp only [List.length_set] at hj
 have hj2:=hb j hj
 simp only [List.getD_eq_getElem?_getD] at hj2 ⊢
 rw [List.getElem?_set]
 split
 ·rename_i e
  subst e
  rw [if_pos hj];exact ht
 exact hj2
theorem zet {c:zF} {m:zA} {s t:zk} {d i:Nat} (hf:yA c m s=true) (hi:i<s.threads.length) (h:vH c m s i d=some t):(⟨1,i,0⟩:zu)∈yY c m s d/\qz c m s ⟨1,i,0⟩ d=(t,0):=by
 refine⟨?_, ?_⟩
 ·unfold yY
  rw [if_pos hf,List.mem_flatMap]
  exact⟨i,List.mem_range.2 hi,List.mem_append.2 (.inl (by rw [if_pos (by rw [h];rfl)];simp))⟩
 unfold qz
 rw [if_pos hf,if_pos ⟨by simp only [];omega,by simp only [];omega⟩,if_pos ⟨rfl,rfl⟩,Int.toNat_natCast,h]
theorem znn {c:zF} {m:zA} {s:zk} {d i:Nat} {v:Int} (hf:yA c m s=true) (hi:i<s.threads.length) (h:v∈yD (s.threads.getD i default).buf m.model):(⟨2,i,v⟩:zu)∈yY c m s d/\qz c m s ⟨2,i,v⟩ d=(gu s i v,0):=by
 refine⟨?_, ?_⟩
 ·unfold yY
  rw [if_pos hf,List.mem_flatMap]
  exact⟨i,List.mem_range.2 hi,List.mem_append.2 (.inr (List.mem_map.2 ⟨v,h,rfl⟩))⟩
 unfold qz
 rw [if_pos hf,if_pos ⟨by simp only [];omega,by simp only [];omega⟩,if_neg (by rintro⟨h1, -⟩;cases h1),Int.toNat_natCast,if_pos ⟨rfl,h⟩]
theorem Closed.step {c:zF} {m:zA} {d:Nat} {S:yM} (h:Closed c m d S) {s:zk} (hs:s∈S.states) {x:zu} (hx:x∈yY c m s d):(qz c m s x d).1∈S.states:=by
 obtain⟨i,hi,rfl⟩:=List.getElem_of_mem hs
 have hg:S.states.getD i default=S.states[i] :=by rw [List.getD_eq_getElem?_getD,List.getElem?_eq_getElem hi];rfl
 obtain⟨h1,h2⟩:=h.lead i hi
 rw [hg] at h1 h2
 rw [<-h1] at hx
 obtain⟨j,hj,rfl⟩:=List.getElem_of_mem hx
 obtain⟨t,ht, -,h3⟩:=h2.land j hj
 have hm:(S.moves.getD i []).getD j default=(S.moves.getD i [])[j] :=by rw [List.getD_eq_getElem?_getD,List.getElem?_eq_getElem hj];rfl
 rw [hm] at h3
 rw [<-h3]
 exact qy ht
theorem zyc {c:zF} {m:zA} {d:Nat} {S:yM} (hm:qm c m=true) (h:Closed c m d S) {s:zk} (hs:s∈S.states) (hb:Bare s) {x:zu} (hx:x∈yY c bO s d):(qz c bO s x d).1∈S.states/\Bare (qz c bO s x d).1:=by
 have hfs:=(zfu hx).1
 have hf:=zrM hm hb hfs
 obtain⟨i,hi,hx2⟩:=zlD hx
 rcases hx2 with⟨rfl,t,ht,he⟩|⟨v,rfl,hv, -⟩
 ·rw [he]
  have hbi:=hb i hi
  have ht2:=ht
  unfold vH at ht2
  split at ht2
  ·rename_i hpc
   obtain⟨r,hr,rfl⟩:=Option.map_eq_some_iff.1 ht2
   refine⟨?_,zu8 hb (zp5 hr rfl hbi)⟩
   by_cases h2:((c.threads.getD i []).getD (s.threads.getD i default).pc.toNat default).op=2
   rotate_left
   ·have hst:vH c m s i d=some ⟨s.threads.set i r.1,r.2.1,r.2.2⟩:=by
     unfold vH
     rw [if_pos hpc,znm (m':=bO) h2 hbi,hr];rfl
    obtain⟨g1,g2⟩:=zet (d:=d) hf hi hst
    have:=h.step hs g1
    rw [g2] at this
    exact this
   by_cases h0:m.model=0
   ·have hst:vH c m s i d=some ⟨s.threads.set i r.1,r.2.1,r.2.2⟩:=by
     unfold vH
     rw [if_pos hpc,jC h2 h0, <-jC (m:=bO) h2 rfl,hr];rfl
    obtain⟨g1,g2⟩:=zet (d:=d) hf hi hst
    have:=h.step hs g1
    rw [g2] at this
    exact this
   have hmb:(m.model=1\/m.model=2)/\1<=m.bound:=by
    unfold qm at hm
    simp only [Bool.and_eq_true,decide_eq_true_eq] at hm
    obtain⟨⟨⟨⟨-,m1⟩,m2⟩,m3⟩, -⟩:=hm
    omega
   obtain⟨X,hX⟩:∃X,X=(c.threads.getD i []).getD (s.threads.getD i default).pc.toNat default:=⟨_,rfl⟩
   obtain⟨T,hT⟩:∃T,T=s.threads.getD i default:=⟨_,rfl⟩
   rw [<-hT] at hX hbi hpc hr h2
   rw [<-hX] at hr h2
   have hpk:qo T.buf m ⟨X.var,yh T.regs c.domain d X.a⟩=true:=by
    rw [hbi];unfold qo
    rcases hmb with⟨h1|h1,h3⟩<;>simp [h1,zcv] <;>omega
   have hst:vH c m s i d=some ⟨s.threads.set i ⟨T.pc+1,T.regs, [⟨X.var,yh T.regs c.domain d X.a⟩]⟩,s.mem,s.bad⟩:=by
    unfold vH
    rw [<-hT,if_pos hpc, <-hX,gJ h2 h0 hpk]
    unfold jl
    rw [if_pos hpk,hbi];rfl
   obtain⟨g1,g2⟩:=zet (d:=d) hf hi hst
   have k1:=h.step hs g1
   have k2:=znG g1
   rw [g2] at k1 k2
   simp only [] at k1 k2
   have hgi:(s.threads.set i ⟨T.pc+1,T.regs, [⟨X.var,yh T.regs c.domain d X.a⟩]⟩).getD i default=⟨T.pc+1,T.regs, [⟨X.var,yh T.regs c.domain d X.a⟩]⟩:=by
    rw [List.getD_eq_getElem?_getD,List.getElem?_set,if_pos rfl,if_pos hi];rfl
   have hh:X.var∈yD (((⟨s.threads.set i ⟨T.pc+1,T.regs, [⟨X.var,yh T.regs c.domain d X.a⟩]⟩,s.mem,s.bad⟩:zk).threads.getD i default).buf) m.model:=by
    simp only []
    rw [hgi]
    rcases hmb with⟨h1|h1, -⟩<;>simp [yD,h1,yR,kK]
   obtain⟨f1,f2⟩:=znn (d:=d) k2 (by simpa using hi) hh
   have k3:=h.step k1 f1
   rw [f2] at k3
   rw [jC h2 rfl] at hr
   cases hr
   unfold gu at k3
   simp only [] at k3
   rw [hgi] at k3
   simpa [takeB,yL,hbi,List.set_set] using k3
  cases ht2
 rw [hb i hi] at hv
 simp [yD,bO] at hv
theorem zf1 {l:List zk} :∀ {k:List zk},l.Nodup->(∀x∈l,x∈k)->l.length<=k.length:=by
 induction l with
 |nil=>intro k _ _;exact Nat.zero_le _
 |cons a l ih=>
 intro k h hs
 rw [List.nodup_cons] at h
 have ha:=hs a (List.mem_cons_self ..)
 have:=ih (k:=k.erase a) h.2 λx hx=>(List.mem_erase_of_ne (λe=>h.1 (by rw [<-e];exact hx))).2 (hs x (List.mem_cons_of_mem _ hx))
 rw [List.length_erase_of_mem ha] at this
 have:=List.length_pos_of_mem ha
 simp only [List.length_cons]
 omega
section
variable {c:zF} {m:zA} {d:Nat} {S:yM}
def InS (S:yM) (t:zk):Prop:=t∈S.states/\Bare t
theorem zu9 {l:List zk} {t:zk} (hl:∀x∈l,InS S x) (ht:InS S t):∀x∈(putAt l t).1,InS S x:=λx hx=>by
 unfold putAt at hx
 split at hx
 ·exact hl x hx
 rcases List.mem_append.1 hx with h|h
 ·exact hl x h
 rw [List.mem_singleton] at h;subst h;exact ht
theorem zuA {s:zk} :∀(ms:List zu) (l:List zk) (nx:List Int),(∀x∈ms,InS S (qz c bO s x d).1)->l.Nodup->(∀t∈l,InS S t)->
  ∃r,xU c bO d S.states.length s ms l nx=some r/\r.1.Nodup/\(∀t∈r.1,InS S t)/\l.length<=r.1.length:=by
 intro ms
 induction ms with
 |nil=>intro l nx _ hn hl;exact⟨(l,nx),rfl,hn,hl,Nat.le_refl _⟩
 |cons x ms ih=>
 intro l nx hx hn hl
 have hp:=zg4 (qz c bO s x d).1 hn
 have hq:=zu9 hl (hx x (List.mem_cons_self ..))
 have ha:=(zhf l (qz c bO s x d).1).1
 have hlen:=zf1 hp (λy hy=>(hq y hy).1)
 have hg:=(zes l (qz c bO s x d).1).len
 rw [xU,if_neg (by omega)]
 obtain⟨r,h1,h2,h3,h4⟩:=ih _ (nx++ [((putAt l (qz c bO s x d).1).2:Int)]) (λy hy=>hx y (List.mem_cons_of_mem _ hy)) hp hq
 exact⟨r,h1,h2,h3,by omega⟩
theorem zuB (hm:qm c m=true) (hc:Closed c m d S):∀(f i:Nat) (l:List zk) (ml:List (List zu)) (nl:List (List Int)),l.Nodup->(∀t∈l,InS S t)->i<=l.length->S.states.length<i+f->
  ∃r,xX c bO d S.states.length f i l ml nl=some r/\r.states.length<=S.states.length:=by
 intro f
 induction f with
 |zero=>intro i l ml nl hn hl hi hf;have:=zf1 hn (λy hy=>(hl y hy).1);omega
 |succ f ih=>
 intro i l ml nl hn hl hi hf
 unfold xX
 split
 ·rename_i hil
  obtain⟨g1,g2⟩:=hl _ (qy (x:=default) hil)
  obtain⟨q,h1,h2,h3,h4⟩:=zuA (S:=S) (c:=c) (d:=d) (s:=l.getD i default) (yY c bO (l.getD i default) d) l [] (λx hx=>zyc hm hc g1 g2 hx) hn hl
  rw [h1]
  exact ih (i+1) q.1 _ _ h2 h3 (by omega) (by omega)
 exact⟨_,rfl,zf1 hn (λy hy=>(hl y hy).1)⟩
end
theorem zyd {c:zF} {m:zA} {d:Nat} {S:yM} (hm:qm c m=true) (hc:Closed c m d S) (hl:S.states.length<=400):∃u:yM,yQ c bO S.states.length d=(u,0)/\u.states.length<=S.states.length:=by
 have hcode:codeOk c=true:=by unfold qm at hm;simp only [Bool.and_eq_true] at hm;exact hm.1.1.1.1
 have hs:qm c bO=true:=by unfold qm bO;simp [hcode]
 have h0:InS S (xM c):=by
  refine⟨by rw [<-hc.first];exact qy hc.pos,λi hi=> ?_⟩
  exact zyb (m:=bO) (zhR hs) rfl hi
 obtain⟨u,h1,h2⟩:=zuB hm hc (S.states.length+1) 0 [xM c] [] [] (List.pairwise_singleton _ _) (λt ht=>by rw [List.mem_singleton] at ht;subst ht;exact h0) (Nat.zero_le _) (by omega)
 rw [bN hs hc.pos (by omega),h1]
 exact⟨u,rfl,h2⟩
