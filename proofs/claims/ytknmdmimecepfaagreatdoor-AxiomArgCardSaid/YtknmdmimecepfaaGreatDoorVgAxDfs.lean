/- Steps. -/
import Derived.Test.YtknmdmimecepfaaGreatDoorVgAxEvs
import Derived.Test.YtknmdmimecepfaaGreatDoorVgAxN
set_option linter.all false
namespace Go.Proofs.YtknmdmimecepfaaGreatDoor
open Go.RowKit
set_option maxRecDepth 100000
set_option maxHeartbeats 16000000
def zbY (c:zo) (model:Int) (d:Nat) (A B:ze):Prop:=
 (∃i,i<c.threads.length/\qR model c.domain d (c.threads.getD i []) A i=true/\B=qU model c.domain d (c.threads.getD i []) A i)\/
 ∃i k,i<c.threads.length/\k<(A.th i).many/\qB model A i k=true/\B=yj A i k
inductive jk (c:zo) (model:Int) (d:Nat):ze->ze->Prop
 |refl (A:ze):jk c model d A A
 |step {A B C:ze} :zbY c model d A B->jk c model d B C->jk c model d A C
theorem zlk {c:zo} {model:Int} {d:Nat} {A B:ze} (hc:codeOk c=true) (hf:yF c=true) (h:jd c model A) (hs:zbY c model d A B):jd c model B/\yK c model B+1<=yK c model A:=by
 rcases hs with⟨i,hi,hm,rfl⟩|⟨i,k,hi,hk,hm,rfl⟩
 ·exact uY hc hf h hi (uz hm)
 exact wR hc h hi hk hm
theorem zjK {c:zo} {model:Int} {d:Nat} {A B:ze} (hc:codeOk c=true) (hf:yF c=true) (h:jd c model A) (hs:jk c model d A B):jd c model B:=by
 induction hs with
 |refl=>exact h
 |step h1 _ ih=>exact ih (zlk hc hf h h1).1
structure xW (c:zo) (model:Int) (d:Nat) (A:ze) (s s':yY):Prop where
 seen:∀B∈s.seen,B∈s'.seen
 out:∀x∈s.out,x∈s'.out
 fails:s.fails=true->s'.fails=true
 outs:∀x∈s'.out,x∈s.out\/∃B,jk c model d A B/\qL c B=true/\x=jK c B
 zaQ:s'.fails=true->s.fails=true\/∃B,jk c model d A B/\qL c B=true/\B.fails=true
theorem xW.rfl' {c:zo} {model:Int} {d:Nat} {A:ze} {s:yY} :xW c model d A s s:=⟨λ_ h=>h,λ_ h=>h,λh=>h,λ_ h=> .inl h,λh=> .inl h⟩
theorem xW.more {c:zo} {model:Int} {d:Nat} {A B:ze} {s t u:yY} (h:xW c model d A s t) (k:xW c model d B t u) (hs:zbY c model d A B):xW c model d A s u:=by
 refine⟨λB hB=>k.seen _ (h.seen _ hB),λx hx=>k.out _ (h.out _ hx),λe=>k.fails (h.fails e),λx hx=> ?_,λe=> ?_⟩
 ·rcases k.outs x hx with h1|⟨C,h1,h2⟩
  ·exact h.outs x h1
  exact .inr ⟨C, .step hs h1,h2⟩
 rcases k.zaQ e with h1|⟨C,h1,h2⟩
 ·exact h.zaQ h1
 exact .inr ⟨C, .step hs h1,h2⟩
def zet (c:zo) (model:Int) (d:Nat) (s:yY) (B:ze):Prop:=
 (qL c B=true->jK c B∈s.out/\(B.fails=true->s.fails=true))/\(qL c B=false->∀C,zbY c model d B C->C∈s.seen)
def jL (c:zo) (model:Int) (d:Nat) (S:List ze) (s:yY):Prop:=∀B∈s.seen,B∈S\/zet c model d s B
theorem zet.mono {c:zo} {model:Int} {d:Nat} {s s':yY} {B:ze} (h:zet c model d s B) (h1:∀B∈s.seen,B∈s'.seen) (h2:∀x∈s.out,x∈s'.out) (h3:s.fails=true->s'.fails=true):zet c model d s' B:=
 ⟨λe=>⟨h2 _ (h.1 e).1,λf=>h3 ((h.1 e).2 f)⟩,λe C hC=>h1 _ (h.2 e C hC)⟩
def zbZ (c:zo) (model:Int) (d:Nat) (f:ze->yY->yY) (B:ze):Prop:=
 ∀s,xW c model d B s (f B s)/\B∈(f B s).seen/\∀S,jL c model d S s->jL c model d S (f B s)
section
variable {c:zo} {model:Int} {d:Nat} {A:ze} {f:ze->yY->yY}
theorem zjL {i:Nat} (hi:i<c.threads.length) (hf:∀k,k<(A.th i).many->qB model A i k=true->zbZ c model d f (yj A i k)):∀k,k<=(A.th i).many->∀s,
  xW c model d A s (yQ f model A i k s)/\(∀j,j<k->qB model A i j=true->yj A i j∈(yQ f model A i k s).seen)/\∀S,jL c model d S s->jL c model d S (yQ f model A i k s):=by
 intro k
 induction k with
 |zero=>intro _ s;exact⟨xW.rfl',λj hj=>by omega,λS h=>h⟩
 |succ k ih=>
 intro hk s
 obtain⟨h1,h2,h3⟩:=ih (by omega) s
 have e:yQ f model A i (k+1) s=if qB model A i k then f (yj A i k) (yQ f model A i k s) else yQ f model A i k s:=rfl
 rw [e]
 by_cases hm:qB model A i k=true
 ·rw [if_pos hm]
  obtain⟨k1,k2,k3⟩:=hf k (by omega) hm (yQ f model A i k s)
  refine⟨h1.more k1 (.inr ⟨i,k,hi,by omega,hm,rfl⟩),λj hj hj2=> ?_,λS h=>k3 S (h3 S h)⟩
  rcases Nat.lt_or_ge j k with hl|hl
  ·exact k1.seen _ (h2 j hl hj2)
  obtain rfl:j=k:=by omega
  exact k2
 rw [if_neg hm]
 refine⟨h1,λj hj hj2=> ?_,h3⟩
 rcases Nat.lt_or_ge j k with hl|hl
 ·exact h2 j hl hj2
 obtain rfl:j=k:=by omega
 exact absurd hj2 hm
theorem zll {i:Nat} (hi:i<c.threads.length) (hf:qR model c.domain d (c.threads.getD i []) A i=true->zbZ c model d f (qU model c.domain d (c.threads.getD i []) A i)) (s:yY):
  xW c model d A s (xK f c model d A i s)/\(qR model c.domain d (c.threads.getD i []) A i=true->qU model c.domain d (c.threads.getD i []) A i∈(xK f c model d A i s).seen)/\∀S,jL c model d S s->jL c model d S (xK f c model d A i s):=by
 unfold xK
 by_cases hm:qR model c.domain d (c.threads.getD i []) A i=true
 ·rw [if_pos hm]
  obtain⟨k1,k2,k3⟩:=hf hm s
  exact⟨xW.rfl'.more k1 (.inl ⟨i,hi,hm,rfl⟩),λ_=>k2,k3⟩
 rw [if_neg hm];exact⟨xW.rfl',λe=>absurd e hm,λS h=>h⟩
theorem xW.comp {s t u:yY} (h:xW c model d A s t) (k:xW c model d A t u):xW c model d A s u:=by
 refine⟨λB hB=>k.seen _ (h.seen _ hB),λx hx=>k.out _ (h.out _ hx),λe=>k.fails (h.fails e),λx hx=> ?_,λe=> ?_⟩
 ·rcases k.outs x hx with h1|h1
  ·exact h.outs x h1
  exact .inr h1
 rcases k.zaQ e with h1|h1
 ·exact h.zaQ h1
 exact .inr h1
theorem zjM (hr:∀i,i<c.threads.length->qR model c.domain d (c.threads.getD i []) A i=true->zbZ c model d f (qU model c.domain d (c.threads.getD i []) A i))
  (hw:∀i k,i<c.threads.length->k<(A.th i).many->qB model A i k=true->zbZ c model d f (yj A i k)):∀i,i<=c.threads.length->∀s,
  xW c model d A s (zU f c model d A i s)/\(∀j,j<i->(qR model c.domain d (c.threads.getD j []) A j=true->qU model c.domain d (c.threads.getD j []) A j∈(zU f c model d A i s).seen)/\∀k,k<(A.th j).many->qB model A j k=true->yj A j k∈(zU f c model d A i s).seen)/\∀S,jL c model d S s->jL c model d S (zU f c model d A i s):=by
 intro i
 induction i with
 |zero=>intro _ s;exact⟨xW.rfl',λj hj=>by omega,λS h=>h⟩
 |succ i ih=>
 intro hi s
 obtain⟨h1,h2,h3⟩:=ih (by omega) s
 obtain⟨a1,a2,a3⟩:=zll (A:=A) (f:=f) (model:=model) (d:=d) (i:=i) (by omega) (hr i (by omega)) (zU f c model d A i s)
 obtain⟨b1,b2,b3⟩:=zjL (c:=c) (d:=d) (A:=A) (f:=f) (model:=model) (i:=i) (by omega) (hw i · (by omega)) (A.th i).many (Nat.le_refl _) (xK f c model d A i (zU f c model d A i s))
 have e:zU f c model d A (i+1) s=yQ f model A i (A.th i).many (xK f c model d A i (zU f c model d A i s)):=rfl
 rw [e]
 refine⟨(h1.comp a1).comp b1,λj hj=> ?_,λS h=>b3 S (a3 S (h3 S h))⟩
 rcases Nat.lt_or_ge j i with hl|hl
 ·exact⟨λhm=>b1.seen _ (a1.seen _ ((h2 j hl).1 hm)),λk hk hm=>b1.seen _ (a1.seen _ ((h2 j hl).2 k hk hm))⟩
 obtain rfl:j=i:=by omega
 exact⟨λhm=>b1.seen _ (a2 hm),λk hk hm=>b2 k hk hm⟩
end
theorem zlm {c:zo} (hc:codeOk c=true) (hf:yF c=true) {model:Int} {d:Nat} :∀(n:Nat) (A:ze),jd c model A->yK c model A<n->zbZ c model d (zI c model d n) A:=by
 intro n
 induction n with
 |zero=>intro A _ h;omega
 |succ n ih=>
 intro A h hn s
 have e:zI c model d (n+1) A s=if A∈s.seen then s else if qL c A then⟨A::s.seen,s.out++ [jK c A],s.fails||A.fails⟩ else zU (zI c model d n) c model d A c.threads.length ⟨A::s.seen,s.out,s.fails⟩:=rfl
 rw [e]
 by_cases h1:A∈s.seen
 ·rw [if_pos h1];exact⟨xW.rfl',h1,λS h=>h⟩
 rw [if_neg h1]
 by_cases h2:qL c A=true
 ·rw [if_pos h2]
  refine⟨⟨λB hB=>List.mem_cons_of_mem _ hB,λx hx=>List.mem_append_left _ hx,λe=> ?_,λx hx=> ?_,λe=> ?_⟩,List.mem_cons_self ..,λS hS B hB=> ?_⟩
  ·show(s.fails||A.fails)=true
   rw [e];rfl
  ·rcases List.mem_append.1 hx with hx|hx
   ·exact .inl hx
   exact .inr ⟨A, .refl _,h2,List.mem_singleton.1 hx⟩
  ·have e:(s.fails||A.fails)=true:=e
   rw [Bool.or_eq_true] at e
   exact e.imp id λe=>⟨A, .refl _,h2,e⟩
  have hB:B∈A::s.seen:=hB
  rcases List.mem_cons.1 hB with rfl|hB
  ·refine .inr ⟨λ_=>⟨List.mem_append_right _ (List.mem_singleton.2 rfl),λe=> ?_⟩,λe=>by rw [h2] at e;cases e⟩
   show(s.fails||B.fails)=true
   rw [e,Bool.or_true]
  exact(hS B hB).imp id λk=>k.mono (λB hB=>List.mem_cons_of_mem _ hB) (λx hx=>List.mem_append_left _ hx) (λe=>by show(s.fails||A.fails)=true;rw [e];rfl)
 rw [if_neg h2]
 obtain⟨a1,a2,a3⟩:=zjM (c:=c) (model:=model) (d:=d) (A:=A) (f:=zI c model d n)
  (λi hi hm=>by obtain⟨g1,g2⟩:=uY (d:=d) hc hf h hi (uz hm);exact ih _ g1 (by omega))
  (λi k hi hk hm=>by obtain⟨g1,g2⟩:=wR hc h hi hk hm;exact ih _ g1 (by omega)) c.threads.length (Nat.le_refl _) ⟨A::s.seen,s.out,s.fails⟩
 have hA:=a1.seen A (List.mem_cons_self ..)
 refine⟨⟨λB hB=>a1.seen _ (List.mem_cons_of_mem _ hB),a1.out,a1.fails,a1.outs,a1.zaQ⟩,hA,λS hS B hB=> ?_⟩
 have hcl:=a3 (A::S) (λB hB=>by
  have hB:B∈A::s.seen:=hB
  rcases List.mem_cons.1 hB with rfl|hB
  ·exact .inl (List.mem_cons_self ..)
  exact(hS B hB).imp (List.mem_cons_of_mem _) λk=>k.mono (λB hB=>List.mem_cons_of_mem _ hB) (λx hx=>hx) (λe=>e))
 rcases hcl B hB with hk|hk
 ·rcases List.mem_cons.1 hk with rfl|hk
  ·refine .inr ⟨λe=>absurd e h2,λ_ C hC=> ?_⟩
   rcases hC with⟨i,hi,hm,rfl⟩|⟨i,k,hi,hk,hm,rfl⟩
   ·exact(a2 i hi).1 hm
   exact(a2 i hi).2 k hk hm
  exact .inl hk
 exact .inr hk
theorem zfE {l:List zl} {t:zR} (h:p8 l t=true):¬t.at_<l.length/\∀j,j<t.many->(t.evs.getD j default).come=true:=by
 unfold p8 at h
 simp only [Bool.and_eq_true,Bool.not_eq_true',decide_eq_true_eq] at h
 refine⟨by omega,λj hj=> ?_⟩
 have h2:=h.2
 simp only [List.any_eq_false,Bool.not_eq_true',Bool.not_eq_false] at h2
 exact h2 j (by simpa using hj)
theorem ziT {c:zo} {A:ze} (h:qL c A=true) {i:Nat} (hi:i<c.threads.length):p8 (c.threads.getD i []) (A.th i)=true:=by
 unfold qL uZ at h
 rw [List.all_eq_true] at h
 exact h i (by simpa using hi)
theorem zjN {c:zo} {model:Int} {d:Nat} {A B:ze} (h:qL c A=true) (hs:zbY c model d A B):False:=by
 rcases hs with⟨i,hi,hm,rfl⟩|⟨i,k,hi,hk,hm,rfl⟩
 ·exact(zfE (ziT h hi)).1 (uz hm)
 have:=(zfE (ziT h hi)).2 k hk
 unfold qB at hm
 rw [this] at hm
 simp at hm
theorem znx {c:zo} (hc:codeOk c=true) (hf:yF c=true) {model:Int} {d n:Nat} {A:ze} (h:jd c model A) (hn:yK c model A<n):
  (∀x,x∈(zI c model d n A ⟨[], [],false⟩).out↔∃B,jk c model d A B/\qL c B=true/\x=jK c B)/\
  ((zI c model d n A ⟨[], [],false⟩).fails=true↔∃B,jk c model d A B/\qL c B=true/\B.fails=true):=by
 obtain⟨h1,h2,h3⟩:=zlm (d:=d) hc hf n A h hn ⟨[], [],false⟩
 have hcl:=h3 [] (λB hB=>absurd hB List.not_mem_nil)
 have hall:∀B C,jk c model d B C->B∈(zI c model d n A ⟨[], [],false⟩).seen->C∈(zI c model d n A ⟨[], [],false⟩).seen:=by
  intro B C hr
  induction hr with
  |refl=>exact λh=>h
  | @step B C D hs _ ih=>
  intro hB
  refine ih ?_
  rcases hcl B hB with h|h
  ·exact absurd h List.not_mem_nil
  cases hd:qL c B with
  |true=>exact(zjN hd hs).elim
  |false=>exact h.2 hd _ hs
 refine⟨λx=>⟨λhx=> ?_,λ⟨B,hB,hd,e⟩=> ?_⟩,λhx=> ?_,λ⟨B,hB,hd,e⟩=> ?_⟩
 ·rcases h1.outs x hx with h|h
  ·exact absurd h List.not_mem_nil
  exact h
 ·rcases hcl B (hall _ _ hB h2) with h|h
  ·exact absurd h List.not_mem_nil
  rw [e];exact(h.1 hd).1
 ·rcases h1.zaQ hx with h|h
  ·cases h
  exact h
 rcases hcl B (hall _ _ hB h2) with h|h
 ·exact absurd h List.not_mem_nil
 exact(h.1 hd).2 e
end Go.Proofs.YtknmdmimecepfaaGreatDoor
namespace Go.Proofs.YtknmdmimecepfaaGreatDoor
open Go.RowKit
set_option maxRecDepth 100000
set_option maxHeartbeats 16000000
def wu (c:zo) (model:Int) (d:Nat):Nat->ze
 |0=>default
 |i+1=>yT model c.domain d (c.threads.getD i []) i (c.threads.getD i []).length (wu c model d i)
theorem zjO {model op:Int} (h:qK model op=true):qK 2 op=true:=by
 unfold qK at h ⊢
 rw [Bool.or_eq_true] at h ⊢
 rcases h with h|h
 ·exact .inl h
 rw [Bool.and_eq_true] at h
 exact .inr (by rw [h.1];rfl)
theorem zgR (model:Int) (l:List zl) (a:Nat):cntF model l a<=cntF 2 l a:=by
 unfold cntF
 exact List.countP_mono_left λx _ h=>zjO h
theorem zjP {c:zo} {i j:Nat} (h:i<=j):zQ c i<=zQ c j:=by
 induction h with
 |refl=>exact Nat.le_refl _
 | @step m _ ih=>exact Nat.le_trans ih (Nat.le_add_right _ _)
theorem zfu {c:zo} {i:Nat} (hi:i<c.threads.length):cntF 2 (c.threads.getD i []) 0<=zQ c c.threads.length:=by
 have h1:zQ c (i+1)=zQ c i+cntF 2 (c.threads.getD i []) 0:=rfl
 have h2:=zjP (c:=c) (show i+1<=c.threads.length from hi)
 omega
structure StF (c:zo) (model:Int) (n:Nat) (A:ze):Prop where
 v:qO c.domain A
 cnt:∀i,i<c.threads.length->(A.th i).many+cntF model (c.threads.getD i []) (A.th i).at_<=cntF 2 (c.threads.getD i []) 0
 stood:∀i,i<n->Stood (c.threads.getD i []) (A.th i)
 le:∀i,i<c.threads.length->(A.th i).at_<=(c.threads.getD i []).length
 rest:∀i,n<=i->i<4->A.th i=default
 nu:∀i,i<c.threads.length->wz model (c.threads.getD i []) (A.th i)<=cntF 2 (c.threads.getD i []) 0
theorem bH (i:Nat):(default:ze).th i=default:=by
 show(List.replicate 4 (default:zR)).getD i default=default
 rw [List.getD_eq_getElem?_getD]
 by_cases h:i<4
 ·rw [List.getElem?_replicate,if_pos h];rfl
 rw [List.getElem?_replicate,if_neg h];rfl
theorem zgS {dom:Int} (hd:1<=dom):zjQ dom (default:zR):=
 ⟨⟨rfl,rfl,Nat.zero_le _⟩,λx hx=>by
  have hx:x∈([0,0,0,0] :List Int):=hx
  simp only [List.mem_cons,List.not_mem_nil,or_false,or_self] at hx
  omega,λe he=>by
  have he:e∈List.replicate 8 (default:yg):=he
  rw [List.eq_of_mem_replicate he]
  exact⟨⟨Int.le_refl _,by decide⟩,⟨Int.le_refl _,show(0:Int)<dom by omega⟩⟩⟩
theorem zny {c:zo} {model:Int} (hd:1<=c.domain):StF c model 0 default:=by
 refine⟨⟨⟨rfl,rfl,λt ht=> ?_⟩,λx hx=> ?_,λt ht=> ?_⟩,λi hi=> ?_,λi hi=>by omega,λi hi=> ?_,λi _ _=>bH i,λi hi=> ?_⟩
 ·have ht:t∈List.replicate 4 (default:zR):=ht
  rw [List.eq_of_mem_replicate ht];exact⟨rfl,rfl,Nat.zero_le _⟩
 ·have hx:x∈([0,0,0,0] :List Int):=hx
  simp only [List.mem_cons,List.not_mem_nil,or_false,or_self] at hx
  omega
 ·have ht:t∈List.replicate 4 (default:zR):=ht
  rw [List.eq_of_mem_replicate ht];exact zgS hd
 ·rw [bH];show 0+cntF model _ 0<=_;rw [Nat.zero_add];exact zgR _ _ _
 ·rw [bH];exact Nat.zero_le _
 rw [bH];show qp default+cntF model _ 0<=_
 have h0:qp (default:zR)=0:=rfl
 rw [h0,Nat.zero_add];exact zgR _ _ _
theorem znz {c:zo} (hc:codeOk c=true) (hf:yF c=true) {model:Int} {d n:Nat} {A:ze} (hev:zQ c c.threads.length<=8) (hn:n<c.threads.length) (h:StF c model n A):
  StF c model (n+1) (yT model c.domain d (c.threads.getD n []) n (c.threads.getD n []).length A):=by
 have hb:=yI hc
 have hl:=uq hc hf hn
 have hn4:n<4:=by omega
 have h8:=zfu hn
 have hcn:=h.cnt n hn
 have hA0:=h.rest n (Nat.le_refl _) hn4
 have hbf:=zdl (model:=model) (dom:=c.domain) (d:=d) hl.good hn4 (c.threads.getD n []).length A h.v.ok (by omega) (h.le n hn) (by omega)
 have hne:∀j,j≠n->(yT model c.domain d (c.threads.getD n []) n (c.threads.getD n []).length A).th j=A.th j:=λj hj=>zca (Ne.symm hj) _ A
 refine⟨h.v.yT (by omega) hl hn4 _ (by omega),λj hj=> ?_,λj hj=> ?_,λj hj=> ?_,λj hj hj4=>by rw [hne j (by omega)];exact h.rest j (by omega) hj4,λj hj=> ?_⟩
 ·by_cases e:j=n
  ·subst e;exact Nat.le_trans hbf.cnt hcn
  rw [hne j e];exact h.cnt j hj
 ·by_cases e:j=n
  ·subst e;exact hbf.stood
  rw [hne j e];exact h.stood j (by omega)
 ·by_cases e:j=n
  ·subst e;exact hbf.le
  rw [hne j e];exact h.le j hj
 by_cases e:j=n
 ·subst e;exact Nat.le_trans hbf.nu (h.nu j hj)
 rw [hne j e];exact h.nu j hj
theorem za3 {c:zo} (hc:codeOk c=true) (hf:yF c=true) {model:Int} {d:Nat} (hev:zQ c c.threads.length<=8):∀n,n<=c.threads.length->StF c model n (wu c model d n):=by
 have hb:=yI hc
 intro n
 induction n with
 |zero=>intro _;exact zny (by omega)
 |succ n ih=>intro hn;exact znz hc hf hev hn (ih (by omega))
theorem StF.good {c:zo} {model:Int} {A:ze} (h:StF c model c.threads.length A) (hev:zQ c c.threads.length<=8):jd c model A/\yK c model A<=zQ c c.threads.length:=by
 refine⟨⟨h.v,λi hi=>Nat.le_trans (h.cnt i hi) (Nat.le_trans (zfu hi) hev),h.stood,h.le,λi hi hi4=>by rw [h.rest i hi hi4];rfl⟩, ?_⟩
 have:∀n,n<=c.threads.length->wS c model A n<=zQ c n:=by
  intro n
  induction n with
  |zero=>intro _;exact Nat.le_refl _
  |succ n ih=>
  intro hn
  have h1:=ih (by omega)
  have h2:=h.nu n (by omega)
  show wS c model A n+wz _ _ _<=zQ c n+cntF 2 _ 0
  omega
 exact this _ (Nat.le_refl _)
def jg (c:zo) (model:Int) (d:Nat):yY:=zI c model d 9 (wu c model d c.threads.length) ⟨[], [],false⟩
theorem zln {c:zo} (hc:codeOk c=true) (hf:yF c=true) {model:Int} {d:Nat} (hev:zQ c c.threads.length<=8):
  (∀x,x∈(jg c model d).out↔∃B,jk c model d (wu c model d c.threads.length) B/\qL c B=true/\x=jK c B)/\
  ((jg c model d).fails=true↔∃B,jk c model d (wu c model d c.threads.length) B/\qL c B=true/\B.fails=true):=by
 obtain⟨hg,hnu⟩:=(za3 (model:=model) (d:=d) hc hf hev _ (Nat.le_refl _)).good hev
 exact znx hc hf hg (by omega)
theorem zlo {c:zo} (hc:codeOk c=true) (hf:yF c=true) {model:Int} {d:Nat} (hev:zQ c c.threads.length<=8):∀x∈(jg c model d).out,x.mem.length=c.vars.toNat/\x.regs.length=c.threads.length/\∀r∈x.regs,r.length=4:=by
 intro x hx
 obtain⟨hg,hnu⟩:=(za3 (model:=model) (d:=d) hc hf hev _ (Nat.le_refl _)).good hev
 have hb:=yI hc
 obtain⟨B,hB, -,rfl⟩:=((zln hc hf hev).1 x).1 hx
 have hgB:=zjK hc hf hg hB
 refine⟨?_, ?_,λr hr=> ?_⟩
 ·show(B.mem.take c.vars.toNat).length=_
  rw [List.length_take,hgB.v.ok.mem];omega
 ·show((B.zO.take c.threads.length).map _).length=_
  rw [List.length_map,List.length_take,hgB.v.ok.zO];omega
 obtain⟨t,ht,rfl⟩:=List.mem_map.1 (show r∈(B.zO.take c.threads.length).map (·.regs) from hr)
 exact(hgB.v.ok.each t (List.mem_of_mem_take ht)).regs
