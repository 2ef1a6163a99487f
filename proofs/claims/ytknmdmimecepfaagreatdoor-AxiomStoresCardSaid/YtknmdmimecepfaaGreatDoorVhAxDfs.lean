/- Steps. -/
import Derived.Test.YtknmdmimecepfaaGreatDoorVhAxN
set_option linter.all false
namespace Go.Proofs.YtknmdmimecepfaaGreatDoor
open Go.RowKit
set_option maxRecDepth 100000
set_option maxHeartbeats 16000000
def zaA (c:zl) (model:Int) (d:Nat) (A B:za):Prop:=
 (∃i,i<c.threads.length/\xD model c.domain d (c.threads.getD i []) A i=true/\B=xS model c.domain d (c.threads.getD i []) A i)\/
 ∃i k,i<c.threads.length/\k<(A.th i).many/\yJ model A i k=true/\B=zF A i k
inductive xX (c:zl) (model:Int) (d:Nat):za->za->Prop
 |refl (A:za):xX c model d A A
 |step {A B C:za} :zaA c model d A B->xX c model d B C->xX c model d A C
theorem zih {c:zl} {model:Int} {d:Nat} {A B:za} (hc:codeOk c=true) (hf:yw c=true) (h:qF c model A) (hs:zaA c model d A B):qF c model B/\yg c model B+1<=yg c model A:=by
 rcases hs with⟨i,hi,hm,rfl⟩|⟨i,k,hi,hk,hm,rfl⟩
 ·exact wJ hc hf h hi (kV hm)
 exact vX hc h hi hk hm
theorem zgT {c:zl} {model:Int} {d:Nat} {A B:za} (hc:codeOk c=true) (hf:yw c=true) (h:qF c model A) (hs:xX c model d A B):qF c model B:=by
 induction hs with
 |refl=>exact h
 |step h1 _ ih=>exact ih (zih hc hf h h1).1
structure yR (c:zl) (model:Int) (d:Nat) (A:za) (s s':yH):Prop where
 seen:∀B∈s.seen,B∈s'.seen
 out:∀x∈s.out,x∈s'.out
 fails:s.fails=true->s'.fails=true
 outs:∀x∈s'.out,x∈s.out\/∃B,xX c model d A B/\yS c B=true/\x=vD c B
 bU:s'.fails=true->s.fails=true\/∃B,xX c model d A B/\yS c B=true/\B.fails=true
theorem yR.rfl' {c:zl} {model:Int} {d:Nat} {A:za} {s:yH} :yR c model d A s s:=⟨λ_ h=>h,λ_ h=>h,λh=>h,λ_ h=> .inl h,λh=> .inl h⟩
theorem yR.more {c:zl} {model:Int} {d:Nat} {A B:za} {s t u:yH} (h:yR c model d A s t) (k:yR c model d B t u) (hs:zaA c model d A B):yR c model d A s u:=by
 refine⟨λB hB=>k.seen _ (h.seen _ hB),λx hx=>k.out _ (h.out _ hx),λe=>k.fails (h.fails e),λx hx=> ?_,λe=> ?_⟩
 ·rcases k.outs x hx with h1|⟨C,h1,h2⟩
  ·exact h.outs x h1
  exact .inr ⟨C, .step hs h1,h2⟩
 rcases k.bU e with h1|⟨C,h1,h2⟩
 ·exact h.bU h1
 exact .inr ⟨C, .step hs h1,h2⟩
def zc1 (c:zl) (model:Int) (d:Nat) (s:yH) (B:za):Prop:=
 (yS c B=true->vD c B∈s.out/\(B.fails=true->s.fails=true))/\(yS c B=false->∀C,zaA c model d B C->C∈s.seen)
def vO (c:zl) (model:Int) (d:Nat) (S:List za) (s:yH):Prop:=∀B∈s.seen,B∈S\/zc1 c model d s B
theorem zc1.mono {c:zl} {model:Int} {d:Nat} {s s':yH} {B:za} (h:zc1 c model d s B) (h1:∀B∈s.seen,B∈s'.seen) (h2:∀x∈s.out,x∈s'.out) (h3:s.fails=true->s'.fails=true):zc1 c model d s' B:=
 ⟨λe=>⟨h2 _ (h.1 e).1,λf=>h3 ((h.1 e).2 f)⟩,λe C hC=>h1 _ (h.2 e C hC)⟩
def zaB (c:zl) (model:Int) (d:Nat) (f:za->yH->yH) (B:za):Prop:=
 ∀s,yR c model d B s (f B s)/\B∈(f B s).seen/\∀S,vO c model d S s->vO c model d S (f B s)
section
variable {c:zl} {model:Int} {d:Nat} {A:za} {f:za->yH->yH}
theorem zgU {i:Nat} (hi:i<c.threads.length) (hf:∀k,k<(A.th i).many->yJ model A i k=true->zaB c model d f (zF A i k)):∀k,k<=(A.th i).many->∀s,
  yR c model d A s (yA f model A i k s)/\(∀j,j<k->yJ model A i j=true->zF A i j∈(yA f model A i k s).seen)/\∀S,vO c model d S s->vO c model d S (yA f model A i k s):=by
 intro k
 induction k with
 |zero=>intro _ s;exact⟨yR.rfl',λj hj=>by omega,λS h=>h⟩
 |succ k ih=>
 intro hk s
 obtain⟨h1,h2,h3⟩:=ih (by omega) s
 have e:yA f model A i (k+1) s=if yJ model A i k then f (zF A i k) (yA f model A i k s) else yA f model A i k s:=rfl
 rw [e]
 by_cases hm:yJ model A i k=true
 ·rw [if_pos hm]
  obtain⟨k1,k2,k3⟩:=hf k (by omega) hm (yA f model A i k s)
  refine⟨h1.more k1 (.inr ⟨i,k,hi,by omega,hm,rfl⟩),λj hj hj2=> ?_,λS h=>k3 S (h3 S h)⟩
  rcases Nat.lt_or_ge j k with hl|hl
  ·exact k1.seen _ (h2 j hl hj2)
  obtain rfl:j=k:=by omega
  exact k2
 rw [if_neg hm]
 refine⟨h1,λj hj hj2=> ?_,h3⟩
 rcases Nat.lt_or_ge j k with hl|hl
 ·exact h2 j hl hj2
 obtain rfl:j=k:=by omega
 exact absurd hj2 hm
theorem zii {i:Nat} (hi:i<c.threads.length) (hf:xD model c.domain d (c.threads.getD i []) A i=true->zaB c model d f (xS model c.domain d (c.threads.getD i []) A i)) (s:yH):
  yR c model d A s (yN f c model d A i s)/\(xD model c.domain d (c.threads.getD i []) A i=true->xS model c.domain d (c.threads.getD i []) A i∈(yN f c model d A i s).seen)/\∀S,vO c model d S s->vO c model d S (yN f c model d A i s):=by
 unfold yN
 by_cases hm:xD model c.domain d (c.threads.getD i []) A i=true
 ·rw [if_pos hm]
  obtain⟨k1,k2,k3⟩:=hf hm s
  exact⟨yR.rfl'.more k1 (.inl ⟨i,hi,hm,rfl⟩),λ_=>k2,k3⟩
 rw [if_neg hm];exact⟨yR.rfl',λe=>absurd e hm,λS h=>h⟩
theorem yR.comp {s t u:yH} (h:yR c model d A s t) (k:yR c model d A t u):yR c model d A s u:=by
 refine⟨λB hB=>k.seen _ (h.seen _ hB),λx hx=>k.out _ (h.out _ hx),λe=>k.fails (h.fails e),λx hx=> ?_,λe=> ?_⟩
 ·rcases k.outs x hx with h1|h1
  ·exact h.outs x h1
  exact .inr h1
 rcases k.bU e with h1|h1
 ·exact h.bU h1
 exact .inr h1
theorem zgV (hr:∀i,i<c.threads.length->xD model c.domain d (c.threads.getD i []) A i=true->zaB c model d f (xS model c.domain d (c.threads.getD i []) A i))
  (hw:∀i k,i<c.threads.length->k<(A.th i).many->yJ model A i k=true->zaB c model d f (zF A i k)):∀i,i<=c.threads.length->∀s,
  yR c model d A s (zJ f c model d A i s)/\(∀j,j<i->(xD model c.domain d (c.threads.getD j []) A j=true->xS model c.domain d (c.threads.getD j []) A j∈(zJ f c model d A i s).seen)/\∀k,k<(A.th j).many->yJ model A j k=true->zF A j k∈(zJ f c model d A i s).seen)/\∀S,vO c model d S s->vO c model d S (zJ f c model d A i s):=by
 intro i
 induction i with
 |zero=>intro _ s;exact⟨yR.rfl',λj hj=>by omega,λS h=>h⟩
 |succ i ih=>
 intro hi s
 obtain⟨h1,h2,h3⟩:=ih (by omega) s
 obtain⟨a1,a2,a3⟩:=zii (A:=A) (f:=f) (model:=model) (d:=d) (i:=i) (by omega) (hr i (by omega)) (zJ f c model d A i s)
 obtain⟨b1,b2,b3⟩:=zgU (c:=c) (d:=d) (A:=A) (f:=f) (model:=model) (i:=i) (by omega) (hw i · (by omega)) (A.th i).many (Nat.le_refl _) (yN f c model d A i (zJ f c model d A i s))
 have e:zJ f c model d A (i+1) s=yA f model A i (A.th i).many (yN f c model d A i (zJ f c model d A i s)):=rfl
 rw [e]
 refine⟨(h1.comp a1).comp b1,λj hj=> ?_,λS h=>b3 S (a3 S (h3 S h))⟩
 rcases Nat.lt_or_ge j i with hl|hl
 ·exact⟨λhm=>b1.seen _ (a1.seen _ ((h2 j hl).1 hm)),λk hk hm=>b1.seen _ (a1.seen _ ((h2 j hl).2 k hk hm))⟩
 obtain rfl:j=i:=by omega
 exact⟨λhm=>b1.seen _ (a2 hm),λk hk hm=>b2 k hk hm⟩
end
theorem zij {c:zl} (hc:codeOk c=true) (hf:yw c=true) {model:Int} {d:Nat} :∀(n:Nat) (A:za),qF c model A->yg c model A<n->zaB c model d (zx c model d n) A:=by
 intro n
 induction n with
 |zero=>intro A _ h;omega
 |succ n ih=>
 intro A h hn s
 have e:zx c model d (n+1) A s=if A∈s.seen then s else if yS c A then⟨A::s.seen,s.out++ [vD c A],s.fails||A.fails⟩ else zJ (zx c model d n) c model d A c.threads.length ⟨A::s.seen,s.out,s.fails⟩:=rfl
 rw [e]
 by_cases h1:A∈s.seen
 ·rw [if_pos h1];exact⟨yR.rfl',h1,λS h=>h⟩
 rw [if_neg h1]
 by_cases h2:yS c A=true
 ·rw [if_pos h2]
  refine⟨⟨λB hB=>List.mem_cons_of_mem _ hB,λx hx=>List.mem_append_left _ hx,λe=> ?_,λx hx=> ?_,λe=> ?_⟩,List.mem_cons_self ..,λS hS B hB=> ?_⟩
  ·show(s.fails||A.fails)=true
   rw [e];rfl
  ·rcases List.mem_append.1 hx with hx|hx
   ·exact .inl hx
   exact .inr ⟨A, .refl _,h2,List.mem_singleton.1 hx⟩
  ·have e:(s.fails||A.fails)=true:=e
   rw [Bool.or_eq_true] at e
   exact e.imp id λe=>⟨A, .refl _,h2,e⟩
  have hB:B∈A::s.seen:=hB
  rcases List.mem_cons.1 hB with rfl|hB
  ·refine .inr ⟨λ_=>⟨List.mem_append_right _ (List.mem_singleton.2 rfl),λe=> ?_⟩,λe=>by rw [h2] at e;cases e⟩
   show(s.fails||B.fails)=true
   rw [e,Bool.or_true]
  exact(hS B hB).imp id λk=>k.mono (λB hB=>List.mem_cons_of_mem _ hB) (λx hx=>List.mem_append_left _ hx) (λe=>by show(s.fails||A.fails)=true;rw [e];rfl)
 rw [if_neg h2]
 obtain⟨a1,a2,a3⟩:=zgV (c:=c) (model:=model) (d:=d) (A:=A) (f:=zx c model d n)
  (λi hi hm=>by obtain⟨g1,g2⟩:=wJ (d:=d) hc hf h hi (kV hm);exact ih _ g1 (by omega))
  (λi k hi hk hm=>by obtain⟨g1,g2⟩:=vX hc h hi hk hm;exact ih _ g1 (by omega)) c.threads.length (Nat.le_refl _) ⟨A::s.seen,s.out,s.fails⟩
 have hA:=a1.seen A (List.mem_cons_self ..)
 refine⟨⟨λB hB=>a1.seen _ (List.mem_cons_of_mem _ hB),a1.out,a1.fails,a1.outs,a1.bU⟩,hA,λS hS B hB=> ?_⟩
 have hcl:=a3 (A::S) (λB hB=>by
  have hB:B∈A::s.seen:=hB
  rcases List.mem_cons.1 hB with rfl|hB
  ·exact .inl (List.mem_cons_self ..)
  exact(hS B hB).imp (List.mem_cons_of_mem _) λk=>k.mono (λB hB=>List.mem_cons_of_mem _ hB) (λx hx=>hx) (λe=>e))
 rcases hcl B hB with hk|hk
 ·rcases List.mem_cons.1 hk with rfl|hk
  ·refine .inr ⟨λe=>absurd e h2,λ_ C hC=> ?_⟩
   rcases hC with⟨i,hi,hm,rfl⟩|⟨i,k,hi,hk,hm,rfl⟩
   ·exact(a2 i hi).1 hm
   exact(a2 i hi).2 k hk hm
  exact .inl hk
 exact .inr hk
theorem zaC {l:List zi} {t:zH} (h:wK l t=true):¬t.at_<l.length/\∀j,j<t.many->(t.evs.getD j default).come=true:=by
 unfold wK at h
 simp only [Bool.and_eq_true,Bool.not_eq_true',decide_eq_true_eq] at h
 refine⟨by omega,λj hj=> ?_⟩
 have h2:=h.2
 simp only [List.any_eq_false,Bool.not_eq_true',Bool.not_eq_false] at h2
 exact h2 j (by simpa using hj)
theorem zdy {c:zl} {A:za} (h:yS c A=true) {i:Nat} (hi:i<c.threads.length):wK (c.threads.getD i []) (A.th i)=true:=by
 unfold yS jQ at h
 rw [List.all_eq_true] at h
 exact h i (by simpa using hi)
theorem zgW {c:zl} {model:Int} {d:Nat} {A B:za} (h:yS c A=true) (hs:zaA c model d A B):False:=by
 rcases hs with⟨i,hi,hm,rfl⟩|⟨i,k,hi,hk,hm,rfl⟩
 ·exact(zaC (zdy h hi)).1 (kV hm)
 have:=(zaC (zdy h hi)).2 k hk
 unfold yJ at hm
 rw [this] at hm
 simp at hm
theorem zjY {c:zl} (hc:codeOk c=true) (hf:yw c=true) {model:Int} {d n:Nat} {A:za} (h:qF c model A) (hn:yg c model A<n):
  (∀x,x∈(zx c model d n A ⟨[], [],false⟩).out↔∃B,xX c model d A B/\yS c B=true/\x=vD c B)/\
  ((zx c model d n A ⟨[], [],false⟩).fails=true↔∃B,xX c model d A B/\yS c B=true/\B.fails=true):=by
 obtain⟨h1,h2,h3⟩:=zij (d:=d) hc hf n A h hn ⟨[], [],false⟩
 have hcl:=h3 [] (λB hB=>absurd hB List.not_mem_nil)
 have hall:∀B C,xX c model d B C->B∈(zx c model d n A ⟨[], [],false⟩).seen->C∈(zx c model d n A ⟨[], [],false⟩).seen:=by
  intro B C hr
  induction hr with
  |refl=>exact λh=>h
  | @step B C D hs _ ih=>
  intro hB
  refine ih ?_
  rcases hcl B hB with h|h
  ·exact absurd h List.not_mem_nil
  cases hd:yS c B with
  |true=>exact(zgW hd hs).elim
  |false=>exact h.2 hd _ hs
 refine⟨λx=>⟨λhx=> ?_,λ⟨B,hB,hd,e⟩=> ?_⟩,λhx=> ?_,λ⟨B,hB,hd,e⟩=> ?_⟩
 ·rcases h1.outs x hx with h|h
  ·exact absurd h List.not_mem_nil
  exact h
 ·rcases hcl B (hall _ _ hB h2) with h|h
  ·exact absurd h List.not_mem_nil
  rw [e];exact(h.1 hd).1
 ·rcases h1.bU hx with h|h
  ·cases h
  exact h
 rcases hcl B (hall _ _ hB h2) with h|h
 ·exact absurd h List.not_mem_nil
 exact(h.1 hd).2 e
