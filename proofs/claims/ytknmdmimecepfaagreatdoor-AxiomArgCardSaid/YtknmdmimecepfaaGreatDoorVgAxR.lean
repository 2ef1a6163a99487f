/- Steps. -/
import Derived.Test.YtknmdmimecepfaaGreatDoorVgAxQ
set_option linter.all false
namespace Go.Proofs.YtknmdmimecepfaaGreatDoor
open Go.RowKit
set_option maxRecDepth 100000
set_option maxHeartbeats 16000000
def yQ (f:ze->yY->yY) (model:Int) (A:ze) (i:Nat):Nat->yY->yY
 |0,s=>s
 |k+1,s=>if qB model A i k then f (yj A i k) (yQ f model A i k s) else yQ f model A i k s
def xK (f:ze->yY->yY) (c:zo) (model:Int) (d:Nat) (A:ze) (i:Nat) (s:yY):yY:=
 if qR model c.domain d (c.threads.getD i []) A i then f (qU model c.domain d (c.threads.getD i []) A i) s else s
def zU (f:ze->yY->yY) (c:zo) (model:Int) (d:Nat) (A:ze):Nat->yY->yY
 |0,s=>s
 |i+1,s=>yQ f model A i (A.th i).many (xK f c model d A i (zU f c model d A i s))
def zI (c:zo) (model:Int) (d:Nat):Nat->ze->yY->yY
 |0,_,s=>s
 |n+1,A,s=>
 if A∈s.seen then s
 else if qL c A then⟨A::s.seen,s.out++ [jK c A],s.fails||A.fails⟩
 else zU (zI c model d n) c model d A c.threads.length ⟨A::s.seen,s.out,s.fails⟩
def nb:Nat->Nat
 |0=>1
 |n+1=>1+(n+1)*nb n
theorem zkW (n:Nat):1<=nb n:=by cases n<;>simp [nb]
theorem wB {m n:Nat} (h:m<=n):nb m<=nb n:=by
 induction h with
 |refl=>exact Nat.le_refl _
 | @step k _ ih=>
 refine Nat.le_trans ih ?_
 show nb k<=1+(k+1)*nb k
 rw [Nat.add_mul];omega
def jq (model:Int) (A:ze) (i:Nat):Nat->Nat
 |0=>0
 |k+1=>jq model A i k+if qB model A i k then 1 else 0
def chR (c:zo) (model:Int) (d:Nat) (A:ze) (i:Nat):Nat:=if qR model c.domain d (c.threads.getD i []) A i then 1 else 0
def jr (c:zo) (model:Int) (d:Nat) (A:ze):Nat->Nat
 |0=>0
 |i+1=>jr c model d A i+chR c model d A i+jq model A i (A.th i).many
theorem zlr (model:Int) (A:ze) (i:Nat):∀k,jq model A i k<=(List.range k).countP λj=> !((A.th i).evs.getD j default).come:=by
 intro k
 induction k with
 |zero=>simp [jq]
 |succ k ih=>
 rw [List.range_succ,List.countP_append]
 simp only [List.countP_cons,List.countP_nil]
 show jq model A i k+(if qB model A i k then 1 else 0)<=_
 by_cases h:qB model A i k=true
 ·have hc:((A.th i).evs.getD k default).come=false:=by
   unfold qB at h
   simp only [Bool.and_eq_true,Bool.not_eq_true'] at h
   exact h.1
  rw [if_pos h,hc]
  simp only [Bool.not_false,if_true]
  omega
 rw [if_neg h];omega
theorem uz {c:zo} {model:Int} {d:Nat} {A:ze} {i:Nat} (h:qR model c.domain d (c.threads.getD i []) A i=true):(A.th i).at_<(c.threads.getD i []).length:=by
 unfold qR at h
 simp only [Bool.and_eq_true,decide_eq_true_eq] at h
 exact h.1
theorem zls {c:zo} {model:Int} {d:Nat} {A:ze} {i:Nat} (hs:Stood (c.threads.getD i []) (A.th i)):chR c model d A i+jq model A i (A.th i).many<=wz model (c.threads.getD i []) (A.th i):=by
 have h1:jq model A i (A.th i).many<=qp (A.th i):=zlr model A i _
 have h2:chR c model d A i<=cntF model (c.threads.getD i []) (A.th i).at_:=by
  unfold chR
  split
  ·rename_i h
   have hat:=uz h
   have:=cntF_step (model:=model) hat
   rw [if_pos (hs.touch model hat)] at this
   omega
  omega
 unfold wz;omega
theorem zfw {c:zo} {model:Int} {d:Nat} {A:ze} (h:jd c model A):∀n,n<=c.threads.length->jr c model d A n<=wS c model A n:=by
 intro n
 induction n with
 |zero=>intro _;exact Nat.le_refl _
 |succ n ih=>
 intro hn
 have:=ih (by omega)
 have h2:=zls (d:=d) (model:=model) (h.stood n (by omega))
 show jr c model d A n+chR c model d A n+jq model A n (A.th n).many<=wS c model A n+wz _ _ _
 omega
theorem zfG {c:zo} {model:Int} {d:Nat} {A:ze} {m n:Nat} (h:m<=n):jr c model d A m<=jr c model d A n:=by
 induction h with
 |refl=>exact Nat.le_refl _
 | @step k _ ih=>exact Nat.le_trans ih (by show jr c model d A k<=jr c model d A k+_+_;omega)
theorem zlt {model:Int} {A:ze} {i m n:Nat} (h:m<=n):jq model A i m<=jq model A i n:=by
 induction h with
 |refl=>exact Nat.le_refl _
 | @step k _ ih=>exact Nat.le_trans ih (by show jq model A i k<=jq model A i k+_;omega)
section
variable {c:zo} {model:Int} {d:Nat} {A:ze} {f:ze->yY->yY} {b:Nat}
def Adds (f:ze->yY->yY) (b:Nat) (B:ze):Prop:=∀s,(f B s).seen.length<=s.seen.length+b/\(s.out.length<=s.seen.length->(f B s).out.length<=(f B s).seen.length)
theorem zex {i:Nat} (hf:∀k,k<(A.th i).many->qB model A i k=true->Adds f b (yj A i k)):∀k,k<=(A.th i).many->∀s,(yQ f model A i k s).seen.length<=s.seen.length+jq model A i k*b/\(s.out.length<=s.seen.length->(yQ f model A i k s).out.length<=(yQ f model A i k s).seen.length):=by
 intro k
 induction k with
 |zero=>intro _ s;exact⟨by simp [yQ],λh=>h⟩
 |succ k ih=>
 intro hk s
 obtain⟨h1,h2⟩:=ih (by omega) s
 show(yY.seen (if _ then _ else _)).length<=s.seen.length+(jq model A i k+if _ then 1 else 0)*b/\(_->(yY.out (if _ then _ else _)).length<=(yY.seen (if _ then _ else _)).length)
 by_cases hm:qB model A i k=true
 ·simp only [hm,if_true]
  obtain⟨h3,h4⟩:=hf k (by omega) hm (yQ f model A i k s)
  refine⟨?_,λh=>h4 (h2 h)⟩
  rw [Nat.add_mul];omega
 simp only [hm,if_false,Bool.false_eq_true]
 exact⟨h1,h2⟩
theorem zfH {i:Nat} (hf:qR model c.domain d (c.threads.getD i []) A i=true->Adds f b (qU model c.domain d (c.threads.getD i []) A i)):∀s,(xK f c model d A i s).seen.length<=s.seen.length+chR c model d A i*b/\(s.out.length<=s.seen.length->(xK f c model d A i s).out.length<=(xK f c model d A i s).seen.length):=by
 intro s
 unfold xK chR
 by_cases hm:qR model c.domain d (c.threads.getD i []) A i=true
 ·simp only [hm,if_true]
  obtain⟨h1,h2⟩:=hf hm s
  exact⟨by omega,h2⟩
 simp only [hm,if_false,Bool.false_eq_true]
 exact⟨by omega,λh=>h⟩
theorem zey (hr:∀i,i<c.threads.length->qR model c.domain d (c.threads.getD i []) A i=true->Adds f b (qU model c.domain d (c.threads.getD i []) A i))
  (hw:∀i k,i<c.threads.length->k<(A.th i).many->qB model A i k=true->Adds f b (yj A i k)):∀i,i<=c.threads.length->∀s,(zU f c model d A i s).seen.length<=s.seen.length+jr c model d A i*b/\(s.out.length<=s.seen.length->(zU f c model d A i s).out.length<=(zU f c model d A i s).seen.length):=by
 intro i
 induction i with
 |zero=>intro _ s;exact⟨by simp [zU],λh=>h⟩
 |succ i ih=>
 intro hi s
 obtain⟨h1,h2⟩:=ih (by omega) s
 obtain⟨h3,h4⟩:=zfH (hr i (by omega)) (zU f c model d A i s)
 obtain⟨h5,h6⟩:=zex (hw i · (by omega)) (A.th i).many (Nat.le_refl _) (xK f c model d A i (zU f c model d A i s))
 refine⟨?_,λh=>h6 (h4 (h2 h))⟩
 show _<=s.seen.length+(jr c model d A i+chR c model d A i+jq model A i (A.th i).many)*b
 rw [Nat.add_mul,Nat.add_mul]
 have h5:(zU f c model d A (i+1) s).seen.length<=_:=h5
 omega
end
theorem zcb {c:zo} (hc:codeOk c=true) (hf:yF c=true) {model:Int} {d:Nat} :∀(n:Nat) (A:ze),jd c model A->Adds (zI c model d n) (nb (yK c model A)) A:=by
 intro n
 induction n with
 |zero=>intro A _ s;exact⟨by show s.seen.length<=_;omega,λh=>h⟩
 |succ n ih=>
 intro A h s
 have hp:=zkW (yK c model A)
 show(yY.seen (if _ then _ else _)).length<=_/\(_->(yY.out (if _ then _ else _)).length<=(yY.seen (if _ then _ else _)).length)
 by_cases h1:A∈s.seen
 ·simp only [if_pos h1];exact⟨by omega,λh=>h⟩
 simp only [if_neg h1]
 by_cases h2:qL c A=true
 ·simp only [h2,if_true]
  refine⟨by simp only [List.length_cons];omega,λh=> ?_⟩
  simp only [List.length_append,List.length_cons,List.length_nil];omega
 simp only [h2,if_false,Bool.false_eq_true]
 obtain⟨m,hm⟩:∃m,yK c model A=m\/yK c model A=m+1:=⟨yK c model A, .inl rfl⟩
 have hA:=zey (c:=c) (model:=model) (d:=d) (A:=A) (f:=zI c model d n) (b:=nb (yK c model A - 1))
  (λi hi hr s=>by
   obtain⟨g1,g2⟩:=uY (d:=d) hc hf h hi (uz hr)
   obtain⟨k1,k2⟩:=ih _ g1 s
   exact⟨Nat.le_trans k1 (Nat.add_le_add_left (wB (by omega)) _),k2⟩)
  (λi k hi hk hw s=>by
   obtain⟨g1,g2⟩:=wR hc h hi hk hw
   obtain⟨k1,k2⟩:=ih _ g1 s
   exact⟨Nat.le_trans k1 (Nat.add_le_add_left (wB (by omega)) _),k2⟩)
  c.threads.length (Nat.le_refl _) ⟨A::s.seen,s.out,s.fails⟩
 obtain⟨k1,k2⟩:=hA
 refine⟨?_,λh=>k2 (by simp only [List.length_cons];omega)⟩
 simp only [List.length_cons] at k1
 have hch:jr c model d A c.threads.length<=yK c model A:=zfw h _ (Nat.le_refl _)
 have hmul:=Nat.mul_le_mul_right (nb (yK c model A - 1)) hch
 have hnb:yK c model A*nb (yK c model A - 1)+1<=nb (yK c model A):=by
  cases yK c model A with
  |zero=>simp [nb]
  |succ k=>show(k+1)*nb k+1<=1+(k+1)*nb k;omega
 omega
