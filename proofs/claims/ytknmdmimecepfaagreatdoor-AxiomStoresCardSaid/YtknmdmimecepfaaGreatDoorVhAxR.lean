/- Steps. -/
import Derived.Test.YtknmdmimecepfaaGreatDoorVhAxQ
set_option linter.all false
namespace Go.Proofs.YtknmdmimecepfaaGreatDoor
open Go.RowKit
set_option maxRecDepth 100000
set_option maxHeartbeats 16000000
def yA (f:za->yH->yH) (model:Int) (A:za) (i:Nat):Nat->yH->yH
 |0,s=>s
 |k+1,s=>if yJ model A i k then f (zF A i k) (yA f model A i k s) else yA f model A i k s
def yN (f:za->yH->yH) (c:zl) (model:Int) (d:Nat) (A:za) (i:Nat) (s:yH):yH:=
 if xD model c.domain d (c.threads.getD i []) A i then f (xS model c.domain d (c.threads.getD i []) A i) s else s
def zJ (f:za->yH->yH) (c:zl) (model:Int) (d:Nat) (A:za):Nat->yH->yH
 |0,s=>s
 |i+1,s=>yA f model A i (A.th i).many (yN f c model d A i (zJ f c model d A i s))
def zx (c:zl) (model:Int) (d:Nat):Nat->za->yH->yH
 |0,_,s=>s
 |n+1,A,s=>
 if A∈s.seen then s
 else if yS c A then⟨A::s.seen,s.out++ [vD c A],s.fails||A.fails⟩
 else zJ (zx c model d n) c model d A c.threads.length ⟨A::s.seen,s.out,s.fails⟩
def nb:Nat->Nat
 |0=>1
 |n+1=>1+(n+1)*nb n
theorem zji (n:Nat):1<=nb n:=by cases n<;>simp [nb]
theorem jM {m n:Nat} (h:m<=n):nb m<=nb n:=by
 induction h with
 |refl=>exact Nat.le_refl _
 | @step k _ ih=>
 refine Nat.le_trans ih ?_
 show nb k<=1+(k+1)*nb k
 rw [Nat.add_mul];omega
def vw (model:Int) (A:za) (i:Nat):Nat->Nat
 |0=>0
 |k+1=>vw model A i k+if yJ model A i k then 1 else 0
def chR (c:zl) (model:Int) (d:Nat) (A:za) (i:Nat):Nat:=if xD model c.domain d (c.threads.getD i []) A i then 1 else 0
def vo (c:zl) (model:Int) (d:Nat) (A:za):Nat->Nat
 |0=>0
 |i+1=>vo c model d A i+chR c model d A i+vw model A i (A.th i).many
theorem zjR (model:Int) (A:za) (i:Nat):∀k,vw model A i k<=(List.range k).countP λj=> !((A.th i).evs.getD j default).come:=by
 intro k
 induction k with
 |zero=>simp [vw]
 |succ k ih=>
 rw [List.range_succ,List.countP_append]
 simp only [List.countP_cons,List.countP_nil]
 show vw model A i k+(if yJ model A i k then 1 else 0)<=_
 by_cases h:yJ model A i k=true
 ·have hc:((A.th i).evs.getD k default).come=false:=by
   unfold yJ at h
   simp only [Bool.and_eq_true,Bool.not_eq_true'] at h
   exact h.1
  rw [if_pos h,hc]
  simp only [Bool.not_false,if_true]
  omega
 rw [if_neg h];omega
theorem kV {c:zl} {model:Int} {d:Nat} {A:za} {i:Nat} (h:xD model c.domain d (c.threads.getD i []) A i=true):(A.th i).at_<(c.threads.getD i []).length:=by
 unfold xD at h
 simp only [Bool.and_eq_true,decide_eq_true_eq] at h
 exact h.1
theorem zjS {c:zl} {model:Int} {d:Nat} {A:za} {i:Nat} (hs:Stood (c.threads.getD i []) (A.th i)):chR c model d A i+vw model A i (A.th i).many<=jK model (c.threads.getD i []) (A.th i):=by
 have h1:vw model A i (A.th i).many<=xB (A.th i):=zjR model A i _
 have h2:chR c model d A i<=cntF model (c.threads.getD i []) (A.th i).at_:=by
  unfold chR
  split
  ·rename_i h
   have hat:=kV h
   have:=cntF_step (model:=model) hat
   rw [if_pos (hs.touch model hat)] at this
   omega
  omega
 unfold jK;omega
theorem zd4 {c:zl} {model:Int} {d:Nat} {A:za} (h:qF c model A):∀n,n<=c.threads.length->vo c model d A n<=jZ c model A n:=by
 intro n
 induction n with
 |zero=>intro _;exact Nat.le_refl _
 |succ n ih=>
 intro hn
 have:=ih (by omega)
 have h2:=zjS (d:=d) (model:=model) (h.stood n (by omega))
 show vo c model d A n+chR c model d A n+vw model A n (A.th n).many<=jZ c model A n+jK _ _ _
 omega
theorem zdN {c:zl} {model:Int} {d:Nat} {A:za} {m n:Nat} (h:m<=n):vo c model d A m<=vo c model d A n:=by
 induction h with
 |refl=>exact Nat.le_refl _
 | @step k _ ih=>exact Nat.le_trans ih (by show vo c model d A k<=vo c model d A k+_+_;omega)
theorem ziR {model:Int} {A:za} {i m n:Nat} (h:m<=n):vw model A i m<=vw model A i n:=by
 induction h with
 |refl=>exact Nat.le_refl _
 | @step k _ ih=>exact Nat.le_trans ih (by show vw model A i k<=vw model A i k+_;omega)
section
variable {c:zl} {model:Int} {d:Nat} {A:za} {f:za->yH->yH} {b:Nat}
def Adds (f:za->yH->yH) (b:Nat) (B:za):Prop:=∀s,(f B s).seen.length<=s.seen.length+b/\(s.out.length<=s.seen.length->(f B s).out.length<=(f B s).seen.length)
theorem zcO {i:Nat} (hf:∀k,k<(A.th i).many->yJ model A i k=true->Adds f b (zF A i k)):∀k,k<=(A.th i).many->∀s,(yA f model A i k s).seen.length<=s.seen.length+vw model A i k*b/\(s.out.length<=s.seen.length->(yA f model A i k s).out.length<=(yA f model A i k s).seen.length):=by
 intro k
 induction k with
 |zero=>intro _ s;exact⟨by simp [yA],λh=>h⟩
 |succ k ih=>
 intro hk s
 obtain⟨h1,h2⟩:=ih (by omega) s
 show(yH.seen (if _ then _ else _)).length<=s.seen.length+(vw model A i k+if _ then 1 else 0)*b/\(_->(yH.out (if _ then _ else _)).length<=(yH.seen (if _ then _ else _)).length)
 by_cases hm:yJ model A i k=true
 ·simp only [hm,if_true]
  obtain⟨h3,h4⟩:=hf k (by omega) hm (yA f model A i k s)
  refine⟨?_,λh=>h4 (h2 h)⟩
  rw [Nat.add_mul];omega
 simp only [hm,if_false,Bool.false_eq_true]
 exact⟨h1,h2⟩
theorem zdO {i:Nat} (hf:xD model c.domain d (c.threads.getD i []) A i=true->Adds f b (xS model c.domain d (c.threads.getD i []) A i)):∀s,(yN f c model d A i s).seen.length<=s.seen.length+chR c model d A i*b/\(s.out.length<=s.seen.length->(yN f c model d A i s).out.length<=(yN f c model d A i s).seen.length):=by
 intro s
 unfold yN chR
 by_cases hm:xD model c.domain d (c.threads.getD i []) A i=true
 ·simp only [hm,if_true]
  obtain⟨h1,h2⟩:=hf hm s
  exact⟨by omega,h2⟩
 simp only [hm,if_false,Bool.false_eq_true]
 exact⟨by omega,λh=>h⟩
theorem zcM (hr:∀i,i<c.threads.length->xD model c.domain d (c.threads.getD i []) A i=true->Adds f b (xS model c.domain d (c.threads.getD i []) A i))
  (hw:∀i k,i<c.threads.length->k<(A.th i).many->yJ model A i k=true->Adds f b (zF A i k)):∀i,i<=c.threads.length->∀s,(zJ f c model d A i s).seen.length<=s.seen.length+vo c model d A i*b/\(s.out.length<=s.seen.length->(zJ f c model d A i s).out.length<=(zJ f c model d A i s).seen.length):=by
 intro i
 induction i with
 |zero=>intro _ s;exact⟨by simp [zJ],λh=>h⟩
 |succ i ih=>
 intro hi s
 obtain⟨h1,h2⟩:=ih (by omega) s
 obtain⟨h3,h4⟩:=zdO (hr i (by omega)) (zJ f c model d A i s)
 obtain⟨h5,h6⟩:=zcO (hw i · (by omega)) (A.th i).many (Nat.le_refl _) (yN f c model d A i (zJ f c model d A i s))
 refine⟨?_,λh=>h6 (h4 (h2 h))⟩
 show _<=s.seen.length+(vo c model d A i+chR c model d A i+vw model A i (A.th i).many)*b
 rw [Nat.add_mul,Nat.add_mul]
 have h5:(zJ f c model d A (i+1) s).seen.length<=_:=h5
 omega
end
theorem zbd {c:zl} (hc:codeOk c=true) (hf:yw c=true) {model:Int} {d:Nat} :∀(n:Nat) (A:za),qF c model A->Adds (zx c model d n) (nb (yg c model A)) A:=by
 intro n
 induction n with
 |zero=>intro A _ s;exact⟨by show s.seen.length<=_;omega,λh=>h⟩
 |succ n ih=>
 intro A h s
 have hp:=zji (yg c model A)
 show(yH.seen (if _ then _ else _)).length<=_/\(_->(yH.out (if _ then _ else _)).length<=(yH.seen (if _ then _ else _)).length)
 by_cases h1:A∈s.seen
 ·simp only [if_pos h1];exact⟨by omega,λh=>h⟩
 simp only [if_neg h1]
 by_cases h2:yS c A=true
 ·simp only [h2,if_true]
  refine⟨by simp only [List.length_cons];omega,λh=> ?_⟩
  simp only [List.length_append,List.length_cons,List.length_nil];omega
 simp only [h2,if_false,Bool.false_eq_true]
 obtain⟨m,hm⟩:∃m,yg c model A=m\/yg c model A=m+1:=⟨yg c model A, .inl rfl⟩
 have hA:=zcM (c:=c) (model:=model) (d:=d) (A:=A) (f:=zx c model d n) (b:=nb (yg c model A - 1))
  (λi hi hr s=>by
   obtain⟨g1,g2⟩:=wJ (d:=d) hc hf h hi (kV hr)
   obtain⟨k1,k2⟩:=ih _ g1 s
   exact⟨Nat.le_trans k1 (Nat.add_le_add_left (jM (by omega)) _),k2⟩)
  (λi k hi hk hw s=>by
   obtain⟨g1,g2⟩:=vX hc h hi hk hw
   obtain⟨k1,k2⟩:=ih _ g1 s
   exact⟨Nat.le_trans k1 (Nat.add_le_add_left (jM (by omega)) _),k2⟩)
  c.threads.length (Nat.le_refl _) ⟨A::s.seen,s.out,s.fails⟩
 obtain⟨k1,k2⟩:=hA
 refine⟨?_,λh=>k2 (by simp only [List.length_cons];omega)⟩
 simp only [List.length_cons] at k1
 have hch:vo c model d A c.threads.length<=yg c model A:=zd4 h _ (Nat.le_refl _)
 have hmul:=Nat.mul_le_mul_right (nb (yg c model A - 1)) hch
 have hnb:yg c model A*nb (yg c model A - 1)+1<=nb (yg c model A):=by
  cases yg c model A with
  |zero=>simp [nb]
  |succ k=>show(k+1)*nb k+1<=1+(k+1)*nb k;omega
 omega
