/- Steps. -/
import Derived.Test.YtknmdmimecepfaaGreatDoorVhAxP
set_option linter.all false
namespace Go.Proofs.YtknmdmimecepfaaGreatDoor
open Go.RowKit
set_option maxRecDepth 100000
set_option maxHeartbeats 16000000
def jK (model:Int) (l:List zi) (t:zH):Nat:=xB t+cntF model l t.at_
theorem zaP {n:Nat} {p q:Nat->Bool} (h:∀j,j<n->p j=q j):(List.range n).countP p=(List.range n).countP q:=by
 refine List.countP_congr λj hj=> ?_
 rw [h j (by simpa using hj)]
theorem zdH {t:zH} (ht:t.evs.length=8) (hm:t.many<8) (a:Nat) (r:List Int) (e:zP):xB ⟨a,r,t.evs.set t.many e,t.many+1⟩=xB t+if e.come then 0 else 1:=by
 unfold xB
 rw [List.range_succ,List.countP_append]
 have h1:(t.evs.set t.many e).getD t.many default=e:=by rw [List.getD_eq_getElem?_getD,List.getElem?_set_self (by omega)];rfl
 have h2:(List.range t.many).countP (λj=> !((t.evs.set t.many e).getD j default).come)=(List.range t.many).countP (λj=> !(t.evs.getD j default).come):=zaP λj hj=>by
  rw [List.getD_eq_getElem?_getD,List.getElem?_set_ne (by omega), <-List.getD_eq_getElem?_getD]
 simp only [] at h1 h2 ⊢
 rw [h2]
 simp only [List.countP_cons,List.countP_nil,h1]
 cases e.come<;>simp
theorem zi4 {t:zH} (ht:t.evs.length=8) (hm:t.many<=8) {k:Nat} (hk:k<t.many) (hc:(t.evs.getD k default).come=false) (a:Nat) (r:List Int):xB ⟨a,r,t.evs.set k (t.evs.getD k default).did,t.many⟩+1=xB t:=by
 unfold xB
 have key:∀n,n<=8->(List.range n).countP (λj=> !((t.evs.set k (t.evs.getD k default).did).getD j default).come)+(if k<n then 1 else 0)=(List.range n).countP (λj=> !(t.evs.getD j default).come):=by
  intro n
  induction n with
  |zero=>intro _;simp
  |succ n ih=>
  intro hn
  have:=ih (by omega)
  rw [List.range_succ,List.countP_append,List.countP_append]
  simp only [List.countP_cons,List.countP_nil]
  by_cases hkn:k=n
  ·subst hkn
   rw [if_neg (by omega)] at this
   have h1:((t.evs.set k (t.evs.getD k default).did).getD k default).come=true:=by rw [List.getD_eq_getElem?_getD,List.getElem?_set_self (by omega)];rfl
   rw [h1,hc,if_pos (show k<k+1 by omega)]
   simp only [Bool.not_true,Bool.not_false,if_true,Bool.false_eq_true,if_false]
   omega
  have h1:(t.evs.set k (t.evs.getD k default).did).getD n default=t.evs.getD n default:=by rw [List.getD_eq_getElem?_getD,List.getElem?_set_ne hkn, <-List.getD_eq_getElem?_getD]
  rw [h1]
  have h2:(if k<n+1 then 1 else 0)=(if k<n then 1 else 0):=by
   by_cases h:k<n
   ·rw [if_pos h,if_pos (by omega)]
   rw [if_neg h,if_neg (by omega)]
  rw [h2];omega
 have:=key t.many hm
 rw [if_pos hk] at this
 exact this
theorem yQ {A:za} {i j:Nat} (h:i≠j) (t:zH):(A.put i t).th j=A.th j:=za.znf h t
theorem zc8 {A:za} {i j:Nat} (h:i≠j) (e:zP):(A.yh i e).th j=A.th j:=(yQ h _).trans (yQ h _)
theorem zfP {A:za} {i j:Nat} (h:i≠j) (dom:Int) (d:Nat) (x:zi):(yY dom d x i A).th j=A.th j:=by
 unfold yY
 split
 ·exact(yQ h _).trans (yQ h _)
 split
 ·exact yQ h _
 split
 ·exact yQ h _
 exact yQ h _
theorem jX {model dom:Int} {d:Nat} {l:List zi} {i j:Nat} (h:i≠j):∀(n:Nat) (A:za),(zB model dom d l i n A).th j=A.th j:=by
 intro n
 induction n with
 |zero=>intro A;rfl
 |succ n ih=>
 intro A
 show za.th (if _ then _ else _) j=_
 split
 ·split
  ·rfl
  rw [ih,zfP h]
 rfl
theorem uG {model dom:Int} {d:Nat} {l:List zi} {i j:Nat} (h:i≠j):∀(n:Nat) (A:za),(zO model dom d l i n A).th j=A.th j:=by
 intro n
 induction n with
 |zero=>intro A;exact jX h _ A
 |succ n ih=>
 intro A
 show za.th (if _ then _ else _) j=_
 split
 ·split
  ·exact jX h _ A
  rw [ih]
  exact(yQ h _).trans ((zc8 h _).trans (jX h _ A))
 exact jX h _ A
structure zng (model:Int) (l:List zi) (i:Nat) (A B:za):Prop where
 ok:B.ok
 stood:Stood l (B.th i)
 le:(B.th i).at_<=l.length
 cnt:(B.th i).many+cntF model l (B.th i).at_<=(A.th i).many+cntF model l (A.th i).at_
 nu:jK model l (B.th i)<=jK model l (A.th i)
theorem zeA {model:Int} {l:List zi} {i:Nat} {A B:za} (hf:zkf model l i A B):xB (B.th i)=xB (A.th i):=by
 unfold xB
 rw [hf.many,hf.evs]
theorem zhf {dom:Int} {d:Nat} {regs:List Int} {x:zi} (hr:(yP dom d regs x).reads=true):x.op=1\/x.op=6\/x.op=7:=by
 unfold yP at hr
 split at hr
 ·exact .inl ‹_›
 split at hr
 ·cases hr
 split at hr
 ·cases hr
 split at hr
 ·rename_i h;exact .inr h
 cases hr
theorem zbR {model dom:Int} {d:Nat} {l:List zi} (hl:wh l) {i:Nat} (hi:i<4):∀(n:Nat) (A:za),A.ok->l.length<=(A.th i).at_+n->(A.th i).at_<=l.length->(A.th i).many+cntF model l (A.th i).at_<=8->zng model l i A (zO model dom d l i n A):=by
 intro n
 induction n with
 |zero=>
  intro A h hn ha hc
  have hf:=jY (model:=model) (dom:=dom) (d:=d) hl hi l.length A h (by omega)
  have hcm:=uY (model:=model) (l:=l) hf.more
  refine⟨hf.ok,λhh=> ?_,hf.le ha,by show(za.th (zB model dom d l i l.length A) i).many+_<=_;rw [hf.many];show _+cntF model l ((zB model dom d l i l.length A).th i).at_<=_;omega, ?_⟩
  ·have h1:=hf.more
   have h2:((zB model dom d l i l.length A).th i).at_<l.length:=hh
   omega
  show xB ((zB model dom d l i l.length A).th i)+cntF model l ((zB model dom d l i l.length A).th i).at_<=xB (A.th i)+_
  rw [zeA hf];omega
 |succ n ih=>
 intro A h hn ha hc
 have hf:=jY (model:=model) (dom:=dom) (d:=d) hl hi l.length A h (by omega)
 have hcm:=uY (model:=model) (l:=l) hf.more
 have hlf:=zeA hf
 obtain⟨B,hB⟩:∃B,B=zB model dom d l i l.length A:=⟨_,rfl⟩
 have zhg:zO model dom d l i (n+1) A=if (B.th i).at_<l.length then(if (yP dom d (B.th i).regs (l.getD (B.th i).at_ default)).reads then B else zO model dom d l i n ((B.yh i (yP dom d (B.th i).regs (l.getD (B.th i).at_ default))).setAt i ((B.th i).at_+1))) else B:=by rw [hB];rfl
 rw [<-hB] at hf hlf hcm
 rw [zhg]
 have hbase:zng model l i A B\/((B.th i).at_<l.length/\(yP dom d (B.th i).regs (l.getD (B.th i).at_ default)).reads=false):=by
  by_cases hat:(B.th i).at_<l.length
  ·by_cases hr:(yP dom d (B.th i).regs (l.getD (B.th i).at_ default)).reads=true
   ·refine .inl ⟨hf.ok,λ_=>zhf hr,hf.le ha,by rw [hf.many];omega, ?_⟩
    show xB _+_<=xB _+_
    rw [hlf];omega
   exact .inr ⟨hat,by simpa using hr⟩
  refine .inl ⟨hf.ok,λhh=>absurd hh hat,hf.le ha,by rw [hf.many];omega, ?_⟩
  show xB _+_<=xB _+_
  rw [hlf];omega
 by_cases hat:(B.th i).at_<l.length
 rotate_left
 ·rw [if_neg hat]
  rcases hbase with hb|hb
  ·exact hb
  exact absurd hb.1 hat
 rw [if_pos hat]
 by_cases hr:(yP dom d (B.th i).regs (l.getD (B.th i).at_ default)).reads=true
 ·rw [if_pos hr]
  rcases hbase with hb|hb
  ·exact hb
  rw [hb.2] at hr;cases hr
 rw [if_neg hr]
 have hcp:=cntF_step (model:=model) hat
 rw [if_pos (hf.stop hat)] at hcp
 have wN:(B.th i).many<8:=by rw [hf.many];omega
 have hok2:(B.yh i (yP dom d (B.th i).regs (l.getD (B.th i).at_ default))).ok:=za.zad (za.kU hf.ok hi _ _) hi (by omega)
 have hp:=za.wm hf.ok hi (yP dom d (B.th i).regs (l.getD (B.th i).at_ default))
 have hs:=za.yT hok2 hi ((B.th i).at_+1)
 rw [hp] at hs
 have hlp:=zdH (za.yu hf.ok hi).evs wN ((B.th i).at_+1) (B.th i).regs (yP dom d (B.th i).regs (l.getD (B.th i).at_ default))
 have zb9:(yP dom d (B.th i).regs (l.getD (B.th i).at_ default)).come=false:=by unfold yP;split<;>first|rfl|(split<;>first|rfl|(split<;>first|rfl|(split<;>rfl)))
 rw [zb9] at hlp
 have:=ih ((B.yh i (yP dom d (B.th i).regs (l.getD (B.th i).at_ default))).setAt i ((B.th i).at_+1)) (za.qZ hok2 hi _) (by rw [hs];show l.length<=(B.th i).at_+1+n;have:=hf.more;omega) (by rw [hs];exact hat) (by rw [hs];show(B.th i).many+1+cntF model l ((B.th i).at_+1)<=8;rw [hf.many];omega)
 have hc2:=this.cnt
 have hn2:=this.nu
 unfold jK at hn2
 rw [hs] at hc2 hn2
 refine⟨this.ok,this.stood,this.le, ?_, ?_⟩
 ·have hc2:_<=(B.th i).many+1+cntF model l ((B.th i).at_+1):=hc2
  have:=hf.many
  omega
 unfold jK
 have hn2:_<=xB ⟨(B.th i).at_+1,(B.th i).regs,(B.th i).evs.set (B.th i).many _,(B.th i).many+1⟩+cntF model l ((B.th i).at_+1):=hn2
 rw [hlp,hlf] at hn2
 simp only [Bool.false_eq_true,if_false] at hn2
 omega
structure qF (c:zl) (model:Int) (A:za):Prop where
 v:xQ c.domain A
 cnt:∀i,i<c.threads.length->(A.th i).many+cntF model (c.threads.getD i []) (A.th i).at_<=8
 stood:∀i,i<c.threads.length->Stood (c.threads.getD i []) (A.th i)
 le:∀i,i<c.threads.length->(A.th i).at_<=(c.threads.getD i []).length
 rest:∀i,c.threads.length<=i->i<4->(A.th i).at_=0
def jZ (c:zl) (model:Int) (A:za):Nat->Nat
 |0=>0
 |i+1=>jZ c model A i+jK model (c.threads.getD i []) (A.th i)
def yg (c:zl) (model:Int) (A:za):Nat:=jZ c model A c.threads.length
theorem zi5 {c:zl} {model:Int} {A B:za} :∀n,(∀i,i<n->jK model (c.threads.getD i []) (B.th i)=jK model (c.threads.getD i []) (A.th i))->jZ c model B n=jZ c model A n:=by
 intro n
 induction n with
 |zero=>intro _;rfl
 |succ n ih=>
 intro h
 show jZ c model B n+_=jZ c model A n+_
 rw [ih λi hi=>h i (by omega),h n (by omega)]
theorem zdI {c:zl} {model:Int} {A B:za} {i:Nat} (hB:jK model (c.threads.getD i []) (B.th i)+1<=jK model (c.threads.getD i []) (A.th i)) (hne:∀j,j≠i->B.th j=A.th j):∀n,i<n->jZ c model B n+1<=jZ c model A n:=by
 intro n
 induction n with
 |zero=>intro h;omega
 |succ n ih=>
 intro h
 show jZ c model B n+jK _ _ (B.th n)+1<=jZ c model A n+jK _ _ (A.th n)
 by_cases e:i=n
 ·subst e
  rw [zi5 (A:=A) (B:=B) i λj hj=>by rw [hne j (by omega)]];omega
 have:=ih (by omega)
 rw [hne n (λh=>e h.symm)];omega
theorem zfQ {dom:Int} {d:Nat} {x:zi} {i j:Nat} {A:za} (h:i≠j):(qI dom d x i A).th j=A.th j:=by
 unfold qI
 split
 ·exact yQ h _
 split
 ·rfl
 split
 ·show((A.zN i _ 0).zN i _ 1).th j=_
  exact(yQ h _).trans (yQ h _)
 exact yQ h _
theorem wJ {c:zl} {model:Int} {d:Nat} {A:za} (hc:codeOk c=true) (hf:yw c=true) (h:qF c model A) {i:Nat} (hi:i<c.threads.length) (hat:(A.th i).at_<(c.threads.getD i []).length):
  qF c model (xS model c.domain d (c.threads.getD i []) A i)/\yg c model (xS model c.domain d (c.threads.getD i []) A i)+1<=yg c model A:=by
 have hb:=zZ hc
 have hi4:i<4:=by omega
 have hl:=wu hc hf hi
 have hops:=h.stood i hi hat
 have ht:=(h.stood i hi).touch model hat
 have hcp:=cntF_step (model:=model) hat
 rw [if_pos ht] at hcp
 have hcn:=h.cnt i hi
 have hth:=zeB h.v.ok hi4 c.domain d ((c.threads.getD i []).getD (A.th i).at_ default)
 have hv1:=h.v.qI (d:=d) hb.2.2.1 hl hi4 hat hops
 have hE:=h.v.yP hi4 (by omega) hl hat d
 unfold xS
 obtain⟨l,hll⟩:∃l,l=c.threads.getD i [] :=⟨_,rfl⟩
 rw [<-hll] at hat hl hops ht hcp hcn hth hv1 hE ⊢
 obtain⟨M,hM⟩:∃M,M=qI c.domain d (l.getD (A.th i).at_ default) i A:=⟨_,rfl⟩
 have zqD:∀j,i≠j->M.th j=A.th j:=λj hj=>by rw [hM];exact zfQ hj
 rw [<-hM] at hth hv1 ⊢
 obtain⟨E,hEE⟩:∃E,E=yP c.domain d (A.th i).regs (l.getD (A.th i).at_ default):=⟨_,rfl⟩
 rw [<-hEE] at hE ⊢
 have hED:zd0 c.domain E.did:=⟨hE.v,hE.n⟩
 have wN:(M.th i).many<8:=by rw [hth.2.1];omega
 have hv2:=hv1.yh hi4 hED wN
 have hp:=za.wm hv1.ok hi4 E.did
 have hs:=za.yT hv2.ok hi4 ((A.th i).at_+1)
 rw [hp] at hs
 have hv3:=hv2.setAt hi4 ((A.th i).at_+1)
 have hlp:=zdH (za.yu hv1.ok hi4).evs wN ((A.th i).at_+1) (M.th i).regs E.did
 have hlM:xB (M.th i)=xB (A.th i):=by unfold xB;rw [hth.2.1,hth.2.2]
 obtain⟨B,hB⟩:∃B,B=(M.yh i E.did).setAt i ((A.th i).at_+1):=⟨_,rfl⟩
 have zqE:∀j,i≠j->B.th j=A.th j:=λj hj=>by rw [hB];exact(yQ hj _).trans ((zc8 hj _).trans (zqD j hj))
 rw [<-hB] at hs hv3 ⊢
 have hcB:(B.th i).many+cntF model l (B.th i).at_<=8:=by
  rw [hs];show(M.th i).many+1+cntF model l ((A.th i).at_+1)<=8
  rw [hth.2.1];omega
 have hbf:=zbR (model:=model) (dom:=c.domain) (d:=d) hl.good hi4 l.length B hv3.ok (by omega) (by rw [hs];show(A.th i).at_+1<=_;omega) hcB
 have hnu:jK model l (B.th i)+1<=jK model l (A.th i):=by
  unfold jK
  rw [hs]
  show xB ⟨(A.th i).at_+1,(M.th i).regs,(M.th i).evs.set (M.th i).many E.did,(M.th i).many+1⟩+cntF model l ((A.th i).at_+1)+1<=_
  rw [hlp,hlM,show E.did.come=true from rfl,if_pos rfl];omega
 have hne:∀j,j≠i->(zO model c.domain d l i l.length B).th j=A.th j:=λj hj=>(uG (Ne.symm hj) _ B).trans (zqE j (Ne.symm hj))
 refine⟨⟨hv3.zO (by omega) hl hi4 _ hcB,λj hj=> ?_,λj hj=> ?_,λj hj=> ?_,λj hj hj4=>by rw [hne j (by omega)];exact h.rest j hj hj4⟩,zdI (i:=i) (by rw [<-hll];have:=hbf.nu;omega) hne _ hi⟩
 ·by_cases e:j=i
  ·subst e;rw [<-hll];have:=hbf.cnt;omega
  rw [hne j e];exact h.cnt j hj
 ·by_cases e:j=i
  ·subst e;rw [<-hll];exact hbf.stood
  rw [hne j e];exact h.stood j hj
 by_cases e:j=i
 ·subst e;rw [<-hll];exact hbf.le
 rw [hne j e];exact h.le j hj
theorem uH {A:za} {i j k:Nat} (h:i≠j):(zF A i k).th j=A.th j:=by
 unfold zF
 split
 ·exact yQ h _
 exact yQ h _
theorem zaQ {A:za} (hA:A.ok) {i k:Nat} (hi:i<4):(zF A i k).th i=⟨(A.th i).at_,(A.th i).regs,(A.th i).evs.set k ((A.th i).evs.getD k default).did,(A.th i).many⟩:=by
 unfold zF
 split
 ·exact za.zco hA hi _ _
 exact za.zco hA hi _ _
theorem vX {c:zl} {model:Int} {A:za} (hc:codeOk c=true) (h:qF c model A) {i k:Nat} (hi:i<c.threads.length) (hk:k<(A.th i).many) (hm:yJ model A i k=true):
  qF c model (zF A i k)/\yg c model (zF A i k)+1<=yg c model A:=by
 have hb:=zZ hc
 have hi4:i<4:=by omega
 have hto:=h.v.th hi4
 have hk8:k<8:=by have:=hto.ok.many;omega
 have hek:=hto.evs _ (qX (j:=k) (by rw [hto.ok.evs];exact hk8))
 have zb9:((A.th i).evs.getD k default).come=false:=by
  unfold yJ at hm
  simp only [Bool.and_eq_true,Bool.not_eq_true'] at hm
  exact hm.1
 have hth:=zaQ h.v.ok (k:=k) hi4
 have hED:zd0 c.domain ((A.th i).evs.getD k default).did:=⟨hek.v,hek.n⟩
 have hv:xQ c.domain (zF A i k):=by
  unfold zF
  split
  ·exact(h.v.yF hi4 k hED).xq _ hek.n
  exact h.v.yF hi4 k hED
 have hld:=zi4 hto.ok.evs hto.ok.many hk zb9 (A.th i).at_ (A.th i).regs
 have hne:∀j,j≠i->(zF A i k).th j=A.th j:=λj hj=>uH (Ne.symm hj)
 refine⟨⟨hv,λj hj=> ?_,λj hj=> ?_,λj hj=> ?_,λj hj hj4=>by rw [hne j (by omega)];exact h.rest j hj hj4⟩,zdI (i:=i) (by unfold jK;rw [hth];show xB _+cntF _ _ (A.th i).at_+1<=_;omega) hne _ hi⟩
 ·by_cases e:j=i
  ·subst e;rw [hth];exact h.cnt j hj
  rw [hne j e];exact h.cnt j hj
 ·by_cases e:j=i
  ·subst e;rw [hth];exact h.stood j hj
  rw [hne j e];exact h.stood j hj
 by_cases e:j=i
 ·subst e;rw [hth];exact h.le j hj
 rw [hne j e];exact h.le j hj
