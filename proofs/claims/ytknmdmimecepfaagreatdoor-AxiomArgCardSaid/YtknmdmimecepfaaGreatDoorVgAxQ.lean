/- Steps. -/
import Derived.Test.YtknmdmimecepfaaGreatDoorVgAxP
set_option linter.all false
namespace Go.Proofs.YtknmdmimecepfaaGreatDoor
open Go.RowKit
set_option maxRecDepth 100000
set_option maxHeartbeats 16000000
def wz (model:Int) (l:List zl) (t:zR):Nat:=qp t+cntF model l t.at_
theorem zco {n:Nat} {p q:Nat->Bool} (h:∀j,j<n->p j=q j):(List.range n).countP p=(List.range n).countP q:=by
 refine List.countP_congr λj hj=> ?_
 rw [h j (by simpa using hj)]
theorem zfT {t:zR} (ht:t.evs.length=8) (hm:t.many<8) (a:Nat) (r:List Int) (e:yg):qp ⟨a,r,t.evs.set t.many e,t.many+1⟩=qp t+if e.come then 0 else 1:=by
 unfold qp
 rw [List.range_succ,List.countP_append]
 have h1:(t.evs.set t.many e).getD t.many default=e:=by rw [List.getD_eq_getElem?_getD,List.getElem?_set_self (by omega)];rfl
 have h2:(List.range t.many).countP (λj=> !((t.evs.set t.many e).getD j default).come)=(List.range t.many).countP (λj=> !(t.evs.getD j default).come):=zco λj hj=>by
  rw [List.getD_eq_getElem?_getD,List.getElem?_set_ne (by omega), <-List.getD_eq_getElem?_getD]
 simp only [] at h1 h2 ⊢
 rw [h2]
 simp only [List.countP_cons,List.countP_nil,h1]
 cases e.come<;>simp
theorem zlJ {t:zR} (ht:t.evs.length=8) (hm:t.many<=8) {k:Nat} (hk:k<t.many) (hc:(t.evs.getD k default).come=false) (a:Nat) (r:List Int):qp ⟨a,r,t.evs.set k (t.evs.getD k default).did,t.many⟩+1=qp t:=by
 unfold qp
 have key:∀n,n<=8->(List.range n).countP (λj=> !((t.evs.set k (t.evs.getD k default).did).getD j default).come)+(if k<n then 1 else 0)=(List.range n).countP (λj=> !(t.evs.getD j default).come):=by
  intro n
  induction n with
  |zero=>intro _;simp
  |succ n ih=>
  intro hn
  have:=ih (by omega)
  rw [List.range_succ,List.countP_append,List.countP_append]
  simp only [List.countP_cons,List.countP_nil]
  by_cases hkn:k=n
  ·subst hkn
   rw [if_neg (by omega)] at this
   have h1:((t.evs.set k (t.evs.getD k default).did).getD k default).come=true:=by rw [List.getD_eq_getElem?_getD,List.getElem?_set_self (by omega)];rfl
   rw [h1,hc,if_pos (show k<k+1 by omega)]
   simp only [Bool.not_true,Bool.not_false,if_true,Bool.false_eq_true,if_false]
   omega
  have h1:(t.evs.set k (t.evs.getD k default).did).getD n default=t.evs.getD n default:=by rw [List.getD_eq_getElem?_getD,List.getElem?_set_ne hkn, <-List.getD_eq_getElem?_getD]
  rw [h1]
  have h2:(if k<n+1 then 1 else 0)=(if k<n then 1 else 0):=by
   by_cases h:k<n
   ·rw [if_pos h,if_pos (by omega)]
   rw [if_neg h,if_neg (by omega)]
  rw [h2];omega
 have:=key t.many hm
 rw [if_pos hk] at this
 exact this
theorem xQ {A:ze} {i j:Nat} (h:i≠j) (t:zR):(A.put i t).th j=A.th j:=ze.zrx h t
theorem ze5 {A:ze} {i j:Nat} (h:i≠j) (e:yg):(A.yP i e).th j=A.th j:=(xQ h _).trans (xQ h _)
theorem zi3 {A:ze} {i j:Nat} (h:i≠j) (dom:Int) (d:Nat) (x:zl):(xZ dom d x i A).th j=A.th j:=by
 unfold xZ
 split
 ·exact(xQ h _).trans (xQ h _)
 split
 ·exact xQ h _
 split
 ·exact xQ h _
 exact xQ h _
theorem gG {model dom:Int} {d:Nat} {l:List zl} {i j:Nat} (h:i≠j):∀(n:Nat) (A:ze),(zN model dom d l i n A).th j=A.th j:=by
 intro n
 induction n with
 |zero=>intro A;rfl
 |succ n ih=>
 intro A
 show ze.th (if _ then _ else _) j=_
 split
 ·split
  ·rfl
  rw [ih,zi3 h]
 rfl
theorem zca {model dom:Int} {d:Nat} {l:List zl} {i j:Nat} (h:i≠j):∀(n:Nat) (A:ze),(yT model dom d l i n A).th j=A.th j:=by
 intro n
 induction n with
 |zero=>intro A;exact gG h _ A
 |succ n ih=>
 intro A
 show ze.th (if _ then _ else _) j=_
 split
 ·split
  ·exact gG h _ A
  rw [ih]
  exact(xQ h _).trans ((ze5 h _).trans (gG h _ A))
 exact gG h _ A
structure zry (model:Int) (l:List zl) (i:Nat) (A B:ze):Prop where
 ok:B.ok
 stood:Stood l (B.th i)
 le:(B.th i).at_<=l.length
 cnt:(B.th i).many+cntF model l (B.th i).at_<=(A.th i).many+cntF model l (A.th i).at_
 nu:wz model l (B.th i)<=wz model l (A.th i)
theorem zhn {model:Int} {l:List zl} {i:Nat} {A B:ze} (hf:znn model l i A B):qp (B.th i)=qp (A.th i):=by
 unfold qp
 rw [hf.many,hf.evs]
theorem zka {dom:Int} {d:Nat} {regs:List Int} {x:zl} (hr:(xV dom d regs x).reads=true):x.op=1\/x.op=6\/x.op=7:=by
 unfold xV at hr
 split at hr
 ·exact .inl ‹_›
 split at hr
 ·cases hr
 split at hr
 ·cases hr
 split at hr
 ·rename_i h;exact .inr h
 cases hr
theorem zdl {model dom:Int} {d:Nat} {l:List zl} (hl:uo l) {i:Nat} (hi:i<4):∀(n:Nat) (A:ze),A.ok->l.length<=(A.th i).at_+n->(A.th i).at_<=l.length->(A.th i).many+cntF model l (A.th i).at_<=8->zry model l i A (yT model dom d l i n A):=by
 intro n
 induction n with
 |zero=>
  intro A h hn ha hc
  have hf:=wI (model:=model) (dom:=dom) (d:=d) hl hi l.length A h (by omega)
  have hcm:=zad (model:=model) (l:=l) hf.more
  refine⟨hf.ok,λhh=> ?_,hf.le ha,by show(ze.th (zN model dom d l i l.length A) i).many+_<=_;rw [hf.many];show _+cntF model l ((zN model dom d l i l.length A).th i).at_<=_;omega, ?_⟩
  ·have h1:=hf.more
   have h2:((zN model dom d l i l.length A).th i).at_<l.length:=hh
   omega
  show qp ((zN model dom d l i l.length A).th i)+cntF model l ((zN model dom d l i l.length A).th i).at_<=qp (A.th i)+_
  rw [zhn hf];omega
 |succ n ih=>
 intro A h hn ha hc
 have hf:=wI (model:=model) (dom:=dom) (d:=d) hl hi l.length A h (by omega)
 have hcm:=zad (model:=model) (l:=l) hf.more
 have hlf:=zhn hf
 obtain⟨B,hB⟩:∃B,B=zN model dom d l i l.length A:=⟨_,rfl⟩
 have zjB:yT model dom d l i (n+1) A=if (B.th i).at_<l.length then(if (xV dom d (B.th i).regs (l.getD (B.th i).at_ default)).reads then B else yT model dom d l i n ((B.yP i (xV dom d (B.th i).regs (l.getD (B.th i).at_ default))).setAt i ((B.th i).at_+1))) else B:=by rw [hB];rfl
 rw [<-hB] at hf hlf hcm
 rw [zjB]
 have hbase:zry model l i A B\/((B.th i).at_<l.length/\(xV dom d (B.th i).regs (l.getD (B.th i).at_ default)).reads=false):=by
  by_cases hat:(B.th i).at_<l.length
  ·by_cases hr:(xV dom d (B.th i).regs (l.getD (B.th i).at_ default)).reads=true
   ·refine .inl ⟨hf.ok,λ_=>zka hr,hf.le ha,by rw [hf.many];omega, ?_⟩
    show qp _+_<=qp _+_
    rw [hlf];omega
   exact .inr ⟨hat,by simpa using hr⟩
  refine .inl ⟨hf.ok,λhh=>absurd hh hat,hf.le ha,by rw [hf.many];omega, ?_⟩
  show qp _+_<=qp _+_
  rw [hlf];omega
 by_cases hat:(B.th i).at_<l.length
 rotate_left
 ·rw [if_neg hat]
  rcases hbase with hb|hb
  ·exact hb
  exact absurd hb.1 hat
 rw [if_pos hat]
 by_cases hr:(xV dom d (B.th i).regs (l.getD (B.th i).at_ default)).reads=true
 ·rw [if_pos hr]
  rcases hbase with hb|hb
  ·exact hb
  rw [hb.2] at hr;cases hr
 rw [if_neg hr]
 have hcp:=cntF_step (model:=model) hat
 rw [if_pos (hf.stop hat)] at hcp
 have bW:(B.th i).many<8:=by rw [hf.many];omega
 have hok2:(B.yP i (xV dom d (B.th i).regs (l.getD (B.th i).at_ default))).ok:=ze.ze6 (ze.zdK hf.ok hi _ _) hi (by omega)
 have hp:=ze.bQ hf.ok hi (xV dom d (B.th i).regs (l.getD (B.th i).at_ default))
 have hs:=ze.qA hok2 hi ((B.th i).at_+1)
 rw [hp] at hs
 have hlp:=zfT (ze.xB hf.ok hi).evs bW ((B.th i).at_+1) (B.th i).regs (xV dom d (B.th i).regs (l.getD (B.th i).at_ default))
 have zkb:(xV dom d (B.th i).regs (l.getD (B.th i).at_ default)).come=false:=by unfold xV;split<;>first|rfl|(split<;>first|rfl|(split<;>first|rfl|(split<;>rfl)))
 rw [zkb] at hlp
 have:=ih ((B.yP i (xV dom d (B.th i).regs (l.getD (B.th i).at_ default))).setAt i ((B.th i).at_+1)) (ze.jH hok2 hi _) (by rw [hs];show l.length<=(B.th i).at_+1+n;have:=hf.more;omega) (by rw [hs];exact hat) (by rw [hs];show(B.th i).many+1+cntF model l ((B.th i).at_+1)<=8;rw [hf.many];omega)
 have hc2:=this.cnt
 have hn2:=this.nu
 unfold wz at hn2
 rw [hs] at hc2 hn2
 refine⟨this.ok,this.stood,this.le, ?_, ?_⟩
 ·have hc2:_<=(B.th i).many+1+cntF model l ((B.th i).at_+1):=hc2
  have:=hf.many
  omega
 unfold wz
 have hn2:_<=qp ⟨(B.th i).at_+1,(B.th i).regs,(B.th i).evs.set (B.th i).many _,(B.th i).many+1⟩+cntF model l ((B.th i).at_+1):=hn2
 rw [hlp,hlf] at hn2
 simp only [Bool.false_eq_true,if_false] at hn2
 omega
structure jd (c:zo) (model:Int) (A:ze):Prop where
 v:qO c.domain A
 cnt:∀i,i<c.threads.length->(A.th i).many+cntF model (c.threads.getD i []) (A.th i).at_<=8
 stood:∀i,i<c.threads.length->Stood (c.threads.getD i []) (A.th i)
 le:∀i,i<c.threads.length->(A.th i).at_<=(c.threads.getD i []).length
 rest:∀i,c.threads.length<=i->i<4->(A.th i).at_=0
def wS (c:zo) (model:Int) (A:ze):Nat->Nat
 |0=>0
 |i+1=>wS c model A i+wz model (c.threads.getD i []) (A.th i)
def yK (c:zo) (model:Int) (A:ze):Nat:=wS c model A c.threads.length
theorem zlK {c:zo} {model:Int} {A B:ze} :∀n,(∀i,i<n->wz model (c.threads.getD i []) (B.th i)=wz model (c.threads.getD i []) (A.th i))->wS c model B n=wS c model A n:=by
 intro n
 induction n with
 |zero=>intro _;rfl
 |succ n ih=>
 intro h
 show wS c model B n+_=wS c model A n+_
 rw [ih λi hi=>h i (by omega),h n (by omega)]
theorem zfU {c:zo} {model:Int} {A B:ze} {i:Nat} (hB:wz model (c.threads.getD i []) (B.th i)+1<=wz model (c.threads.getD i []) (A.th i)) (hne:∀j,j≠i->B.th j=A.th j):∀n,i<n->wS c model B n+1<=wS c model A n:=by
 intro n
 induction n with
 |zero=>intro h;omega
 |succ n ih=>
 intro h
 show wS c model B n+wz _ _ (B.th n)+1<=wS c model A n+wz _ _ (A.th n)
 by_cases e:i=n
 ·subst e
  rw [zlK (A:=A) (B:=B) i λj hj=>by rw [hne j (by omega)]];omega
 have:=ih (by omega)
 rw [hne n (λh=>e h.symm)];omega
theorem zi4 {dom:Int} {d:Nat} {x:zl} {i j:Nat} {A:ze} (h:i≠j):(vW dom d x i A).th j=A.th j:=by
 unfold vW
 split
 ·exact xQ h _
 split
 ·rfl
 split
 ·show((A.zW i _ 0).zW i _ 1).th j=_
  exact(xQ h _).trans (xQ h _)
 exact xQ h _
theorem uY {c:zo} {model:Int} {d:Nat} {A:ze} (hc:codeOk c=true) (hf:yF c=true) (h:jd c model A) {i:Nat} (hi:i<c.threads.length) (hat:(A.th i).at_<(c.threads.getD i []).length):
  jd c model (qU model c.domain d (c.threads.getD i []) A i)/\yK c model (qU model c.domain d (c.threads.getD i []) A i)+1<=yK c model A:=by
 have hb:=yI hc
 have hi4:i<4:=by omega
 have hl:=uq hc hf hi
 have hops:=h.stood i hi hat
 have ht:=(h.stood i hi).touch model hat
 have hcp:=cntF_step (model:=model) hat
 rw [if_pos ht] at hcp
 have hcn:=h.cnt i hi
 have hth:=zho h.v.ok hi4 c.domain d ((c.threads.getD i []).getD (A.th i).at_ default)
 have hv1:=h.v.vW (d:=d) hb.2.2.1 hl hi4 hat hops
 have hE:=h.v.xV hi4 (by omega) hl hat d
 unfold qU
 obtain⟨l,hll⟩:∃l,l=c.threads.getD i [] :=⟨_,rfl⟩
 rw [<-hll] at hat hl hops ht hcp hcn hth hv1 hE ⊢
 obtain⟨M,hM⟩:∃M,M=vW c.domain d (l.getD (A.th i).at_ default) i A:=⟨_,rfl⟩
 have zvp:∀j,i≠j->M.th j=A.th j:=λj hj=>by rw [hM];exact zi4 hj
 rw [<-hM] at hth hv1 ⊢
 obtain⟨E,hEE⟩:∃E,E=xV c.domain d (A.th i).regs (l.getD (A.th i).at_ default):=⟨_,rfl⟩
 rw [<-hEE] at hE ⊢
 have hED:zfz c.domain E.did:=⟨hE.v,hE.n⟩
 have bW:(M.th i).many<8:=by rw [hth.2.1];omega
 have hv2:=hv1.yP hi4 hED bW
 have hp:=ze.bQ hv1.ok hi4 E.did
 have hs:=ze.qA hv2.ok hi4 ((A.th i).at_+1)
 rw [hp] at hs
 have hv3:=hv2.setAt hi4 ((A.th i).at_+1)
 have hlp:=zfT (ze.xB hv1.ok hi4).evs bW ((A.th i).at_+1) (M.th i).regs E.did
 have hlM:qp (M.th i)=qp (A.th i):=by unfold qp;rw [hth.2.1,hth.2.2]
 obtain⟨B,hB⟩:∃B,B=(M.yP i E.did).setAt i ((A.th i).at_+1):=⟨_,rfl⟩
 have zvq:∀j,i≠j->B.th j=A.th j:=λj hj=>by rw [hB];exact(xQ hj _).trans ((ze5 hj _).trans (zvp j hj))
 rw [<-hB] at hs hv3 ⊢
 have hcB:(B.th i).many+cntF model l (B.th i).at_<=8:=by
  rw [hs];show(M.th i).many+1+cntF model l ((A.th i).at_+1)<=8
  rw [hth.2.1];omega
 have hbf:=zdl (model:=model) (dom:=c.domain) (d:=d) hl.good hi4 l.length B hv3.ok (by omega) (by rw [hs];show(A.th i).at_+1<=_;omega) hcB
 have hnu:wz model l (B.th i)+1<=wz model l (A.th i):=by
  unfold wz
  rw [hs]
  show qp ⟨(A.th i).at_+1,(M.th i).regs,(M.th i).evs.set (M.th i).many E.did,(M.th i).many+1⟩+cntF model l ((A.th i).at_+1)+1<=_
  rw [hlp,hlM,show E.did.come=true from rfl,if_pos rfl];omega
 have hne:∀j,j≠i->(yT model c.domain d l i l.length B).th j=A.th j:=λj hj=>(zca (Ne.symm hj) _ B).trans (zvq j (Ne.symm hj))
 refine⟨⟨hv3.yT (by omega) hl hi4 _ hcB,λj hj=> ?_,λj hj=> ?_,λj hj=> ?_,λj hj hj4=>by rw [hne j (by omega)];exact h.rest j hj hj4⟩,zfU (i:=i) (by rw [<-hll];have:=hbf.nu;omega) hne _ hi⟩
 ·by_cases e:j=i
  ·subst e;rw [<-hll];have:=hbf.cnt;omega
  rw [hne j e];exact h.cnt j hj
 ·by_cases e:j=i
  ·subst e;rw [<-hll];exact hbf.stood
  rw [hne j e];exact h.stood j hj
 by_cases e:j=i
 ·subst e;rw [<-hll];exact hbf.le
 rw [hne j e];exact h.le j hj
theorem zhp {A:ze} {i j k:Nat} (h:i≠j):(yj A i k).th j=A.th j:=by
 unfold yj
 split
 ·exact xQ h _
 exact xQ h _
theorem zlL {A:ze} (hA:A.ok) {i k:Nat} (hi:i<4):(yj A i k).th i=⟨(A.th i).at_,(A.th i).regs,(A.th i).evs.set k ((A.th i).evs.getD k default).did,(A.th i).many⟩:=by
 unfold yj
 split
 ·exact ze.zdL hA hi _ _
 exact ze.zdL hA hi _ _
theorem wR {c:zo} {model:Int} {A:ze} (hc:codeOk c=true) (h:jd c model A) {i k:Nat} (hi:i<c.threads.length) (hk:k<(A.th i).many) (hm:qB model A i k=true):
  jd c model (yj A i k)/\yK c model (yj A i k)+1<=yK c model A:=by
 have hb:=yI hc
 have hi4:i<4:=by omega
 have hto:=h.v.th hi4
 have hk8:k<8:=by have:=hto.ok.many;omega
 have hek:=hto.evs _ (jm (j:=k) (by rw [hto.ok.evs];exact hk8))
 have zkb:((A.th i).evs.getD k default).come=false:=by
  unfold qB at hm
  simp only [Bool.and_eq_true,Bool.not_eq_true'] at hm
  exact hm.1
 have hth:=zlL h.v.ok (k:=k) hi4
 have hED:zfz c.domain ((A.th i).evs.getD k default).did:=⟨hek.v,hek.n⟩
 have hv:qO c.domain (yj A i k):=by
  unfold yj
  split
  ·exact(h.v.yV hi4 k hED).ql _ hek.n
  exact h.v.yV hi4 k hED
 have hld:=zlJ hto.ok.evs hto.ok.many hk zkb (A.th i).at_ (A.th i).regs
 have hne:∀j,j≠i->(yj A i k).th j=A.th j:=λj hj=>zhp (Ne.symm hj)
 refine⟨⟨hv,λj hj=> ?_,λj hj=> ?_,λj hj=> ?_,λj hj hj4=>by rw [hne j (by omega)];exact h.rest j hj hj4⟩,zfU (i:=i) (by unfold wz;rw [hth];show qp _+cntF _ _ (A.th i).at_+1<=_;omega) hne _ hi⟩
 ·by_cases e:j=i
  ·subst e;rw [hth];exact h.cnt j hj
  rw [hne j e];exact h.cnt j hj
 ·by_cases e:j=i
  ·subst e;rw [hth];exact h.stood j hj
  rw [hne j e];exact h.stood j hj
 by_cases e:j=i
 ·subst e;rw [hth];exact h.le j hj
 rw [hne j e];exact h.le j hj
