/- Steps. -/
import Derived.Test.YteggflahafiieaaGreatDoorZgSmallW
set_option linter.all false
namespace Go.Proofs.YteggflahafiieaaGreatDoor
open Go.RowKit
set_option maxRecDepth 100000
set_option maxHeartbeats 16000000
theorem u8_in {x:Int} (h:(Lit.int .u8 x).wf=true):0<=x/\x<=255:=by
 constructor
 ·simp [Lit.wf,IntKind.min,IntKind.max,IntKind.signed] at h;omega
 simp [Lit.wf,IntKind.min,IntKind.max,IntKind.signed,IntKind.bits] at h;omega
theorem wrap_u8 {x:Int} (h0:0<=x) (h1:x<=255):IntKind.i64.wrap x=x:=IntWalk.i64_in _ (by omega)
theorem jB {dom n:Int} :yU dom n=true↔0<=n/\n<dom:=by unfold yU;simp
def zcA (c:zK) (m:zF) (row:List zT) (t:zo):Prop:=0<=t.pc/\t.pc<=(row.length:Int)/\(∀k,k<4->yU c.domain (t.regs.getD k 0)=true)/\∀k,k<t.buf.length->xU c m t.buf k=true
theorem zaU {c:zK} {m:zF} {s:zm} :xR c m s=true↔jP c m=true/\s.threads.length=c.threads.length/\(s.mem.length:Int)=c.vars/\(∀k,k<s.mem.length->yU c.domain (s.mem.getD k 0)=true)/\∀i,i<s.threads.length->zcA c m (c.threads.getD i []) (s.threads.getD i default):=by
 unfold xR qD zcA
 simp only [Bool.and_eq_true,decide_eq_true_eq,List.all_eq_true,List.mem_range]
 constructor
 ·rintro⟨⟨⟨⟨h1,h2⟩,h3⟩,h4⟩,h5⟩
  exact⟨h1,h2,h3,h4,λi hi=>⟨(h5 i hi).1.1.1,(h5 i hi).1.1.2,(h5 i hi).1.2,(h5 i hi).2⟩⟩
 rintro⟨h1,h2,h3,h4,h5⟩
 exact⟨⟨⟨⟨h1,h2⟩,h3⟩,h4⟩,λi hi=>⟨⟨⟨(h5 i hi).1,(h5 i hi).2.1⟩,(h5 i hi).2.2.1⟩,(h5 i hi).2.2.2⟩⟩
theorem zjA {c:zK} {m:zF} (h:jP c m=true):codeOk c=true/\2<=c.domain:=by
 unfold jP at h
 simp only [Bool.and_eq_true,decide_eq_true_eq] at h
 exact⟨h.1.1.1.1,(qA h.1.1.1.1).2.2.1⟩
theorem zx9 {regs:List Int} {dom:Int} (hd:1<=dom) (hr:∀k,k<4->yU dom (regs.getD k 0)=true) {x:zH} {e:Nat} (hx:zL dom e x=true) (d:Nat):yU dom (zZ regs dom d x)=true:=by
 cases d with
 |zero=>rw [jB];unfold zZ;omega
 |succ d=>
 unfold zZ
 cases e with
 |zero=>cases hx
 |succ e=>
 unfold zL at hx
 split
 ·rename_i h1
  rw [if_pos h1] at hx
  simp only [Bool.and_eq_true,decide_eq_true_eq] at hx
  rw [jB];exact hx.1.1
 split
 ·split
  ·rename_i h;exact hr _ (by omega)
  rw [jB];omega
 split
 ·rw [jB];exact⟨Int.emod_nonneg _ (by omega),Int.emod_lt_of_pos _ (by omega)⟩
 rw [jB];omega
theorem zdA {dom:Int} {l:List Int} (hl:∀k,k<l.length->yU dom (l.getD k 0)=true) (v:Nat) {n:Int} (hn:yU dom n=true):∀k,k<(l.set v n).length->yU dom ((l.set v n).getD k 0)=true:=λk hk=>by
 rw [List.length_set] at hk
 by_cases e:k=v
 ·subst e
  rw [List.getD_eq_getElem?_getD,List.getElem?_set_self hk];exact hn
 rw [List.getD_eq_getElem?_getD,List.getElem?_set_ne (Ne.symm e), <-List.getD_eq_getElem?_getD];exact hl k hk
theorem zxA {dom:Int} {l:List Int} (hl:∀k,k<4->yU dom (l.getD k 0)=true) (v:Nat) {n:Int} (hn:yU dom n=true):∀k,k<4->yU dom ((l.set v n).getD k 0)=true:=λk hk=>by
 by_cases e:k=v
 ·subst e
  by_cases hk2:k<l.length
  ·rw [List.getD_eq_getElem?_getD,List.getElem?_set_self hk2];exact hn
  rw [List.set_eq_of_length_le (by omega)];exact hl k hk
 rw [List.getD_eq_getElem?_getD,List.getElem?_set_ne (Ne.symm e), <-List.getD_eq_getElem?_getD];exact hl k hk
theorem bS {c:zK} {m:zF} {l:List zi} {k:Nat} (h:xU c m l k=true):xY (l.take k) m (l.getD k default)=true/\0<=(l.getD k default).var/\(l.getD k default).var<c.vars/\yU c.domain (l.getD k default).n=true:=by
 unfold xU at h
 simp only [Bool.and_eq_true,decide_eq_true_eq] at h
 exact⟨h.1.1.1.1,h.1.1.1.2,h.1.1.2,jB.2 ⟨h.1.2,h.2⟩⟩
theorem zeu {c:zK} {m:zF} {l:List zi} {k:Nat} (h1:xY (l.take k) m (l.getD k default)=true) (h2:0<=(l.getD k default).var) (h3:(l.getD k default).var<c.vars) (h4:yU c.domain (l.getD k default).n=true):xU c m l k=true:=by
 unfold xU
 simp only [Bool.and_eq_true,decide_eq_true_eq]
 exact⟨⟨⟨⟨h1,h2⟩,h3⟩,(jB.1 h4).1⟩,(jB.1 h4).2⟩
theorem zvm {c:zK} {m:zF} {l:List zi} (h:∀k,k<l.length->xU c m l k=true) (v:Int):∀i n,i<=l.length->gU l v i=some n->yU c.domain n=true:=by
 intro i
 induction i with
 |zero=>intro n _ h2;unfold gU at h2;cases h2
 |succ i ih=>
 intro n hi h2
 unfold gU at h2
 split at h2
 ·cases h2;exact(bS (h i (by omega))).2.2.2
 exact ih n (by omega) h2
theorem zvn {c:zK} {m:zF} {l:List zi} (h:∀k,k<l.length->xU c m l k=true) {x:zi} (hp:xY l m x=true) (h2:0<=x.var) (h3:x.var<c.vars) (h4:yU c.domain x.n=true):∀k,k<(l++ [x]).length->xU c m (l++ [x]) k=true:=λk hk=>by
 rw [List.length_append,List.length_singleton] at hk
 by_cases e:k=l.length
 ·subst e
  have hg:(l++ [x]).getD l.length default=x:=zbf
  exact zeu (by rw [hg,List.take_left];exact hp) (by rw [hg];exact h2) (by rw [hg];exact h3) (by rw [hg];exact h4)
 have hk2:k<l.length:=by omega
 have hg:(l++ [x]).getD k default=l.getD k default:=zbg hk2
 obtain⟨a1,a2,a3,a4⟩:=bS (h k hk2)
 exact zeu (by rw [hg,List.take_append_of_le_length (by omega)];exact a1) (by rw [hg];exact a2) (by rw [hg];exact a3) (by rw [hg];exact a4)
theorem znI {l r:List zi} {m:zF} {x:zi} (h:xY l m x=true) (hs:r.Sublist l):xY r m x=true:=by
 unfold xY zc5 at h ⊢
 simp only [Bool.and_eq_true,decide_eq_true_eq] at h ⊢
 have:=hs.countP_le (p:=λy=>decide (m.model=1)||decide (y.var=x.var))
 exact⟨h.1,by omega⟩
theorem zqA {c:zK} {m:zF} {l:List zi} (h:∀k,k<l.length->xU c m l k=true) (p:Nat):∀k,k<(l.eraseIdx p).length->xU c m (l.eraseIdx p) k=true:=λk hk=>by
 by_cases hp:p<l.length
 rotate_left
 ·rw [List.eraseIdx_of_length_le (by omega)] at hk ⊢
  exact h k hk
 have hl:(l.eraseIdx p).length=l.length - 1:=List.length_eraseIdx_of_lt hp
 rw [hl] at hk
 by_cases e:k<p
 ·have hg:(l.eraseIdx p).getD k default=l.getD k default:=by
   simp only [List.getD_eq_getElem?_getD,List.getElem?_eraseIdx,if_pos e]
  obtain⟨a1,a2,a3,a4⟩:=bS (h k (by omega))
  have ht:((l.eraseIdx p).take k).Sublist (l.take k):=by
   rw [List.eraseIdx_eq_take_drop_succ,List.take_append_of_le_length (by rw [List.length_take];omega),List.take_take,Nat.min_eq_left (by omega)]
   exact List.Sublist.refl _
  exact zeu (by rw [hg];exact znI a1 ht) (by rw [hg];exact a2) (by rw [hg];exact a3) (by rw [hg];exact a4)
 have hg:(l.eraseIdx p).getD k default=l.getD (k+1) default:=by
  simp only [List.getD_eq_getElem?_getD,List.getElem?_eraseIdx,if_neg e]
 obtain⟨a1,a2,a3,a4⟩:=bS (h (k+1) (by omega))
 have ht:((l.eraseIdx p).take k).Sublist (l.take (k+1)):=by
  rw [List.eraseIdx_eq_take_drop_succ,List.take_append,List.length_take,Nat.min_eq_left (by omega),List.take_take,Nat.min_eq_right (by omega)]
  have:l.take (k+1)=l.take p++(l.drop p).take (k+1 - p):=by
   rw [<-List.take_append_drop p l,List.take_append,List.length_take,Nat.min_eq_left (by omega),List.take_take,Nat.min_eq_right (by omega),List.take_append_drop]
  rw [this]
  refine List.Sublist.append_left ?_ _
  rw [show k+1 - p=(k - p)+1 by omega,List.drop_eq_getElem_cons hp,List.take_succ_cons]
  exact List.sublist_cons_self _ _
 exact zeu (by rw [hg];exact znI a1 ht) (by rw [hg];exact a2) (by rw [hg];exact a3) (by rw [hg];exact a4)
theorem zdr (l:List zi) (v:Int):∀i,i<=l.length->((yC l v i).1=none->(yC l v i).2=l.take i)/\∀e,(yC l v i).1=some e->∃p,p<i/\l.getD p default=e/\(yC l v i).2=(l.take i).eraseIdx p:=by
 intro i
 induction i with
 |zero=>intro _;exact⟨λ_=>rfl,λe h=>by cases h⟩
 |succ i ih=>
 intro hi
 obtain⟨h1,h2⟩:=ih (by omega)
 have htk:l.take (i+1)=l.take i++ [l.getD i default] :=by rw [List.take_succ_eq_append_getElem (by omega),List.getD_eq_getElem?_getD,List.getElem?_eq_getElem (by omega)];rfl
 unfold yC
 split
 ·rename_i h
  simp only [Bool.and_eq_true,decide_eq_true_eq,Option.isNone_iff_eq_none] at h
  refine⟨(λe=>by cases e),λe he=> ?_⟩
  cases he
  refine⟨i,by omega,rfl, ?_⟩
  rw [htk,List.eraseIdx_append_of_length_le (by rw [List.length_take];omega),List.length_take,Nat.min_eq_left (by omega),Nat.sub_self]
  simp [h1 h.1]
 refine⟨λe=>by rw [htk, <-h1 e],λe he=> ?_⟩
 obtain⟨p,hp,hpe,h3⟩:=h2 e he
 refine⟨p,by omega,hpe, ?_⟩
 rw [htk,List.eraseIdx_append_of_lt_length (by rw [List.length_take];omega)]
 show(yC l v i).2++ [l.getD i default] =_
 rw [h3]
theorem zoG {vars dom:Int} {many:Nat} {x:zT} (h:xW vars dom many x=true):(x.op=12->zL dom 20 x.a=true/\0<=x.dest/\x.dest<=many)/\(x.op=13->0<=x.dest/\x.dest<=many)/\(¬x.op=12->¬x.op=13->qm x.op x.reg x.var x.a x.b vars dom=true):=by
 unfold xW at h
 refine⟨λe=> ?_,λe=> ?_,λe1 e2=> ?_⟩
 ·rw [if_pos e] at h
  unfold qW qm at h
  simp only [Bool.and_eq_true,decide_eq_true_eq] at h
  have:=h.2.1.2
  unfold wV at this
  rw [if_pos (by decide)] at this
  exact⟨this,h.1.1.2,h.1.2⟩
 ·rw [if_neg (by omega),if_pos e] at h
  unfold qW at h
  simp only [Bool.and_eq_true,decide_eq_true_eq] at h
  exact⟨h.1.1.2,h.1.2⟩
 rw [if_neg e1,if_neg e2] at h
 split at h
 ·cases h
 unfold qW at h
 simp only [Bool.and_eq_true] at h
 exact h.2
theorem zaF {k reg v:Int} {a b:zH} {vars dom:Int} (h:qm k reg v a b vars dom=true):(kM k=true->0<=v/\v<vars)/\(kN k=true->zL dom 20 a=true)/\(hasB k=true->zL dom 20 b=true):=by
 unfold qm at h
 simp only [Bool.and_eq_true] at h
 obtain⟨⟨⟨-,h2⟩,h3⟩,h4⟩:=h
 refine⟨λe=> ?_,λe=> ?_,λe=> ?_⟩
 ·unfold wU at h2;rw [if_pos e] at h2;simpa using h2
 ·unfold wV at h3;rw [if_pos e] at h3;exact h3
 unfold bG at h4;rw [if_pos e] at h4;exact h4
theorem zqB {c:zK} {m:zF} {s:zm} {t:zo} {x:zT} {d:Nat} {row:List zT} {r:zo × List Int × Bool} (hm:jP c m=true) (ht:zcA c m row t) (hpc:t.pc<(row.length:Int)) (hx:xW c.vars c.domain row.length x=true)
  (hv:(s.mem.length:Int)=c.vars) (hmem:∀k,k<s.mem.length->yU c.domain (s.mem.getD k 0)=true) (h:stepT c m s t x d=some r):zcA c m row r.1/\∀k,k<r.2.1.length->yU c.domain (r.2.1.getD k 0)=true:=by
 obtain⟨hcode,hdom⟩:=zjA hm
 obtain⟨t1,t2,t3,t4⟩:=ht
 obtain⟨f12,f13,fp⟩:=zoG hx
 have hnext:zcA c m row ⟨t.pc+1,t.regs,t.buf⟩:=⟨by show 0<=t.pc+1;omega,by show t.pc+1<=_;omega,t3,t4⟩
 have hset:∀(rg:Nat) (n:Int),yU c.domain n=true->zcA c m row ⟨t.pc+1,t.regs.set rg n,t.buf⟩:=λrg n hn=>⟨by show 0<=t.pc+1;omega,by show t.pc+1<=_;omega,zxA t3 rg hn,t4⟩
 have h0:yU c.domain 0=true:=by rw [jB];omega
 have h1:yU c.domain 1=true:=by rw [jB];omega
 have hev:∀y,zL c.domain 20 y=true->yU c.domain (zZ t.regs c.domain d y)=true:=λy hy=>zx9 (by omega) t3 hy d
 by_cases e1:x.op=1
 ·obtain⟨p1, -, -⟩:=zaF (fp (by omega) (by omega))
  have hvr:=p1 (by rw [e1];rfl)
  rw [kY e1] at h;cases h
  refine⟨hset _ _ ?_,hmem⟩
  cases hl:kF t.buf x.var with
  |none=>exact hmem _ (by omega)
  |some n=>exact zvm t4 x.var _ n (Nat.le_refl _) hl
 by_cases e2:x.op=2
 ·obtain⟨p1,p2, -⟩:=zaF (fp (by omega) (by omega))
  have hvr:=p1 (by rw [e2];rfl)
  have ha:=hev _ (p2 (by rw [e2];rfl))
  by_cases hmo:m.model=0
  ·rw [kJ e2 hmo] at h;cases h;exact⟨hnext,zdA hmem _ ha⟩
  cases hp:xY t.buf m ⟨x.var,zZ t.regs c.domain d x.a⟩ with
  |true=>
   rw [kK e2 hmo hp] at h;cases h
   refine⟨⟨by show 0<=t.pc+1;omega,by show t.pc+1<=_;omega,t3, ?_⟩,hmem⟩
   show∀k,k<(vF t.buf m ⟨x.var,zZ t.regs c.domain d x.a⟩).length->xU c m (vF t.buf m ⟨x.var,zZ t.regs c.domain d x.a⟩) k=true
   unfold vF
   rw [if_pos hp]
   exact zvn t4 hp hvr.1 hvr.2 ha
  |false=>rw [kL e2 hmo hp] at h;cases h
 by_cases e3:x.op=3
 ·obtain⟨-,p2, -⟩:=zaF (fp (by omega) (by omega))
  rw [uW e3] at h;cases h;exact⟨hset _ _ (hev _ (p2 (by rw [e3];rfl))),hmem⟩
 by_cases e4:x.op=4
 ·rw [ku e4] at h;split at h<;>cases h;exact⟨hnext,hmem⟩
 by_cases e5:x.op=5
 ·rw [jV e5] at h;split at h<;>cases h;exact⟨hnext,hmem⟩
 by_cases e6:x.op=6
 ·obtain⟨-, -,p3⟩:=zaF (fp (by omega) (by omega))
  have hb:=hev _ (p3 (by rw [e6];rfl))
  by_cases hv2:s.mem.getD x.var.toNat 0=zZ t.regs c.domain d x.a
  ·rw [kZ e6 hv2] at h;split at h<;>cases h;exact⟨hset _ _ h1,zdA hmem _ hb⟩
  rw [wh e6 hv2] at h;split at h<;>cases h;exact⟨hset _ _ h0,hmem⟩
 by_cases e7:x.op=7
 ·rw [jW e7] at h;split at h<;>cases h;exact⟨hnext,zdA hmem _ h1⟩
 by_cases e8:x.op=8
 ·rw [jG e8] at h;split at h<;>cases h;exact⟨hnext,zdA hmem _ h0⟩
 by_cases e9:x.op=9
 ·rw [jk e9] at h;cases h;exact⟨hnext,hmem⟩
 by_cases e12:x.op=12
 ·have hd:=f12 e12
  rw [jH e12] at h;cases h
  refine⟨?_,hmem⟩
  show zcA c m row (if _ then _ else _)
  split
  ·exact⟨hd.2.1,hd.2.2,t3,t4⟩
  exact hnext
 by_cases e13:x.op=13
 ·have hd:=f13 e13
  rw [gV e13] at h;cases h;exact⟨⟨hd.1,hd.2,t3,t4⟩,hmem⟩
 rw [uF e1 e2 e3 e4 e5 e6 e7 e8 e9 e12 e13] at h;cases h;exact⟨hnext,hmem⟩
theorem znJ {c:zK} {m:zF} {s:zm} (h:xR c m s=true) {i:Nat} {t:zo} {mem:List Int} {bad:Bool} (hi:i<s.threads.length) (ht:zcA c m (c.threads.getD i []) t) (hl:mem.length=s.mem.length) (hmem:∀k,k<mem.length->yU c.domain (mem.getD k 0)=true):xR c m ⟨s.threads.set i t,mem,bad⟩=true:=by
 obtain⟨h1,h2,h3, -,h5⟩:=zaU.1 h
 refine zaU.2 ⟨h1,by simpa using h2,by show(mem.length:Int)=_;rw [hl];exact h3,hmem,λj hj=> ?_⟩
 have hj2:j<s.threads.length:=by simpa using hj
 show zcA c m _ ((s.threads.set i t).getD j default)
 by_cases e:j=i
 ·subst e
  have hg:(s.threads.set j t).getD j default=t:=by rw [List.getD_eq_getElem?_getD,List.getElem?_set_self hj2];rfl
  rw [hg];exact ht
 have hg:(s.threads.set i t).getD j default=s.threads.getD j default:=by rw [List.getD_eq_getElem?_getD,List.getElem?_set_ne (Ne.symm e), <-List.getD_eq_getElem?_getD]
 rw [hg];exact h5 j hj2
theorem zsG {c:zK} (h:codeOk c=true) {i k:Nat} (hi:i<c.threads.length) (hk:k<(c.threads.getD i []).length):xW c.vars c.domain (c.threads.getD i []).length ((c.threads.getD i []).getD k default)=true:=by
 unfold codeOk at h
 simp only [Bool.and_eq_true] at h
 have h1:=h.2
 rw [List.all_eq_true] at h1
 have h2:=h1 _ (qP (x:= []) hi)
 unfold rowOk at h2
 simp only [Bool.and_eq_true] at h2
 have h4:=h2.2
 rw [List.all_eq_true] at h4
 exact h4 _ (qP hk)
theorem zxz {c:zK} {m:zF} {s:zm} {d:Nat} {x:zN} (h:x∈qM c m s d):xR c m (ji c m s x d).1=true:=by
 obtain⟨hf, -⟩:=zdc h
 obtain⟨h1,h2,h3,h4,h5⟩:=zaU.1 hf
 obtain⟨hcode, -⟩:=zjA h1
 obtain⟨i,hi,hx⟩:=zcu h
 have hti:=h5 i hi
 rcases hx with⟨rfl,t,ht,he⟩|⟨v,rfl,hv,he⟩
 ·rw [he]
  unfold vT at ht
  split at ht
  ·rename_i hpc
   obtain⟨r,hr,rfl⟩:=Option.map_eq_some_iff.1 ht
   have hk:(s.threads.getD i default).pc.toNat<(c.threads.getD i []).length:=by have:=hti.1;omega
   obtain⟨g1,g2⟩:=zqB h1 hti hpc (zsG hcode (by omega) hk) h3 h4 hr
   exact znJ hf hi g1 (zjq hr) g2
  cases ht
 rw [he]
 obtain⟨v0,v1,n,hn⟩:=zaC hf hi hv
 obtain⟨-,k2⟩:=zdr (s.threads.getD i default).buf v _ (Nat.le_refl _)
 have hn1:(takeB (s.threads.getD i default).buf v).1=some ⟨v,n⟩:=by rw [hn]
 obtain⟨p,hp,hpe,hp2⟩:=k2 _ hn1
 rw [List.take_length] at hp2
 have hw:=bS (hti.2.2.2 p hp)
 rw [hpe] at hw
 unfold kI
 rw [hn1]
 refine znJ hf hi ⟨hti.1,hti.2.1,hti.2.2.1, ?_⟩ (by simp) (zdA h4 _ hw.2.2.2)
 show∀k,k<(takeB (s.threads.getD i default).buf v).2.length->xU c m (takeB (s.threads.getD i default).buf v).2 k=true
 rw [show(takeB (s.threads.getD i default).buf v).2=(s.threads.getD i default).buf.eraseIdx p from hp2]
 exact zqA hti.2.2.2 p
