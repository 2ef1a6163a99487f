/- Steps. -/
import Derived.Test.YtmijlmglnnbdjaaGreatDoorUtBuf
set_option linter.all false
namespace Go.Proofs.YtmijlmglnnbdjaaGreatDoor
open Go.RowKit
set_option maxRecDepth 100000
set_option maxHeartbeats 16000000
def wO (x:Int):List Int->List Int
 | [] => [x]
 |y::l=>if x<y then x::y::l else y::wO x l
theorem zmd (x:Int) (l:List Int):(wO x l).length=l.length+1:=by
 induction l with
 |nil=>rfl
 |cons y l ih=>unfold wO;split<;>simp [ih]
def xB (l:List zq):Nat->List Int
 |0=> []
 |i+1=>if (List.range i).all (λk=>decide (¬(l.getD k default).var=(l.getD i default).var)) then wO (l.getD i default).var (xB l i) else xB l i
def yX (l:List zq) (model:Int):List Int:=
 if model=2 then xB l l.length else if model=1 then(match l with| [] => [] |x::_=> [x.var]) else []
theorem zhf (l:List zq) (i:Nat):(xB l i).length<=i:=by
 induction i with
 |zero=>simp [xB]
 |succ i ih=>
 unfold xB;split
 ·rw [zmd];omega
 omega
def zc7 (x:Int) (done:Bool) (l:List Int):List Int:=if done then l else wO x l
theorem drop_at {l:List Int} {k:Nat} (b:k<l.length):l.drop k=l.getD k 0::l.drop (k+1):=by
 rw [List.drop_eq_getElem_cons b,List.getD_eq_getElem?_getD,List.getElem?_eq_getElem b];rfl
theorem cell_one_new (w:World) (v:Value) (e:TypeId):∀j u, [v][j]? =some u->(w.alloc (.cells #[v] e)).cell? ((⟨w.heap.size,0,none⟩:Addr).add j)=some u:=by
 intro j u b;cases j with
 |zero=>
  simp only [List.getElem?_cons_zero,Option.some.injEq] at b;subst b;have:=ze (zQ w (.cells #[v] e)) 0
  simp [Addr.add]
 |succ j=>simp at b
theorem zvJ (l:List Int) (x:Int):zx xI (l++ [x])=zx xI l++ [I4 x] :=by rw [kS];rfl
theorem _root_.Go.World.ownsRow.zeo {w:World} {B:Nat} {e:TypeId} {size:Nat} {v:Value} {n:Nat} {xs:List Value} (h:w.ownsRow B e size v n xs) (k:Nat):(w.drewN k).ownsRow B e size v n xs:=(Since.drewN (λ_=>False) k (Since.refl _ w)).row h (λ_ _ h=>h)
theorem zaQ {B:Nat} {w X:World} {a g:Option Addr} {n c f:Nat} {l:List Int} {x:Int} {o:Obj} (h:w.ownsRow B 3 1 (.slice a n c) n (zx xI l)) (m:X.ownsRow B 3 1 (.slice g (n+1) f) (n+1) (zx xI l++ [I4 x]))
  (j:Since (λk=>(Value.slice a n c).ownBlock=some k) (w.alloc o) X) {V:World} (d:Below V.heap.size V w) (i:V.heap.size<=B):X.ownsRow B 3 1 (.slice g (n+1) f) (n+1) (zx xI (l++ [x]))/\Below V.heap.size V X:=by
 refine⟨by rw [zvJ];exact m,d.trans ((((Since.refl _ w).alloc o).trans j (λk b=> .inl b)).below d.size (λk b=>Nat.le_trans i (h.lt k b).1))⟩
theorem zkE (w:World) (bv:Value) (l:List zq) (h:zX w bv l) (hl:l.length<=1000000) (b:Int):
  Calls Tryz.prog 58 #[bv,I4 b] w λe w'=>(∃sv sn,e= .returned sv/\sn=(yX l b).length/\w'.ownsRow w.heap.size 3 1 sv sn (zx xI (yX l b)))/\Below w.heap.size w w':=by
 obtain⟨ba,bc,rfl, -⟩:=zh.slice h;obtain⟨n,hn⟩:=qxE l.length;rw [<-hn] at h hl ⊢;have HL:=qh h;have Q:=qh hn;clear h hn;go_enter Tryz.func58,Tryz.ntmps58
 by_cases hm:b=2
 rotate_left
 ·have hmI:((b:Int) !=2)=true:=by simp [hm]
  by_cases hm1:b=1
  rotate_left
  ·have zFc:((b:Int)==1)=false:=by simp [hm1]
   have F:J2 (yX l b= []):=by rw [J2];unfold yX;rw [if_neg hm,if_neg hm1]
   rw [F.o];clear F hm hm1;go_wp2_with fail
   go_ret;exact⟨⟨_,0,by first|rfl|simp,rfl,World.ownsRow_nil _ _ _ _⟩,Below.refl _ _⟩
  subst hm1;clear hm;by_cases hn0:n=0
  ·have F:J2 (yX l 1= []):=by rw [J2,show l= [] from List.eq_nil_of_length_eq_zero (by rw [<-Q.o];exact hn0)];rfl
   rw [F.o];clear F;subst hn0;go_wp2_with fail
   go_ret;exact⟨⟨_,0,by first|rfl|simp,rfl,World.ownsRow_nil _ _ _ _⟩,Below.refl _ _⟩
  have hnI:(0:Int)<(n:Int):=by omega
  obtain⟨eb,eo,yI, -,v, -⟩:=HL.o.part 0 (by rw [<-Q.o];omega)
  subst yI;obtain⟨x,hx⟩:=qxE ((l.getD 0 default).var);rw [<-hx,Nat.zero_mul,Nat.add_zero] at v
  have F:J2 (yX l 1= [x]):=by
   rw [J2,hx];have h1:=Q.o;cases l with
   |nil=>simp at h1;omega
   |cons a r=>rfl
  rw [F.o];clear F hx;go_wp2_with(at_builtin;go_must(refine zO _ rfl _ _ 27 rfl 3 (I4 0) 1 8 Tryz.underlying27 jG rfl (by decide) w.heap.size (N7) 0 (zx xI []) rfl (World.ownsRow_nil _ _ _ _) ⟨w.heap.size,0,none⟩ 1 1 [I4 x] rfl rfl (cell_one_new _ _ _) (by simp [Value.oneCell']) (by unfold maxLen;omega) (by omega) (by simp) ?_);intro ja jc X j C B g A z;have G:=qh (zaQ (World.ownsRow_nil w w.heap.size _ _) j g (Below.refl _ _) (Nat.le_refl _));clear j C B g A z);go_ret;exact⟨⟨.slice ja 1 jc,1,by first|rfl|simp,rfl,G.o.1⟩,G.o.2⟩
 subst hm;have F:J2 (yX l 2=xB l n):=by rw [J2,Q.o];rfl
 rw [F.o];clear F;go_wp2_with fail
 go_loopg [5,6] n (λgg s5 s6 wr=>∃(i:Nat) (oa:Option Addr) (f oc:Nat),i<=n/\J2 (gg=n - i)/\s5= .slice oa f oc/\s6=I4 i/\J2 (wr.ownsRow w.heap.size 3 1 (.slice oa f oc) f (zx xI (xB l i)))/\f=(xB l i).length/\J2 (Below w.heap.size w wr))
 case atStart=>exact⟨0,none,0,0,Nat.zero_le _,rfl,rfl,rfl,World.ownsRow_nil _ _ _ _,rfl,Below.refl _ _⟩
 case round=>
 obtain⟨i,oa,f,oc,hi,HG,rfl,rfl,HO,hon,zZ⟩:=hrel;obtain⟨wo,rfl⟩:=qxE (wr:World);have P:=qh hon;have zFd:f<=n:=by have:=zhf l i;omega
 clear hon;by_cases hlt:i<n
 rotate_left
 ·obtain rfl:n=i:=by omega
  go_wp2_with fail
  go_ret;exact⟨⟨.slice oa f oc,f,by first|rfl|simp,P.o,HO.o⟩,zZ.o⟩
 have vC:(i:Int)<(n:Int):=by omega
 obtain⟨eb,eo,yI, -,v, -⟩:=HL.o.part i (by rw [<-Q.o];exact hlt);subst yI;obtain⟨x,hx⟩:=qxE ((l.getD i default).var);rw [<-hx] at v;have HX:=qh hx;have HE1:J2 (∀X,Below w.heap.size w X->K3 X eb (eo+i*2) (I4 x)):=λX hX=>zl hX _ _ v;clear hx v;have hst:xB l (i+1)=if (List.range i).all (λk=>decide (¬(l.getD k default).var=x)) then wO x (xB l i) else xB l i:=by rw [HX.o];rfl
 have H:=qh hst;clear hst;go_wp2_with fail
 go_loopg [7,8] i (λgg s7 s8 wr=>∃(k:Nat) (first:Bool),k<=i/\J2 (gg=i - k)/\s7= .bool first/\s8=I4 k/\J2 (first=(List.range k).all (λk=>decide (¬(l.getD k default).var=x)))/\J2 (Below wo.heap.size wo wr))
 case atStart=>exact⟨0,true,Nat.zero_le _,rfl,rfl,rfl,rfl,Below.refl _ _⟩
 case round=>
 obtain⟨k,first,hk,K,rfl,rfl,HFI,p⟩:=hrel;have O:=qh (zy zZ.o p.o);have e1:=HE1.o wr O.o;by_cases hki:k<i
 ·have hkI:(k:Int)<(i:Int):=by omega
  have hkn:(k:Int)<(n:Int):=by omega
  obtain⟨eb',eo',z9Q, -,V, -⟩:=HL.o.part k (by rw [<-Q.o];omega)
  cases z9Q
  obtain⟨y,R⟩:=qxE ((l.getD k default).var);rw [<-R] at V;have e2:=zl O.o _ _ V;have hnx:(List.range (k+1)).all (λk=>decide (¬(l.getD k default).var=x))=(first && decide (¬y=x)):=by rw [List.range_succ,List.all_append, <-HFI.o,R];simp
  have W:=qh hnx;clear R V hnx;cases first with
  |false=>
   go_wp2_with fail
   go_quiet (fail)
   go_wp2_with fail
   go_roundg (i - (k+1))
   case measure=>rw [K.o];omega
   case rel=>exact⟨k+1,false,by omega,rfl,rfl,by simp,by rw [J2,W.o];rfl,yw p.o _⟩
  |true=>
  by_cases a1:y=x
  ·have a1b:((y:Int) !=x)=false:=by simp [a1]
   have N:J2 ((List.range (k+1)).all (λk=>decide (¬(l.getD k default).var=x))=false):=by rw [J2,W.o];simp [a1]
   clear a1;go_wp2_with fail
   go_quiet (fail)
   go_wp2_with fail
   go_roundg (i - (k+1))
   case measure=>rw [K.o];omega
   case rel=>exact⟨k+1,false,by omega,rfl,by first|rfl|simp,by simp,N.o.symm,yw p.o _⟩
  have a1b:((y:Int) !=x)=true:=by simp [a1]
  have N:J2 ((List.range (k+1)).all (λk=>decide (¬(l.getD k default).var=x))=true):=by rw [J2,W.o];simp [a1]
  clear a1;go_wp2_with fail
  go_quiet (fail)
  go_wp2_with fail
  go_roundg (i - (k+1))
  case measure=>rw [K.o];omega
  case rel=>exact⟨k+1,true,by omega,rfl,by first|rfl|simp,by simp,N.o.symm,yw p.o _⟩
 obtain rfl:i=k:=by omega
 rw [<-HFI.o] at H;obtain⟨J,rfl⟩:=qxE (wr:World);cases first with
 |false=>
  go_wp2_with fail
  go_roundg (n - (i+1))
  case measure=>rw [HG.o];omega
  case rel=>exact⟨i+1,oa,f,oc,by omega,rfl,rfl,by simp,by rw [J2,H.o];exact xD HO.o p.o,by rw [H.o];exact P.o,O.o⟩
 |true=>
 have qL:J2 (xB l (i+1)=wO x (xB l i)):=H.o;clear e1;go_wp2_with fail
 go_loopg [9,10,11] f (λgg s9 s10 s11 wr=>∃(k:Nat) (M:Option Addr) (c L:Nat) (done:Bool) (nx:List Int),k<=f/\J2 (gg=f - k)/\s9= .slice M c L/\s10= .bool done/\s11=I4 k/\J2 (wr.ownsRow J.heap.size 3 1 (.slice M c L) c (zx xI nx))/\J2 (c=nx.length)/\J2 (wO x (xB l i)=nx++zc7 x done ((xB l i).drop k))/\J2 (Below J.heap.size J wr))
 case atStart=>exact⟨0,none,0,0,false, [],Nat.zero_le _,rfl,rfl,rfl,rfl,World.ownsRow_nil _ _ _ _,rfl,rfl,Below.refl _ _⟩
 case round=>
 obtain⟨k,M,c,L,done,nx,hk2,kZ,rfl,rfl,rfl,I,q,Y,d⟩:=hrel;have s:=qh (zy O.o d.o);have e1:=HE1.o wr s.o
 have hnn:c<=2000000:=by
  have h1:=congrArg List.length Y.o;rw [zmd,List.length_append, <-q.o, <-P.o] at h1;omega
 by_cases hko:k<f
 rotate_left
 ·obtain rfl:f=k:=by omega
  have T:=Y.o;rw [P.o,List.drop_length] at T;have HI4:=qh T;clear T;cases done with
  |true=>
   have D:J2 (xB l (i+1)=nx):=by rw [J2,qL.o,HI4.o];simp [zc7]
   go_wp2_with fail
   go_roundg (n - (i+1))
   case measure=>rw [HG.o];omega
   case rel=>exact⟨i+1,M,c,L,by omega,rfl,rfl,by simp,by rw [J2,D.o];exact xO I.o O.o.size,by rw [D.o];exact q.o,s.o⟩
  |false=>
  have D:J2 (xB l (i+1)=nx++ [x]):=by rw [J2,qL.o,HI4.o];simp [zc7,wO]
  go_wp2_with(at_builtin;go_must(refine zO _ rfl _ _ 27 rfl 3 (I4 0) 1 8 Tryz.underlying27 jG rfl (by decide) J.heap.size (.slice M c L) c (zx xI nx) rfl ((I.o).alloc _) ⟨wr.heap.size,0,none⟩ 1 1 [I4 x] rfl rfl (cell_one_new _ _ _) (by simp [Value.oneCell']) (by unfold maxLen;omega) (by omega) (by have:=d.o.size;simp;omega) ?_);intro u t X2 j C B g A z;have m:=qh (zaQ (I.o) j g (d.o) (Nat.le_refl _));clear j C B g A z);go_roundg (n - (i+1))
  case measure=>rw [HG.o];omega
  case rel=>exact⟨i+1,u,c+1,t,by omega,rfl,rfl,by simp,by rw [J2,D.o];exact xO m.o.1 O.o.size,by rw [D.o,List.length_append, <-q.o];rfl,zy O.o m.o.2⟩
 have hkI:(k:Int)<(f:Int):=by omega
 obtain⟨ob,oo,hoa, -,S⟩:=(zal (by rw [<-P.o];exact HO.o)).part k (by rw [<-P.o];exact hko);subst hoa;obtain⟨y,R⟩:=qxE ((xB l i).getD k 0);rw [<-R] at S;have HE2:J2 (∀X,Below wo.heap.size wo X->K3 X ob (oo+k) (I4 y)):=λX hX=>zl hX _ _ S;have e2:=HE2.o wr (zy p.o d.o);have hdr:(xB l i).drop k=y::(xB l i).drop (k+1):=by rw [R];exact drop_at (by rw [<-P.o];exact hko)
 have U:=Y.o;rw [hdr] at U;have Z:=qh U;clear R S hdr U;cases done with
 |true=>
  have E:J2 (wO x (xB l i)=(nx++ [y])++zc7 x true ((xB l i).drop (k+1))):=by rw [J2,Z.o];simp [zc7]
  go_wp2_with fail
  go_quiet (fail)
  go_wp2_with(at_builtin;go_must(refine zO _ rfl _ _ 27 rfl 3 (I4 0) 1 8 Tryz.underlying27 jG rfl (by decide) J.heap.size (.slice M c L) c (zx xI nx) rfl ((World.ownsRow.zeo I.o _).alloc _) ⟨wr.heap.size,0,none⟩ 1 1 [I4 y] rfl rfl (cell_one_new _ _ _) (by simp [Value.oneCell']) (by unfold maxLen;omega) (by omega) (by have:=d.o.size;simp;omega) ?_);intro ja jc X j C B g A z;have G:=qh (zaQ (World.ownsRow.zeo I.o _) j g (yw d.o _) (Nat.le_refl _));clear j C B g A z);go_roundg (f - (k+1))
  case measure=>rw [kZ.o];omega
  case rel=>exact⟨k+1,ja,c+1,jc,true,nx++ [y],by omega,rfl,rfl,rfl,by simp,G.o.1,by rw [J2,List.length_append, <-q.o];rfl,E.o,G.o.2⟩
 |false=>
 by_cases a1:x<y
 rotate_left
 ·have E:J2 (wO x (xB l i)=(nx++ [y])++zc7 x false ((xB l i).drop (k+1))):=by rw [J2,Z.o];simp [zc7,wO,a1]
  go_wp2_with fail
  go_quiet (fail)
  go_wp2_with(at_builtin;go_must(refine zO _ rfl _ _ 27 rfl 3 (I4 0) 1 8 Tryz.underlying27 jG rfl (by decide) J.heap.size (.slice M c L) c (zx xI nx) rfl ((World.ownsRow.zeo I.o _).alloc _) ⟨wr.heap.size,0,none⟩ 1 1 [I4 y] rfl rfl (cell_one_new _ _ _) (by simp [Value.oneCell']) (by unfold maxLen;omega) (by omega) (by have:=d.o.size;simp;omega) ?_);intro u t X2 j C B g A z;have m:=qh (zaQ (World.ownsRow.zeo I.o _) j g (yw d.o _) (Nat.le_refl _));clear j C B g A z);go_roundg (f - (k+1))
  case measure=>rw [kZ.o];omega
  case rel=>exact⟨k+1,u,c+1,t,false,nx++ [y],by omega,rfl,rfl,rfl,by simp,m.o.1,by rw [J2,List.length_append, <-q.o];rfl,E.o,m.o.2⟩
 have E:J2 (wO x (xB l i)=(nx++ [x] ++ [y])++zc7 x true ((xB l i).drop (k+1))):=by rw [J2,Z.o];simp [zc7,wO,a1]
 go_wp2_with fail
 go_quiet (fail)
 go_upto_region 23 with(at_builtin;go_must(refine zO _ rfl _ _ 27 rfl 3 (I4 0) 1 8 Tryz.underlying27 jG rfl (by decide) J.heap.size (.slice M c L) c (zx xI nx) rfl ((World.ownsRow.zeo I.o _).alloc _) ⟨wr.heap.size,0,none⟩ 1 1 [I4 x] rfl rfl (cell_one_new _ _ _) (by simp [Value.oneCell']) (by unfold maxLen;omega) (by omega) (by have:=d.o.size;simp;omega) ?_);intro ja jc X j C B g A z;have G:=qh (zaQ (World.ownsRow.zeo I.o _) j g (yw d.o _) (Nat.le_refl _));clear j C B g A z)
 have e3:=HE2.o X (zy p.o G.o.2);go_wp2_with(at_builtin;go_must(refine zO _ rfl _ _ 27 rfl 3 (I4 0) 1 8 Tryz.underlying27 jG rfl (by decide) J.heap.size (.slice ja (c+1) jc) (c+1) (zx xI (nx++ [x])) rfl ((G.o.1).alloc _) ⟨X.heap.size,0,none⟩ 1 1 [I4 y] rfl rfl (cell_one_new _ _ _) (by simp [Value.oneCell']) (by unfold maxLen;omega) (by omega) (by have:=G.o.2.size;simp;omega) ?_);intro u t X2 j C B g A z;have m:=qh (zaQ (G.o.1) j g (G.o.2) (Nat.le_refl _));clear j C B g A z);go_roundg (f - (k+1))
 case measure=>rw [kZ.o];omega
 case rel=>exact⟨k+1,u,c+1+1,t,true,nx++ [x] ++ [y],by omega,rfl,rfl,by first|rfl|simp,by simp,m.o.1,by rw [J2,List.length_append,List.length_append, <-q.o];rfl,E.o,m.o.2⟩
theorem zs7 (w:World) (c:Value) (l:List zq) (h:zX w c l) (f:l.length<=1000000) (b:Int):
  Calls Tryz.prog 58 #[c,I4 b] w λe d=>(∃sv,e= .returned sv/\qx d sv (yX l b))/\Below w.heap.size w d:=
 (zkE w c l h f b).mono λ_ _ ⟨⟨sv,sn,he,hn,ho⟩,hb⟩=>⟨⟨sv,he,zal (by rw [<-hn];exact ho)⟩,hb⟩
