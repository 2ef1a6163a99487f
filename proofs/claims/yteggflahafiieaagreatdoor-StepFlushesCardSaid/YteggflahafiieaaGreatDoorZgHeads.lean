/- Steps. -/
import Derived.Test.YteggflahafiieaaGreatDoorZgLook
set_option linter.all false
namespace Go.Proofs.YteggflahafiieaaGreatDoor
open Go.RowKit
set_option maxRecDepth 100000
set_option maxHeartbeats 16000000
def jC (x:Int):List Int->List Int
 | [] => [x]
 |y::l=>if x<y then x::y::l else y::jC x l
theorem znX (x:Int) (l:List Int):(jC x l).length=l.length+1:=by
 induction l with
 |nil=>rfl
 |cons y l ih=>unfold jC;split<;>simp [ih]
def yJ (l:List zi):Nat->List Int
 |0=> []
 |i+1=>if (List.range i).all (λk=>decide (¬(l.getD k default).var=(l.getD i default).var)) then jC (l.getD i default).var (yJ l i) else yJ l i
def yD (l:List zi) (model:Int):List Int:=
 if model=2 then yJ l l.length else if model=1 then(match l with| [] => [] |x::_=> [x.var]) else []
theorem zeS (l:List zi) (i:Nat):(yJ l i).length<=i:=by
 induction i with
 |zero=>simp [yJ]
 |succ i ih=>
 unfold yJ
 split
 ·rw [znX];omega
 omega
def zaI (x:Int) (done:Bool) (l:List Int):List Int:=if done then l else jC x l
theorem drop_at {l:List Int} {k:Nat} (hk:k<l.length):l.drop k=l.getD k 0::l.drop (k+1):=by
 rw [List.drop_eq_getElem_cons hk,List.getD_eq_getElem?_getD,List.getElem?_eq_getElem hk];rfl
theorem cell_one_new (w:World) (v:Value) (e:TypeId):∀j u, [v][j]? =some u->(w.alloc (.cells #[v] e)).cell? ((⟨w.heap.size,0,none⟩:Addr).add j)=some u:=by
 intro j u hj
 cases j with
 |zero=>
  simp only [List.getElem?_cons_zero,Option.some.injEq] at hj
  subst hj
  have:=za (yE w (.cells #[v] e)) 0
  simp [Addr.add]
 |succ j=>simp at hj
theorem zvx (l:List Int) (x:Int):zl yO (l++ [x])=zl yO l++ [.int .i64 x] :=by rw [kH];rfl
theorem _root_.Go.World.ownsRow.zci {w:World} {B:Nat} {e:TypeId} {size:Nat} {v:Value} {n:Nat} {xs:List Value} (h:w.ownsRow B e size v n xs) (k:Nat):(w.drewN k).ownsRow B e size v n xs:=(Since.drewN (λ_=>False) k (Since.refl _ w)).row h (λ_ _ h=>h)
theorem uP {B:Nat} {w X:World} {a a':Option Addr} {n c c':Nat} {l:List Int} {x:Int} {o:Obj} (ho:w.ownsRow B 3 1 (.slice a n c) n (zl yO l)) (h1:X.ownsRow B 3 1 (.slice a' (n+1) c') (n+1) (zl yO l++ [.int .i64 x]))
  (h4:Since (λk=>(Value.slice a n c).ownBlock=some k) (w.alloc o) X) {V:World} (hV:Below V.heap.size V w) (hB:V.heap.size<=B):X.ownsRow B 3 1 (.slice a' (n+1) c') (n+1) (zl yO (l++ [x]))/\Below V.heap.size V X:=by
 refine⟨by rw [zvx];exact h1,hV.trans ((((Since.refl _ w).alloc o).trans h4 (λk hk=> .inl hk)).below hV.size (λk hk=>Nat.le_trans hB (ho.lt k hk).1))⟩
theorem zjC (w:World) (bv:Value) (l:List zi) (h:zW w bv l) (hl:l.length<=1000000) (model:Int):
  Calls Tryz.prog 60 #[bv, .int .i64 model] w λe w'=>(∃sv sn,e= .returned sv/\sn=(yD l model).length/\w'.ownsRow w.heap.size 3 1 sv sn (zl yO (yD l model)))/\Below w.heap.size w w':=by
 obtain⟨ba,bc,rfl, -⟩:=ze.slice h
 obtain⟨n,hn⟩:∃n,n=l.length:=⟨_,rfl⟩
 rw [<-hn] at h hl ⊢
 have HL:=qh h
 have HN:=qh hn
 clear h hn
 go_enter Tryz.func60,Tryz.ntmps60
 by_cases hm:model=2
 rotate_left
 ·have hmI:((model:Int) !=2)=true:=by simp [hm]
  by_cases hm1:model=1
  rotate_left
  ·have zB8:((model:Int)==1)=false:=by simp [hm1]
   have HH:Hid (yD l model= []):=by rw [Hid];unfold yD;rw [if_neg hm,if_neg hm1]
   rw [HH.out]
   clear HH hm hm1
   go_wp2_with fail
   go_ret
   exact⟨⟨_,0,by first|rfl|simp,rfl,World.ownsRow_nil _ _ _ _⟩,Below.refl _ _⟩
  subst hm1
  clear hm
  by_cases hn0:n=0
  ·have HH:Hid (yD l 1= []):=by rw [Hid,show l= [] from List.eq_nil_of_length_eq_zero (by rw [<-HN.out];exact hn0)];rfl
   rw [HH.out]
   clear HH
   subst hn0
   go_wp2_with fail
   go_ret
   exact⟨⟨_,0,by first|rfl|simp,rfl,World.ownsRow_nil _ _ _ _⟩,Below.refl _ _⟩
  have hnI:(0:Int)<(n:Int):=by omega
  obtain⟨eb,eo,yG, -,he1, -⟩:=HL.out.part 0 (by rw [<-HN.out];omega)
  subst yG
  obtain⟨x,hx⟩:∃x,x=(l.getD 0 default).var:=⟨_,rfl⟩
  rw [<-hx,Nat.zero_mul,Nat.add_zero] at he1
  have HH:Hid (yD l 1= [x]):=by
   rw [Hid,hx]
   have h1:=HN.out
   cases l with
   |nil=>simp at h1;omega
   |cons a r=>rfl
  rw [HH.out]
  clear HH hx
  go_wp2_with(at_builtin;go_must(refine yx _ rfl _ _ 28 rfl 3 (.int .i64 0) 1 8 Tryz.underlying28 vO rfl (by decide) w.heap.size (.slice none 0 0) 0 (zl yO []) rfl (World.ownsRow_nil _ _ _ _) ⟨w.heap.size,0,none⟩ 1 1 [.int .i64 x] rfl rfl (cell_one_new _ _ _) (by simp [Value.oneCell']) (by unfold maxLen;omega) (by omega) (by simp) ?_);intro ja jc X f1 f2 f3 f4 f5 f6;have HE:=qh (uP (World.ownsRow_nil w w.heap.size _ _) f1 f4 (Below.refl _ _) (Nat.le_refl _));clear f1 f2 f3 f4 f5 f6)
  go_ret
  exact⟨⟨.slice ja 1 jc,1,by first|rfl|simp,rfl,HE.out.1⟩,HE.out.2⟩
 subst hm
 have HH:Hid (yD l 2=yJ l n):=by rw [Hid,HN.out];rfl
 rw [HH.out]
 clear HH
 go_wp2_with fail
 go_loopg [5,6] n (λgg s5 s6 wr=>∃(i:Nat) (oa:Option Addr) (on oc:Nat),i<=n/\Hid (gg=n - i)/\s5= .slice oa on oc/\s6= .int .i64 i/\Hid (wr.ownsRow w.heap.size 3 1 (.slice oa on oc) on (zl yO (yJ l i)))/\on=(yJ l i).length/\Hid (Below w.heap.size w wr))
 case atStart=>exact⟨0,none,0,0,Nat.zero_le _,rfl,rfl,rfl,World.ownsRow_nil _ _ _ _,rfl,Below.refl _ _⟩
 case round=>
 obtain⟨i,oa,on,oc,hi,HG,rfl,rfl,HO,hon,zX⟩:=hrel
 obtain⟨wo,rfl⟩:∃wo:World,wo=wr:=⟨_,rfl⟩
 have uj:=qh hon
 have zB9:on<=n:=by have:=zeS l i;omega
 clear hon
 by_cases hlt:i<n
 rotate_left
 ·obtain rfl:n=i:=by omega
  go_wp2_with fail
  go_ret
  exact⟨⟨.slice oa on oc,on,by first|rfl|simp,uj.out,HO.out⟩,zX.out⟩
 have qK:(i:Int)<(n:Int):=by omega
 obtain⟨eb,eo,yG, -,he1, -⟩:=HL.out.part i (by rw [<-HN.out];exact hlt)
 subst yG
 obtain⟨x,hx⟩:∃x,x=(l.getD i default).var:=⟨_,rfl⟩
 rw [<-hx] at he1
 have HX:=qh hx
 have HE1:Hid (∀X,Below w.heap.size w X->X.cell? ⟨eb,eo+i*2,none⟩=some (.int .i64 x)):=λX hX=>zh hX _ _ he1
 clear hx he1
 have hst:yJ l (i+1)=if (List.range i).all (λk=>decide (¬(l.getD k default).var=x)) then jC x (yJ l i) else yJ l i:=by rw [HX.out];rfl
 have HST:=qh hst
 clear hst
 go_wp2_with fail
 go_loopg [7,8] i (λgg s7 s8 wr=>∃(k:Nat) (first:Bool),k<=i/\Hid (gg=i - k)/\s7= .bool first/\s8= .int .i64 k/\Hid (first=(List.range k).all (λk=>decide (¬(l.getD k default).var=x)))/\Hid (Below wo.heap.size wo wr))
 case atStart=>exact⟨0,true,Nat.zero_le _,rfl,rfl,rfl,rfl,Below.refl _ _⟩
 case round=>
 obtain⟨k,first,hk,HG2,rfl,rfl,HFI,HB2⟩:=hrel
 have yM:=qh (zB zX.out HB2.out)
 have e1:=HE1.out wr yM.out
 by_cases hki:k<i
 ·have hkI:(k:Int)<(i:Int):=by omega
  have hkn:(k:Int)<(n:Int):=by omega
  obtain⟨eb',eo',z6Y, -,he2, -⟩:=HL.out.part k (by rw [<-HN.out];omega)
  cases z6Y
  obtain⟨y,hy⟩:∃y,y=(l.getD k default).var:=⟨_,rfl⟩
  rw [<-hy] at he2
  have e2:=zh yM.out _ _ he2
  have hnx:(List.range (k+1)).all (λk=>decide (¬(l.getD k default).var=x))=(first && decide (¬y=x)):=by rw [List.range_succ,List.all_append, <-HFI.out,hy];simp
  have HNX:=qh hnx
  clear hy he2 hnx
  cases first with
  |false=>
   go_wp2_with fail
   go_quiet (fail)
   go_wp2_with fail
   go_roundg (i - (k+1))
   case measure=>rw [HG2.out];omega
   case rel=>exact⟨k+1,false,by omega,rfl,rfl,by simp,by rw [Hid,HNX.out];rfl,yj HB2.out _⟩
  |true=>
  by_cases a1:y=x
  ·have a1b:((y:Int) !=x)=false:=by simp [a1]
   have zvy:Hid ((List.range (k+1)).all (λk=>decide (¬(l.getD k default).var=x))=false):=by rw [Hid,HNX.out];simp [a1]
   clear a1
   go_wp2_with fail
   go_quiet (fail)
   go_wp2_with fail
   go_roundg (i - (k+1))
   case measure=>rw [HG2.out];omega
   case rel=>exact⟨k+1,false,by omega,rfl,by first|rfl|simp,by simp,zvy.out.symm,yj HB2.out _⟩
  have a1b:((y:Int) !=x)=true:=by simp [a1]
  have zvy:Hid ((List.range (k+1)).all (λk=>decide (¬(l.getD k default).var=x))=true):=by rw [Hid,HNX.out];simp [a1]
  clear a1
  go_wp2_with fail
  go_quiet (fail)
  go_wp2_with fail
  go_roundg (i - (k+1))
  case measure=>rw [HG2.out];omega
  case rel=>exact⟨k+1,true,by omega,rfl,by first|rfl|simp,by simp,zvy.out.symm,yj HB2.out _⟩
 obtain rfl:i=k:=by omega
 rw [<-HFI.out] at HST
 obtain⟨w1,rfl⟩:∃w1:World,w1=wr:=⟨_,rfl⟩
 cases first with
 |false=>
  go_wp2_with fail
  go_roundg (n - (i+1))
  case measure=>rw [HG.out];omega
  case rel=>exact⟨i+1,oa,on,oc,by omega,rfl,rfl,by simp,by rw [Hid,HST.out];exact xX HO.out HB2.out,by rw [HST.out];exact uj.out,yM.out⟩
 |true=>
 have qz:Hid (yJ l (i+1)=jC x (yJ l i)):=HST.out
 clear e1
 go_wp2_with fail
 go_loopg [9,10,11] on (λgg s9 s10 s11 wr=>∃(k:Nat) (na:Option Addr) (nn nc:Nat) (done:Bool) (nx:List Int),k<=on/\Hid (gg=on - k)/\s9= .slice na nn nc/\s10= .bool done/\s11= .int .i64 k/\Hid (wr.ownsRow w1.heap.size 3 1 (.slice na nn nc) nn (zl yO nx))/\Hid (nn=nx.length)/\Hid (jC x (yJ l i)=nx++zaI x done ((yJ l i).drop k))/\Hid (Below w1.heap.size w1 wr))
 case atStart=>exact⟨0,none,0,0,false, [],Nat.zero_le _,rfl,rfl,rfl,rfl,World.ownsRow_nil _ _ _ _,rfl,rfl,Below.refl _ _⟩
 case round=>
 obtain⟨k,na,nn,nc,done,nx,hk2,jQ,rfl,rfl,rfl,HR,HNN,HIN,HB3⟩:=hrel
 have z0p:=qh (zB yM.out HB3.out)
 have e1:=HE1.out wr z0p.out
 have hnn:nn<=2000000:=by
  have h1:=congrArg List.length HIN.out
  rw [znX,List.length_append, <-HNN.out, <-uj.out] at h1
  omega
 by_cases hko:k<on
 rotate_left
 ·obtain rfl:on=k:=by omega
  have hi4:=HIN.out
  rw [uj.out,List.drop_length] at hi4
  have HI4:=qh hi4
  clear hi4
  cases done with
  |true=>
   have HI5:Hid (yJ l (i+1)=nx):=by rw [Hid,qz.out,HI4.out];simp [zaI]
   go_wp2_with fail
   go_roundg (n - (i+1))
   case measure=>rw [HG.out];omega
   case rel=>exact⟨i+1,na,nn,nc,by omega,rfl,rfl,by simp,by rw [Hid,HI5.out];exact xw HR.out yM.out.size,by rw [HI5.out];exact HNN.out,z0p.out⟩
  |false=>
  have HI5:Hid (yJ l (i+1)=nx++ [x]):=by rw [Hid,qz.out,HI4.out];simp [zaI,jC]
  go_wp2_with(at_builtin;go_must(refine yx _ rfl _ _ 28 rfl 3 (.int .i64 0) 1 8 Tryz.underlying28 vO rfl (by decide) w1.heap.size (.slice na nn nc) nn (zl yO nx) rfl ((HR.out).alloc _) ⟨wr.heap.size,0,none⟩ 1 1 [.int .i64 x] rfl rfl (cell_one_new _ _ _) (by simp [Value.oneCell']) (by unfold maxLen;omega) (by omega) (by have:=HB3.out.size;simp;omega) ?_);intro ja2 jc2 X2 f1 f2 f3 f4 f5 f6;have HE3:=qh (uP (HR.out) f1 f4 (HB3.out) (Nat.le_refl _));clear f1 f2 f3 f4 f5 f6)
  go_roundg (n - (i+1))
  case measure=>rw [HG.out];omega
  case rel=>exact⟨i+1,ja2,nn+1,jc2,by omega,rfl,rfl,by simp,by rw [Hid,HI5.out];exact xw HE3.out.1 yM.out.size,by rw [HI5.out,List.length_append, <-HNN.out];rfl,zB yM.out HE3.out.2⟩
 have hkI:(k:Int)<(on:Int):=by omega
 obtain⟨ob,oo,hoa, -,ho1⟩:=(gQ (by rw [<-uj.out];exact HO.out)).part k (by rw [<-uj.out];exact hko)
 subst hoa
 obtain⟨y,hy⟩:∃y,y=(yJ l i).getD k 0:=⟨_,rfl⟩
 rw [<-hy] at ho1
 have HE2:Hid (∀X,Below wo.heap.size wo X->X.cell? ⟨ob,oo+k,none⟩=some (.int .i64 y)):=λX hX=>zh hX _ _ ho1
 have e2:=HE2.out wr (zB HB2.out HB3.out)
 have hdr:(yJ l i).drop k=y::(yJ l i).drop (k+1):=by rw [hy];exact drop_at (by rw [<-uj.out];exact hko)
 have hi2:=HIN.out
 rw [hdr] at hi2
 have HI2:=qh hi2
 clear hy ho1 hdr hi2
 cases done with
 |true=>
  have HI3:Hid (jC x (yJ l i)=(nx++ [y])++zaI x true ((yJ l i).drop (k+1))):=by rw [Hid,HI2.out];simp [zaI]
  go_wp2_with fail
  go_quiet (fail)
  go_wp2_with(at_builtin;go_must(refine yx _ rfl _ _ 28 rfl 3 (.int .i64 0) 1 8 Tryz.underlying28 vO rfl (by decide) w1.heap.size (.slice na nn nc) nn (zl yO nx) rfl ((World.ownsRow.zci HR.out _).alloc _) ⟨wr.heap.size,0,none⟩ 1 1 [.int .i64 y] rfl rfl (cell_one_new _ _ _) (by simp [Value.oneCell']) (by unfold maxLen;omega) (by omega) (by have:=HB3.out.size;simp;omega) ?_);intro ja jc X f1 f2 f3 f4 f5 f6;have HE:=qh (uP (World.ownsRow.zci HR.out _) f1 f4 (yj HB3.out _) (Nat.le_refl _));clear f1 f2 f3 f4 f5 f6)
  go_roundg (on - (k+1))
  case measure=>rw [jQ.out];omega
  case rel=>exact⟨k+1,ja,nn+1,jc,true,nx++ [y],by omega,rfl,rfl,rfl,by simp,HE.out.1,by rw [Hid,List.length_append, <-HNN.out];rfl,HI3.out,HE.out.2⟩
 |false=>
 by_cases a1:x<y
 rotate_left
 ·have HI3:Hid (jC x (yJ l i)=(nx++ [y])++zaI x false ((yJ l i).drop (k+1))):=by rw [Hid,HI2.out];simp [zaI,jC,a1]
  go_wp2_with fail
  go_quiet (fail)
  go_wp2_with(at_builtin;go_must(refine yx _ rfl _ _ 28 rfl 3 (.int .i64 0) 1 8 Tryz.underlying28 vO rfl (by decide) w1.heap.size (.slice na nn nc) nn (zl yO nx) rfl ((World.ownsRow.zci HR.out _).alloc _) ⟨wr.heap.size,0,none⟩ 1 1 [.int .i64 y] rfl rfl (cell_one_new _ _ _) (by simp [Value.oneCell']) (by unfold maxLen;omega) (by omega) (by have:=HB3.out.size;simp;omega) ?_);intro ja2 jc2 X2 f1 f2 f3 f4 f5 f6;have HE3:=qh (uP (World.ownsRow.zci HR.out _) f1 f4 (yj HB3.out _) (Nat.le_refl _));clear f1 f2 f3 f4 f5 f6)
  go_roundg (on - (k+1))
  case measure=>rw [jQ.out];omega
  case rel=>exact⟨k+1,ja2,nn+1,jc2,false,nx++ [y],by omega,rfl,rfl,rfl,by simp,HE3.out.1,by rw [Hid,List.length_append, <-HNN.out];rfl,HI3.out,HE3.out.2⟩
 have HI3:Hid (jC x (yJ l i)=(nx++ [x] ++ [y])++zaI x true ((yJ l i).drop (k+1))):=by rw [Hid,HI2.out];simp [zaI,jC,a1]
 go_wp2_with fail
 go_quiet (fail)
 go_upto_region 23 with(at_builtin;go_must(refine yx _ rfl _ _ 28 rfl 3 (.int .i64 0) 1 8 Tryz.underlying28 vO rfl (by decide) w1.heap.size (.slice na nn nc) nn (zl yO nx) rfl ((World.ownsRow.zci HR.out _).alloc _) ⟨wr.heap.size,0,none⟩ 1 1 [.int .i64 x] rfl rfl (cell_one_new _ _ _) (by simp [Value.oneCell']) (by unfold maxLen;omega) (by omega) (by have:=HB3.out.size;simp;omega) ?_);intro ja jc X f1 f2 f3 f4 f5 f6;have HE:=qh (uP (World.ownsRow.zci HR.out _) f1 f4 (yj HB3.out _) (Nat.le_refl _));clear f1 f2 f3 f4 f5 f6)
 have e3:=HE2.out X (zB HB2.out HE.out.2)
 go_wp2_with(at_builtin;go_must(refine yx _ rfl _ _ 28 rfl 3 (.int .i64 0) 1 8 Tryz.underlying28 vO rfl (by decide) w1.heap.size (.slice ja (nn+1) jc) (nn+1) (zl yO (nx++ [x])) rfl ((HE.out.1).alloc _) ⟨X.heap.size,0,none⟩ 1 1 [.int .i64 y] rfl rfl (cell_one_new _ _ _) (by simp [Value.oneCell']) (by unfold maxLen;omega) (by omega) (by have:=HE.out.2.size;simp;omega) ?_);intro ja2 jc2 X2 f1 f2 f3 f4 f5 f6;have HE3:=qh (uP (HE.out.1) f1 f4 (HE.out.2) (Nat.le_refl _));clear f1 f2 f3 f4 f5 f6)
 go_roundg (on - (k+1))
 case measure=>rw [jQ.out];omega
 case rel=>exact⟨k+1,ja2,nn+1+1,jc2,true,nx++ [x] ++ [y],by omega,rfl,rfl,by first|rfl|simp,by simp,HE3.out.1,by rw [Hid,List.length_append,List.length_append, <-HNN.out];rfl,HI3.out,HE3.out.2⟩
theorem zrJ (w:World) (bv:Value) (l:List zi) (h:zW w bv l) (hl:l.length<=1000000) (model:Int):
  Calls Tryz.prog 60 #[bv, .int .i64 model] w λe w'=>(∃sv,e= .returned sv/\xI w' sv (yD l model))/\Below w.heap.size w w':=
 (zjC w bv l h hl model).mono λ_ _ ⟨⟨sv,sn,he,hn,ho⟩,hb⟩=>⟨⟨sv,he,gQ (by rw [<-hn];exact ho)⟩,hb⟩
