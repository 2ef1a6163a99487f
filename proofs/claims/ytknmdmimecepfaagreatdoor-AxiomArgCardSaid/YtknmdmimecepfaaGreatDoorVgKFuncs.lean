/- Steps. -/
import Derived.Test.YtknmdmimecepfaaGreatDoorVgApp
set_option linter.all false
namespace Go.Proofs.YtknmdmimecepfaaGreatDoor
open Go.RowKit
set_option maxRecDepth 100000
set_option maxHeartbeats 16000000
theorem zao {n:Nat} {P:Nat->Bool} (i:Nat) (hi:i<n) (h:P i=true):(List.range n).any P=true:=by
 rw [List.any_eq_true];exact⟨i,by simpa using hi,h⟩
theorem any_none {n:Nat} {P:Nat->Bool} (h:∀j,j<n->P j=false):(List.range n).any P=false:=by
 rw [List.any_eq_false];intro j hj;rw [h j (by simpa using hj)];simp
theorem zgn {α:Type} [Inhabited α] (R:World->α->List Value->Prop) (hR:vP R) (w:World) (sv:Value) (l:List α) (hl:zh R 4 w sv l) (fn:FuncId) (first captured:Array Value) (P:Nat->Bool) (hfn:∀args W,(callFunc fn args).run Tryz.prog W= .ok (.enter fn args) W)
  (hcall:∀j,j<l.length->∀(W:World) (cs:List Value),cs.length=4->R W (l.getD j default) cs->Below w.heap.size w W->Calls Tryz.prog fn (first.push (.agg cs.toArray)++captured) W λe W'=>e= .returned (.bool (P j))/\Below W.heap.size W W'):
  Calls Tryz.prog 150 #[sv, .func (.func fn) first captured] w λe w'=>(∃i:Nat,i<l.length/\e= .returned (.int .i64 i)/\(P i=true/\∀j,j<i->P j=false)/\Below w.heap.size w w')\/(e= .returned (.int .i64 (-1))/\(∀j,j<l.length->P j=false)/\Below w.heap.size w w'):=by
 obtain⟨a,cap,rfl,hn⟩:=hl.slice
 have HL:=qh hl
 have HC:=qh hcall
 clear hl hcall
 obtain⟨n,hnd⟩:∃n,n=l.length:=⟨_,rfl⟩
 rw [<-hnd] at hn HL ⊢
 have HN:=qh hnd
 clear hnd
 go_enter Tryz.func150,Tryz.ntmps150
 go_wp2_with fail
 go_loopg [8] n (λg s8 wr=>∃i:Nat,i<=n/\Hid (g=n - i)/\s8= .int .i64 i/\Hid (∀j,j<i->P j=false)/\Hid (Below w.heap.size w wr))
 case atStart=>exact⟨0,Nat.zero_le _,rfl,rfl,λj hj=>by omega,Below.refl _ _⟩
 case round=>
 obtain⟨i,hi,HG,rfl,HJ,HB⟩:=hrel
 by_cases hlt:i<n
 rotate_left
 ·obtain rfl:n=i:=by omega
  go_wp2_with fail
  go_ret
  exact .inr ⟨rfl,HJ.out,HB.out⟩
 have qQ:(i:Int)<(n:Int):=by omega
 have hln:n=l.length:=HN.out
 obtain⟨b,off,cs,rfl,hb,hcl,hc,hr⟩:=zh.part (zh.below hR HL.out HB.out) i (by omega)
 have hca:=HC.out i (by omega) wr cs hcl hr HB.out
 clear hln hr
 obtain⟨x0,x1,x2,x3,rfl⟩:∃x0 x1 x2 x3,cs= [x0,x1,x2,x3] :=by
  match cs,hcl with
  | [x0,x1,x2,x3],_=>exact⟨x0,x1,x2,x3,rfl⟩
 have hx0:wr.cell? ⟨b,off+i*4,none⟩=some x0:=by have:=hc 0 (by omega);simpa using this
 have hx1:wr.cell? ⟨b,off+i*4+1,none⟩=some x1:=by have:=hc 1 (by omega);simpa using this
 have hx2:wr.cell? ⟨b,off+i*4+2,none⟩=some x2:=by have:=hc 2 (by omega);simpa using this
 have hx3:wr.cell? ⟨b,off+i*4+3,none⟩=some x3:=by have:=hc 3 (by omega);simpa using this
 clear hc hcl
 have HCA:=qh hca
 clear hca
 go_wp2_with fail
 refine HCA.out.mono ?_
 rintro e w2 ⟨rfl,hb2⟩
 have HB2:Hid (Below w.heap.size w w2):=HB.out.trans (hb2.mono HB.out.size)
 obtain⟨r,hr⟩:∃r,r=P i:=⟨_,rfl⟩
 rw [<-hr]
 have HR:=qh hr
 clear hb2 hr HCA hx0 hx1 hx2 hx3
 cases r
 ·go_wp2_with fail
  go_roundg (n - (i+1))
  case measure=>rw [HG.out];omega
  case rel=>exact⟨i+1,by omega,rfl,by simp,λj hj=>by
   by_cases he:j=i
   ·subst he;exact HR.out.symm
   exact HJ.out j (by omega),HB2.out⟩
 go_wp2_with fail
 go_ret
 exact .inl ⟨i,hlt,rfl,⟨HR.out.symm,HJ.out⟩,HB2.out⟩
theorem zdJ {α:Type} [Inhabited α] (R:World->α->List Value->Prop) (hR:vP R) (w:World) (sv:Value) (l:List α) (hl:zh R 4 w sv l) (fn:FuncId) (first captured:Array Value) (P:Nat->Bool) (hfn:∀args W,(callFunc fn args).run Tryz.prog W= .ok (.enter fn args) W)
  (hcall:∀j,j<l.length->∀(W:World) (cs:List Value),cs.length=4->R W (l.getD j default) cs->Below w.heap.size w W->Calls Tryz.prog fn (first.push (.agg cs.toArray)++captured) W λe W'=>e= .returned (.bool (P j))/\Below W.heap.size W W'):
  Calls Tryz.prog 147 #[sv, .func (.func fn) first captured] w λe w'=>e= .returned (.bool ((List.range l.length).any P))/\Below w.heap.size w w':=by
 have hc:=zgn R hR w sv l hl fn first captured P hfn hcall
 have HC:=qh hc
 clear hc hcall hl hfn
 go_enter Tryz.func147,Tryz.ntmps147
 go_wp2_with fail
 refine HC.out.mono ?_
 rintro e w2 (⟨i,hi,rfl,hp,hb⟩|⟨rfl,hp,hb⟩)
 ·have HB:=qh hb
  have HP:=qh hp
  clear hb HC hp
  go_wp2_with fail
  go_ret
  exact⟨(by rw [zao i hi HP.out.1];first|rfl|simp),HB.out⟩
 have HB:=qh hb
 have HP:=qh hp
 clear hb HC hp
 go_wp2_with fail
 go_ret
 exact⟨(by rw [any_none HP.out];first|rfl|simp),HB.out⟩
theorem zf0 {α:Type} [Inhabited α] (R:World->α->List Value->Prop) (hR:vP R) (w:World) (sv:Value) (l:List α) (hl:zh R 12 w sv l) (fn:FuncId) (first captured:Array Value) (P:Nat->Bool) (hfn:∀args W,(callFunc fn args).run Tryz.prog W= .ok (.enter fn args) W)
  (hcall:∀j,j<l.length->∀(W:World) (cs:List Value),cs.length=12->R W (l.getD j default) cs->Below w.heap.size w W->Calls Tryz.prog fn (first.push (.agg cs.toArray)++captured) W λe W'=>e= .returned (.bool (P j))/\Below W.heap.size W W'):
  Calls Tryz.prog 82 #[sv, .func (.func fn) first captured] w λe w'=>(∃i:Nat,i<l.length/\e= .returned (.int .i64 i)/\(P i=true/\∀j,j<i->P j=false)/\Below w.heap.size w w')\/(e= .returned (.int .i64 (-1))/\(∀j,j<l.length->P j=false)/\Below w.heap.size w w'):=by
 obtain⟨a,cap,rfl,hn⟩:=hl.slice
 have HL:=qh hl
 have HC:=qh hcall
 clear hl hcall
 obtain⟨n,hnd⟩:∃n,n=l.length:=⟨_,rfl⟩
 rw [<-hnd] at hn HL ⊢
 have HN:=qh hnd
 clear hnd
 go_enter Tryz.func82,Tryz.ntmps82
 go_wp2_with fail
 go_loopg [8] n (λg s8 wr=>∃i:Nat,i<=n/\Hid (g=n - i)/\s8= .int .i64 i/\Hid (∀j,j<i->P j=false)/\Hid (Below w.heap.size w wr))
 case atStart=>exact⟨0,Nat.zero_le _,rfl,rfl,λj hj=>by omega,Below.refl _ _⟩
 case round=>
 obtain⟨i,hi,HG,rfl,HJ,HB⟩:=hrel
 by_cases hlt:i<n
 rotate_left
 ·obtain rfl:n=i:=by omega
  go_wp2_with fail
  go_ret
  exact .inr ⟨rfl,HJ.out,HB.out⟩
 have qQ:(i:Int)<(n:Int):=by omega
 have hln:n=l.length:=HN.out
 obtain⟨b,off,cs,rfl,hb,hcl,hc,hr⟩:=zh.part (zh.below hR HL.out HB.out) i (by omega)
 have hca:=HC.out i (by omega) wr cs hcl hr HB.out
 clear hln hr
 obtain⟨x0,x1,x2,x3,x4,x5,x6,x7,x8,x9,x10,qZ,rfl⟩:∃x0 x1 x2 x3 x4 x5 x6 x7 x8 x9 x10 qZ,cs= [x0,x1,x2,x3,x4,x5,x6,x7,x8,x9,x10,qZ] :=by
  match cs,hcl with
  | [x0,x1,x2,x3,x4,x5,x6,x7,x8,x9,x10,qZ],_=>exact⟨x0,x1,x2,x3,x4,x5,x6,x7,x8,x9,x10,qZ,rfl⟩
 have hx0:wr.cell? ⟨b,off+i*12,none⟩=some x0:=by have:=hc 0 (by omega);simpa using this
 have hx1:wr.cell? ⟨b,off+i*12+1,none⟩=some x1:=by have:=hc 1 (by omega);simpa using this
 have hx2:wr.cell? ⟨b,off+i*12+2,none⟩=some x2:=by have:=hc 2 (by omega);simpa using this
 have hx3:wr.cell? ⟨b,off+i*12+3,none⟩=some x3:=by have:=hc 3 (by omega);simpa using this
 have hx4:wr.cell? ⟨b,off+i*12+4,none⟩=some x4:=by have:=hc 4 (by omega);simpa using this
 have hx5:wr.cell? ⟨b,off+i*12+5,none⟩=some x5:=by have:=hc 5 (by omega);simpa using this
 have hx6:wr.cell? ⟨b,off+i*12+6,none⟩=some x6:=by have:=hc 6 (by omega);simpa using this
 have hx7:wr.cell? ⟨b,off+i*12+7,none⟩=some x7:=by have:=hc 7 (by omega);simpa using this
 have hx8:wr.cell? ⟨b,off+i*12+8,none⟩=some x8:=by have:=hc 8 (by omega);simpa using this
 have hx9:wr.cell? ⟨b,off+i*12+9,none⟩=some x9:=by have:=hc 9 (by omega);simpa using this
 have zvi:wr.cell? ⟨b,off+i*12+10,none⟩=some x10:=by have:=hc 10 (by omega);simpa using this
 have zvj:wr.cell? ⟨b,off+i*12+11,none⟩=some qZ:=by have:=hc 11 (by omega);simpa using this
 clear hc hcl
 have HCA:=qh hca
 clear hca
 go_wp2_with fail
 refine HCA.out.mono ?_
 rintro e w2 ⟨rfl,hb2⟩
 have HB2:Hid (Below w.heap.size w w2):=HB.out.trans (hb2.mono HB.out.size)
 obtain⟨r,hr⟩:∃r,r=P i:=⟨_,rfl⟩
 rw [<-hr]
 have HR:=qh hr
 clear hb2 hr HCA hx0 hx1 hx2 hx3 hx4 hx5 hx6 hx7 hx8 hx9 zvi zvj
 cases r
 ·go_wp2_with fail
  go_roundg (n - (i+1))
  case measure=>rw [HG.out];omega
  case rel=>exact⟨i+1,by omega,rfl,by simp,λj hj=>by
   by_cases he:j=i
   ·subst he;exact HR.out.symm
   exact HJ.out j (by omega),HB2.out⟩
 go_wp2_with fail
 go_ret
 exact .inl ⟨i,hlt,rfl,⟨HR.out.symm,HJ.out⟩,HB2.out⟩
theorem zcZ {α:Type} [Inhabited α] (R:World->α->List Value->Prop) (hR:vP R) (w:World) (sv:Value) (l:List α) (hl:zh R 12 w sv l) (fn:FuncId) (first captured:Array Value) (P:Nat->Bool) (hfn:∀args W,(callFunc fn args).run Tryz.prog W= .ok (.enter fn args) W)
  (hcall:∀j,j<l.length->∀(W:World) (cs:List Value),cs.length=12->R W (l.getD j default) cs->Below w.heap.size w W->Calls Tryz.prog fn (first.push (.agg cs.toArray)++captured) W λe W'=>e= .returned (.bool (P j))/\Below W.heap.size W W'):
  Calls Tryz.prog 59 #[sv, .func (.func fn) first captured] w λe w'=>e= .returned (.bool ((List.range l.length).any P))/\Below w.heap.size w w':=by
 have hc:=zf0 R hR w sv l hl fn first captured P hfn hcall
 have HC:=qh hc
 clear hc hcall hl hfn
 go_enter Tryz.func59,Tryz.ntmps59
 go_wp2_with fail
 refine HC.out.mono ?_
 rintro e w2 (⟨i,hi,rfl,hp,hb⟩|⟨rfl,hp,hb⟩)
 ·have HB:=qh hb
  have HP:=qh hp
  clear hb HC hp
  go_wp2_with fail
  go_ret
  exact⟨(by rw [zao i hi HP.out.1];first|rfl|simp),HB.out⟩
 have HB:=qh hb
 have HP:=qh hp
 clear hb HC hp
 go_wp2_with fail
 go_ret
 exact⟨(by rw [any_none HP.out];first|rfl|simp),HB.out⟩
theorem zql (w:World) (a b:Int):Calls Tryz.prog 110 #[.int .i64 a, .int .i64 b] w λe w'=>e= .returned (.int .i64 (evalOp 43 a b))/\Below w.heap.size w w':=by
 have hr:evalOp 43 a b=wrap64 (a+b):=by simp [evalOp]
 rw [hr]
 go_enter Tryz.func110,Tryz.ntmps110
 go_wp2_with fail
 go_ret
 exact⟨by first|rfl|simp,Below.refl _ _⟩
theorem zqm (w:World) (a b:Int):Calls Tryz.prog 111 #[.int .i64 a, .int .i64 b] w λe w'=>e= .returned (.int .i64 (evalOp 45 a b))/\Below w.heap.size w w':=by
 have hr:evalOp 45 a b=wrap64 (a - b):=by simp [evalOp]
 rw [hr]
 go_enter Tryz.func111,Tryz.ntmps111
 go_wp2_with fail
 go_ret
 exact⟨by first|rfl|simp,Below.refl _ _⟩
theorem zqn (w:World) (a b:Int):Calls Tryz.prog 112 #[.int .i64 a, .int .i64 b] w λe w'=>e= .returned (.int .i64 (evalOp 42 a b))/\Below w.heap.size w w':=by
 have hr:evalOp 42 a b=wrap64 (a*b):=by simp [evalOp]
 rw [hr]
 go_enter Tryz.func112,Tryz.ntmps112
 go_wp2_with fail
 go_ret
 exact⟨by first|rfl|simp,Below.refl _ _⟩
theorem zqo (w:World) (a b:Int):Calls Tryz.prog 113 #[.int .i64 a, .int .i64 b] w λe w'=>e= .returned (.int .i64 (evalOp 38 a b))/\Below w.heap.size w w':=by
 have hr:evalOp 38 a b=bits .and .i64 a b:=by simp [evalOp]
 rw [hr]
 go_enter Tryz.func113,Tryz.ntmps113
 go_wp2_with fail
 go_ret
 exact⟨by first|rfl|simp,Below.refl _ _⟩
theorem zqp (w:World) (a b:Int):Calls Tryz.prog 114 #[.int .i64 a, .int .i64 b] w λe w'=>e= .returned (.int .i64 (evalOp 124 a b))/\Below w.heap.size w w':=by
 have hr:evalOp 124 a b=bits .or .i64 a b:=by simp [evalOp]
 rw [hr]
 go_enter Tryz.func114,Tryz.ntmps114
 go_wp2_with fail
 go_ret
 exact⟨by first|rfl|simp,Below.refl _ _⟩
theorem zqq (w:World) (a b:Int):Calls Tryz.prog 116 #[.int .i64 a, .int .i64 b] w λe w'=>e= .returned (.bool (decide (a<b)))/\w'=w:=by
 go_enter Tryz.func116,Tryz.ntmps116
 go_wp2_with fail
 go_ret
 exact⟨congrArg (λq=>Ending.returned (.bool q)) (by first|rfl|(rw [Bool.eq_iff_iff];simp)),rfl⟩
theorem zqr (w:World) (a b:Int):Calls Tryz.prog 117 #[.int .i64 a, .int .i64 b] w λe w'=>e= .returned (.bool (decide (a=b)))/\w'=w:=by
 go_enter Tryz.func117,Tryz.ntmps117
 go_wp2_with fail
 go_ret
 exact⟨congrArg (λq=>Ending.returned (.bool q)) (by first|rfl|(rw [Bool.eq_iff_iff];simp)),rfl⟩
theorem zqs (w:World) (a b:Int):Calls Tryz.prog 118 #[.int .i64 a, .int .i64 b] w λe w'=>e= .returned (.bool (!decide (a=b)))/\w'=w:=by
 go_enter Tryz.func118,Tryz.ntmps118
 go_wp2_with fail
 go_ret
 exact⟨congrArg (λq=>Ending.returned (.bool q)) (by first|rfl|(rw [Bool.eq_iff_iff];simp)),rfl⟩
def ztz (w:World) (op:Int) (v:Value):Prop:=∃f cap,v= .func (.func f) #[] cap/\(∀args W,(callFunc f args).run Tryz.prog W= .ok (.enter f args) W)/\
 ∀W,Below w.heap.size w W->∀a b:Int,Calls Tryz.prog f (#[.int .i64 a, .int .i64 b] ++cap) W λe W'=>e= .returned (.int .i64 (evalOp op a b))/\Below W.heap.size W W'
theorem zbv (w:World) (f:FuncId) (g:Nat) (hg:w.cell? ⟨g,0,none⟩=some (.func (.func f) #[] #[])) (hf:∀args W,(callFunc f args).run Tryz.prog W= .ok (.enter f args) W) (op a b:Int) (r:Bool) (hr:evalOp op a b=if r then 1 else 0)
  (hc:Calls Tryz.prog f #[.int .i64 a, .int .i64 b] w λe w'=>e= .returned (.bool r)/\w'=w):
  Calls Tryz.prog 139 #[.int .i64 a, .int .i64 b, .pointer (some ⟨g,0,none⟩)] w λe w'=>e= .returned (.int .i64 (evalOp op a b))/\Below w.heap.size w w':=by
 have HC:=qh hc
 have HR:=qh hr
 clear hc hr
 cases r with
 |true=>
  rw [HR.out]
  clear HR
  go_enter Tryz.func139,Tryz.ntmps139
  go_wp2_with fail
  refine HC.out.mono ?_
  rintro e w2 ⟨rfl,rfl⟩
  go_wp2_with fail
  go_ret
  exact⟨by first|rfl|simp,Below.refl _ _⟩
 |false=>
 rw [HR.out]
 clear HR
 go_enter Tryz.func139,Tryz.ntmps139
 go_wp2_with fail
 refine HC.out.mono ?_
 rintro e w2 ⟨rfl,rfl⟩
 go_wp2_with fail
 go_ret
 exact⟨by first|rfl|simp,Below.refl _ _⟩
theorem zcg (w:World) (f:FuncId):Calls Tryz.prog 115 #[.func (.func f) #[] #[]] w λe w'=>e= .returned (.func (.func 139) #[] #[.pointer (some ⟨w.heap.size,0,none⟩)])/\w'.cell? ⟨w.heap.size,0,none⟩=some (.func (.func f) #[] #[])/\w.heap.size<w'.heap.size/\Below w.heap.size w w':=by
 have HA:=qh ((Below.refl w.heap.size w).alloc (Nat.le_refl _) (.cells #[.func (.func f) #[] #[]] 121))
 have HX:=qh (zT w (.cells #[.func (.func f) #[] #[]] 121))
 go_enter Tryz.func115,Tryz.ntmps115
 go_wp2_with fail
 go_ret
 exact⟨rfl,za HX.out 0,by simp,HA.out⟩
theorem zhg (w:World) (op:Int):Calls Tryz.prog 84 #[.int .u8 op] w λe w'=>(∃v,e= .returned v/\(ztz w' op v\/(v= .nilFunc/\∀a b,evalOp op a b=0)))/\Below w.heap.size w w':=by
 by_cases o0:op=43
 ·subst o0
  go_enter Tryz.func84,Tryz.ntmps84
  go_wp2_with fail
  go_ret
  exact⟨⟨_,rfl, .inl ⟨110, #[],rfl,λ_ _=>rfl,λW _ a b=>zql W a b⟩⟩,Below.refl _ _⟩
 skip
 by_cases o1:op=45
 ·subst o1
  clear o0
  go_enter Tryz.func84,Tryz.ntmps84
  go_wp2_with fail
  go_ret
  exact⟨⟨_,rfl, .inl ⟨111, #[],rfl,λ_ _=>rfl,λW _ a b=>zqm W a b⟩⟩,Below.refl _ _⟩
 skip
 by_cases o2:op=42
 ·subst o2
  clear o0 o1
  go_enter Tryz.func84,Tryz.ntmps84
  go_wp2_with fail
  go_ret
  exact⟨⟨_,rfl, .inl ⟨112, #[],rfl,λ_ _=>rfl,λW _ a b=>zqn W a b⟩⟩,Below.refl _ _⟩
 skip
 by_cases o3:op=38
 ·subst o3
  clear o0 o1 o2
  go_enter Tryz.func84,Tryz.ntmps84
  go_wp2_with fail
  go_ret
  exact⟨⟨_,rfl, .inl ⟨113, #[],rfl,λ_ _=>rfl,λW _ a b=>zqo W a b⟩⟩,Below.refl _ _⟩
 skip
 by_cases o4:op=124
 ·subst o4
  clear o0 o1 o2 o3
  go_enter Tryz.func84,Tryz.ntmps84
  go_wp2_with fail
  go_ret
  exact⟨⟨_,rfl, .inl ⟨114, #[],rfl,λ_ _=>rfl,λW _ a b=>zqp W a b⟩⟩,Below.refl _ _⟩
 skip
 by_cases o5:op=60
 ·subst o5
  clear o0 o1 o2 o3 o4
  go_enter Tryz.func84,Tryz.ntmps84
  go_wp2_with fail
  refine(zcg w 116).mono ?_
  rintro e w2 ⟨rfl,hc,hlt,hb⟩
  have HC:=qh hc
  have HB:=qh hb
  have HLT:=qh hlt
  clear hc hb hlt
  go_wp2_with fail
  go_ret
  exact⟨⟨_,rfl, .inl ⟨139, #[.pointer (some ⟨w.heap.size,0,none⟩)],rfl,λ_ _=>rfl,λW hW a b=>zbv W 116 w.heap.size (zi hW _ _ HC.out) (λ_ _=>rfl) 60 a b (decide (a<b)) (by simp [evalOp]) (zqq W a b)⟩⟩,HB.out⟩
 skip
 by_cases o6:op=61
 ·subst o6
  clear o0 o1 o2 o3 o4 o5
  go_enter Tryz.func84,Tryz.ntmps84
  go_wp2_with fail
  refine(zcg w 117).mono ?_
  rintro e w2 ⟨rfl,hc,hlt,hb⟩
  have HC:=qh hc
  have HB:=qh hb
  have HLT:=qh hlt
  clear hc hb hlt
  go_wp2_with fail
  go_ret
  exact⟨⟨_,rfl, .inl ⟨139, #[.pointer (some ⟨w.heap.size,0,none⟩)],rfl,λ_ _=>rfl,λW hW a b=>zbv W 117 w.heap.size (zi hW _ _ HC.out) (λ_ _=>rfl) 61 a b (decide (a=b)) (by simp [evalOp]) (zqr W a b)⟩⟩,HB.out⟩
 skip
 by_cases o7:op=33
 ·subst o7
  clear o0 o1 o2 o3 o4 o5 o6
  go_enter Tryz.func84,Tryz.ntmps84
  go_wp2_with fail
  refine(zcg w 118).mono ?_
  rintro e w2 ⟨rfl,hc,hlt,hb⟩
  have HC:=qh hc
  have HB:=qh hb
  have HLT:=qh hlt
  clear hc hb hlt
  go_wp2_with fail
  go_ret
  exact⟨⟨_,rfl, .inl ⟨139, #[.pointer (some ⟨w.heap.size,0,none⟩)],rfl,λ_ _=>rfl,λW hW a b=>zbv W 118 w.heap.size (zi hW _ _ HC.out) (λ_ _=>rfl) 33 a b (!decide (a=b)) (by simp [evalOp]) (zqs W a b)⟩⟩,HB.out⟩
 have hz:∀a b,evalOp op a b=0:=λa b=>by simp [evalOp,o0,o1,o2,o3,o4,o5,o6,o7]
 have n0:((op:Int)==43)=false:=by simp [o0]
 have n1:((op:Int)==45)=false:=by simp [o1]
 have n2:((op:Int)==42)=false:=by simp [o2]
 have n3:((op:Int)==38)=false:=by simp [o3]
 have n4:((op:Int)==124)=false:=by simp [o4]
 have n5:((op:Int)==60)=false:=by simp [o5]
 have n6:((op:Int)==61)=false:=by simp [o6]
 have n7:((op:Int)==33)=false:=by simp [o7]
 have HZ:=qh hz
 clear hz o0 o1 o2 o3 o4 o5 o6 o7
 go_enter Tryz.func84,Tryz.ntmps84
 go_wp2_with fail
 go_ret
 exact⟨⟨_,rfl, .inr ⟨rfl,HZ.out⟩⟩,Below.refl _ _⟩
