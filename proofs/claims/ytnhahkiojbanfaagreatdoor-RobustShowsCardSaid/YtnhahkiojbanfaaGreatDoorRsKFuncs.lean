/- Steps. -/
import Derived.Test.YtnhahkiojbanfaaGreatDoorRsPSrc
set_option linter.all false
namespace Go.Proofs.YtnhahkiojbanfaaGreatDoor
open Go.RowKit
set_option maxRecDepth 100000
set_option maxHeartbeats 16000000
theorem zfh {n:Nat} {P:Nat->Bool} (i:Nat) (hi:i<n) (h:P i=true):(List.range n).any P=true:=by
 rw [List.any_eq_true];exact⟨i,by simpa using hi,h⟩
theorem any_none {n:Nat} {P:Nat->Bool} (h:∀j,j<n->P j=false):(List.range n).any P=false:=by
 rw [List.any_eq_false];intro j hj;rw [h j (by simpa using hj)];simp
theorem zji {α:Type} [Inhabited α] (R:World->α->List Value->Prop) (hR:kP R) (w:World) (sv:Value) (l:List α) (hl:zh R 2 w sv l) (fn:FuncId) (first captured:Array Value) (P:Nat->Bool) (hfn:∀args W,(callFunc fn args).run Tryz.prog W= .ok (.enter fn args) W)
  (hcall:∀j,j<l.length->∀(W:World) (cs:List Value),cs.length=2->R W (l.getD j default) cs->Below w.heap.size w W->Calls Tryz.prog fn (first.push (.agg cs.toArray)++captured) W λe W'=>e= .returned (.bool (P j))/\Below W.heap.size W W'):
  Calls Tryz.prog 132 #[sv, .func (.func fn) first captured] w λe w'=>(∃i:Nat,i<l.length/\e= .returned (.int .i64 i)/\(P i=true/\∀j,j<i->P j=false)/\Below w.heap.size w w')\/(e= .returned (.int .i64 (-1))/\(∀j,j<l.length->P j=false)/\Below w.heap.size w w'):=by
 obtain⟨a,cap,rfl,hn⟩:=hl.slice
 have HL:=qh hl
 have HC:=qh hcall
 clear hl hcall
 obtain⟨n,hnd⟩:∃n,n=l.length:=⟨_,rfl⟩
 rw [<-hnd] at hn HL ⊢
 have HN:=qh hnd
 clear hnd
 go_enter Tryz.func132,Tryz.ntmps132
 go_wp2_with fail
 go_loopg [8] n (λg s8 wr=>∃i:Nat,i<=n/\Hid (g=n - i)/\s8= .int .i64 i/\Hid (∀j,j<i->P j=false)/\Hid (Below w.heap.size w wr))
 case atStart=>exact⟨0,Nat.zero_le _,rfl,rfl,λj hj=>by omega,Below.refl _ _⟩
 case round=>
 obtain⟨i,hi,HG,rfl,HJ,HB⟩:=hrel
 by_cases hlt:i<n
 rotate_left
 ·obtain rfl:n=i:=by omega
  go_wp2_with fail
  go_ret
  exact .inr ⟨rfl,HJ.out,HB.out⟩
 have qN:(i:Int)<(n:Int):=by omega
 have hln:n=l.length:=HN.out
 obtain⟨b,off,cs,rfl,hb,hcl,hc,hr⟩:=zh.part (zh.below hR HL.out HB.out) i (by omega)
 have hca:=HC.out i (by omega) wr cs hcl hr HB.out
 clear hln hr
 obtain⟨x0,x1,rfl⟩:∃x0 x1,cs= [x0,x1] :=by
  match cs,hcl with
  | [x0,x1],_=>exact⟨x0,x1,rfl⟩
 have hx0:wr.cell? ⟨b,off+i*2,none⟩=some x0:=by have:=hc 0 (by omega);simpa using this
 have hx1:wr.cell? ⟨b,off+i*2+1,none⟩=some x1:=by have:=hc 1 (by omega);simpa using this
 clear hc hcl
 have HCA:=qh hca
 clear hca
 go_wp2_with fail
 refine HCA.out.mono ?_
 rintro e w2 ⟨rfl,hb2⟩
 have HB2:Hid (Below w.heap.size w w2):=HB.out.trans (hb2.mono HB.out.size)
 obtain⟨r,hr⟩:∃r,r=P i:=⟨_,rfl⟩
 rw [<-hr]
 have HR:=qh hr
 clear hb2 hr HCA hx0 hx1
 cases r
 ·go_wp2_with fail
  go_roundg (n - (i+1))
  case measure=>rw [HG.out];omega
  case rel=>exact⟨i+1,by omega,rfl,by simp,λj hj=>by
   by_cases he:j=i
   ·subst he;exact HR.out.symm
   exact HJ.out j (by omega),HB2.out⟩
 go_wp2_with fail
 go_ret
 exact .inl ⟨i,hlt,rfl,⟨HR.out.symm,HJ.out⟩,HB2.out⟩
theorem zk5 {α:Type} [Inhabited α] (R:World->α->List Value->Prop) (hR:kP R) (w:World) (sv:Value) (l:List α) (hl:zh R 4 w sv l) (fn:FuncId) (first captured:Array Value) (P:Nat->Bool) (hfn:∀args W,(callFunc fn args).run Tryz.prog W= .ok (.enter fn args) W)
  (hcall:∀j,j<l.length->∀(W:World) (cs:List Value),cs.length=4->R W (l.getD j default) cs->Below w.heap.size w W->Calls Tryz.prog fn (first.push (.agg cs.toArray)++captured) W λe W'=>e= .returned (.bool (P j))/\Below W.heap.size W W'):
  Calls Tryz.prog 172 #[sv, .func (.func fn) first captured] w λe w'=>(∃i:Nat,i<l.length/\e= .returned (.int .i64 i)/\(P i=true/\∀j,j<i->P j=false)/\Below w.heap.size w w')\/(e= .returned (.int .i64 (-1))/\(∀j,j<l.length->P j=false)/\Below w.heap.size w w'):=by
 obtain⟨a,cap,rfl,hn⟩:=hl.slice
 have HL:=qh hl
 have HC:=qh hcall
 clear hl hcall
 obtain⟨n,hnd⟩:∃n,n=l.length:=⟨_,rfl⟩
 rw [<-hnd] at hn HL ⊢
 have HN:=qh hnd
 clear hnd
 go_enter Tryz.func172,Tryz.ntmps172
 go_wp2_with fail
 go_loopg [8] n (λg s8 wr=>∃i:Nat,i<=n/\Hid (g=n - i)/\s8= .int .i64 i/\Hid (∀j,j<i->P j=false)/\Hid (Below w.heap.size w wr))
 case atStart=>exact⟨0,Nat.zero_le _,rfl,rfl,λj hj=>by omega,Below.refl _ _⟩
 case round=>
 obtain⟨i,hi,HG,rfl,HJ,HB⟩:=hrel
 by_cases hlt:i<n
 rotate_left
 ·obtain rfl:n=i:=by omega
  go_wp2_with fail
  go_ret
  exact .inr ⟨rfl,HJ.out,HB.out⟩
 have qN:(i:Int)<(n:Int):=by omega
 have hln:n=l.length:=HN.out
 obtain⟨b,off,cs,rfl,hb,hcl,hc,hr⟩:=zh.part (zh.below hR HL.out HB.out) i (by omega)
 have hca:=HC.out i (by omega) wr cs hcl hr HB.out
 clear hln hr
 obtain⟨x0,x1,x2,x3,rfl⟩:∃x0 x1 x2 x3,cs= [x0,x1,x2,x3] :=by
  match cs,hcl with
  | [x0,x1,x2,x3],_=>exact⟨x0,x1,x2,x3,rfl⟩
 have hx0:wr.cell? ⟨b,off+i*4,none⟩=some x0:=by have:=hc 0 (by omega);simpa using this
 have hx1:wr.cell? ⟨b,off+i*4+1,none⟩=some x1:=by have:=hc 1 (by omega);simpa using this
 have hx2:wr.cell? ⟨b,off+i*4+2,none⟩=some x2:=by have:=hc 2 (by omega);simpa using this
 have hx3:wr.cell? ⟨b,off+i*4+3,none⟩=some x3:=by have:=hc 3 (by omega);simpa using this
 clear hc hcl
 have HCA:=qh hca
 clear hca
 go_wp2_with fail
 refine HCA.out.mono ?_
 rintro e w2 ⟨rfl,hb2⟩
 have HB2:Hid (Below w.heap.size w w2):=HB.out.trans (hb2.mono HB.out.size)
 obtain⟨r,hr⟩:∃r,r=P i:=⟨_,rfl⟩
 rw [<-hr]
 have HR:=qh hr
 clear hb2 hr HCA hx0 hx1 hx2 hx3
 cases r
 ·go_wp2_with fail
  go_roundg (n - (i+1))
  case measure=>rw [HG.out];omega
  case rel=>exact⟨i+1,by omega,rfl,by simp,λj hj=>by
   by_cases he:j=i
   ·subst he;exact HR.out.symm
   exact HJ.out j (by omega),HB2.out⟩
 go_wp2_with fail
 go_ret
 exact .inl ⟨i,hlt,rfl,⟨HR.out.symm,HJ.out⟩,HB2.out⟩
theorem zhd {α:Type} [Inhabited α] (R:World->α->List Value->Prop) (hR:kP R) (w:World) (sv:Value) (l:List α) (hl:zh R 4 w sv l) (fn:FuncId) (first captured:Array Value) (P:Nat->Bool) (hfn:∀args W,(callFunc fn args).run Tryz.prog W= .ok (.enter fn args) W)
  (hcall:∀j,j<l.length->∀(W:World) (cs:List Value),cs.length=4->R W (l.getD j default) cs->Below w.heap.size w W->Calls Tryz.prog fn (first.push (.agg cs.toArray)++captured) W λe W'=>e= .returned (.bool (P j))/\Below W.heap.size W W'):
  Calls Tryz.prog 165 #[sv, .func (.func fn) first captured] w λe w'=>e= .returned (.bool ((List.range l.length).any P))/\Below w.heap.size w w':=by
 have hc:=zk5 R hR w sv l hl fn first captured P hfn hcall
 have HC:=qh hc
 clear hc hcall hl hfn
 go_enter Tryz.func165,Tryz.ntmps165
 go_wp2_with fail
 refine HC.out.mono ?_
 rintro e w2 (⟨i,hi,rfl,hp,hb⟩|⟨rfl,hp,hb⟩)
 ·have HB:=qh hb
  have HP:=qh hp
  clear hb HC hp
  go_wp2_with fail
  go_ret
  exact⟨(by rw [zfh i hi HP.out.1];first|rfl|simp),HB.out⟩
 have HB:=qh hb
 have HP:=qh hp
 clear hb HC hp
 go_wp2_with fail
 go_ret
 exact⟨(by rw [any_none HP.out];first|rfl|simp),HB.out⟩
theorem zjj {α:Type} [Inhabited α] (R:World->α->List Value->Prop) (hR:kP R) (w:World) (sv:Value) (l:List α) (hl:zh R 12 w sv l) (fn:FuncId) (first captured:Array Value) (P:Nat->Bool) (hfn:∀args W,(callFunc fn args).run Tryz.prog W= .ok (.enter fn args) W)
  (hcall:∀j,j<l.length->∀(W:World) (cs:List Value),cs.length=12->R W (l.getD j default) cs->Below w.heap.size w W->Calls Tryz.prog fn (first.push (.agg cs.toArray)++captured) W λe W'=>e= .returned (.bool (P j))/\Below W.heap.size W W'):
  Calls Tryz.prog 94 #[sv, .func (.func fn) first captured] w λe w'=>(∃i:Nat,i<l.length/\e= .returned (.int .i64 i)/\(P i=true/\∀j,j<i->P j=false)/\Below w.heap.size w w')\/(e= .returned (.int .i64 (-1))/\(∀j,j<l.length->P j=false)/\Below w.heap.size w w'):=by
 obtain⟨a,cap,rfl,hn⟩:=hl.slice
 have HL:=qh hl
 have HC:=qh hcall
 clear hl hcall
 obtain⟨n,hnd⟩:∃n,n=l.length:=⟨_,rfl⟩
 rw [<-hnd] at hn HL ⊢
 have HN:=qh hnd
 clear hnd
 go_enter Tryz.func94,Tryz.ntmps94
 go_wp2_with fail
 go_loopg [8] n (λg s8 wr=>∃i:Nat,i<=n/\Hid (g=n - i)/\s8= .int .i64 i/\Hid (∀j,j<i->P j=false)/\Hid (Below w.heap.size w wr))
 case atStart=>exact⟨0,Nat.zero_le _,rfl,rfl,λj hj=>by omega,Below.refl _ _⟩
 case round=>
 obtain⟨i,hi,HG,rfl,HJ,HB⟩:=hrel
 by_cases hlt:i<n
 rotate_left
 ·obtain rfl:n=i:=by omega
  go_wp2_with fail
  go_ret
  exact .inr ⟨rfl,HJ.out,HB.out⟩
 have qN:(i:Int)<(n:Int):=by omega
 have hln:n=l.length:=HN.out
 obtain⟨b,off,cs,rfl,hb,hcl,hc,hr⟩:=zh.part (zh.below hR HL.out HB.out) i (by omega)
 have hca:=HC.out i (by omega) wr cs hcl hr HB.out
 clear hln hr
 obtain⟨x0,x1,x2,x3,x4,x5,x6,x7,x8,x9,x10,gI,rfl⟩:∃x0 x1 x2 x3 x4 x5 x6 x7 x8 x9 x10 gI,cs= [x0,x1,x2,x3,x4,x5,x6,x7,x8,x9,x10,gI] :=by
  match cs,hcl with
  | [x0,x1,x2,x3,x4,x5,x6,x7,x8,x9,x10,gI],_=>exact⟨x0,x1,x2,x3,x4,x5,x6,x7,x8,x9,x10,gI,rfl⟩
 have hx0:wr.cell? ⟨b,off+i*12,none⟩=some x0:=by have:=hc 0 (by omega);simpa using this
 have hx1:wr.cell? ⟨b,off+i*12+1,none⟩=some x1:=by have:=hc 1 (by omega);simpa using this
 have hx2:wr.cell? ⟨b,off+i*12+2,none⟩=some x2:=by have:=hc 2 (by omega);simpa using this
 have hx3:wr.cell? ⟨b,off+i*12+3,none⟩=some x3:=by have:=hc 3 (by omega);simpa using this
 have hx4:wr.cell? ⟨b,off+i*12+4,none⟩=some x4:=by have:=hc 4 (by omega);simpa using this
 have hx5:wr.cell? ⟨b,off+i*12+5,none⟩=some x5:=by have:=hc 5 (by omega);simpa using this
 have hx6:wr.cell? ⟨b,off+i*12+6,none⟩=some x6:=by have:=hc 6 (by omega);simpa using this
 have hx7:wr.cell? ⟨b,off+i*12+7,none⟩=some x7:=by have:=hc 7 (by omega);simpa using this
 have hx8:wr.cell? ⟨b,off+i*12+8,none⟩=some x8:=by have:=hc 8 (by omega);simpa using this
 have hx9:wr.cell? ⟨b,off+i*12+9,none⟩=some x9:=by have:=hc 9 (by omega);simpa using this
 have z5i:wr.cell? ⟨b,off+i*12+10,none⟩=some x10:=by have:=hc 10 (by omega);simpa using this
 have z5j:wr.cell? ⟨b,off+i*12+11,none⟩=some gI:=by have:=hc 11 (by omega);simpa using this
 clear hc hcl
 have HCA:=qh hca
 clear hca
 go_wp2_with fail
 refine HCA.out.mono ?_
 rintro e w2 ⟨rfl,hb2⟩
 have HB2:Hid (Below w.heap.size w w2):=HB.out.trans (hb2.mono HB.out.size)
 obtain⟨r,hr⟩:∃r,r=P i:=⟨_,rfl⟩
 rw [<-hr]
 have HR:=qh hr
 clear hb2 hr HCA hx0 hx1 hx2 hx3 hx4 hx5 hx6 hx7 hx8 hx9 z5i z5j
 cases r
 ·go_wp2_with fail
  go_roundg (n - (i+1))
  case measure=>rw [HG.out];omega
  case rel=>exact⟨i+1,by omega,rfl,by simp,λj hj=>by
   by_cases he:j=i
   ·subst he;exact HR.out.symm
   exact HJ.out j (by omega),HB2.out⟩
 go_wp2_with fail
 go_ret
 exact .inl ⟨i,hlt,rfl,⟨HR.out.symm,HJ.out⟩,HB2.out⟩
theorem zgt {α:Type} [Inhabited α] (R:World->α->List Value->Prop) (hR:kP R) (w:World) (sv:Value) (l:List α) (hl:zh R 12 w sv l) (fn:FuncId) (first captured:Array Value) (P:Nat->Bool) (hfn:∀args W,(callFunc fn args).run Tryz.prog W= .ok (.enter fn args) W)
  (hcall:∀j,j<l.length->∀(W:World) (cs:List Value),cs.length=12->R W (l.getD j default) cs->Below w.heap.size w W->Calls Tryz.prog fn (first.push (.agg cs.toArray)++captured) W λe W'=>e= .returned (.bool (P j))/\Below W.heap.size W W'):
  Calls Tryz.prog 76 #[sv, .func (.func fn) first captured] w λe w'=>e= .returned (.bool ((List.range l.length).any P))/\Below w.heap.size w w':=by
 have hc:=zjj R hR w sv l hl fn first captured P hfn hcall
 have HC:=qh hc
 clear hc hcall hl hfn
 go_enter Tryz.func76,Tryz.ntmps76
 go_wp2_with fail
 refine HC.out.mono ?_
 rintro e w2 (⟨i,hi,rfl,hp,hb⟩|⟨rfl,hp,hb⟩)
 ·have HB:=qh hb
  have HP:=qh hp
  clear hb HC hp
  go_wp2_with fail
  go_ret
  exact⟨(by rw [zfh i hi HP.out.1];first|rfl|simp),HB.out⟩
 have HB:=qh hb
 have HP:=qh hp
 clear hb HC hp
 go_wp2_with fail
 go_ret
 exact⟨(by rw [any_none HP.out];first|rfl|simp),HB.out⟩
theorem zxG (w:World) (a b:Int):Calls Tryz.prog 177 #[.int .i64 a, .int .i64 b] w λe w'=>e= .returned (.int .i64 (evalOp 43 a b))/\Below w.heap.size w w':=by
 have hr:evalOp 43 a b=wrap64 (a+b):=by simp [evalOp]
 rw [hr]
 go_enter Tryz.func177,Tryz.ntmps177
 go_wp2_with fail
 go_ret
 exact⟨by first|rfl|simp,Below.refl _ _⟩
theorem zxH (w:World) (a b:Int):Calls Tryz.prog 178 #[.int .i64 a, .int .i64 b] w λe w'=>e= .returned (.int .i64 (evalOp 45 a b))/\Below w.heap.size w w':=by
 have hr:evalOp 45 a b=wrap64 (a - b):=by simp [evalOp]
 rw [hr]
 go_enter Tryz.func178,Tryz.ntmps178
 go_wp2_with fail
 go_ret
 exact⟨by first|rfl|simp,Below.refl _ _⟩
theorem zxI (w:World) (a b:Int):Calls Tryz.prog 179 #[.int .i64 a, .int .i64 b] w λe w'=>e= .returned (.int .i64 (evalOp 42 a b))/\Below w.heap.size w w':=by
 have hr:evalOp 42 a b=wrap64 (a*b):=by simp [evalOp]
 rw [hr]
 go_enter Tryz.func179,Tryz.ntmps179
 go_wp2_with fail
 go_ret
 exact⟨by first|rfl|simp,Below.refl _ _⟩
theorem zxJ (w:World) (a b:Int):Calls Tryz.prog 180 #[.int .i64 a, .int .i64 b] w λe w'=>e= .returned (.int .i64 (evalOp 38 a b))/\Below w.heap.size w w':=by
 have hr:evalOp 38 a b=bits .and .i64 a b:=by simp [evalOp]
 rw [hr]
 go_enter Tryz.func180,Tryz.ntmps180
 go_wp2_with fail
 go_ret
 exact⟨by first|rfl|simp,Below.refl _ _⟩
theorem zxK (w:World) (a b:Int):Calls Tryz.prog 181 #[.int .i64 a, .int .i64 b] w λe w'=>e= .returned (.int .i64 (evalOp 124 a b))/\Below w.heap.size w w':=by
 have hr:evalOp 124 a b=bits .or .i64 a b:=by simp [evalOp]
 rw [hr]
 go_enter Tryz.func181,Tryz.ntmps181
 go_wp2_with fail
 go_ret
 exact⟨by first|rfl|simp,Below.refl _ _⟩
theorem zxL (w:World) (a b:Int):Calls Tryz.prog 183 #[.int .i64 a, .int .i64 b] w λe w'=>e= .returned (.bool (decide (a<b)))/\w'=w:=by
 go_enter Tryz.func183,Tryz.ntmps183
 go_wp2_with fail
 go_ret
 exact⟨congrArg (λq=>Ending.returned (.bool q)) (by first|rfl|(rw [Bool.eq_iff_iff];simp)),rfl⟩
theorem zxM (w:World) (a b:Int):Calls Tryz.prog 184 #[.int .i64 a, .int .i64 b] w λe w'=>e= .returned (.bool (decide (a=b)))/\w'=w:=by
 go_enter Tryz.func184,Tryz.ntmps184
 go_wp2_with fail
 go_ret
 exact⟨congrArg (λq=>Ending.returned (.bool q)) (by first|rfl|(rw [Bool.eq_iff_iff];simp)),rfl⟩
theorem zxN (w:World) (a b:Int):Calls Tryz.prog 185 #[.int .i64 a, .int .i64 b] w λe w'=>e= .returned (.bool (!decide (a=b)))/\w'=w:=by
 go_enter Tryz.func185,Tryz.ntmps185
 go_wp2_with fail
 go_ret
 exact⟨congrArg (λq=>Ending.returned (.bool q)) (by first|rfl|(rw [Bool.eq_iff_iff];simp)),rfl⟩
def z2J (w:World) (op:Int) (v:Value):Prop:=∃f cap,v= .func (.func f) #[] cap/\(∀args W,(callFunc f args).run Tryz.prog W= .ok (.enter f args) W)/\
 ∀W,Below w.heap.size w W->∀a b:Int,Calls Tryz.prog f (#[.int .i64 a, .int .i64 b] ++cap) W λe W'=>e= .returned (.int .i64 (evalOp op a b))/\Below W.heap.size W W'
theorem zed (w:World) (f:FuncId) (g:Nat) (hg:w.cell? ⟨g,0,none⟩=some (.func (.func f) #[] #[])) (hf:∀args W,(callFunc f args).run Tryz.prog W= .ok (.enter f args) W) (op a b:Int) (r:Bool) (hr:evalOp op a b=if r then 1 else 0)
  (hc:Calls Tryz.prog f #[.int .i64 a, .int .i64 b] w λe w'=>e= .returned (.bool r)/\w'=w):
  Calls Tryz.prog 188 #[.int .i64 a, .int .i64 b, .pointer (some ⟨g,0,none⟩)] w λe w'=>e= .returned (.int .i64 (evalOp op a b))/\Below w.heap.size w w':=by
 have HC:=qh hc
 have HR:=qh hr
 clear hc hr
 cases r with
 |true=>
  rw [HR.out]
  clear HR
  go_enter Tryz.func188,Tryz.ntmps188
  go_wp2_with fail
  refine HC.out.mono ?_
  rintro e w2 ⟨rfl,rfl⟩
  go_wp2_with fail
  go_ret
  exact⟨by first|rfl|simp,Below.refl _ _⟩
 |false=>
 rw [HR.out]
 clear HR
 go_enter Tryz.func188,Tryz.ntmps188
 go_wp2_with fail
 refine HC.out.mono ?_
 rintro e w2 ⟨rfl,rfl⟩
 go_wp2_with fail
 go_ret
 exact⟨by first|rfl|simp,Below.refl _ _⟩
theorem zfi (w:World) (f:FuncId):Calls Tryz.prog 182 #[.func (.func f) #[] #[]] w λe w'=>e= .returned (.func (.func 188) #[] #[.pointer (some ⟨w.heap.size,0,none⟩)])/\w'.cell? ⟨w.heap.size,0,none⟩=some (.func (.func f) #[] #[])/\w.heap.size<w'.heap.size/\Below w.heap.size w w':=by
 have HA:=qh ((Below.refl w.heap.size w).alloc (Nat.le_refl _) (.cells #[.func (.func f) #[] #[]] 187))
 have HX:=qh (yj w (.cells #[.func (.func f) #[] #[]] 187))
 go_enter Tryz.func182,Tryz.ntmps182
 go_wp2_with fail
 go_ret
 exact⟨rfl,ze HX.out 0,by simp,HA.out⟩
theorem zkY (w:World) (op:Int):Calls Tryz.prog 174 #[.int .u8 op] w λe w'=>(∃v,e= .returned v/\(z2J w' op v\/(v= .nilFunc/\∀a b,evalOp op a b=0)))/\Below w.heap.size w w':=by
 by_cases o0:op=43
 ·subst o0
  go_enter Tryz.func174,Tryz.ntmps174
  go_wp2_with fail
  go_ret
  exact⟨⟨_,rfl, .inl ⟨177, #[],rfl,λ_ _=>rfl,λW _ a b=>zxG W a b⟩⟩,Below.refl _ _⟩
 skip
 by_cases o1:op=45
 ·subst o1
  clear o0
  go_enter Tryz.func174,Tryz.ntmps174
  go_wp2_with fail
  go_ret
  exact⟨⟨_,rfl, .inl ⟨178, #[],rfl,λ_ _=>rfl,λW _ a b=>zxH W a b⟩⟩,Below.refl _ _⟩
 skip
 by_cases o2:op=42
 ·subst o2
  clear o0 o1
  go_enter Tryz.func174,Tryz.ntmps174
  go_wp2_with fail
  go_ret
  exact⟨⟨_,rfl, .inl ⟨179, #[],rfl,λ_ _=>rfl,λW _ a b=>zxI W a b⟩⟩,Below.refl _ _⟩
 skip
 by_cases o3:op=38
 ·subst o3
  clear o0 o1 o2
  go_enter Tryz.func174,Tryz.ntmps174
  go_wp2_with fail
  go_ret
  exact⟨⟨_,rfl, .inl ⟨180, #[],rfl,λ_ _=>rfl,λW _ a b=>zxJ W a b⟩⟩,Below.refl _ _⟩
 skip
 by_cases o4:op=124
 ·subst o4
  clear o0 o1 o2 o3
  go_enter Tryz.func174,Tryz.ntmps174
  go_wp2_with fail
  go_ret
  exact⟨⟨_,rfl, .inl ⟨181, #[],rfl,λ_ _=>rfl,λW _ a b=>zxK W a b⟩⟩,Below.refl _ _⟩
 skip
 by_cases o5:op=60
 ·subst o5
  clear o0 o1 o2 o3 o4
  go_enter Tryz.func174,Tryz.ntmps174
  go_wp2_with fail
  refine(zfi w 183).mono ?_
  rintro e w2 ⟨rfl,hc,hlt,hb⟩
  have HC:=qh hc
  have HB:=qh hb
  have HLT:=qh hlt
  clear hc hb hlt
  go_wp2_with fail
  go_ret
  exact⟨⟨_,rfl, .inl ⟨188, #[.pointer (some ⟨w.heap.size,0,none⟩)],rfl,λ_ _=>rfl,λW hW a b=>zed W 183 w.heap.size (zk hW _ _ HC.out) (λ_ _=>rfl) 60 a b (decide (a<b)) (by simp [evalOp]) (zxL W a b)⟩⟩,HB.out⟩
 skip
 by_cases o6:op=61
 ·subst o6
  clear o0 o1 o2 o3 o4 o5
  go_enter Tryz.func174,Tryz.ntmps174
  go_wp2_with fail
  refine(zfi w 184).mono ?_
  rintro e w2 ⟨rfl,hc,hlt,hb⟩
  have HC:=qh hc
  have HB:=qh hb
  have HLT:=qh hlt
  clear hc hb hlt
  go_wp2_with fail
  go_ret
  exact⟨⟨_,rfl, .inl ⟨188, #[.pointer (some ⟨w.heap.size,0,none⟩)],rfl,λ_ _=>rfl,λW hW a b=>zed W 184 w.heap.size (zk hW _ _ HC.out) (λ_ _=>rfl) 61 a b (decide (a=b)) (by simp [evalOp]) (zxM W a b)⟩⟩,HB.out⟩
 skip
 by_cases o7:op=33
 ·subst o7
  clear o0 o1 o2 o3 o4 o5 o6
  go_enter Tryz.func174,Tryz.ntmps174
  go_wp2_with fail
  refine(zfi w 185).mono ?_
  rintro e w2 ⟨rfl,hc,hlt,hb⟩
  have HC:=qh hc
  have HB:=qh hb
  have HLT:=qh hlt
  clear hc hb hlt
  go_wp2_with fail
  go_ret
  exact⟨⟨_,rfl, .inl ⟨188, #[.pointer (some ⟨w.heap.size,0,none⟩)],rfl,λ_ _=>rfl,λW hW a b=>zed W 185 w.heap.size (zk hW _ _ HC.out) (λ_ _=>rfl) 33 a b (!decide (a=b)) (by simp [evalOp]) (zxN W a b)⟩⟩,HB.out⟩
 have hz:∀a b,evalOp op a b=0:=λa b=>by simp [evalOp,o0,o1,o2,o3,o4,o5,o6,o7]
 have n0:((op:Int)==43)=false:=by simp [o0]
 have n1:((op:Int)==45)=false:=by simp [o1]
 have n2:((op:Int)==42)=false:=by simp [o2]
 have n3:((op:Int)==38)=false:=by simp [o3]
 have n4:((op:Int)==124)=false:=by simp [o4]
 have n5:((op:Int)==60)=false:=by simp [o5]
 have n6:((op:Int)==61)=false:=by simp [o6]
 have n7:((op:Int)==33)=false:=by simp [o7]
 have HZ:=qh hz
 clear hz o0 o1 o2 o3 o4 o5 o6 o7
 go_enter Tryz.func174,Tryz.ntmps174
 go_wp2_with fail
 go_ret
 exact⟨⟨_,rfl, .inr ⟨rfl,HZ.out⟩⟩,Below.refl _ _⟩
theorem zjF (l:List zl) (v:Int):∀k,k<=l.length->(∀j,j<k->(l.getD j default).var≠v)->yL l v k=(none,l.take k):=by
 intro k
 induction k with
 |zero=>intro _ _;simp [yL]
 |succ k ih=>
 intro hk h
 unfold yL
 rw [ih (by omega) (λj hj=>h j (by omega))]
 have e:decide ((l.getD k default).var=v)=false:=decide_eq_false (h k (by omega))
 rw [e]
 simp only [Option.isNone_none,Bool.and_false,Bool.false_eq_true,if_false]
 rw [bE (by omega) rfl]
theorem zoT (l:List zl) (v:Int) (i:Nat) (hi:i<l.length) (h:∀j,j<i->(l.getD j default).var≠v) (hv:(l.getD i default).var=v):∀k,i<k->k<=l.length->yL l v k=(some (l.getD i default),l.take i++(l.take k).drop (i+1)):=by
 intro k hk
 induction k with
 |zero=>omega
 |succ k ih=>
 intro hkl
 unfold yL
 by_cases he:k=i
 ·subst he
  rw [zjF l v k (by omega) h,decide_eq_true hv]
  simp only [Option.isNone_none,Bool.and_true,if_true]
  rw [List.drop_eq_nil_of_le (by rw [List.length_take];omega),List.append_nil]
 rw [ih (by omega) (by omega)]
 simp only [Option.isNone_some,Bool.false_and,Bool.false_eq_true,if_false]
 rw [bE (l:=l) (i:=k) (by omega) rfl,List.drop_append_of_le_length (by rw [List.length_take];omega),List.append_assoc]
theorem ztA (l:List zl) (v:Int) (h:∀j,j<l.length->(l.getD j default).var≠v):takeB l v=(none,l):=by unfold takeB;rw [zjF l v _ (Nat.le_refl _) h,List.take_length]
theorem zqR (l:List zl) (v:Int) (i:Nat) (hi:i<l.length) (h:∀j,j<i->(l.getD j default).var≠v) (hv:(l.getD i default).var=v):takeB l v=(some (l.getD i default),l.take i++l.drop (i+1)):=by
 unfold takeB;rw [zoT l v i hi h hv _ hi (Nat.le_refl _),List.take_length]
theorem zqS (i:Nat) (h:i<=1000000000):IntKind.i64.wrap ((i:Int)+1)=(i:Int)+1:=IntWalk.i64_in _ (by omega)
theorem zoU {α:Type} {f:α->List Value} {size:Nat} (hf:∀x,(f x).length=size):∀(l:List α) (i:Nat),(zo f l).take (i*size)=zo f (l.take i):=by
 intro l
 induction l with
 |nil=>intro i;simp [zo]
 |cons x l ih=>
 intro i
 cases i with
 |zero=>simp [zo]
 |succ i=>
 have e:=ih i
 simp only [zo,List.flatMap_cons,List.take_succ_cons] at e ⊢
 rw [List.take_append,List.take_of_length_le (by rw [hf,Nat.add_mul];omega),hf,show(i+1)*size - size=i*size by rw [Nat.add_mul];omega,e]
theorem zoV {α:Type} {f:α->List Value} {size:Nat} (hf:∀x,(f x).length=size):∀(l:List α) (i:Nat),(zo f l).drop (i*size)=zo f (l.drop i):=by
 intro l
 induction l with
 |nil=>intro i;simp [zo]
 |cons x l ih=>
 intro i
 cases i with
 |zero=>simp [zo]
 |succ i=>
 have e:=ih i
 simp only [zo,List.flatMap_cons,List.drop_succ_cons] at e ⊢
 rw [List.drop_append,List.drop_of_length_le (by rw [hf,Nat.add_mul];omega),hf,show(i+1)*size - size=i*size by rw [Nat.add_mul];omega,e]
 rfl
theorem zoW (w:World) (x y v:Int) (g:Nat) (hg:w.cell? ⟨g,0,none⟩=some (.int .i64 v)):Calls Tryz.prog 133 #[.agg #[.int .i64 x, .int .i64 y], .pointer (some ⟨g,0,none⟩)] w λe w'=>e= .returned (.bool (x==v))/\Below w.heap.size w w':=by
 have HA:=qh ((Below.refl w.heap.size w).alloc (Nat.le_refl _) (.cells #[.int .i64 x, .int .i64 y] 110))
 have HX:=qh (yj w (.cells #[.int .i64 x, .int .i64 y] 110))
 replace hg:=zk HA.out _ _ hg
 go_enter Tryz.func133,Tryz.ntmps133
 go_upto_region 1 with fail
 generalize World.alloc w _=W at HA HX hg ⊢
 obtain⟨gi,hgi⟩:∃g,g=w.heap.size:=⟨_,rfl⟩
 rw [<-hgi] at HX ⊢
 clear hgi
 have c0:W.cell? ⟨gi,0,none⟩=some (.int .i64 x):=ze HX.out 0
 go_wp2_with fail
 go_ret
 exact⟨by first|rfl|simp,HA.out⟩
theorem zqT (w:World) (bv:Value) (l:List zl) (h:zZ w bv l) (hl:l.length<=1000000) (v:Int):
  Calls Tryz.prog 101 #[bv, .int .i64 v] w λe w'=>(∃sv,e= .returned (.tuple #[((takeB l v).1.getD default).val,sv, .bool (takeB l v).1.isSome])/\zZ w' sv (takeB l v).2/\((takeB l v).1.isSome=true->w'.ownsRow w.heap.size 110 2 sv (takeB l v).2.length (zo zl.cells (takeB l v).2)))/\Below w.heap.size w w':=by
 obtain⟨ba,bc,rfl, -⟩:=zh.slice h
 have hB:=xO w (.cells #[.int .i64 v] 3) (.cells #[.int .i64 0, .int .i64 0] 110)
 have HB:=qh hB
 have H1:=qh (xP w (.cells #[.int .i64 v] 3) (.cells #[.int .i64 0, .int .i64 0] 110))
 have H2:=qh (xw w (.cells #[.int .i64 v] 3) (.cells #[.int .i64 0, .int .i64 0] 110))
 have HL:=qh h
 obtain⟨n,hn⟩:∃n,n=l.length:=⟨_,rfl⟩
 have HN:=qh hn
 have hix:=λW (hW:Below w.heap.size w W) (hg:W.cell? ⟨w.heap.size,0,none⟩=some (.int .i64 v))=>zji zan zan.stays W _ l (zZ.below h hW) 133 #[] #[.pointer (some ⟨w.heap.size,0,none⟩)] (λj=>(l.getD j default).var==v) (λ_ _=>rfl)
  (λj hj W' cs hcl hq hW'=>by
   obtain rfl:cs=zl.cells _:=hq
   exact zoW W' _ _ v w.heap.size (zk hW' _ _ hg))
 rw [<-hn] at hix ⊢
 have HIX:=qh hix
 clear h hB hn hix
 go_enter Tryz.func101,Tryz.ntmps101
 go_upto_region 1 with fail
 generalize World.alloc (World.alloc w _) _=W at HB H1 H2 ⊢
 obtain⟨gx,hgx⟩:∃gx,gx=w.heap.size:=⟨_,rfl⟩
 rw [<-hgx] at H1 H2 HIX ⊢
 have xg:=qh hgx
 clear hgx
 go_wp2_with fail
 have HW:Hid (Below w.heap.size w W):=HB.out
 refine(HIX.out W (by rw [xg.out];exact HB.out) (ze H1.out 0)).mono ?_
 rintro e w2 (⟨i,hi,rfl,hp,hb⟩|⟨rfl,hp,hb⟩)
 ·have HB2:Hid (Below w.heap.size w w2):=HB.out.trans (hb.mono HB.out.size)
  have HG:Hid (w2.heap[gx+1]? =some (.cells #[.int .i64 0, .int .i64 0] 110)):=(hb.block (gx+1) (zw H2.out)).trans H2.out
  have j3:Hid (takeB l v=(some (l.getD i default),l.take i++l.drop (i+1))):=zqR l v i (by rw [<-HN.out];exact hi) (λj hj=>by have:=hp.2 j hj;simpa using this) (by have:=hp.1;simpa using this)
  clear hb hp HIX HB H1 H2 HW
  obtain⟨bb,bo,rfl,hbb,q0,q1⟩:=HL.out.part i (by rw [<-HN.out];exact hi)
  obtain⟨x0,hx0⟩:∃x,x=(l.getD i default).var:=⟨_,rfl⟩
  obtain⟨x1,hx1⟩:∃x,x=(l.getD i default).n:=⟨_,rfl⟩
  rw [<-hx0] at q0
  rw [<-hx1] at q1
  have HV:Hid ((l.getD i default).val= .agg #[.int .i64 x0, .int .i64 x1]):=by rw [hx0,hx1];rfl
  have CC:Hid (∀X,Below w.heap.size w X->X.cell? ⟨bb,bo+i*2,none⟩=some (.int .i64 x0)/\X.cell? ⟨bb,bo+i*2+1,none⟩=some (.int .i64 x1)):=λX hX=>⟨zk hX _ _ q0,zk hX _ _ q1⟩
  have zoX:Hid (∀X,Below w.heap.size w X->SrcOf X (.slice (some ⟨bb,bo,none⟩) n bc) n 2 (zo zl.cells l)):=λX hX=>by
   have:=SrcOf.of_slice (R:=zan) (by decide) wS (λ_ _ _ h=>h) (zZ.below HL.out hX)
   rw [<-HN.out] at this;exact this
  have z5k:Hid ((zo zl.cells l).take (i*2)++(zo zl.cells l).drop (i*2+2)=zo zl.cells (l.take i++l.drop (i+1))):=by
   rw [Hid,kW,zoU wS,show i*2+2=(i+1)*2 by omega,zoV wS]
  have HLEN:Hid ((l.take i++l.drop (i+1)).length=n - 1):=by rw [Hid,List.length_append,List.length_take,List.length_drop, <-HN.out];omega
  have hiI:(i:Int)<(n:Int):=by omega
  have hn0:0<n:=by omega
  have hnl:n<=100000000:=by rw [HN.out];omega
  have hwr:=zqS i (by omega)
  clear q0 q1 hx0 hx1 hbb
  go_upto_region 4 with fail
  refine jf (S:=λx=>Below w.heap.size w x) (HB2.out.drew) (λhH=> ?_)
  refine zB 0 CC.out ?_
  refine zB 1 CC.out ?_
  refine zB 2 CC.out ?_
  refine zB 3 CC.out ?_
  refine zB 4 CC.out ?_
  refine zB 6 CC.out ?_
  refine zB 7 CC.out ?_
  refine zB 8 CC.out ?_
  refine yC 5 rfl (λK hK=> ?_)
  go_simp
  refine(zjk w2.drew _ n (zo zl.cells l) (zoX.out w2.drew hH) bF hnl).mono ?_
  rintro e hw5 ⟨⟨ca,cc,rfl,hrow⟩,hb⟩
  obtain⟨cg,cap',hce,hcg, -⟩:=uz hrow hn0
  cases hce
  have HG5:Hid (hw5.heap[gx+1]? =some (.cells #[.int .i64 0, .int .i64 0] 110)):=(hb.block (gx+1) (zw (w:=w2) HG.out)).trans HG.out
  have z2K:=qh hrow
  have HCG:=qh (show w2.heap.size<=cg from(hrow.lt cg rfl).1)
  clear hrow hcg
  have zfj:Below w.heap.size w hw5:=zH hH hb
  refine hK.out _ _ zfj (λ_=> ?_)
  clear hK K hb hH
  refine yC 9 rfl (λK hK=> ?_)
  go_simp
  with_reducible refine(znd hw5 _ cg n cc i _ z2K.out bF hi hnl).mono ?_
  rintro e hw9 ⟨rfl,hrow,hs⟩
  rw [z5k.out] at hrow
  have zwq:=qh hrow
  have HGG:=qh (show gx+1<w2.heap.size from zw HG.out)
  have HG9:Hid (hw9.heap[gx+1]? =some (.cells #[.int .i64 0, .int .i64 0] 110)):=(hs.block (gx+1) (zw HG5.out) (by have:=HGG.out;have:=HCG.out;omega)).trans HG5.out
  have hb:=hs
  clear hrow
  have ztB:Below w.heap.size w hw9:=(zfj).trans (hs.below (zfj).size (λk (e:k=cg)=>by have:=HCG.out;have:=HB2.out.size;omega))
  refine hK.out _ _ ztB (λ_=> ?_)
  clear hK K hb zfj
  refine yC 10 rfl (λK hK=> ?_)
  go_simp
  have d2:hw9.cell? ⟨gx+1,0,none⟩=some (.int .i64 0):=ze HG9.out 0
  have d3:hw9.cell? ⟨gx+1,1,none⟩=some (.int .i64 0):=ze HG9.out 1
  have f0:hw9.frozen? ⟨gx+1,0,none⟩=false:=zA HG9.out 0
  have f1:hw9.frozen? ⟨gx+1,1,none⟩=false:=zA HG9.out 1
  go_simp
  have zwr:=((ztB).setCell (p:=⟨gx+1,0,none⟩) (by rw [xg.out];simp) (.int .i64 x0)).setCell (p:=⟨gx+1,1,none⟩) (by rw [xg.out];simp) (.int .i64 x1)
  clear d2 d3 f0 f1
  refine hK.out _ _ zwr (λ_=> ?_)
  clear hK K ztB
  refine zB 11 CC.out ?_
  refine zB 12 CC.out ?_
  refine xW ?_
  have hfin:=Since.setCell (p:=⟨gx+1,1,none⟩) (Since.setCell (F:=λk=>k=gx+1) (p:=⟨gx+1,0,none⟩) (Since.refl _ hw9) (.inl rfl) (.int .i64 x0)) (.inl rfl) (.int .i64 x1)
  have hset:=zu (zu HG9.out 0 (.int .i64 x0)) 1 (.int .i64 x1)
  simp only [List.setIfInBounds_toArray,List.set_cons_zero,List.set_cons_succ] at hset
  have zJ:=qh hset
  have yG:=qh hfin
  have zR:=qh (zwr)
  clear hset hfin
  go_wp2_with fail
  refine bodyPost_ret (zbM rfl _ _ (gx+1) 110 _ (0,0) _ rfl zJ.out Tryz.underlying110 rfl zee) rfl ?_
  rw [j3.out]
  have zws:((hw9.setCell ⟨gx+1,0,none⟩ (.int .i64 x0)).setCell ⟨gx+1,1,none⟩ (.int .i64 x1)).ownsRow w2.heap.size 110 2 (.slice (some ⟨cg,0,none⟩) (n - 1) cc) (l.take i++l.drop (i+1)).length (zo zl.cells (l.take i++l.drop (i+1))):=by
   rw [HLEN.out]
   exact yG.out.row zwq.out (λk hk e=>by have h1:w2.heap.size<=k:=(zwq.out.lt k hk).1;have:=HGG.out;omega)
  exact⟨⟨_,by rw [Option.getD_some,HV.out];rfl,kX zws,λ_=>xq zws HB2.out.size⟩,zR.out⟩
 have HB2:Hid (Below w.heap.size w w2):=HB.out.trans (hb.mono HB.out.size)
 have HG:Hid (w2.heap[gx+1]? =some (.cells #[.int .i64 0, .int .i64 0] 110)):=(hb.block (gx+1) (zw H2.out)).trans H2.out
 have j3:Hid (takeB l v=(none,l)):=ztA l v (λj hj=>by have:=hp j (by rw [HN.out];exact hj);simpa using this)
 clear hb hp HIX HB H1 H2 HW
 have d2:w2.cell? ⟨gx+1,0,none⟩=some (.int .i64 0):=ze HG.out 0
 have d3:w2.cell? ⟨gx+1,1,none⟩=some (.int .i64 0):=ze HG.out 1
 have f0:w2.frozen? ⟨gx+1,0,none⟩=false:=zA HG.out 0
 have f1:w2.frozen? ⟨gx+1,1,none⟩=false:=zA HG.out 1
 have hset:=zu (zu HG.out 0 (.int .i64 0)) 1 (.int .i64 0)
 simp only [List.setIfInBounds_toArray,List.set_cons_zero,List.set_cons_succ] at hset
 have zJ:=qh hset
 have zR:=qh ((HB2.out.setCell (p:=⟨gx+1,0,none⟩) (by rw [xg.out];simp) (.int .i64 0)).setCell (p:=⟨gx+1,1,none⟩) (by rw [xg.out];simp) (.int .i64 0))
 clear hset
 go_wp2_with fail
 refine bodyPost_ret (zbM rfl _ _ (gx+1) 110 _ (0,0) _ rfl zJ.out Tryz.underlying110 rfl zee) rfl ?_
 rw [j3.out]
 refine⟨⟨.slice ba n bc,rfl, ?_,λe=>by cases e⟩,zR.out⟩
 have:=zZ.below HL.out zR.out
 rw [<-HN.out] at this
 exact this
