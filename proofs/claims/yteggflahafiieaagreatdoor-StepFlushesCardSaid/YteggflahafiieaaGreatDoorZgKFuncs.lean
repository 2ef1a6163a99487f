/- Steps. -/
import Derived.Test.YteggflahafiieaaGreatDoorZgExpr2
set_option linter.all false
namespace Go.Proofs.YteggflahafiieaaGreatDoor
open Go.RowKit
set_option maxRecDepth 100000
set_option maxHeartbeats 16000000
theorem zbz {n:Nat} {P:Nat->Bool} (i:Nat) (hi:i<n) (h:P i=true):(List.range n).any P=true:=by
 rw [List.any_eq_true];exact⟨i,by simpa using hi,h⟩
theorem any_none {n:Nat} {P:Nat->Bool} (h:∀j,j<n->P j=false):(List.range n).any P=false:=by
 rw [List.any_eq_false];intro j hj;rw [h j (by simpa using hj)];simp
theorem znO {α:Type} [Inhabited α] (R:World->α->List Value->Prop) (hR:jO R) (w:World) (sv:Value) (l:List α) (hl:ze R 1 w sv l) (fn:FuncId) (first captured:Array Value) (P:Nat->Bool) (hfn:∀args W,(callFunc fn args).run Tryz.prog W= .ok (.enter fn args) W)
  (hcall:∀j,j<l.length->∀(W:World) (cs:List Value),cs.length=1->R W (l.getD j default) cs->Below w.heap.size w W->Calls Tryz.prog fn (first.push (cs.getD 0 undef)++captured) W λe W'=>e= .returned (.bool (P j))/\Below W.heap.size W W'):
  Calls Tryz.prog 89 #[sv, .func (.func fn) first captured] w λe w'=>(∃i:Nat,i<l.length/\e= .returned (.int .i64 i)/\(P i=true/\∀j,j<i->P j=false)/\Below w.heap.size w w')\/(e= .returned (.int .i64 (-1))/\(∀j,j<l.length->P j=false)/\Below w.heap.size w w'):=by
 obtain⟨a,cap,rfl,hn⟩:=hl.slice
 have HL:=qh hl
 have HC:=qh hcall
 clear hl hcall
 obtain⟨n,hnd⟩:∃n,n=l.length:=⟨_,rfl⟩
 rw [<-hnd] at hn HL ⊢
 have HN:=qh hnd
 clear hnd
 go_enter Tryz.func89,Tryz.ntmps89
 go_wp2_with fail
 go_loopg [8] n (λg s8 wr=>∃i:Nat,i<=n/\Hid (g=n - i)/\s8= .int .i64 i/\Hid (∀j,j<i->P j=false)/\Hid (Below w.heap.size w wr))
 case atStart=>exact⟨0,Nat.zero_le _,rfl,rfl,λj hj=>by omega,Below.refl _ _⟩
 case round=>
 obtain⟨i,hi,HG,rfl,HJ,HB⟩:=hrel
 by_cases hlt:i<n
 rotate_left
 ·obtain rfl:n=i:=by omega
  go_wp2_with fail
  go_ret
  exact .inr ⟨rfl,HJ.out,HB.out⟩
 have qK:(i:Int)<(n:Int):=by omega
 have hln:n=l.length:=HN.out
 obtain⟨b,off,cs,rfl,hb,hcl,hc,hr⟩:=ze.part (ze.below hR HL.out HB.out) i (by omega)
 have hca:=HC.out i (by omega) wr cs hcl hr HB.out
 clear hln hr
 obtain⟨x0,rfl⟩:∃x0,cs= [x0] :=by
  match cs,hcl with
  | [x0],_=>exact⟨x0,rfl⟩
 have hx0:wr.cell? ⟨b,off+i,none⟩=some x0:=by have:=hc 0 (by omega);simpa using this
 clear hc hcl
 have HCA:=qh hca
 clear hca
 go_wp2_with fail
 refine HCA.out.mono ?_
 rintro e w2 ⟨rfl,hb2⟩
 have HB2:Hid (Below w.heap.size w w2):=HB.out.trans (hb2.mono HB.out.size)
 obtain⟨r,hr⟩:∃r,r=P i:=⟨_,rfl⟩
 rw [<-hr]
 have HR:=qh hr
 clear hb2 hr HCA hx0
 cases r
 ·go_wp2_with fail
  go_roundg (n - (i+1))
  case measure=>rw [HG.out];omega
  case rel=>exact⟨i+1,by omega,rfl,by simp,λj hj=>by
   by_cases he:j=i
   ·subst he;exact HR.out.symm
   exact HJ.out j (by omega),HB2.out⟩
 go_wp2_with fail
 go_ret
 exact .inl ⟨i,hlt,rfl,⟨HR.out.symm,HJ.out⟩,HB2.out⟩
theorem zgF {α:Type} [Inhabited α] (R:World->α->List Value->Prop) (hR:jO R) (w:World) (sv:Value) (l:List α) (hl:ze R 1 w sv l) (fn:FuncId) (first captured:Array Value) (P:Nat->Bool) (hfn:∀args W,(callFunc fn args).run Tryz.prog W= .ok (.enter fn args) W)
  (hcall:∀j,j<l.length->∀(W:World) (cs:List Value),cs.length=1->R W (l.getD j default) cs->Below w.heap.size w W->Calls Tryz.prog fn (first.push (cs.getD 0 undef)++captured) W λe W'=>e= .returned (.bool (P j))/\Below W.heap.size W W'):
  Calls Tryz.prog 52 #[sv, .func (.func fn) first captured] w λe w'=>e= .returned (.bool ((List.range l.length).any P))/\Below w.heap.size w w':=by
 have hc:=znO R hR w sv l hl fn first captured P hfn hcall
 have HC:=qh hc
 clear hc hcall hl hfn
 go_enter Tryz.func52,Tryz.ntmps52
 go_wp2_with fail
 refine HC.out.mono ?_
 rintro e w2 (⟨i,hi,rfl,hp,hb⟩|⟨rfl,hp,hb⟩)
 ·have HB:=qh hb
  have HP:=qh hp
  clear hb HC hp
  go_wp2_with fail
  go_ret
  exact⟨(by rw [zbz i hi HP.out.1];first|rfl|simp),HB.out⟩
 have HB:=qh hb
 have HP:=qh hp
 clear hb HC hp
 go_wp2_with fail
 go_ret
 exact⟨(by rw [any_none HP.out];first|rfl|simp),HB.out⟩
theorem zhb {α:Type} [Inhabited α] (R:World->α->List Value->Prop) (hR:jO R) (w:World) (sv:Value) (l:List α) (hl:ze R 2 w sv l) (fn:FuncId) (first captured:Array Value) (P:Nat->Bool) (hfn:∀args W,(callFunc fn args).run Tryz.prog W= .ok (.enter fn args) W)
  (hcall:∀j,j<l.length->∀(W:World) (cs:List Value),cs.length=2->R W (l.getD j default) cs->Below w.heap.size w W->Calls Tryz.prog fn (first.push (.agg cs.toArray)++captured) W λe W'=>e= .returned (.bool (P j))/\Below W.heap.size W W'):
  Calls Tryz.prog 139 #[sv, .func (.func fn) first captured] w λe w'=>(∃i:Nat,i<l.length/\e= .returned (.int .i64 i)/\(P i=true/\∀j,j<i->P j=false)/\Below w.heap.size w w')\/(e= .returned (.int .i64 (-1))/\(∀j,j<l.length->P j=false)/\Below w.heap.size w w'):=by
 obtain⟨a,cap,rfl,hn⟩:=hl.slice
 have HL:=qh hl
 have HC:=qh hcall
 clear hl hcall
 obtain⟨n,hnd⟩:∃n,n=l.length:=⟨_,rfl⟩
 rw [<-hnd] at hn HL ⊢
 have HN:=qh hnd
 clear hnd
 go_enter Tryz.func139,Tryz.ntmps139
 go_wp2_with fail
 go_loopg [8] n (λg s8 wr=>∃i:Nat,i<=n/\Hid (g=n - i)/\s8= .int .i64 i/\Hid (∀j,j<i->P j=false)/\Hid (Below w.heap.size w wr))
 case atStart=>exact⟨0,Nat.zero_le _,rfl,rfl,λj hj=>by omega,Below.refl _ _⟩
 case round=>
 obtain⟨i,hi,HG,rfl,HJ,HB⟩:=hrel
 by_cases hlt:i<n
 rotate_left
 ·obtain rfl:n=i:=by omega
  go_wp2_with fail
  go_ret
  exact .inr ⟨rfl,HJ.out,HB.out⟩
 have qK:(i:Int)<(n:Int):=by omega
 have hln:n=l.length:=HN.out
 obtain⟨b,off,cs,rfl,hb,hcl,hc,hr⟩:=ze.part (ze.below hR HL.out HB.out) i (by omega)
 have hca:=HC.out i (by omega) wr cs hcl hr HB.out
 clear hln hr
 obtain⟨x0,x1,rfl⟩:∃x0 x1,cs= [x0,x1] :=by
  match cs,hcl with
  | [x0,x1],_=>exact⟨x0,x1,rfl⟩
 have hx0:wr.cell? ⟨b,off+i*2,none⟩=some x0:=by have:=hc 0 (by omega);simpa using this
 have hx1:wr.cell? ⟨b,off+i*2+1,none⟩=some x1:=by have:=hc 1 (by omega);simpa using this
 clear hc hcl
 have HCA:=qh hca
 clear hca
 go_wp2_with fail
 refine HCA.out.mono ?_
 rintro e w2 ⟨rfl,hb2⟩
 have HB2:Hid (Below w.heap.size w w2):=HB.out.trans (hb2.mono HB.out.size)
 obtain⟨r,hr⟩:∃r,r=P i:=⟨_,rfl⟩
 rw [<-hr]
 have HR:=qh hr
 clear hb2 hr HCA hx0 hx1
 cases r
 ·go_wp2_with fail
  go_roundg (n - (i+1))
  case measure=>rw [HG.out];omega
  case rel=>exact⟨i+1,by omega,rfl,by simp,λj hj=>by
   by_cases he:j=i
   ·subst he;exact HR.out.symm
   exact HJ.out j (by omega),HB2.out⟩
 go_wp2_with fail
 go_ret
 exact .inl ⟨i,hlt,rfl,⟨HR.out.symm,HJ.out⟩,HB2.out⟩
theorem zkI {α:Type} [Inhabited α] (R:World->α->List Value->Prop) (hR:jO R) (w:World) (sv:Value) (l:List α) (hl:ze R 4 w sv l) (fn:FuncId) (first captured:Array Value) (P:Nat->Bool) (hfn:∀args W,(callFunc fn args).run Tryz.prog W= .ok (.enter fn args) W)
  (hcall:∀j,j<l.length->∀(W:World) (cs:List Value),cs.length=4->R W (l.getD j default) cs->Below w.heap.size w W->Calls Tryz.prog fn (first.push (.agg cs.toArray)++captured) W λe W'=>e= .returned (.bool (P j))/\Below W.heap.size W W'):
  Calls Tryz.prog 222 #[sv, .func (.func fn) first captured] w λe w'=>(∃i:Nat,i<l.length/\e= .returned (.int .i64 i)/\(P i=true/\∀j,j<i->P j=false)/\Below w.heap.size w w')\/(e= .returned (.int .i64 (-1))/\(∀j,j<l.length->P j=false)/\Below w.heap.size w w'):=by
 obtain⟨a,cap,rfl,hn⟩:=hl.slice
 have HL:=qh hl
 have HC:=qh hcall
 clear hl hcall
 obtain⟨n,hnd⟩:∃n,n=l.length:=⟨_,rfl⟩
 rw [<-hnd] at hn HL ⊢
 have HN:=qh hnd
 clear hnd
 go_enter Tryz.func222,Tryz.ntmps222
 go_wp2_with fail
 go_loopg [8] n (λg s8 wr=>∃i:Nat,i<=n/\Hid (g=n - i)/\s8= .int .i64 i/\Hid (∀j,j<i->P j=false)/\Hid (Below w.heap.size w wr))
 case atStart=>exact⟨0,Nat.zero_le _,rfl,rfl,λj hj=>by omega,Below.refl _ _⟩
 case round=>
 obtain⟨i,hi,HG,rfl,HJ,HB⟩:=hrel
 by_cases hlt:i<n
 rotate_left
 ·obtain rfl:n=i:=by omega
  go_wp2_with fail
  go_ret
  exact .inr ⟨rfl,HJ.out,HB.out⟩
 have qK:(i:Int)<(n:Int):=by omega
 have hln:n=l.length:=HN.out
 obtain⟨b,off,cs,rfl,hb,hcl,hc,hr⟩:=ze.part (ze.below hR HL.out HB.out) i (by omega)
 have hca:=HC.out i (by omega) wr cs hcl hr HB.out
 clear hln hr
 obtain⟨x0,x1,x2,x3,rfl⟩:∃x0 x1 x2 x3,cs= [x0,x1,x2,x3] :=by
  match cs,hcl with
  | [x0,x1,x2,x3],_=>exact⟨x0,x1,x2,x3,rfl⟩
 have hx0:wr.cell? ⟨b,off+i*4,none⟩=some x0:=by have:=hc 0 (by omega);simpa using this
 have hx1:wr.cell? ⟨b,off+i*4+1,none⟩=some x1:=by have:=hc 1 (by omega);simpa using this
 have hx2:wr.cell? ⟨b,off+i*4+2,none⟩=some x2:=by have:=hc 2 (by omega);simpa using this
 have hx3:wr.cell? ⟨b,off+i*4+3,none⟩=some x3:=by have:=hc 3 (by omega);simpa using this
 clear hc hcl
 have HCA:=qh hca
 clear hca
 go_wp2_with fail
 refine HCA.out.mono ?_
 rintro e w2 ⟨rfl,hb2⟩
 have HB2:Hid (Below w.heap.size w w2):=HB.out.trans (hb2.mono HB.out.size)
 obtain⟨r,hr⟩:∃r,r=P i:=⟨_,rfl⟩
 rw [<-hr]
 have HR:=qh hr
 clear hb2 hr HCA hx0 hx1 hx2 hx3
 cases r
 ·go_wp2_with fail
  go_roundg (n - (i+1))
  case measure=>rw [HG.out];omega
  case rel=>exact⟨i+1,by omega,rfl,by simp,λj hj=>by
   by_cases he:j=i
   ·subst he;exact HR.out.symm
   exact HJ.out j (by omega),HB2.out⟩
 go_wp2_with fail
 go_ret
 exact .inl ⟨i,hlt,rfl,⟨HR.out.symm,HJ.out⟩,HB2.out⟩
theorem zfo {α:Type} [Inhabited α] (R:World->α->List Value->Prop) (hR:jO R) (w:World) (sv:Value) (l:List α) (hl:ze R 4 w sv l) (fn:FuncId) (first captured:Array Value) (P:Nat->Bool) (hfn:∀args W,(callFunc fn args).run Tryz.prog W= .ok (.enter fn args) W)
  (hcall:∀j,j<l.length->∀(W:World) (cs:List Value),cs.length=4->R W (l.getD j default) cs->Below w.heap.size w W->Calls Tryz.prog fn (first.push (.agg cs.toArray)++captured) W λe W'=>e= .returned (.bool (P j))/\Below W.heap.size W W'):
  Calls Tryz.prog 217 #[sv, .func (.func fn) first captured] w λe w'=>e= .returned (.bool ((List.range l.length).any P))/\Below w.heap.size w w':=by
 have hc:=zkI R hR w sv l hl fn first captured P hfn hcall
 have HC:=qh hc
 clear hc hcall hl hfn
 go_enter Tryz.func217,Tryz.ntmps217
 go_wp2_with fail
 refine HC.out.mono ?_
 rintro e w2 (⟨i,hi,rfl,hp,hb⟩|⟨rfl,hp,hb⟩)
 ·have HB:=qh hb
  have HP:=qh hp
  clear hb HC hp
  go_wp2_with fail
  go_ret
  exact⟨(by rw [zbz i hi HP.out.1];first|rfl|simp),HB.out⟩
 have HB:=qh hb
 have HP:=qh hp
 clear hb HC hp
 go_wp2_with fail
 go_ret
 exact⟨(by rw [any_none HP.out];first|rfl|simp),HB.out⟩
theorem zhe {α:Type} [Inhabited α] (R:World->α->List Value->Prop) (hR:jO R) (w:World) (sv:Value) (l:List α) (hl:ze R 12 w sv l) (fn:FuncId) (first captured:Array Value) (P:Nat->Bool) (hfn:∀args W,(callFunc fn args).run Tryz.prog W= .ok (.enter fn args) W)
  (hcall:∀j,j<l.length->∀(W:World) (cs:List Value),cs.length=12->R W (l.getD j default) cs->Below w.heap.size w W->Calls Tryz.prog fn (first.push (.agg cs.toArray)++captured) W λe W'=>e= .returned (.bool (P j))/\Below W.heap.size W W'):
  Calls Tryz.prog 118 #[sv, .func (.func fn) first captured] w λe w'=>(∃i:Nat,i<l.length/\e= .returned (.int .i64 i)/\(P i=true/\∀j,j<i->P j=false)/\Below w.heap.size w w')\/(e= .returned (.int .i64 (-1))/\(∀j,j<l.length->P j=false)/\Below w.heap.size w w'):=by
 obtain⟨a,cap,rfl,hn⟩:=hl.slice
 have HL:=qh hl
 have HC:=qh hcall
 clear hl hcall
 obtain⟨n,hnd⟩:∃n,n=l.length:=⟨_,rfl⟩
 rw [<-hnd] at hn HL ⊢
 have HN:=qh hnd
 clear hnd
 go_enter Tryz.func118,Tryz.ntmps118
 go_wp2_with fail
 go_loopg [8] n (λg s8 wr=>∃i:Nat,i<=n/\Hid (g=n - i)/\s8= .int .i64 i/\Hid (∀j,j<i->P j=false)/\Hid (Below w.heap.size w wr))
 case atStart=>exact⟨0,Nat.zero_le _,rfl,rfl,λj hj=>by omega,Below.refl _ _⟩
 case round=>
 obtain⟨i,hi,HG,rfl,HJ,HB⟩:=hrel
 by_cases hlt:i<n
 rotate_left
 ·obtain rfl:n=i:=by omega
  go_wp2_with fail
  go_ret
  exact .inr ⟨rfl,HJ.out,HB.out⟩
 have qK:(i:Int)<(n:Int):=by omega
 have hln:n=l.length:=HN.out
 obtain⟨b,off,cs,rfl,hb,hcl,hc,hr⟩:=ze.part (ze.below hR HL.out HB.out) i (by omega)
 have hca:=HC.out i (by omega) wr cs hcl hr HB.out
 clear hln hr
 obtain⟨x0,x1,x2,x3,x4,x5,x6,x7,x8,x9,x10,kE,rfl⟩:∃x0 x1 x2 x3 x4 x5 x6 x7 x8 x9 x10 kE,cs= [x0,x1,x2,x3,x4,x5,x6,x7,x8,x9,x10,kE] :=by
  match cs,hcl with
  | [x0,x1,x2,x3,x4,x5,x6,x7,x8,x9,x10,kE],_=>exact⟨x0,x1,x2,x3,x4,x5,x6,x7,x8,x9,x10,kE,rfl⟩
 have hx0:wr.cell? ⟨b,off+i*12,none⟩=some x0:=by have:=hc 0 (by omega);simpa using this
 have hx1:wr.cell? ⟨b,off+i*12+1,none⟩=some x1:=by have:=hc 1 (by omega);simpa using this
 have hx2:wr.cell? ⟨b,off+i*12+2,none⟩=some x2:=by have:=hc 2 (by omega);simpa using this
 have hx3:wr.cell? ⟨b,off+i*12+3,none⟩=some x3:=by have:=hc 3 (by omega);simpa using this
 have hx4:wr.cell? ⟨b,off+i*12+4,none⟩=some x4:=by have:=hc 4 (by omega);simpa using this
 have hx5:wr.cell? ⟨b,off+i*12+5,none⟩=some x5:=by have:=hc 5 (by omega);simpa using this
 have hx6:wr.cell? ⟨b,off+i*12+6,none⟩=some x6:=by have:=hc 6 (by omega);simpa using this
 have hx7:wr.cell? ⟨b,off+i*12+7,none⟩=some x7:=by have:=hc 7 (by omega);simpa using this
 have hx8:wr.cell? ⟨b,off+i*12+8,none⟩=some x8:=by have:=hc 8 (by omega);simpa using this
 have hx9:wr.cell? ⟨b,off+i*12+9,none⟩=some x9:=by have:=hc 9 (by omega);simpa using this
 have z6R:wr.cell? ⟨b,off+i*12+10,none⟩=some x10:=by have:=hc 10 (by omega);simpa using this
 have z6S:wr.cell? ⟨b,off+i*12+11,none⟩=some kE:=by have:=hc 11 (by omega);simpa using this
 clear hc hcl
 have HCA:=qh hca
 clear hca
 go_wp2_with fail
 refine HCA.out.mono ?_
 rintro e w2 ⟨rfl,hb2⟩
 have HB2:Hid (Below w.heap.size w w2):=HB.out.trans (hb2.mono HB.out.size)
 obtain⟨r,hr⟩:∃r,r=P i:=⟨_,rfl⟩
 rw [<-hr]
 have HR:=qh hr
 clear hb2 hr HCA hx0 hx1 hx2 hx3 hx4 hx5 hx6 hx7 hx8 hx9 z6R z6S
 cases r
 ·go_wp2_with fail
  go_roundg (n - (i+1))
  case measure=>rw [HG.out];omega
  case rel=>exact⟨i+1,by omega,rfl,by simp,λj hj=>by
   by_cases he:j=i
   ·subst he;exact HR.out.symm
   exact HJ.out j (by omega),HB2.out⟩
 go_wp2_with fail
 go_ret
 exact .inl ⟨i,hlt,rfl,⟨HR.out.symm,HJ.out⟩,HB2.out⟩
theorem ze0 {α:Type} [Inhabited α] (R:World->α->List Value->Prop) (hR:jO R) (w:World) (sv:Value) (l:List α) (hl:ze R 12 w sv l) (fn:FuncId) (first captured:Array Value) (P:Nat->Bool) (hfn:∀args W,(callFunc fn args).run Tryz.prog W= .ok (.enter fn args) W)
  (hcall:∀j,j<l.length->∀(W:World) (cs:List Value),cs.length=12->R W (l.getD j default) cs->Below w.heap.size w W->Calls Tryz.prog fn (first.push (.agg cs.toArray)++captured) W λe W'=>e= .returned (.bool (P j))/\Below W.heap.size W W'):
  Calls Tryz.prog 86 #[sv, .func (.func fn) first captured] w λe w'=>e= .returned (.bool ((List.range l.length).any P))/\Below w.heap.size w w':=by
 have hc:=zhe R hR w sv l hl fn first captured P hfn hcall
 have HC:=qh hc
 clear hc hcall hl hfn
 go_enter Tryz.func86,Tryz.ntmps86
 go_wp2_with fail
 refine HC.out.mono ?_
 rintro e w2 (⟨i,hi,rfl,hp,hb⟩|⟨rfl,hp,hb⟩)
 ·have HB:=qh hb
  have HP:=qh hp
  clear hb HC hp
  go_wp2_with fail
  go_ret
  exact⟨(by rw [zbz i hi HP.out.1];first|rfl|simp),HB.out⟩
 have HB:=qh hb
 have HP:=qh hp
 clear hb HC hp
 go_wp2_with fail
 go_ret
 exact⟨(by rw [any_none HP.out];first|rfl|simp),HB.out⟩
end Go.Proofs.YteggflahafiieaaGreatDoor
namespace Go.Proofs.YteggflahafiieaaGreatDoor
open Go.RowKit
set_option maxRecDepth 100000
set_option maxHeartbeats 16000000
def wQ (w:World) (b:Nat) (l:List (Int × Value)):Prop:=
 ∃es clock,w.heap[b]? =some (.map es clock)/\es.toList.map (λe=>(e.key,e.val))=l.map (λx=>(Value.int .i64 x.1,x.2))
def wz:List (Int × Value)->Int->Option Value
 | [],_=>none
 |x::l,k=>if x.1=k then some x.2 else wz l k
def uz:List (Int × Value)->Int->Value->List (Int × Value)
 | [],k,v=> [(k,v)]
 |x::l,k,v=>if x.1=k then(k,v)::l else x::uz l k v
theorem zdD (q:IntKind) (k:Int):∀(l:List (Int × Value)) (es:List MapEntry) (i:Nat),es.map (λe=>(e.key,e.val))=l.map (λx=>(Value.int .i64 x.1,x.2))->
  ∃r,Instr.findNow (.int q) (.int .i64 k) es i=some r/\r.map (·.2)=wz l k/\(∀j v,r=some (j,v)->i<=j/\∃e,es[j - i]? =some e/\e.key= .int .i64 k/\
   ∀v':Value,(es.modify (j - i) (λe=> { e with key:= .int .i64 k,val:=v' })).map (λe=>(e.key,e.val))=(uz l k v').map (λx=>(Value.int .i64 x.1,x.2)))/\
   (r=none->∀v':Value,uz l k v'=l++ [(k,v')]):=by
 intro l
 induction l with
 |nil=>
  intro es i he
  have:es= [] :=by simpa using he
  subst this
  exact⟨none,rfl,rfl,by simp,by simp [uz]⟩
 |cons x l ih=>
 intro es i he
 cases es with
 |nil=>simp at he
 |cons e es=>
 simp only [List.map_cons,List.cons.injEq,Prod.mk.injEq] at he
 obtain⟨⟨h1,h2⟩,h3⟩:=he
 by_cases hk:x.1=k
 ·refine⟨some (i,e.val), ?_, ?_, ?_,by simp⟩
  ·simp [Instr.findNow,Instr.sameNow,h1,hk]
  ·simp [wz,hk,h2]
  intro j v hj
  simp only [Option.some.injEq,Prod.mk.injEq] at hj
  obtain⟨rfl,rfl⟩:=hj
  refine⟨Nat.le_refl _,e,by simp,by rw [h1,hk], ?_⟩
  intro v'
  simp [uz,hk,h3]
 obtain⟨r,g1,g2,g3,g4⟩:=ih es (i+1) h3
 refine⟨r, ?_, ?_, ?_, ?_⟩
 ·have hk':(k==x.1)=false:=beq_eq_false_iff_ne.2 λe=>hk e.symm
  simp only [Instr.findNow,Instr.sameNow,h1,if_true,hk',g1]
 ·simp [wz,hk,g2]
 ·intro j v hj
  obtain⟨m1,e',m2,m3,m4⟩:=g3 j v hj
  have hji:j - i=(j - (i+1))+1:=by omega
  refine⟨by omega,e',by rw [hji];simpa using m2,m3, ?_⟩
  intro v'
  rw [hji]
  simp [uz,hk,h1,h2,m4 v']
 intro hr v'
 simp [uz,hk,g4 hr v']
section
variable {P:Program} {w:World}
theorem uS (P:Program) (w:World) (em:Bool) (n:Nat) (k:TypeId) (q:IntKind) (hk:P.underlying k=some (.int q)) (v:Value):(Instr.checkKey em (n+1) k v).run P w= .ok () w:=by
 unfold Instr.checkKey
 simp [run_underlying hk]
theorem wY {b:Nat} {l:List (Int × Value)} (h:wQ w b l) {t k e:TypeId} {q:IntKind} (ht:P.underlying t=some (.map k e)) (hk:P.underlying k=some (.int q)) {z:Value} (hz:(zeroValue e).run P w= .ok z w) (j:Int) (c:Bool):
  (Instr.lookup t (.map (some b)) (.int .i64 j) c).run P w= .ok (if c then .tuple #[(wz l j).getD z, .bool (wz l j).isSome] else(wz l j).getD z) w:=by
 obtain⟨es,clock,h1,h2⟩:=h
 obtain⟨r,g1,g2, -, -⟩:=zdD q j l es.toList 0 h2
 unfold Instr.lookup
 simp only [Sem.run_bind,run_underlying ht,Result.andThen_ok]
 have hgo:=MapKept.run_getObj_map (P:=P) h1
 simp only [Sem.run_bind,hgo,Result.andThen_ok,Sem.run_pure,uS P w _ 9999 k q hk,Instr.findKey,run_underlying hk,g1]
 cases r with
 |none=>simp only [Option.map_none] at g2;simp [<-g2,hz]
 |some x=>simp only [Option.map_some] at g2;simp [<-g2]
theorem zgG {b:Nat} {l:List (Int × Value)} (h:wQ w b l) {t k e:TypeId} {q:IntKind} (ht:P.underlying t=some (.map k e)) (hk:P.underlying k=some (.int q)) (j:Int) (v:Value):
  ∃w',(Instr.mapUpdate t (.map (some b)) (.int .i64 j) v).run P w= .ok () w'/\wQ w' b (uz l j v)/\Since (λk=>k=b) w w'/\w'.heap.size=w.heap.size:=by
 obtain⟨es,clock,h1,h2⟩:=h
 obtain⟨r,g1, -,g3,g4⟩:=zdD q j l es.toList 0 h2
 have hlt:=zq h1
 have hgo:=MapKept.run_getObj_map (P:=P) h1
 have hset:∀o:Obj,Since (λk=>k=b) w { w with heap:=w.heap.setIfInBounds b o } :=λo=>
  ⟨rfl,rfl,rfl,by simp,λi _ hi=>by
   show(w.heap.setIfInBounds b o)[i]? =_
   rw [Array.getElem?_setIfInBounds_ne (λe=>hi e.symm)]⟩
 have hat:∀o:Obj,({ w with heap:=w.heap.setIfInBounds b o } :World).heap[b]? =some o:=λo=>by
  show(w.heap.setIfInBounds b o)[b]? =_
  simp [hlt]
 cases r with
 |none=>
  refine⟨{ w with heap:=w.heap.setIfInBounds b (.map (es.push { key:= .int .i64 j,val:=v,born:=clock }) (clock+1)) }, ?_,⟨_,_,hat _, ?_⟩,hset _,by simp⟩
  ·unfold Instr.mapUpdate
   simp only [Sem.run_bind,run_underlying ht,Result.andThen_ok,hgo,uS P w _ 9999 k q hk,Instr.findKey,run_underlying hk,g1,Sem.run_pure]
   exact MapKept.run_setObj_map _ h1
  rw [g4 rfl v];simp [h2]
 |some x=>
 obtain⟨i,y⟩:=x
 obtain⟨-,e',m2,m3,m4⟩:=g3 i y rfl
 simp only [Nat.sub_zero] at m2 m4
 have hei:es[i]? =some e':=by simpa using m2
 refine⟨{ w with heap:=w.heap.setIfInBounds b (.map (es.modify i λe=> { e with key:= .int .i64 j,val:=v }) clock) }, ?_,⟨_,_,hat _, ?_⟩,hset _,by simp⟩
 ·unfold Instr.mapUpdate
  have hks:(Instr.keyThatStays (((es[i]?).map (·.key)).getD (.int .i64 j)) (.int .i64 j)).run P w= .ok (.int .i64 j) w:=by
   rw [hei];simp only [Option.map_some,Option.getD_some,m3,Instr.keyThatStays]
   rw [if_pos (by simp [Instr.sameBits])]
   rfl
  simp only [Sem.run_bind,run_underlying ht,Result.andThen_ok,hgo,uS P w _ 9999 k q hk,Instr.findKey,run_underlying hk,g1,Sem.run_pure,hks]
  exact MapKept.run_setObj_map _ h1
 have:=m4 v
 simpa [Array.toList_modify] using this
end
theorem qU {P:Program} (w:World) {ops:Array Oper} {rest:List Oper} {o:Oper} {a:Act} {Q:Exit->Act->World->Prop} (hgd:o.guard=none) (m k x:Operand) (t:TypeId) (ho:o.op= .insert t m k x)
  (key e:TypeId) (q:IntKind) (ht:P.underlying t=some (.map key e)) (hk:P.underlying key=some (.int q)) (b:Nat) (l:List (Int × Value)) (hm:a.eval m= .map (some b)) (j:Int) (hj:a.eval k= .int .i64 j) (v:Value) (hv:a.eval x=v) (h:wQ w b l)
  (hK:∀w',wQ w' b (uz l j v)->Since (λk=>k=b) w w'->w'.heap.size=w.heap.size->wpList P ops Q rest (a.put o.dst undef) w'):wpList P ops Q (o::rest) a w:=by
 refine wpList_plain hgd λK' hK'=> ?_
 obtain⟨w',hrun,r1,r2,r3⟩:=zgG (P:=P) h ht hk j v
 unfold Oper.wp
 simp [execOp,ho,hm,hj,hv,hrun,Result.andThen]
 exact hK' _ _ (hK w' r1 r2 r3)
end Go.Proofs.YteggflahafiieaaGreatDoor
namespace Go.Proofs.YteggflahafiieaaGreatDoor
open Go.RowKit
set_option maxRecDepth 100000
set_option maxHeartbeats 16000000
def fmT (r v a b t o:Bool) (f:Nat):Value:= .agg #[.bool r, .bool v, .bool a, .bool b, .bool t, .bool o, .func (.func f) #[] #[]]
def fmL:List (Int × Value):= [(1,fmT true true false false false false 193),(2,fmT false true true false false false 194),(3,fmT true false true false false false 195),(4,fmT false false false false false false 196),(5,fmT false false false false false false 197),(6,fmT true true true true false false 198),(7,fmT false true false false false false 199),(8,fmT false true false false false false 200),(9,fmT false false true false false false 201),(10,fmT false false true false true true 202),(11,fmT false false true false true false 203)]
def znP (l:List (Int × Value)) (w:World) (e:Ending) (w':World):Prop:=∃b,e= .returned (.map (some b))/\wQ w' b l/\w.heap.size<=b/\Below w.heap.size w w'
theorem zqh (w:World):Calls Tryz.prog 159 #[] w (znP fmL w):=by
 have hmm:= @run_makeMap Tryz.prog
 have h0:wQ (w.alloc (.map #[] 0)) w.heap.size [] :=⟨#[],0,yE w _,rfl⟩
 have hB0:Below w.heap.size w (w.alloc (.map #[] 0)):=(Below.refl _ _).alloc (Nat.le_refl _) _
 go_enter Tryz.func159,Tryz.ntmps159
 go_wp2_with(refine qU _ rfl _ _ _ 236 rfl 3 235 .i64 Tryz.underlying236 Tryz.underlying3 w.heap.size _ rfl _ rfl _ rfl h0 ?_;clear h0;intro w1 h0 hs1 hz1;replace hB0:=hB0.trans (hs1.below hB0.size (λk hk=>by omega));clear hs1 hz1)
 go_ret
 exact⟨w.heap.size,rfl,h0,Nat.le_refl _,hB0⟩
theorem zeI (w:World) (n m:Int) (h:Bool):Calls Tryz.prog 163 #[.int .i64 n, .int .i64 m, .bool h] w λe w'=>e= .returned (.bool (if h then decide (0<=n) && decide (n<m) else decide (n=0)))/\w'=w:=by
 cases h
 ·by_cases h0:n=0
  ·subst h0
   go_enter Tryz.func163,Tryz.ntmps163
   go_wp2_with fail
   go_ret
   exact⟨by first|rfl|simp,rfl⟩
  by_cases h1:0<=n
  ·by_cases h2:n<m
   ·go_enter Tryz.func163,Tryz.ntmps163
    go_wp2_with fail
    go_ret
    exact⟨by simp [h0],rfl⟩
   go_enter Tryz.func163,Tryz.ntmps163
   go_wp2_with fail
   go_ret
   exact⟨by simp [h0],rfl⟩
  go_enter Tryz.func163,Tryz.ntmps163
  go_wp2_with fail
  go_ret
  exact⟨by simp [h0],rfl⟩
 by_cases h0:n=0
 ·subst h0
  by_cases h2:0<m
  ·go_enter Tryz.func163,Tryz.ntmps163
   go_wp2_with fail
   go_ret
   exact⟨by simp [h2],rfl⟩
  go_enter Tryz.func163,Tryz.ntmps163
  go_wp2_with fail
  go_ret
  exact⟨by simp;omega,rfl⟩
 by_cases h1:0<=n
 ·by_cases h2:n<m
  ·go_enter Tryz.func163,Tryz.ntmps163
   go_wp2_with fail
   go_ret
   exact⟨by simp [h1,h2],rfl⟩
  go_enter Tryz.func163,Tryz.ntmps163
  go_wp2_with fail
  go_ret
  exact⟨by simp;omega,rfl⟩
 go_enter Tryz.func163,Tryz.ntmps163
 go_wp2_with fail
 go_ret
 exact⟨by simp;omega,rfl⟩
theorem zrO (w:World) (op:Int):Calls Tryz.prog 216 #[.int .u8 op] w λe w'=>(∃s:ByteArray,e= .returned (.string s)/\s.toList.isEmpty= !vD op)/\Below w.heap.size w w':=by
 have hcv:=zlk w op
 have HA:=qh ((Below.refl w.heap.size w).alloc (Nat.le_refl _) (.cells #[.int .u8 op] 5))
 by_cases hs:op=43\/op=45\/op=42\/op=60\/op=38\/op=124
 ·have hi:vD op=true:=by unfold vD;exact decide_eq_true (by omega)
  rw [hi]
  rcases hs with rfl|rfl|rfl|rfl|rfl|rfl<;>
  ·go_enter Tryz.func216,Tryz.ntmps216
   go_wp2_with fail
   go_ret
   exact⟨⟨_,rfl,pI _⟩,HA.out⟩
 by_cases h7:op=61
 ·subst h7
  clear hs
  go_enter Tryz.func216,Tryz.ntmps216
  go_wp2_with fail
  go_ret
  exact⟨⟨_,rfl,by decide+kernel⟩,Below.refl _ _⟩
 by_cases h8:op=33
 ·subst h8
  clear hs
  go_enter Tryz.func216,Tryz.ntmps216
  go_wp2_with fail
  go_ret
  exact⟨⟨_,rfl,by decide+kernel⟩,Below.refl _ _⟩
 have hi:vD op=false:=by unfold vD;exact decide_eq_false (by omega)
 rw [hi]
 obtain⟨h1,h2,h3,h4,h5,h6⟩:op≠43/\op≠45/\op≠42/\op≠60/\op≠38/\op≠124:=by omega
 clear hs hi
 go_enter Tryz.func216,Tryz.ntmps216
 go_wp2_with fail
 go_ret
 exact⟨⟨_,rfl,by decide+kernel⟩,Below.refl _ _⟩
theorem zrQ (w:World) (x:zH) (ka:Option Addr) (kc:Nat):Calls Tryz.prog 162 #[xQ x (.slice ka x.kids.length kc)] w λe w'=>e= .returned (.bool (qC x))/\Below w.heap.size w w':=by
 obtain⟨k,n,o,l⟩:=x
 obtain⟨m,hm⟩:∃m,m=l.length:=⟨_,rfl⟩
 obtain⟨r,hr⟩:∃r,r=qC (.mk k n o l):=⟨_,rfl⟩
 rw [<-hr]
 have hr2:r=(decide (k=0) && decide (n=0) && decide (o=0) && decide (m=0)):=by rw [hr,hm];rfl
 have HR:=qh hr2
 unfold xQ
 simp only [zH.kind,zH.n,zH.op,zH.kids]
 rw [<-hm]
 clear hr hr2 hm
 have HA:=qh ((Below.refl w.heap.size w).alloc (Nat.le_refl _) (.cells #[.int .i64 k, .int .i64 n, .int .u8 o, .slice ka m kc] 51))
 have xG:=qh (yE w (.cells #[.int .i64 k, .int .i64 n, .int .u8 o, .slice ka m kc] 51))
 go_enter Tryz.func162,Tryz.ntmps162
 go_upto_region 1 with fail
 generalize World.alloc w _=W at HA xG ⊢
 obtain⟨gx,hgx⟩:∃gx,gx=w.heap.size:=⟨_,rfl⟩
 rw [<-hgx] at xG ⊢
 clear hgx
 have c0:W.cell? ⟨gx,0,none⟩=some (.int .i64 k):=za xG.out 0
 have c1:W.cell? ⟨gx,1,none⟩=some (.int .i64 n):=za xG.out 1
 have c2:W.cell? ⟨gx,2,none⟩=some (.int .u8 o):=za xG.out 2
 have c3:W.cell? ⟨gx,3,none⟩=some (.slice ka m kc):=za xG.out 3
 by_cases a1:k=0
 rotate_left
 ·have b1:((k:Int)==0)=false:=by simp [a1]
  obtain rfl:r=false:=by rw [HR.out];simp [a1]
  clear HR a1
  go_wp2_with fail
  go_ret
  exact⟨by first|rfl|simp,HA.out⟩
 have b1:((k:Int)==0)=true:=by simp [a1]
 by_cases a2:n=0
 rotate_left
 ·have b2:((n:Int)==0)=false:=by simp [a2]
  obtain rfl:r=false:=by rw [HR.out];simp [a2]
  clear HR a1 a2
  go_wp2_with fail
  go_ret
  exact⟨by first|rfl|simp,HA.out⟩
 have b2:((n:Int)==0)=true:=by simp [a2]
 by_cases a3:o=0
 ·have b3:((o:Int)==0)=true:=by simp [a3]
  obtain rfl:r=decide (m=0):=by rw [HR.out];simp [a1,a2,a3]
  clear HR a1 a2 a3
  by_cases a4:m=0
  ·have b4:((m:Int)==0)=true:=by simp [a4]
   subst a4
   go_wp2_with fail
   go_ret
   exact⟨by first|rfl|simp,HA.out⟩
  have b4:((m:Int)==0)=false:=by simp [a4]
  go_wp2_with fail
  go_ret
  exact⟨by first|rfl|simp [a4],HA.out⟩
 have b3:((o:Int)==0)=false:=by simp [a3]
 obtain rfl:r=false:=by rw [HR.out];simp [a3]
 clear HR a1 a2 a3
 go_wp2_with fail
 go_ret
 exact⟨by first|rfl|simp,HA.out⟩
theorem zgs (w:World) (o1 o2 o3:Obj):Below w.heap.size w (((w.alloc o1).alloc o2).alloc o3)/\(((w.alloc o1).alloc o2).alloc o3).heap[w.heap.size]? =some o1/\(((w.alloc o1).alloc o2).alloc o3).heap[w.heap.size+1]? =some o2/\
  (((w.alloc o1).alloc o2).alloc o3).heap[w.heap.size+2]? =some o3/\(((w.alloc o1).alloc o2).alloc o3).heap.size=w.heap.size+3:=by
 have h3:=yE ((w.alloc o1).alloc o2) o3
 simp only [World.size_alloc] at h3
 refine⟨(xZ w o1 o2).alloc (by simp;omega) _,(Below.heap_alloc _ _ _ (by simp;omega)).trans (xL w o1 o2),(Below.heap_alloc _ _ _ (by simp)).trans (xE w o1 o2),h3,by simp⟩
