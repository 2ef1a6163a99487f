/- Steps. -/
import Derived.Test.YtknmdmimecepfaaGreatDoorVhData
set_option linter.all false
namespace Go.Proofs.YtknmdmimecepfaaGreatDoor
open Go.RowKit
set_option maxRecDepth 100000
set_option maxHeartbeats 16000000
theorem bH {n:Nat} {P:Nat->Bool} (i:Nat) (hi:i<n) (h:P i=true):(List.range n).any P=true:=by
 rw [List.any_eq_true];exact⟨i,by simpa using hi,h⟩
theorem any_none {n:Nat} {P:Nat->Bool} (h:∀j,j<n->P j=false):(List.range n).any P=false:=by
 rw [List.any_eq_false];intro j hj;rw [h j (by simpa using hj)];simp
theorem zel {α:Type} [Inhabited α] (R:World->α->List Value->Prop) (hR:qN R) (w:World) (sv:Value) (l:List α) (hl:zf R 4 w sv l) (fn:FuncId) (first captured:Array Value) (P:Nat->Bool) (hfn:∀args W,(callFunc fn args).run Tryz.prog W= .ok (.enter fn args) W)
  (hcall:∀j,j<l.length->∀(W:World) (cs:List Value),cs.length=4->R W (l.getD j default) cs->Below w.heap.size w W->Calls Tryz.prog fn (first.push (.agg cs.toArray)++captured) W λe W'=>e= .returned (.bool (P j))/\Below W.heap.size W W'):
  Calls Tryz.prog 150 #[sv, .func (.func fn) first captured] w λe w'=>(∃i:Nat,i<l.length/\e= .returned (.int .i64 i)/\(P i=true/\∀j,j<i->P j=false)/\Below w.heap.size w w')\/(e= .returned (.int .i64 (-1))/\(∀j,j<l.length->P j=false)/\Below w.heap.size w w'):=by
 obtain⟨a,cap,rfl,hn⟩:=hl.slice
 have HL:=qh hl
 have HC:=qh hcall
 clear hl hcall
 obtain⟨n,hnd⟩:∃n,n=l.length:=⟨_,rfl⟩
 rw [<-hnd] at hn HL ⊢
 have HN:=qh hnd
 clear hnd
 go_enter Tryz.func150,Tryz.ntmps150
 go_wp2_with fail
 go_loopg [8] n (λg s8 wr=>∃i:Nat,i<=n/\Hid (g=n - i)/\s8= .int .i64 i/\Hid (∀j,j<i->P j=false)/\Hid (Below w.heap.size w wr))
 case atStart=>exact⟨0,Nat.zero_le _,rfl,rfl,λj hj=>by omega,Below.refl _ _⟩
 case round=>
 obtain⟨i,hi,HG,rfl,HJ,HB⟩:=hrel
 by_cases hlt:i<n
 rotate_left
 ·obtain rfl:n=i:=by omega
  go_wp2_with fail
  go_ret
  exact .inr ⟨rfl,HJ.out,HB.out⟩
 have qK:(i:Int)<(n:Int):=by omega
 have hln:n=l.length:=HN.out
 obtain⟨b,off,cs,rfl,hb,hcl,hc,hr⟩:=zf.part (zf.below hR HL.out HB.out) i (by omega)
 have hca:=HC.out i (by omega) wr cs hcl hr HB.out
 clear hln hr
 obtain⟨x0,x1,x2,x3,rfl⟩:∃x0 x1 x2 x3,cs= [x0,x1,x2,x3] :=by
  match cs,hcl with
  | [x0,x1,x2,x3],_=>exact⟨x0,x1,x2,x3,rfl⟩
 have hx0:wr.cell? ⟨b,off+i*4,none⟩=some x0:=by have:=hc 0 (by omega);simpa using this
 have hx1:wr.cell? ⟨b,off+i*4+1,none⟩=some x1:=by have:=hc 1 (by omega);simpa using this
 have hx2:wr.cell? ⟨b,off+i*4+2,none⟩=some x2:=by have:=hc 2 (by omega);simpa using this
 have hx3:wr.cell? ⟨b,off+i*4+3,none⟩=some x3:=by have:=hc 3 (by omega);simpa using this
 clear hc hcl
 have HCA:=qh hca
 clear hca
 go_wp2_with fail
 refine HCA.out.mono ?_
 rintro e w2 ⟨rfl,hb2⟩
 have HB2:Hid (Below w.heap.size w w2):=HB.out.trans (hb2.mono HB.out.size)
 obtain⟨r,hr⟩:∃r,r=P i:=⟨_,rfl⟩
 rw [<-hr]
 have HR:=qh hr
 clear hb2 hr HCA hx0 hx1 hx2 hx3
 cases r
 ·go_wp2_with fail
  go_roundg (n - (i+1))
  case measure=>rw [HG.out];omega
  case rel=>exact⟨i+1,by omega,rfl,by simp,λj hj=>by
   by_cases he:j=i
   ·subst he;exact HR.out.symm
   exact HJ.out j (by omega),HB2.out⟩
 go_wp2_with fail
 go_ret
 exact .inl ⟨i,hlt,rfl,⟨HR.out.symm,HJ.out⟩,HB2.out⟩
theorem zcp {α:Type} [Inhabited α] (R:World->α->List Value->Prop) (hR:qN R) (w:World) (sv:Value) (l:List α) (hl:zf R 4 w sv l) (fn:FuncId) (first captured:Array Value) (P:Nat->Bool) (hfn:∀args W,(callFunc fn args).run Tryz.prog W= .ok (.enter fn args) W)
  (hcall:∀j,j<l.length->∀(W:World) (cs:List Value),cs.length=4->R W (l.getD j default) cs->Below w.heap.size w W->Calls Tryz.prog fn (first.push (.agg cs.toArray)++captured) W λe W'=>e= .returned (.bool (P j))/\Below W.heap.size W W'):
  Calls Tryz.prog 147 #[sv, .func (.func fn) first captured] w λe w'=>e= .returned (.bool ((List.range l.length).any P))/\Below w.heap.size w w':=by
 have hc:=zel R hR w sv l hl fn first captured P hfn hcall
 have HC:=qh hc
 clear hc hcall hl hfn
 go_enter Tryz.func147,Tryz.ntmps147
 go_wp2_with fail
 refine HC.out.mono ?_
 rintro e w2 (⟨i,hi,rfl,hp,hb⟩|⟨rfl,hp,hb⟩)
 ·have HB:=qh hb
  have HP:=qh hp
  clear hb HC hp
  go_wp2_with fail
  go_ret
  exact⟨(by rw [bH i hi HP.out.1];first|rfl|simp),HB.out⟩
 have HB:=qh hb
 have HP:=qh hp
 clear hb HC hp
 go_wp2_with fail
 go_ret
 exact⟨(by rw [any_none HP.out];first|rfl|simp),HB.out⟩
theorem zdA {α:Type} [Inhabited α] (R:World->α->List Value->Prop) (hR:qN R) (w:World) (sv:Value) (l:List α) (hl:zf R 12 w sv l) (fn:FuncId) (first captured:Array Value) (P:Nat->Bool) (hfn:∀args W,(callFunc fn args).run Tryz.prog W= .ok (.enter fn args) W)
  (hcall:∀j,j<l.length->∀(W:World) (cs:List Value),cs.length=12->R W (l.getD j default) cs->Below w.heap.size w W->Calls Tryz.prog fn (first.push (.agg cs.toArray)++captured) W λe W'=>e= .returned (.bool (P j))/\Below W.heap.size W W'):
  Calls Tryz.prog 82 #[sv, .func (.func fn) first captured] w λe w'=>(∃i:Nat,i<l.length/\e= .returned (.int .i64 i)/\(P i=true/\∀j,j<i->P j=false)/\Below w.heap.size w w')\/(e= .returned (.int .i64 (-1))/\(∀j,j<l.length->P j=false)/\Below w.heap.size w w'):=by
 obtain⟨a,cap,rfl,hn⟩:=hl.slice
 have HL:=qh hl
 have HC:=qh hcall
 clear hl hcall
 obtain⟨n,hnd⟩:∃n,n=l.length:=⟨_,rfl⟩
 rw [<-hnd] at hn HL ⊢
 have HN:=qh hnd
 clear hnd
 go_enter Tryz.func82,Tryz.ntmps82
 go_wp2_with fail
 go_loopg [8] n (λg s8 wr=>∃i:Nat,i<=n/\Hid (g=n - i)/\s8= .int .i64 i/\Hid (∀j,j<i->P j=false)/\Hid (Below w.heap.size w wr))
 case atStart=>exact⟨0,Nat.zero_le _,rfl,rfl,λj hj=>by omega,Below.refl _ _⟩
 case round=>
 obtain⟨i,hi,HG,rfl,HJ,HB⟩:=hrel
 by_cases hlt:i<n
 rotate_left
 ·obtain rfl:n=i:=by omega
  go_wp2_with fail
  go_ret
  exact .inr ⟨rfl,HJ.out,HB.out⟩
 have qK:(i:Int)<(n:Int):=by omega
 have hln:n=l.length:=HN.out
 obtain⟨b,off,cs,rfl,hb,hcl,hc,hr⟩:=zf.part (zf.below hR HL.out HB.out) i (by omega)
 have hca:=HC.out i (by omega) wr cs hcl hr HB.out
 clear hln hr
 obtain⟨x0,x1,x2,x3,x4,x5,x6,x7,x8,x9,x10,uZ,rfl⟩:∃x0 x1 x2 x3 x4 x5 x6 x7 x8 x9 x10 uZ,cs= [x0,x1,x2,x3,x4,x5,x6,x7,x8,x9,x10,uZ] :=by
  match cs,hcl with
  | [x0,x1,x2,x3,x4,x5,x6,x7,x8,x9,x10,uZ],_=>exact⟨x0,x1,x2,x3,x4,x5,x6,x7,x8,x9,x10,uZ,rfl⟩
 have hx0:wr.cell? ⟨b,off+i*12,none⟩=some x0:=by have:=hc 0 (by omega);simpa using this
 have hx1:wr.cell? ⟨b,off+i*12+1,none⟩=some x1:=by have:=hc 1 (by omega);simpa using this
 have hx2:wr.cell? ⟨b,off+i*12+2,none⟩=some x2:=by have:=hc 2 (by omega);simpa using this
 have hx3:wr.cell? ⟨b,off+i*12+3,none⟩=some x3:=by have:=hc 3 (by omega);simpa using this
 have hx4:wr.cell? ⟨b,off+i*12+4,none⟩=some x4:=by have:=hc 4 (by omega);simpa using this
 have hx5:wr.cell? ⟨b,off+i*12+5,none⟩=some x5:=by have:=hc 5 (by omega);simpa using this
 have hx6:wr.cell? ⟨b,off+i*12+6,none⟩=some x6:=by have:=hc 6 (by omega);simpa using this
 have hx7:wr.cell? ⟨b,off+i*12+7,none⟩=some x7:=by have:=hc 7 (by omega);simpa using this
 have hx8:wr.cell? ⟨b,off+i*12+8,none⟩=some x8:=by have:=hc 8 (by omega);simpa using this
 have hx9:wr.cell? ⟨b,off+i*12+9,none⟩=some x9:=by have:=hc 9 (by omega);simpa using this
 have zqT:wr.cell? ⟨b,off+i*12+10,none⟩=some x10:=by have:=hc 10 (by omega);simpa using this
 have zqU:wr.cell? ⟨b,off+i*12+11,none⟩=some uZ:=by have:=hc 11 (by omega);simpa using this
 clear hc hcl
 have HCA:=qh hca
 clear hca
 go_wp2_with fail
 refine HCA.out.mono ?_
 rintro e w2 ⟨rfl,hb2⟩
 have HB2:Hid (Below w.heap.size w w2):=HB.out.trans (hb2.mono HB.out.size)
 obtain⟨r,hr⟩:∃r,r=P i:=⟨_,rfl⟩
 rw [<-hr]
 have HR:=qh hr
 clear hb2 hr HCA hx0 hx1 hx2 hx3 hx4 hx5 hx6 hx7 hx8 hx9 zqT zqU
 cases r
 ·go_wp2_with fail
  go_roundg (n - (i+1))
  case measure=>rw [HG.out];omega
  case rel=>exact⟨i+1,by omega,rfl,by simp,λj hj=>by
   by_cases he:j=i
   ·subst he;exact HR.out.symm
   exact HJ.out j (by omega),HB2.out⟩
 go_wp2_with fail
 go_ret
 exact .inl ⟨i,hlt,rfl,⟨HR.out.symm,HJ.out⟩,HB2.out⟩
theorem zbH {α:Type} [Inhabited α] (R:World->α->List Value->Prop) (hR:qN R) (w:World) (sv:Value) (l:List α) (hl:zf R 12 w sv l) (fn:FuncId) (first captured:Array Value) (P:Nat->Bool) (hfn:∀args W,(callFunc fn args).run Tryz.prog W= .ok (.enter fn args) W)
  (hcall:∀j,j<l.length->∀(W:World) (cs:List Value),cs.length=12->R W (l.getD j default) cs->Below w.heap.size w W->Calls Tryz.prog fn (first.push (.agg cs.toArray)++captured) W λe W'=>e= .returned (.bool (P j))/\Below W.heap.size W W'):
  Calls Tryz.prog 59 #[sv, .func (.func fn) first captured] w λe w'=>e= .returned (.bool ((List.range l.length).any P))/\Below w.heap.size w w':=by
 have hc:=zdA R hR w sv l hl fn first captured P hfn hcall
 have HC:=qh hc
 clear hc hcall hl hfn
 go_enter Tryz.func59,Tryz.ntmps59
 go_wp2_with fail
 refine HC.out.mono ?_
 rintro e w2 (⟨i,hi,rfl,hp,hb⟩|⟨rfl,hp,hb⟩)
 ·have HB:=qh hb
  have HP:=qh hp
  clear hb HC hp
  go_wp2_with fail
  go_ret
  exact⟨(by rw [bH i hi HP.out.1];first|rfl|simp),HB.out⟩
 have HB:=qh hb
 have HP:=qh hp
 clear hb HC hp
 go_wp2_with fail
 go_ret
 exact⟨(by rw [any_none HP.out];first|rfl|simp),HB.out⟩
theorem zgf {α:Type} [Inhabited α] (R:World->α->List Value->Prop) (hR:qN R) (w:World) (sv:Value) (l:List α) (hl:zf R 6 w sv l) (fn:FuncId) (first captured:Array Value) (P:Nat->Bool) (hfn:∀args W,(callFunc fn args).run Tryz.prog W= .ok (.enter fn args) W)
  (hcall:∀j,j<l.length->∀(W:World) (cs:List Value),cs.length=6->R W (l.getD j default) cs->Below w.heap.size w W->Calls Tryz.prog fn (first.push (.agg cs.toArray)++captured) W λe W'=>e= .returned (.bool (P j))/\Below W.heap.size W W'):
  Calls Tryz.prog 85 #[sv, .func (.func fn) first captured] w λe w'=>(∃i:Nat,i<l.length/\e= .returned (.int .i64 i)/\(P i=true/\∀j,j<i->P j=false)/\Below w.heap.size w w')\/(e= .returned (.int .i64 (-1))/\(∀j,j<l.length->P j=false)/\Below w.heap.size w w'):=by
 obtain⟨a,cap,rfl,hn⟩:=hl.slice
 have HL:=qh hl
 have HC:=qh hcall
 clear hl hcall
 obtain⟨n,hnd⟩:∃n,n=l.length:=⟨_,rfl⟩
 rw [<-hnd] at hn HL ⊢
 have HN:=qh hnd
 clear hnd
 go_enter Tryz.func85,Tryz.ntmps85
 go_wp2_with fail
 go_loopg [8] n (λg s8 wr=>∃i:Nat,i<=n/\Hid (g=n - i)/\s8= .int .i64 i/\Hid (∀j,j<i->P j=false)/\Hid (Below w.heap.size w wr))
 case atStart=>exact⟨0,Nat.zero_le _,rfl,rfl,λj hj=>by omega,Below.refl _ _⟩
 case round=>
 obtain⟨i,hi,HG,rfl,HJ,HB⟩:=hrel
 by_cases hlt:i<n
 rotate_left
 ·obtain rfl:n=i:=by omega
  go_wp2_with fail
  go_ret
  exact .inr ⟨rfl,HJ.out,HB.out⟩
 have qK:(i:Int)<(n:Int):=by omega
 have hln:n=l.length:=HN.out
 obtain⟨b,off,cs,rfl,hb,hcl,hc,hr⟩:=zf.part (zf.below hR HL.out HB.out) i (by omega)
 have hca:=HC.out i (by omega) wr cs hcl hr HB.out
 clear hln hr
 obtain⟨x0,x1,x2,x3,x4,x5,rfl⟩:∃x0 x1 x2 x3 x4 x5,cs= [x0,x1,x2,x3,x4,x5] :=by
  match cs,hcl with
  | [x0,x1,x2,x3,x4,x5],_=>exact⟨x0,x1,x2,x3,x4,x5,rfl⟩
 have hx0:wr.cell? ⟨b,off+i*6,none⟩=some x0:=by have:=hc 0 (by omega);simpa using this
 have hx1:wr.cell? ⟨b,off+i*6+1,none⟩=some x1:=by have:=hc 1 (by omega);simpa using this
 have hx2:wr.cell? ⟨b,off+i*6+2,none⟩=some x2:=by have:=hc 2 (by omega);simpa using this
 have hx3:wr.cell? ⟨b,off+i*6+3,none⟩=some x3:=by have:=hc 3 (by omega);simpa using this
 have hx4:wr.cell? ⟨b,off+i*6+4,none⟩=some x4:=by have:=hc 4 (by omega);simpa using this
 have hx5:wr.cell? ⟨b,off+i*6+5,none⟩=some x5:=by have:=hc 5 (by omega);simpa using this
 clear hc hcl
 have HCA:=qh hca
 clear hca
 go_wp2_with fail
 refine HCA.out.mono ?_
 rintro e w2 ⟨rfl,hb2⟩
 have HB2:Hid (Below w.heap.size w w2):=HB.out.trans (hb2.mono HB.out.size)
 obtain⟨r,hr⟩:∃r,r=P i:=⟨_,rfl⟩
 rw [<-hr]
 have HR:=qh hr
 clear hb2 hr HCA hx0 hx1 hx2 hx3 hx4 hx5
 cases r
 ·go_wp2_with fail
  go_roundg (n - (i+1))
  case measure=>rw [HG.out];omega
  case rel=>exact⟨i+1,by omega,rfl,by simp,λj hj=>by
   by_cases he:j=i
   ·subst he;exact HR.out.symm
   exact HJ.out j (by omega),HB2.out⟩
 go_wp2_with fail
 go_ret
 exact .inl ⟨i,hlt,rfl,⟨HR.out.symm,HJ.out⟩,HB2.out⟩
theorem pX {α:Type} [Inhabited α] (R:World->α->List Value->Prop) (hR:qN R) (w:World) (sv:Value) (l:List α) (hl:zf R 6 w sv l) (fn:FuncId) (first captured:Array Value) (P:Nat->Bool) (hfn:∀args W,(callFunc fn args).run Tryz.prog W= .ok (.enter fn args) W)
  (hcall:∀j,j<l.length->∀(W:World) (cs:List Value),cs.length=6->R W (l.getD j default) cs->Below w.heap.size w W->Calls Tryz.prog fn (first.push (.agg cs.toArray)++captured) W λe W'=>e= .returned (.bool (P j))/\Below W.heap.size W W'):
  Calls Tryz.prog 64 #[sv, .func (.func fn) first captured] w λe w'=>e= .returned (.bool ((List.range l.length).any P))/\Below w.heap.size w w':=by
 have hc:=zgf R hR w sv l hl fn first captured P hfn hcall
 have HC:=qh hc
 clear hc hcall hl hfn
 go_enter Tryz.func64,Tryz.ntmps64
 go_wp2_with fail
 refine HC.out.mono ?_
 rintro e w2 (⟨i,hi,rfl,hp,hb⟩|⟨rfl,hp,hb⟩)
 ·have HB:=qh hb
  have HP:=qh hp
  clear hb HC hp
  go_wp2_with fail
  go_ret
  exact⟨(by rw [bH i hi HP.out.1];first|rfl|simp),HB.out⟩
 have HB:=qh hb
 have HP:=qh hp
 clear hb HC hp
 go_wp2_with fail
 go_ret
 exact⟨(by rw [any_none HP.out];first|rfl|simp),HB.out⟩
