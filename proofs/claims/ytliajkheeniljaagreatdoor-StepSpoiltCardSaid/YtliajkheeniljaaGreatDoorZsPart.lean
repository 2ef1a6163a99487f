/- May what an instruction of a kind has be: the document's answer: the walk. May code be: the document's answer, as plain Lean. What moves do: the document's answer, as plain Lean. -/
import Derived.Test.YtliajkheeniljaaGreatDoorZsEval
import Derived.Test.YtliajkheeniljaaGreatDoorZsExpr2
import Derived.Test.YtliajkheeniljaaGreatDoorZsHeads
import Derived.Test.YtliajkheeniljaaGreatDoorZsShort
set_option linter.all false
namespace Go.Proofs.YtliajkheeniljaaGreatDoor
open Go.RowKit
set_option maxRecDepth 100000
set_option maxHeartbeats 16000000
theorem zuu {p:Bool} (h:true= !p):p=false:=by cases p<;>first|rfl|cases h
theorem zpV {p:Bool} (h:false= !p):p=true:=by cases p<;>first|rfl|cases h
def pG (k reg:Int):Bool:=if gq k then decide (0<=reg) && decide (reg<4) else decide (reg=0)
def gP (k v vars:Int):Bool:=if kN k then decide (0<=v) && decide (v<vars) else decide (v=0)
def uF (k:Int) (a:zJ) (dom:Int):Bool:=if kP k then zS dom 20 a else qA a
def zaq (k:Int) (b:zJ) (dom:Int):Bool:=if hasB k then zS dom 20 b else qA b
def qP (k reg v:Int) (a b:zJ) (vars dom:Int):Bool:=pG k reg && gP k v vars && uF k a dom && zaq k b dom
theorem zja (w:World) (k reg v:Int) (a b:zJ) (ka kb:Value) (e:Nat) (ha:zC e w a ka) (hb:zC e w b kb) (vars dom:Int):
  Calls Tryz.prog 74 #[.int .i64 k, .int .i64 reg, .int .i64 v,xP a ka,xP b kb, .int .i64 vars, .int .i64 dom] w fun e w'=>e= .returned (.bool (qP k reg v a b vars dom))/\Below w.heap.size w w':=by
 obtain⟨aa,ac,rfl, -⟩:=ha.slice
 obtain⟨ba,bc,rfl, -⟩:=hb.slice
 have HB:=qh (xQ w (.cells #[.int .i64 a.kind, .int .i64 a.n, .int .u8 a.op, .slice aa a.kids.length ac] 62) (.cells #[.int .i64 b.kind, .int .i64 b.n, .int .u8 b.op, .slice ba b.kids.length bc] 62))
 have H1:=qh (xH w (.cells #[.int .i64 a.kind, .int .i64 a.n, .int .u8 a.op, .slice aa a.kids.length ac] 62) (.cells #[.int .i64 b.kind, .int .i64 b.n, .int .u8 b.op, .slice ba b.kids.length bc] 62))
 have H2:=qh (xu w (.cells #[.int .i64 a.kind, .int .i64 a.n, .int .u8 a.op, .slice aa a.kids.length ac] 62) (.cells #[.int .i64 b.kind, .int .i64 b.n, .int .u8 b.op, .slice ba b.kids.length bc] 62))
 have HEA:Hid (∀X,Below w.heap.size w X->Calls Tryz.prog 99 #[.agg #[.int .i64 a.kind, .int .i64 a.n, .int .u8 a.op, .slice aa a.kids.length ac], .int .i64 dom] X fun e w'=>e= .returned (.bool (zS dom 20 a))/\Below X.heap.size X w'):=fun X hX=>ze9 dom e X a _ (ha.below hX)
 have HEB:Hid (∀X,Below w.heap.size w X->Calls Tryz.prog 99 #[.agg #[.int .i64 b.kind, .int .i64 b.n, .int .u8 b.op, .slice ba b.kids.length bc], .int .i64 dom] X fun e w'=>e= .returned (.bool (zS dom 20 b))/\Below X.heap.size X w'):=fun X hX=>ze9 dom e X b _ (hb.below hX)
 have HNA:Hid (∀X,Calls Tryz.prog 100 #[.agg #[.int .i64 a.kind, .int .i64 a.n, .int .u8 a.op, .slice aa a.kids.length ac]] X fun e w'=>e= .returned (.bool (qA a))/\Below X.heap.size X w'):=fun X=>zjm X a aa ac
 have HNB:Hid (∀X,Calls Tryz.prog 100 #[.agg #[.int .i64 b.kind, .int .i64 b.n, .int .u8 b.op, .slice ba b.kids.length bc]] X fun e w'=>e= .returned (.bool (qA b))/\Below X.heap.size X w'):=fun X=>zjm X b ba bc
 obtain⟨r,hr⟩:∃r,r=qP k reg v a b vars dom:=⟨_,rfl⟩
 rw [<-hr]
 have HR:Hid (r=((if gq k then decide (0<=reg) && decide (reg<4) else decide (reg=0)) && (if kN k then decide (0<=v) && decide (v<vars) else decide (v=0)) && (if kP k then zS dom 20 a else qA a) && (if hasB k then zS dom 20 b else qA b))):=hr
 have HH:=qh (fun X=>zvl X k)
 obtain⟨h0,e0⟩:∃h,h=gq k:=⟨_,rfl⟩
 obtain⟨h1,e1⟩:∃h,h=kN k:=⟨_,rfl⟩
 obtain⟨h2,e2⟩:∃h,h=kP k:=⟨_,rfl⟩
 obtain⟨h3,e3⟩:∃h,h=hasB k:=⟨_,rfl⟩
 rw [<-e0, <-e1, <-e2, <-e3] at HR
 have HH2:Hid (∀X,Calls Tryz.prog 98 #[.int .i64 k] X fun e w'=>e= .returned (.agg #[.bool h0, .bool h1, .bool h2, .bool h3])/\Below X.heap.size X w'):=fun X=>by rw [e0,e1,e2,e3];exact HH.out X
 unfold xP
 clear ha hb hr HH e0 e1 e2 e3
 go_enter Tryz.func74,Tryz.ntmps74
 go_upto_region 1 with fail
 generalize World.alloc (World.alloc w _) _=W at HB H1 H2 ⊢
 obtain⟨gx,hgx⟩:∃gx,gx=w.heap.size:=⟨_,rfl⟩
 rw [<-hgx] at H1 H2 ⊢
 clear hgx
 go_wp2_with fail
 refine(HH2.out W).mono ?_
 rintro e X0 ⟨rfl,hb0⟩
 have HX0:=qh (zF hb0 ((Below.refl X0.heap.size X0).alloc (Nat.le_refl _) (.cells #[.bool h0, .bool h1, .bool h2, .bool h3] 157)))
 have HHB:=qh (yD X0 (.cells #[.bool h0, .bool h1, .bool h2, .bool h3] 157))
 clear hb0 HH2
 go_upto_region 2 with fail
 generalize World.alloc X0 _=X at HX0 HHB ⊢
 obtain⟨hx,hhx⟩:∃hx,hx=X0.heap.size:=⟨_,rfl⟩
 rw [<-hhx] at HHB ⊢
 clear hhx
 have HC:Hid (∀x,Below X.heap.size X x->(x.cell? ⟨gx,0,none⟩=some (.int .i64 a.kind)/\x.cell? ⟨gx,1,none⟩=some (.int .i64 a.n)/\x.cell? ⟨gx,2,none⟩=some (.int .u8 a.op)/\x.cell? ⟨gx,3,none⟩=some (.slice aa a.kids.length ac))/\
   (x.cell? ⟨gx+1,0,none⟩=some (.int .i64 b.kind)/\x.cell? ⟨gx+1,1,none⟩=some (.int .i64 b.n)/\x.cell? ⟨gx+1,2,none⟩=some (.int .u8 b.op)/\x.cell? ⟨gx+1,3,none⟩=some (.slice ba b.kids.length bc))/\
   (x.cell? ⟨hx,0,none⟩=some (.bool h0)/\x.cell? ⟨hx,1,none⟩=some (.bool h1)/\x.cell? ⟨hx,2,none⟩=some (.bool h2)/\x.cell? ⟨hx,3,none⟩=some (.bool h3))):=fun x hx=>
  have k:=fun p v h=>zl (zF HX0.out hx) p v h
  ⟨⟨k _ _ (zi H1.out 0),k _ _ (zi H1.out 1),k _ _ (zi H1.out 2),k _ _ (zi H1.out 3)⟩,⟨k _ _ (zi H2.out 0),k _ _ (zi H2.out 1),k _ _ (zi H2.out 2),k _ _ (zi H2.out 3)⟩,⟨zl hx _ _ (zi HHB.out 0),zl hx _ _ (zi HHB.out 1),zl hx _ _ (zi HHB.out 2),zl hx _ _ (zi HHB.out 3)⟩⟩
 have xg:=qh (HB.out.trans (HX0.out.mono HB.out.size))
 clear H1 H2 HHB HB HX0
 go_cut [58] (fun s58 w'=>∃q:Bool,s58= .bool q/\w'=X/\Hid (q= !((if h0 then decide (0<=reg) && decide (reg<4) else decide (reg=0)) && (if h1 then decide (0<=v) && decide (v<vars) else decide (v=0)))))
 case first=>
  obtain⟨-, -,c0,c1, -, -⟩:=HC.out X (Below.refl _ _)
  cases h0 with
  |true=>
   by_cases r1:0<=reg
   rotate_left
   ·have r1n:reg<0:=by omega
    go_wp2_with fail
    go_meet
    case rel=>exact⟨true,by first|rfl|simp,rfl,by rw [Hid];simp [r1]⟩
   have r1n:¬reg<0:=by omega
   by_cases r2:reg<4
   rotate_left
   ·have r2n:4<=reg:=by omega
    go_wp2_with fail
    go_meet
    case rel=>exact⟨true,by first|rfl|simp,rfl,by rw [Hid];simp [r1,r2]⟩
   have r2n:¬4<=reg:=by omega
   cases h1 with
   |true=>
    by_cases v1:0<=v
    ·have v1n:¬v<0:=by omega
     by_cases v2:v<vars
     ·have v2n:¬vars<=v:=by omega
      go_wp2_with fail
      go_meet
      case rel=>exact⟨false,by first|rfl|simp,rfl,by rw [Hid];simp [r1,r2,v1,v2]⟩
     ·have v2n:vars<=v:=by omega
      go_wp2_with fail
      go_meet
      case rel=>exact⟨true,by first|rfl|simp,rfl,by rw [Hid];simp [r1,r2,v1,v2]⟩
    ·have v1n:v<0:=by omega
     go_wp2_with fail
     go_meet
     case rel=>exact⟨true,by first|rfl|simp,rfl,by rw [Hid];simp [r1,r2,v1]⟩
   |false=>
    by_cases v1:v=0
    ·have v1n:((v:Int) !=0)=false:=by simp [v1]
     have V1:=qh v1
     clear v1
     go_wp2_with fail
     go_meet
     case rel=>exact⟨false,by first|rfl|simp,rfl,by rw [Hid];simp [r1,r2,V1.out]⟩
    ·have v1n:((v:Int) !=0)=true:=by simp [v1]
     go_wp2_with fail
     go_meet
     case rel=>exact⟨true,by first|rfl|simp,rfl,by rw [Hid];simp [r1,r2,v1]⟩
  |false=>
   by_cases r1:reg=0
   rotate_left
   ·have r1n:((reg:Int) !=0)=true:=by simp [r1]
    go_wp2_with fail
    go_meet
    case rel=>exact⟨true,by first|rfl|simp,rfl,by rw [Hid];simp [r1]⟩
   have r1n:((reg:Int) !=0)=false:=by simp [r1]
   have R1:=qh r1
   clear r1
   cases h1 with
   |true=>
    by_cases v1:0<=v
    ·have v1n:¬v<0:=by omega
     by_cases v2:v<vars
     ·have v2n:¬vars<=v:=by omega
      go_wp2_with fail
      go_meet
      case rel=>exact⟨false,by first|rfl|simp,rfl,by rw [Hid];simp [R1.out,v1,v2]⟩
     ·have v2n:vars<=v:=by omega
      go_wp2_with fail
      go_meet
      case rel=>exact⟨true,by first|rfl|simp,rfl,by rw [Hid];simp [R1.out,v1,v2]⟩
    ·have v1n:v<0:=by omega
     go_wp2_with fail
     go_meet
     case rel=>exact⟨true,by first|rfl|simp,rfl,by rw [Hid];simp [R1.out,v1]⟩
   |false=>
    by_cases v1:v=0
    ·have v1n:((v:Int) !=0)=false:=by simp [v1]
     have V1:=qh v1
     clear v1
     go_wp2_with fail
     go_meet
     case rel=>exact⟨false,by first|rfl|simp,rfl,by rw [Hid];simp [R1.out,V1.out]⟩
    ·have v1n:((v:Int) !=0)=true:=by simp [v1]
     go_wp2_with fail
     go_meet
     case rel=>exact⟨true,by first|rfl|simp,rfl,by rw [Hid];simp [R1.out,v1]⟩
 case rest=>
  obtain⟨q,rfl,hwq,HQ⟩:=hcut
  obtain rfl:X=wc:=hwq.symm
  cases q with
  |true=>
   have hp:=HQ.out
   obtain rfl:r=false:=by
    rw [HR.out,zuu hp];rfl
   clear HR HQ hp
   go_wp2_with fail
   go_ret
   exact⟨by first|rfl|simp,xg.out⟩
  |false=>
   have HR2:Hid (r=((if h2 then zS dom 20 a else qA a) && (if h3 then zS dom 20 b else qA b))):=by
    rw [Hid,HR.out,zpV HQ.out];rfl
   clear HR HQ
   go_upto_region 4 with fail
   go_cut [76] (fun s76 w'=>∃q:Bool,s76= .bool q/\Hid (q= !(if h2 then zS dom 20 a else qA a))/\Hid (Below X.heap.size X w'))
   case first=>
    obtain⟨⟨a0,a1,a2,a3⟩, -, -, -,c2, -⟩:=HC.out X (Below.refl _ _)
    cases h2 with
    |true=>
     go_wp2_with fail
     refine(HEA.out X xg.out).mono ?_
     rintro e Y ⟨rfl,hby⟩
     have vw:=qh hby
     obtain⟨-, -, -, -,c2', -⟩:=HC.out Y vw.out
     clear hby a0 a1 a2 a3 c2
     cases hv:zS dom 20 a with
     |true=>
      go_wp2_with fail
      go_meet
      case rel=>exact⟨false,by first|rfl|simp,by rw [Hid];simp [hv],vw.out⟩
     |false=>
      go_wp2_with fail
      go_meet
      case rel=>exact⟨true,by first|rfl|simp,by rw [Hid];simp [hv],vw.out⟩
    |false=>
     go_wp2_with fail
     refine(HNA.out X).mono ?_
     rintro e Y ⟨rfl,hby⟩
     have vw:=qh hby
     clear hby a0 a1 a2 a3 c2
     cases hv:qA a with
     |true=>
      go_wp2_with fail
      go_meet
      case rel=>exact⟨false,by first|rfl|simp,by rw [Hid];simp [hv],vw.out⟩
     |false=>
      go_wp2_with fail
      go_meet
      case rel=>exact⟨true,by first|rfl|simp,by rw [Hid];simp [hv],vw.out⟩
   case rest=>
    obtain⟨q,rfl,HQ,HBQ⟩:=hcut
    obtain⟨Y,rfl⟩:∃Y:World,Y=wc:=⟨_,rfl⟩
    have yu:=qh (xg.out.trans (HBQ.out.mono xg.out.size))
    cases q with
    |true=>
     obtain rfl:r=false:=by
      rw [HR2.out,zuu HQ.out];rfl
     clear HR2 HQ
     go_wp2_with fail
     go_ret
     exact⟨by first|rfl|simp,yu.out⟩
    |false=>
     have HR3:Hid (r=(if h3 then zS dom 20 b else qA b)):=by
      rw [Hid,HR2.out,zpV HQ.out];rfl
     clear HR2 HQ
     obtain⟨-,⟨b0,b1,b2,b3⟩, -, -, -,c3⟩:=HC.out Y HBQ.out
     cases h3 with
     |true=>
      have HR4:Hid (r=zS dom 20 b):=HR3.out
      go_wp2_with fail
      refine(HEB.out Y yu.out).mono ?_
      rw [<-HR4.out]
      rintro e Z ⟨rfl,hbz⟩
      have bg:=qh hbz
      obtain⟨-, -, -, -, -,c3'⟩:=HC.out Z (zF HBQ.out bg.out)
      clear hbz b0 b1 b2 b3 c3 HR3 HR4
      cases r with
      |true=>
       go_wp2_with fail
       go_ret
       exact⟨by first|rfl|simp,yu.out.trans (bg.out.mono yu.out.size)⟩
      |false=>
       go_wp2_with fail
       go_ret
       exact⟨by first|rfl|simp,yu.out.trans (bg.out.mono yu.out.size)⟩
     |false=>
      have HR4:Hid (r=qA b):=HR3.out
      go_wp2_with fail
      refine(HNB.out Y).mono ?_
      rw [<-HR4.out]
      rintro e Z ⟨rfl,hbz⟩
      have bg:=qh hbz
      clear hbz b0 b1 b2 b3 c3 HR3 HR4
      cases r with
      |true=>
       go_wp2_with fail
       go_ret
       exact⟨by first|rfl|simp,yu.out.trans (bg.out.mono yu.out.size)⟩
      |false=>
       go_wp2_with fail
       go_ret
       exact⟨by first|rfl|simp,yu.out.trans (bg.out.mono yu.out.size)⟩
def vL (vars dom kind yB:Int) (x:zW):Bool:=decide (1<=kind) && decide (kind<=9) && decide (0<=x.dest) && decide (x.dest<=yB) && qP kind x.reg x.var x.a x.b vars dom
def qy (vars dom:Int) (many:Nat) (x:zW):Bool:=
 if x.op=12 then vL vars dom 9 many x else if x.op=13 then vL vars dom 4 many x else if x.op=10\/x.op=11 then false else vL vars dom x.op 0 x
def rowOk (vars dom:Int) (l:List zW):Bool:=decide (l.length<=600) && l.all (qy vars dom l.length)
def codeOk (c:zX):Bool:=decide (1<=c.vars) && decide (c.vars<=4) && decide (2<=c.domain) && decide (c.domain<=16) && decide (1<=c.threads.length) && decide (c.threads.length<=4) && c.threads.all (rowOk c.vars c.domain)
theorem zcM {α:Type} [Inhabited α] (l:List α) (d:α) (p:α->Bool) (h:∀j,j<l.length->p (l.getD j d)=true):l.all p=true:=by
 rw [List.all_eq_true]
 intro x hx
 obtain⟨j,hj,rfl⟩:=List.getElem_of_mem hx
 have:=h j hj
 rwa [List.getD_eq_getElem?_getD,List.getElem?_eq_getElem hj] at this
theorem za5 {α:Type} [Inhabited α] (l:List α) (d:α) (p:α->Bool) (j:Nat) (hj:j<l.length) (h:p (l.getD j d)=false):l.all p=false:=by
 rw [List.all_eq_false]
 rw [List.getD_eq_getElem?_getD,List.getElem?_eq_getElem hj] at h
 exact⟨l[j],List.getElem_mem hj,by simpa using h⟩
def kI (c:zX) (m:zK):Bool:=codeOk c && decide (0<=m.model) && decide (m.model<=2) && decide (1<=m.bound) && decide (m.bound<=8)
def jL (c:zX):zu:=if codeOk c then⟨List.replicate c.threads.length default,List.replicate c.vars.toNat 0,false⟩ else⟨[], [],false⟩
def vR (c:zX) (m:zK) (l:List zm) (k:Nat):Bool:=
 qL (l.take k) m (l.getD k default) && decide (0<=(l.getD k default).var) && decide ((l.getD k default).var<c.vars) && decide (0<=(l.getD k default).n) && decide ((l.getD k default).n<c.domain)
def vg (dom n:Int):Bool:=decide (0<=n) && decide (n<dom)
def qG (c:zX) (m:zK) (s:zu) (i:Nat):Bool:=
 decide (0<=(s.threads.getD i default).pc) && decide ((s.threads.getD i default).pc<=((c.threads.getD i []).length:Int)) &&
 (List.range 4).all (fun k=>vg c.domain ((s.threads.getD i default).regs.getD k 0)) && (List.range (s.threads.getD i default).buf.length).all (vR c m (s.threads.getD i default).buf)
def xX (c:zX) (m:zK) (s:zu):Bool:=
 kI c m && decide (s.threads.length=c.threads.length) && decide ((s.mem.length:Int)=c.vars) && (List.range s.mem.length).all (fun k=>vg c.domain (s.mem.getD k 0)) && (List.range s.threads.length).all (qG c m s)
def stepT (c:zX) (m:zK) (s:zu) (t:zx) (x:zW) (d:Nat):Option (zx × List Int × Bool):=
 let a:=yw t.regs c.domain d x.a
 let b:=yw t.regs c.domain d x.b
 let t1:zx:=⟨t.pc+1,t.regs,t.buf⟩
 let empty:=decide (t.buf.length=0)
 let v:=x.var.toNat
 let at_:=s.mem.getD v 0
 let znd:=fun n:Int=>(⟨t.pc+1,t.regs.set x.reg.toNat n,t.buf⟩:zx)
 if x.op=1 then some (znd ((kR t.buf x.var).getD at_),s.mem,s.bad)
 else if x.op=2 then(if m.model=0 then some (t1,s.mem.set v a,s.bad) else if qL t.buf m ⟨x.var,a⟩ then some (⟨t.pc+1,t.regs,vU t.buf m ⟨x.var,a⟩⟩,s.mem,s.bad) else none)
 else if x.op=3 then some (znd a,s.mem,s.bad)
 else if x.op=4 then(if empty then some (t1,s.mem,s.bad) else none)
 else if x.op=5 then(if empty|| !decide (m.model=2) then some (t1,s.mem,s.bad) else none)
 else if x.op=6 then(if empty then(if at_=a then some (znd 1,s.mem.set v b,s.bad) else some (znd 0,s.mem,s.bad)) else none)
 else if x.op=7 then(if empty && decide (at_=0) then some (t1,s.mem.set v 1,s.bad) else none)
 else if x.op=8 then(if empty then some (t1,s.mem.set v 0,s.bad) else none)
 else if x.op=9 then some (t1,s.mem,s.bad||decide (a=0))
 else if x.op=12 then some (if a=0 then⟨x.dest,t.regs,t.buf⟩ else t1,s.mem,s.bad)
 else if x.op=13 then some (⟨x.dest,t.regs,t.buf⟩,s.mem,s.bad)
 else some (t1,s.mem,s.bad)
def vZ (c:zX) (m:zK) (s:zu) (i:Nat) (d:Nat):Option zu:=
 if (s.threads.getD i default).pc<((c.threads.getD i []).length:Int) then
  (stepT c m s (s.threads.getD i default) ((c.threads.getD i []).getD (s.threads.getD i default).pc.toNat default) d).map fun r=>⟨s.threads.set i r.1,r.2.1,r.2.2⟩
 else none
def wz (s:zu) (i:Nat) (v:Int):zu:=
 ⟨s.threads.set i ⟨(s.threads.getD i default).pc,(s.threads.getD i default).regs,(takeB (s.threads.getD i default).buf v).2⟩,s.mem.set ((takeB (s.threads.getD i default).buf v).1.getD default).var.toNat ((takeB (s.threads.getD i default).buf v).1.getD default).n,s.bad⟩
def yO:zu:=⟨[], [],false⟩
def vN (c:zX) (m:zK) (s:zu) (x:zM) (d:Nat):zu × Int:=
 if xX c m s then
  if 0<=x.thread/\x.thread<(s.threads.length:Int) then
   if x.kind=1/\x.var=0 then
    match vZ c m s x.thread.toNat d with
    |some t=>(t,0)
    |none=>(yO,50)
   else if x.kind=2/\x.var∈yF (s.threads.getD x.thread.toNat default).buf m.model then(wz s x.thread.toNat x.var,0)
   else(yO,50)
  else(yO,50)
 else(yO,1)
def wm (c:zX) (m:zK) (s:zu) (d:Nat) (i:Nat):List zM:=
 (if (vZ c m s i d).isSome then [⟨1,i,0⟩] else [])++(yF (s.threads.getD i default).buf m.model).map fun v=>⟨2,i,v⟩
def qO (c:zX) (m:zK) (s:zu) (d:Nat):List zM:=
 if xX c m s then(List.range s.threads.length).flatMap (wm c m s d) else []
instance:Inhabited zX:=⟨⟨0,0, []⟩⟩
theorem qj {c:zX} (h:codeOk c=true):1<=c.vars/\c.vars<=4/\2<=c.domain/\c.domain<=16/\1<=c.threads.length/\c.threads.length<=4:=by
 unfold codeOk at h
 simp only [Bool.and_eq_true,decide_eq_true_eq] at h
 exact⟨h.1.1.1.1.1.1,h.1.1.1.1.1.2,h.1.1.1.1.2,h.1.1.1.2,h.1.1.2,h.1.2⟩
end Go.Proofs.YtliajkheeniljaaGreatDoor
