/- Steps. -/
import Derived.Test.YteggflahafiieaaGreatDoorZgEval
import Derived.Test.YteggflahafiieaaGreatDoorZgExpr2
import Derived.Test.YteggflahafiieaaGreatDoorZgHeads
set_option linter.all false
namespace Go.Proofs.YteggflahafiieaaGreatDoor
open Go.RowKit
set_option maxRecDepth 100000
set_option maxHeartbeats 16000000
theorem zwZ {p:Bool} (h:true= !p):p=false:=by cases p<;>first|rfl|cases h
theorem ztf {p:Bool} (h:false= !p):p=true:=by cases p<;>first|rfl|cases h
def bF (k reg:Int):Bool:=if gH k then decide (0<=reg) && decide (reg<4) else decide (reg=0)
def wU (k v vars:Int):Bool:=if kM k then decide (0<=v) && decide (v<vars) else decide (v=0)
def wV (k:Int) (a:zH) (dom:Int):Bool:=if kN k then zL dom 20 a else qC a
def bG (k:Int) (b:zH) (dom:Int):Bool:=if hasB k then zL dom 20 b else qC b
def qm (k reg v:Int) (a b:zH) (vars dom:Int):Bool:=bF k reg && wU k v vars && wV k a dom && bG k b dom
theorem zl0 (w:World) (k reg v:Int) (a b:zH) (ka kb:Value) (e:Nat) (ha:zx e w a ka) (hb:zx e w b kb) (vars dom:Int):
  Calls Tryz.prog 85 #[.int .i64 k, .int .i64 reg, .int .i64 v,xQ a ka,xQ b kb, .int .i64 vars, .int .i64 dom] w λe w'=>e= .returned (.bool (qm k reg v a b vars dom))/\Below w.heap.size w w':=by
 obtain⟨aa,ac,rfl, -⟩:=ha.slice
 obtain⟨ba,bc,rfl, -⟩:=hb.slice
 have HB:=qh (xZ w (.cells #[.int .i64 a.kind, .int .i64 a.n, .int .u8 a.op, .slice aa a.kids.length ac] 51) (.cells #[.int .i64 b.kind, .int .i64 b.n, .int .u8 b.op, .slice ba b.kids.length bc] 51))
 have H1:=qh (xL w (.cells #[.int .i64 a.kind, .int .i64 a.n, .int .u8 a.op, .slice aa a.kids.length ac] 51) (.cells #[.int .i64 b.kind, .int .i64 b.n, .int .u8 b.op, .slice ba b.kids.length bc] 51))
 have H2:=qh (xE w (.cells #[.int .i64 a.kind, .int .i64 a.n, .int .u8 a.op, .slice aa a.kids.length ac] 51) (.cells #[.int .i64 b.kind, .int .i64 b.n, .int .u8 b.op, .slice ba b.kids.length bc] 51))
 have HEA:Hid (∀X,Below w.heap.size w X->Calls Tryz.prog 116 #[.agg #[.int .i64 a.kind, .int .i64 a.n, .int .u8 a.op, .slice aa a.kids.length ac], .int .i64 dom] X λe w'=>e= .returned (.bool (zL dom 20 a))/\Below X.heap.size X w'):=λX hX=>zeQ dom e X a _ (ha.below hX)
 have HEB:Hid (∀X,Below w.heap.size w X->Calls Tryz.prog 116 #[.agg #[.int .i64 b.kind, .int .i64 b.n, .int .u8 b.op, .slice ba b.kids.length bc], .int .i64 dom] X λe w'=>e= .returned (.bool (zL dom 20 b))/\Below X.heap.size X w'):=λX hX=>zeQ dom e X b _ (hb.below hX)
 have HNA:Hid (∀X,Calls Tryz.prog 117 #[.agg #[.int .i64 a.kind, .int .i64 a.n, .int .u8 a.op, .slice aa a.kids.length ac]] X λe w'=>e= .returned (.bool (qC a))/\Below X.heap.size X w'):=λX=>zll X a aa ac
 have HNB:Hid (∀X,Calls Tryz.prog 117 #[.agg #[.int .i64 b.kind, .int .i64 b.n, .int .u8 b.op, .slice ba b.kids.length bc]] X λe w'=>e= .returned (.bool (qC b))/\Below X.heap.size X w'):=λX=>zll X b ba bc
 obtain⟨r,hr⟩:∃r,r=qm k reg v a b vars dom:=⟨_,rfl⟩
 rw [<-hr]
 have HR:Hid (r=((if gH k then decide (0<=reg) && decide (reg<4) else decide (reg=0)) && (if kM k then decide (0<=v) && decide (v<vars) else decide (v=0)) && (if kN k then zL dom 20 a else qC a) && (if hasB k then zL dom 20 b else qC b))):=hr
 have HH:=qh (λX=>zx8 X k)
 obtain⟨h0,e0⟩:∃h,h=gH k:=⟨_,rfl⟩
 obtain⟨h1,e1⟩:∃h,h=kM k:=⟨_,rfl⟩
 obtain⟨h2,e2⟩:∃h,h=kN k:=⟨_,rfl⟩
 obtain⟨h3,e3⟩:∃h,h=hasB k:=⟨_,rfl⟩
 rw [<-e0, <-e1, <-e2, <-e3] at HR
 have HH2:Hid (∀X,Calls Tryz.prog 115 #[.int .i64 k] X λe w'=>e= .returned (.agg #[.bool h0, .bool h1, .bool h2, .bool h3])/\Below X.heap.size X w'):=λX=>by rw [e0,e1,e2,e3];exact HH.out X
 unfold xQ
 clear ha hb hr HH e0 e1 e2 e3
 go_enter Tryz.func85,Tryz.ntmps85
 go_upto_region 1 with fail
 generalize World.alloc (World.alloc w _) _=W at HB H1 H2 ⊢
 obtain⟨gx,hgx⟩:∃gx,gx=w.heap.size:=⟨_,rfl⟩
 rw [<-hgx] at H1 H2 ⊢
 clear hgx
 go_wp2_with fail
 refine(HH2.out W).mono ?_
 rintro e X0 ⟨rfl,hb0⟩
 have HX0:=qh (zB hb0 ((Below.refl X0.heap.size X0).alloc (Nat.le_refl _) (.cells #[.bool h0, .bool h1, .bool h2, .bool h3] 202)))
 have HHB:=qh (yE X0 (.cells #[.bool h0, .bool h1, .bool h2, .bool h3] 202))
 clear hb0 HH2
 go_upto_region 2 with fail
 generalize World.alloc X0 _=X at HX0 HHB ⊢
 obtain⟨hx,hhx⟩:∃hx,hx=X0.heap.size:=⟨_,rfl⟩
 rw [<-hhx] at HHB ⊢
 clear hhx
 have HC:Hid (∀x,Below X.heap.size X x->(x.cell? ⟨gx,0,none⟩=some (.int .i64 a.kind)/\x.cell? ⟨gx,1,none⟩=some (.int .i64 a.n)/\x.cell? ⟨gx,2,none⟩=some (.int .u8 a.op)/\x.cell? ⟨gx,3,none⟩=some (.slice aa a.kids.length ac))/\
   (x.cell? ⟨gx+1,0,none⟩=some (.int .i64 b.kind)/\x.cell? ⟨gx+1,1,none⟩=some (.int .i64 b.n)/\x.cell? ⟨gx+1,2,none⟩=some (.int .u8 b.op)/\x.cell? ⟨gx+1,3,none⟩=some (.slice ba b.kids.length bc))/\
   (x.cell? ⟨hx,0,none⟩=some (.bool h0)/\x.cell? ⟨hx,1,none⟩=some (.bool h1)/\x.cell? ⟨hx,2,none⟩=some (.bool h2)/\x.cell? ⟨hx,3,none⟩=some (.bool h3))):=λx hx=>
  have k:=λp v h=>zh (zB HX0.out hx) p v h
  ⟨⟨k _ _ (za H1.out 0),k _ _ (za H1.out 1),k _ _ (za H1.out 2),k _ _ (za H1.out 3)⟩,⟨k _ _ (za H2.out 0),k _ _ (za H2.out 1),k _ _ (za H2.out 2),k _ _ (za H2.out 3)⟩,⟨zh hx _ _ (za HHB.out 0),zh hx _ _ (za HHB.out 1),zh hx _ _ (za HHB.out 2),zh hx _ _ (za HHB.out 3)⟩⟩
 have xC:=qh (HB.out.trans (HX0.out.mono HB.out.size))
 clear H1 H2 HHB HB HX0
 go_cut [58] (λs58 w'=>∃q:Bool,s58= .bool q/\w'=X/\Hid (q= !((if h0 then decide (0<=reg) && decide (reg<4) else decide (reg=0)) && (if h1 then decide (0<=v) && decide (v<vars) else decide (v=0)))))
 case first=>
  obtain⟨-, -,c0,c1, -, -⟩:=HC.out X (Below.refl _ _)
  cases h0 with
  |true=>
   by_cases r1:0<=reg
   rotate_left
   ·have r1n:reg<0:=by omega
    go_wp2_with fail
    go_meet
    case rel=>exact⟨true,by first|rfl|simp,rfl,by rw [Hid];simp [r1]⟩
   have r1n:¬reg<0:=by omega
   by_cases r2:reg<4
   rotate_left
   ·have r2n:4<=reg:=by omega
    go_wp2_with fail
    go_meet
    case rel=>exact⟨true,by first|rfl|simp,rfl,by rw [Hid];simp [r1,r2]⟩
   have r2n:¬4<=reg:=by omega
   cases h1 with
   |true=>
    by_cases v1:0<=v
    ·have v1n:¬v<0:=by omega
     by_cases v2:v<vars
     ·have v2n:¬vars<=v:=by omega
      go_wp2_with fail
      go_meet
      case rel=>exact⟨false,by first|rfl|simp,rfl,by rw [Hid];simp [r1,r2,v1,v2]⟩
     have v2n:vars<=v:=by omega
     go_wp2_with fail
     go_meet
     case rel=>exact⟨true,by first|rfl|simp,rfl,by rw [Hid];simp [r1,r2,v1,v2]⟩
    have v1n:v<0:=by omega
    go_wp2_with fail
    go_meet
    case rel=>exact⟨true,by first|rfl|simp,rfl,by rw [Hid];simp [r1,r2,v1]⟩
   |false=>
   by_cases v1:v=0
   ·have v1n:((v:Int) !=0)=false:=by simp [v1]
    have V1:=qh v1
    clear v1
    go_wp2_with fail
    go_meet
    case rel=>exact⟨false,by first|rfl|simp,rfl,by rw [Hid];simp [r1,r2,V1.out]⟩
   have v1n:((v:Int) !=0)=true:=by simp [v1]
   go_wp2_with fail
   go_meet
   case rel=>exact⟨true,by first|rfl|simp,rfl,by rw [Hid];simp [r1,r2,v1]⟩
  |false=>
  by_cases r1:reg=0
  rotate_left
  ·have r1n:((reg:Int) !=0)=true:=by simp [r1]
   go_wp2_with fail
   go_meet
   case rel=>exact⟨true,by first|rfl|simp,rfl,by rw [Hid];simp [r1]⟩
  have r1n:((reg:Int) !=0)=false:=by simp [r1]
  have R1:=qh r1
  clear r1
  cases h1 with
  |true=>
   by_cases v1:0<=v
   ·have v1n:¬v<0:=by omega
    by_cases v2:v<vars
    ·have v2n:¬vars<=v:=by omega
     go_wp2_with fail
     go_meet
     case rel=>exact⟨false,by first|rfl|simp,rfl,by rw [Hid];simp [R1.out,v1,v2]⟩
    have v2n:vars<=v:=by omega
    go_wp2_with fail
    go_meet
    case rel=>exact⟨true,by first|rfl|simp,rfl,by rw [Hid];simp [R1.out,v1,v2]⟩
   have v1n:v<0:=by omega
   go_wp2_with fail
   go_meet
   case rel=>exact⟨true,by first|rfl|simp,rfl,by rw [Hid];simp [R1.out,v1]⟩
  |false=>
  by_cases v1:v=0
  ·have v1n:((v:Int) !=0)=false:=by simp [v1]
   have V1:=qh v1
   clear v1
   go_wp2_with fail
   go_meet
   case rel=>exact⟨false,by first|rfl|simp,rfl,by rw [Hid];simp [R1.out,V1.out]⟩
  have v1n:((v:Int) !=0)=true:=by simp [v1]
  go_wp2_with fail
  go_meet
  case rel=>exact⟨true,by first|rfl|simp,rfl,by rw [Hid];simp [R1.out,v1]⟩
 case rest=>
 obtain⟨q,rfl,hwq,HQ⟩:=hcut
 obtain rfl:X=wc:=hwq.symm
 cases q with
 |true=>
  have hp:=HQ.out
  obtain rfl:r=false:=by
   rw [HR.out,zwZ hp];rfl
  clear HR HQ hp
  go_wp2_with fail
  go_ret
  exact⟨by first|rfl|simp,xC.out⟩
 |false=>
 have HR2:Hid (r=((if h2 then zL dom 20 a else qC a) && (if h3 then zL dom 20 b else qC b))):=by
  rw [Hid,HR.out,ztf HQ.out];rfl
 clear HR HQ
 go_upto_region 4 with fail
 go_cut [76] (λs76 w'=>∃q:Bool,s76= .bool q/\Hid (q= !(if h2 then zL dom 20 a else qC a))/\Hid (Below X.heap.size X w'))
 case first=>
  obtain⟨⟨a0,a1,a2,a3⟩, -, -, -,c2, -⟩:=HC.out X (Below.refl _ _)
  cases h2 with
  |true=>
   go_wp2_with fail
   refine(HEA.out X xC.out).mono ?_
   rintro e Y ⟨rfl,hby⟩
   have vM:=qh hby
   obtain⟨-, -, -, -,c2', -⟩:=HC.out Y vM.out
   clear hby a0 a1 a2 a3 c2
   cases hv:zL dom 20 a with
   |true=>
    go_wp2_with fail
    go_meet
    case rel=>exact⟨false,by first|rfl|simp,by rw [Hid];simp [hv],vM.out⟩
   |false=>
   go_wp2_with fail
   go_meet
   case rel=>exact⟨true,by first|rfl|simp,by rw [Hid];simp [hv],vM.out⟩
  |false=>
  go_wp2_with fail
  refine(HNA.out X).mono ?_
  rintro e Y ⟨rfl,hby⟩
  have vM:=qh hby
  clear hby a0 a1 a2 a3 c2
  cases hv:qC a with
  |true=>
   go_wp2_with fail
   go_meet
   case rel=>exact⟨false,by first|rfl|simp,by rw [Hid];simp [hv],vM.out⟩
  |false=>
  go_wp2_with fail
  go_meet
  case rel=>exact⟨true,by first|rfl|simp,by rw [Hid];simp [hv],vM.out⟩
 case rest=>
 obtain⟨q,rfl,HQ,HBQ⟩:=hcut
 obtain⟨Y,rfl⟩:∃Y:World,Y=wc:=⟨_,rfl⟩
 have yM:=qh (xC.out.trans (HBQ.out.mono xC.out.size))
 cases q with
 |true=>
  obtain rfl:r=false:=by
   rw [HR2.out,zwZ HQ.out];rfl
  clear HR2 HQ
  go_wp2_with fail
  go_ret
  exact⟨by first|rfl|simp,yM.out⟩
 |false=>
 have HR3:Hid (r=(if h3 then zL dom 20 b else qC b)):=by
  rw [Hid,HR2.out,ztf HQ.out];rfl
 clear HR2 HQ
 obtain⟨-,⟨b0,b1,b2,b3⟩, -, -, -,c3⟩:=HC.out Y HBQ.out
 cases h3 with
 |true=>
  have HR4:Hid (r=zL dom 20 b):=HR3.out
  go_wp2_with fail
  refine(HEB.out Y yM.out).mono ?_
  rw [<-HR4.out]
  rintro e Z ⟨rfl,hbz⟩
  have pG:=qh hbz
  obtain⟨-, -, -, -, -,c3'⟩:=HC.out Z (zB HBQ.out pG.out)
  clear hbz b0 b1 b2 b3 c3 HR3 HR4
  cases r with
  |true=>
   go_wp2_with fail
   go_ret
   exact⟨by first|rfl|simp,yM.out.trans (pG.out.mono yM.out.size)⟩
  |false=>
  go_wp2_with fail
  go_ret
  exact⟨by first|rfl|simp,yM.out.trans (pG.out.mono yM.out.size)⟩
 |false=>
 have HR4:Hid (r=qC b):=HR3.out
 go_wp2_with fail
 refine(HNB.out Y).mono ?_
 rw [<-HR4.out]
 rintro e Z ⟨rfl,hbz⟩
 have pG:=qh hbz
 clear hbz b0 b1 b2 b3 c3 HR3 HR4
 cases r with
 |true=>
  go_wp2_with fail
  go_ret
  exact⟨by first|rfl|simp,yM.out.trans (pG.out.mono yM.out.size)⟩
 |false=>
 go_wp2_with fail
 go_ret
 exact⟨by first|rfl|simp,yM.out.trans (pG.out.mono yM.out.size)⟩
def qW (vars dom kind yA:Int) (x:zT):Bool:=decide (1<=kind) && decide (kind<=9) && decide (0<=x.dest) && decide (x.dest<=yA) && qm kind x.reg x.var x.a x.b vars dom
def xW (vars dom:Int) (many:Nat) (x:zT):Bool:=
 if x.op=12 then qW vars dom 9 many x else if x.op=13 then qW vars dom 4 many x else if x.op=10\/x.op=11 then false else qW vars dom x.op 0 x
def rowOk (vars dom:Int) (l:List zT):Bool:=decide (l.length<=600) && l.all (xW vars dom l.length)
def codeOk (c:zK):Bool:=decide (1<=c.vars) && decide (c.vars<=4) && decide (2<=c.domain) && decide (c.domain<=16) && decide (1<=c.threads.length) && decide (c.threads.length<=4) && c.threads.all (rowOk c.vars c.domain)
theorem zc1 {α:Type} [Inhabited α] (l:List α) (d:α) (p:α->Bool) (h:∀j,j<l.length->p (l.getD j d)=true):l.all p=true:=by
 rw [List.all_eq_true]
 intro x hx
 obtain⟨j,hj,rfl⟩:=List.getElem_of_mem hx
 have:=h j hj
 rwa [List.getD_eq_getElem?_getD,List.getElem?_eq_getElem hj] at this
theorem zah {α:Type} [Inhabited α] (l:List α) (d:α) (p:α->Bool) (j:Nat) (hj:j<l.length) (h:p (l.getD j d)=false):l.all p=false:=by
 rw [List.all_eq_false]
 rw [List.getD_eq_getElem?_getD,List.getElem?_eq_getElem hj] at h
 exact⟨l[j],List.getElem_mem hj,by simpa using h⟩
def jP (c:zK) (m:zF):Bool:=codeOk c && decide (0<=m.model) && decide (m.model<=2) && decide (1<=m.bound) && decide (m.bound<=8)
def uJ (c:zK):zm:=if codeOk c then⟨List.replicate c.threads.length default,List.replicate c.vars.toNat 0,false⟩ else⟨[], [],false⟩
def xU (c:zK) (m:zF) (l:List zi) (k:Nat):Bool:=
 xY (l.take k) m (l.getD k default) && decide (0<=(l.getD k default).var) && decide ((l.getD k default).var<c.vars) && decide (0<=(l.getD k default).n) && decide ((l.getD k default).n<c.domain)
def yU (dom n:Int):Bool:=decide (0<=n) && decide (n<dom)
def qD (c:zK) (m:zF) (s:zm) (i:Nat):Bool:=
 decide (0<=(s.threads.getD i default).pc) && decide ((s.threads.getD i default).pc<=((c.threads.getD i []).length:Int)) &&
 (List.range 4).all (λk=>yU c.domain ((s.threads.getD i default).regs.getD k 0)) && (List.range (s.threads.getD i default).buf.length).all (xU c m (s.threads.getD i default).buf)
def xR (c:zK) (m:zF) (s:zm):Bool:=
 jP c m && decide (s.threads.length=c.threads.length) && decide ((s.mem.length:Int)=c.vars) && (List.range s.mem.length).all (λk=>yU c.domain (s.mem.getD k 0)) && (List.range s.threads.length).all (qD c m s)
def stepT (c:zK) (m:zF) (s:zm) (t:zo) (x:zT) (d:Nat):Option (zo × List Int × Bool):=
 let a:=zZ t.regs c.domain d x.a
 let b:=zZ t.regs c.domain d x.b
 let t1:zo:=⟨t.pc+1,t.regs,t.buf⟩
 let empty:=decide (t.buf.length=0)
 let v:=x.var.toNat
 let at_:=s.mem.getD v 0
 let zqW:=λn:Int=>(⟨t.pc+1,t.regs.set x.reg.toNat n,t.buf⟩:zo)
 if x.op=1 then some (zqW ((kF t.buf x.var).getD at_),s.mem,s.bad)
 else if x.op=2 then(if m.model=0 then some (t1,s.mem.set v a,s.bad) else if xY t.buf m ⟨x.var,a⟩ then some (⟨t.pc+1,t.regs,vF t.buf m ⟨x.var,a⟩⟩,s.mem,s.bad) else none)
 else if x.op=3 then some (zqW a,s.mem,s.bad)
 else if x.op=4 then(if empty then some (t1,s.mem,s.bad) else none)
 else if x.op=5 then(if empty|| !decide (m.model=2) then some (t1,s.mem,s.bad) else none)
 else if x.op=6 then(if empty then(if at_=a then some (zqW 1,s.mem.set v b,s.bad) else some (zqW 0,s.mem,s.bad)) else none)
 else if x.op=7 then(if empty && decide (at_=0) then some (t1,s.mem.set v 1,s.bad) else none)
 else if x.op=8 then(if empty then some (t1,s.mem.set v 0,s.bad) else none)
 else if x.op=9 then some (t1,s.mem,s.bad||decide (a=0))
 else if x.op=12 then some (if a=0 then⟨x.dest,t.regs,t.buf⟩ else t1,s.mem,s.bad)
 else if x.op=13 then some (⟨x.dest,t.regs,t.buf⟩,s.mem,s.bad)
 else some (t1,s.mem,s.bad)
def vT (c:zK) (m:zF) (s:zm) (i:Nat) (d:Nat):Option zm:=
 if (s.threads.getD i default).pc<((c.threads.getD i []).length:Int) then
  (stepT c m s (s.threads.getD i default) ((c.threads.getD i []).getD (s.threads.getD i default).pc.toNat default) d).map λr=>⟨s.threads.set i r.1,r.2.1,r.2.2⟩
 else none
def kI (s:zm) (i:Nat) (v:Int):zm:=
 ⟨s.threads.set i ⟨(s.threads.getD i default).pc,(s.threads.getD i default).regs,(takeB (s.threads.getD i default).buf v).2⟩,s.mem.set ((takeB (s.threads.getD i default).buf v).1.getD default).var.toNat ((takeB (s.threads.getD i default).buf v).1.getD default).n,s.bad⟩
def yP:zm:=⟨[], [],false⟩
def ji (c:zK) (m:zF) (s:zm) (x:zN) (d:Nat):zm × Int:=
 if xR c m s then
  if 0<=x.thread/\x.thread<(s.threads.length:Int) then
   if x.kind=1/\x.var=0 then
    match vT c m s x.thread.toNat d with
    |some t=>(t,0)
    |none=>(yP,50)
   else if x.kind=2/\x.var∈yD (s.threads.getD x.thread.toNat default).buf m.model then(kI s x.thread.toNat x.var,0)
   else(yP,50)
  else(yP,50)
 else(yP,1)
def wK (c:zK) (m:zF) (s:zm) (d:Nat) (i:Nat):List zN:=
 (if (vT c m s i d).isSome then [⟨1,i,0⟩] else [])++(yD (s.threads.getD i default).buf m.model).map λv=>⟨2,i,v⟩
def qM (c:zK) (m:zF) (s:zm) (d:Nat):List zN:=
 if xR c m s then(List.range s.threads.length).flatMap (wK c m s d) else []
instance:Inhabited zK:=⟨⟨0,0, []⟩⟩
theorem qA {c:zK} (h:codeOk c=true):1<=c.vars/\c.vars<=4/\2<=c.domain/\c.domain<=16/\1<=c.threads.length/\c.threads.length<=4:=by
 unfold codeOk at h
 simp only [Bool.and_eq_true,decide_eq_true_eq] at h
 exact⟨h.1.1.1.1.1.1,h.1.1.1.1.1.2,h.1.1.1.1.2,h.1.1.1.2,h.1.1.2,h.1.2⟩
end Go.Proofs.YteggflahafiieaaGreatDoor
namespace Go.Proofs.YteggflahafiieaaGreatDoor
open Go.RowKit
set_option maxRecDepth 100000
set_option maxHeartbeats 16000000
def zU:List zo->List Value->List Value
 | [],_=> []
 |t::l,bs=>t.cells (bs.getD 0 (.slice none 0 0))++zU l (bs.drop 1)
theorem j6 (t:zo) (b:Value):(t.cells b).length=6:=rfl
theorem kR (l:List zo):∀bs,(zU l bs).length=l.length*6:=by
 induction l with
 |nil=>intro bs;rfl
 |cons t l ih=>intro bs;simp only [zU,List.length_append,j6,List.length_cons];rw [ih];omega
theorem qV:∀ {l:List zo} {bs:List Value} {j i:Nat},j<l.length->i<6->(zU l bs)[j*6+i]? =((l.getD j default).cells (bs.getD j (.slice none 0 0)))[i]? :=by
 intro l
 induction l with
 |nil=>intro bs j i hj;simp at hj
 |cons t l ih=>
 intro bs j i hj hi
 unfold zU
 cases j with
 |zero=>rw [Nat.zero_mul,Nat.zero_add,List.getElem?_append_left (by rw [j6];exact hi)];rfl
 |succ j=>
 rw [List.getElem?_append_right (by rw [j6,Nat.add_mul];omega),j6,show(j+1)*6+i - 6=j*6+i by rw [Nat.add_mul];omega]
 rw [ih (by simpa using hj) hi]
 simp [List.getD_eq_getElem?_getD]
theorem zbw (l:List zo) (t:zo) (b:Value):∀bs:List Value,bs.length=l.length->zU (l++ [t]) (bs++ [b])=zU l bs++t.cells b:=by
 induction l with
 |nil=>
  intro bs h
  obtain rfl:bs= [] :=List.eq_nil_of_length_eq_zero h
  simp [zU]
 |cons u l ih=>
 intro bs h
 cases bs with
 |nil=>simp at h
 |cons b0 bs=>
 have h2:=ih bs (by simpa using h)
 simp only [List.cons_append,zU,List.getD_cons_zero,List.drop_one,List.tail_cons,h2,List.append_assoc]
structure OwnAt (B:Nat) (X:World) (tv mv:Value) (ts:List zo) (mem:List Int) (bs:List Value):Prop where
 row:X.ownsRow B 47 6 tv ts.length (zU ts bs)
 mem:X.ownsRow B 3 1 mv mem.length (zl yO mem)
 regs:∀j,j<ts.length->(ts.getD j default).regs.length=4
 len:bs.length=ts.length
 buf:∀j,j<ts.length->X.ownsRow B 136 2 (bs.getD j (.slice none 0 0)) (ts.getD j default).buf.length (zl zi.cells (ts.getD j default).buf)
 ne:∀j,j<ts.length->∀k,(bs.getD j (.slice none 0 0)).ownBlock=some k->tv.ownBlock≠some k/\mv.ownBlock≠some k
 dis:∀k,tv.ownBlock=some k->mv.ownBlock≠some k
 one:∀i j,i<ts.length->j<ts.length->i≠j->∀k,(bs.getD i (.slice none 0 0)).ownBlock=some k->(bs.getD j (.slice none 0 0)).ownBlock≠some k
theorem zqX {t:zo} {b:Value} (hb:b.oneCell'=true):∀u∈t.cells b,u.oneCell'=true:=by
 intro u hu
 simp only [zo.cells,List.mem_cons,List.not_mem_nil,or_false] at hu
 rcases hu with rfl|rfl|rfl|rfl|rfl|rfl<;>first|rfl|exact hb
theorem OwnAt.state {B:Nat} {X:World} {tv mv:Value} {ts:List zo} {mem:List Int} {bs:List Value} (h:OwnAt B X tv mv ts mem bs) (bad:Bool):yh X ⟨ts,mem,bad⟩ tv mv:=
 ⟨ze.zaQ h.row λj hj=>⟨(ts.getD j default).cells (bs.getD j (.slice none 0 0)),j6 _ _,λ_ hi=>qV hj hi,h.regs j hj,_,rfl,jE (h.buf j hj)⟩,gQ h.mem⟩
theorem OwnAt.below {B:Nat} {X X':World} {tv mv:Value} {ts:List zo} {mem:List Int} {bs:List Value} (h:OwnAt B X tv mv ts mem bs) (hb:Below X.heap.size X X'):OwnAt B X' tv mv ts mem bs:=
 ⟨xX h.row hb,xX h.mem hb,h.regs,h.len,λj hj=>xX (h.buf j hj) hb,h.ne,h.dis,h.one⟩
theorem OwnAt.lower {B C:Nat} {X:World} {tv mv:Value} {ts:List zo} {mem:List Int} {bs:List Value} (h:OwnAt B X tv mv ts mem bs) (hC:C<=B):OwnAt C X tv mv ts mem bs:=
 ⟨xw h.row hC,xw h.mem hC,h.regs,h.len,λj hj=>xw (h.buf j hj) hC,h.ne,h.dis,h.one⟩
theorem OwnAt.since {F:Nat->Prop} {B:Nat} {X X':World} {tv mv:Value} {ts:List zo} {mem:List Int} {bs:List Value} (h:OwnAt B X tv mv ts mem bs) (hs:Since F X X') (h1:∀k,tv.ownBlock=some k->¬F k) (h2:∀k,mv.ownBlock=some k->¬F k)
  (h3:∀j,j<ts.length->∀k,(bs.getD j (.slice none 0 0)).ownBlock=some k->¬F k):OwnAt B X' tv mv ts mem bs:=
 ⟨hs.row h.row h1,hs.row h.mem h2,h.regs,h.len,λj hj=>hs.row (h.buf j hj) (h3 j hj),h.ne,h.dis,h.one⟩
structure qZ (W X:World) (gb:Nat) (tv mv:Value) (bad:Bool) (ts:List zo) (mem:List Int) (bs:List Value):Prop where
 own:OwnAt W.heap.size X tv mv ts mem bs
 box:X.heap[gb]? =some (.cells #[tv,mv, .bool bad] 35 (0,0))
 below:Below W.heap.size W X
 lo:W.heap.size<=gb
 n1:tv.ownBlock≠some gb
 n2:mv.ownBlock≠some gb
 n3:∀j,j<ts.length->(bs.getD j (.slice none 0 0)).ownBlock≠some gb
theorem kX {α:Type} {l:List α} {x d:α} {j:Nat} (hj:j<l.length+1):(l++ [x]).getD j d=if j=l.length then x else l.getD j d:=by
 simp only [List.getD_eq_getElem?_getD]
 by_cases h:j=l.length
 ·subst h;simp
 rw [if_neg h,List.getElem?_append_left (by omega)]
theorem qZ.push {W X X1 X2 X3:World} {gb nb:Nat} {tv mv tv' bv:Value} {bad:Bool} {ts:List zo} {mem:List Int} {bs:List Value} {t:zo} (h:qZ W X gb tv mv bad ts mem bs) (hr:t.regs.length=4)
  (hs1:Since (λ_=>False) X X1) (hb:X1.ownsRow W.heap.size 136 2 bv t.buf.length (zl zi.cells t.buf)) (hbn:∀k,bv.ownBlock=some k->X.heap.size<=k/\k≠nb) (hs2:Since (λk=>k=nb) X1 X2) (hnb:X.heap.size<=nb)
  (hrow:X3.ownsRow W.heap.size 47 6 tv' (ts.length+1) (zU ts bs++t.cells bv)) (hs3:Since (λk=>tv.ownBlock=some k) X2 X3) (hl:∀k,tv'.ownBlock=some k->tv.ownBlock=some k\/k=X2.heap.size):
  qZ W (X3.setCell ⟨gb,0,none⟩ tv') gb tv' mv bad (ts++ [t]) mem (bs++ [bv]):=by
 have hgb:gb<X.heap.size:=zq h.box
 have hX1:=hs1.size
 have hX2:=hs2.size
 have hX3:=hs3.size
 have hS3:∀k,k<X.heap.size->tv.ownBlock≠some k->X3.heap[k]? =X.heap[k]? :=λk hk hne=>
  (hs3.block k (by omega) hne).trans ((hs2.block k (by omega) (by omega)).trans (hs1.block k hk (λe=>e)))
 have gB:X3.heap[gb]? =some (.cells #[tv,mv, .bool bad] 35 (0,0)):=(hS3 gb hgb h.n1).trans h.box
 have hrow':∀ {e size v n xs},X.ownsRow W.heap.size e size v n xs->(∀k,v.ownBlock=some k->tv.ownBlock≠some k)->X3.ownsRow W.heap.size e size v n xs:=λho hn=>
  hs3.row (hs2.row (hs1.row ho (λ_ _ e=>e)) (λk hk e=>by have:=(ho.lt k hk).2;omega)) hn
 have z7c:X3.ownsRow W.heap.size 136 2 bv t.buf.length (zl zi.cells t.buf):=hs3.row (hs2.row hb (λk hk=>(hbn k hk).2)) (λk hk e=>by have:=(hbn k hk).1;have:=(h.own.row.lt k e).2;omega)
 have hsS:Since (λk=>k=gb) X3 (X3.setCell ⟨gb,0,none⟩ tv'):=Since.setCell (F:=λk=>k=gb) (p:=⟨gb,0,none⟩) (Since.refl _ _) (.inl rfl) _
 have hn1':tv'.ownBlock≠some gb:=λe=>by
  rcases hl _ e with e'|e'
  ·exact h.n1 e'
  omega
 have hlen:=h.own.len
 have hnew:∀k,bv.ownBlock=some k->tv'.ownBlock≠some k/\mv.ownBlock≠some k/\k≠gb:=λk hk=>by
  have h1:=(hbn k hk).1
  refine⟨λe=> ?_,λe=>by have:=(h.own.mem.lt k e).2;omega,by omega⟩
  rcases hl _ e with e'|e'
  ·have:=(h.own.row.lt k e').2;omega
  have:=(hb.lt k hk).2;omega
 refine⟨⟨?_, ?_, ?_, ?_, ?_, ?_, ?_, ?_⟩, ?_, ?_,h.lo,hn1',h.n2, ?_⟩
 ·rw [List.length_append,zbw _ _ _ _ hlen];exact hsS.row hrow (λk hk e=>hn1' (e ▸ hk))
 ·exact hsS.row (hrow' h.own.mem (λk hk e=>h.own.dis k e hk)) (λk hk e=>h.n2 (e ▸ hk))
 ·intro j hj
  rw [List.length_append,List.length_singleton] at hj
  rw [kX hj]
  split
  ·exact hr
  exact h.own.regs j (by omega)
 ·simp [hlen]
 ·intro j hj
  rw [List.length_append,List.length_singleton] at hj
  rw [kX hj,kX (by rw [hlen];exact hj),hlen]
  split
  ·exact hsS.row z7c (λk hk e=>(hnew k hk).2.2 e)
  exact hsS.row (hrow' (h.own.buf j (by omega)) (λk hk=>(h.own.ne j (by omega) k hk).1)) (λk hk e=>h.n3 j (by omega) (e ▸ hk))
 ·intro j hj k hk
  rw [List.length_append,List.length_singleton] at hj
  rw [kX (by rw [hlen];exact hj),hlen] at hk
  split at hk
  ·exact⟨(hnew k hk).1,(hnew k hk).2.1⟩
  refine⟨λe=> ?_,(h.own.ne j (by omega) k hk).2⟩
  rcases hl _ e with e'|e'
  ·exact(h.own.ne j (by omega) k hk).1 e'
  have:=((h.own.buf j (by omega)).lt k hk).2;omega
 ·intro k hk e
  rcases hl _ hk with e'|e'
  ·exact h.own.dis k e' e
  have:=(h.own.mem.lt k e).2;omega
 ·intro i j hi hj hij k hk
  rw [List.length_append,List.length_singleton] at hi hj
  rw [kX (by rw [hlen];exact hi),hlen] at hk
  rw [kX (by rw [hlen];exact hj),hlen]
  split at hk
  ·rw [if_neg (by omega)]
   intro e
   have h1:=(hbn k hk).1
   have h2:=((h.own.buf j (by omega)).lt k e).2
   omega
  split
  ·intro e
   have h1:=(hbn k e).1
   have h2:=((h.own.buf i (by omega)).lt k hk).2
   omega
  exact h.own.one i j (by omega) (by omega) hij k hk
 ·have:=zu gB 0 tv'
  simpa using this
 ·exact h.below.trans ((((hs1.below h.below.size (λ_ e=>e.elim)).trans (hs2.below (Nat.le_trans h.below.size hX1) (λk e=>by have:=h.below.size;omega))).trans (hs3.below (by have:=h.below.size;omega) (λk hk=>(h.own.row.lt k hk).1))).trans (hsS.below (by have:=h.below.size;omega) (λk e=>by have:=h.lo;omega)))
 intro j hj
 rw [List.length_append,List.length_singleton] at hj
 rw [kX (by rw [hlen];exact hj),hlen]
 split
 ·exact λe=>(hnew gb e).2.2 rfl
 exact h.n3 j (by omega)
theorem bI (w:World) (o1 o2 o3:Obj):Below w.heap.size w (((w.alloc o1).alloc o2).alloc o3):=(xZ w o1 o2).alloc (by simp;omega) o3
theorem bJ (w:World) (o1 o2 o3:Obj):(((w.alloc o1).alloc o2).alloc o3).heap[w.heap.size]? =some o1:=(Below.heap_alloc _ _ _ (by simp;omega)).trans (xL w o1 o2)
theorem uO (w:World) (o1 o2 o3:Obj):(((w.alloc o1).alloc o2).alloc o3).heap[w.heap.size+1]? =some o2:=(Below.heap_alloc _ _ _ (by simp)).trans (xE w o1 o2)
theorem bK (w:World) (o1 o2 o3:Obj):(((w.alloc o1).alloc o2).alloc o3).heap[w.heap.size+2]? =some o3:=by
 have:=yE ((w.alloc o1).alloc o2) o3
 simpa using this
theorem jS {l:List Int} (h:l.length=4):∃a b c d,l= [a,b,c,d] :=by
 match l,h with
 | [a,b,c,d],_=>exact⟨a,b,c,d,rfl⟩
theorem kU {α:Type} [Inhabited α] {l:List α} {i:Nat} {t:α} (hi:i<l.length) (ht:t=l.getD i default):l.take (i+1)=l.take i++ [t] :=by
 rw [List.take_add_one,ht,List.getElem?_eq_getElem hi,List.getD_eq_getElem?_getD,List.getElem?_eq_getElem hi];rfl
structure jK (e:TypeId) (size:Nat) (t:TypeId) (V X:World) (v:Value) (n:Nat) (xs:List Value) (bs:List (Nat × List Value)):Prop where
 below:Below V.heap.size V X
 row:X.ownsRow V.heap.size e size v n xs
 news:∀p∈bs,X.heap[p.1]? =some (.cells p.2.toArray t (0,0))/\v.ownBlock≠some p.1/\V.heap.size<=p.1
section
variable {e t:TypeId} {size:Nat} {V X:World} {v:Value} {n:Nat} {xs:List Value} {bs:List (Nat × List Value)}
theorem jK.start (e:TypeId) (size:Nat) (t:TypeId) (V:World):jK e size t V V (.slice none 0 0) 0 [] [] :=⟨Below.refl _ _,World.ownsRow_nil _ _ _ _,by simp⟩
theorem jK.drew (h:jK e size t V X v n xs bs):jK e size t V X.drew v n xs bs:=⟨h.below.drew,(Since.refl (λ_=>False) X).drew.row h.row (λ_ _ h=>h),h.news⟩
theorem jK.alloc (h:jK e size t V X v n xs bs) (cs:List Value):jK e size t V (X.alloc (.cells cs.toArray t)) v n xs ((X.heap.size,cs)::bs):=by
 refine⟨h.below.alloc h.below.size _,h.row.alloc _, ?_⟩
 intro p hp
 rcases List.mem_cons.1 hp with rfl|hp
 ·exact⟨yE X _,λe=>by have:=(h.row.lt _ e).2;simp at this,h.below.size⟩
 obtain⟨a,b,c⟩:=h.news p hp
 exact⟨(Below.heap_alloc _ _ _ (zq a)).trans a,b,c⟩
theorem jK.app (h:jK e size t V X v n xs bs) {X':World} {v':Value} {m:Nat} {xs':List Value} (ho:X'.ownsRow V.heap.size e size v' m xs') (hs:Since (λk=>v.ownBlock=some k) X X') (hl:∀k,v'.ownBlock=some k->v.ownBlock=some k\/k=X.heap.size):jK e size t V X' v' m xs' bs:=by
 refine⟨h.below.trans (hs.below h.below.size (λk hk=>(h.row.lt k hk).1)),ho,λp hp=> ?_⟩
 obtain⟨a,b,c⟩:=h.news p hp
 refine⟨(hs.block _ (zq a) b).trans a,λe=> ?_,c⟩
 rcases hl _ e with e'|e'
 ·exact b e'
 have:=zq a;omega
theorem jK.zgD (h:jK e size t V X v n xs bs) {gb:Nat} {a b c:Value} (hb:(gb, [a,b,c])∈bs) (u0 u1 u2:Value):
  Below V.heap.size V (((X.setCell ⟨gb,0,none⟩ u0).setCell ⟨gb,1,none⟩ u1).setCell ⟨gb,2,none⟩ u2)/\(((X.setCell ⟨gb,0,none⟩ u0).setCell ⟨gb,1,none⟩ u1).setCell ⟨gb,2,none⟩ u2).ownsRow V.heap.size e size v n xs/\
   (((X.setCell ⟨gb,0,none⟩ u0).setCell ⟨gb,1,none⟩ u1).setCell ⟨gb,2,none⟩ u2).heap[gb]? =some (.cells #[u0,u1,u2] t (0,0))/\V.heap.size<=gb/\v.ownBlock≠some gb:=by
 obtain⟨h1,h2,h3⟩:=h.news _ hb
 have hS:Since (λk=>k=gb) X (((X.setCell ⟨gb,0,none⟩ u0).setCell ⟨gb,1,none⟩ u1).setCell ⟨gb,2,none⟩ u2):=
  Since.setCell (F:=λk=>k=gb) (p:=⟨gb,2,none⟩) (Since.setCell (F:=λk=>k=gb) (p:=⟨gb,1,none⟩) (Since.setCell (F:=λk=>k=gb) (p:=⟨gb,0,none⟩) (Since.refl _ _) (.inl rfl) _) (.inl rfl) _) (.inl rfl) _
 refine⟨h.below.trans (hS.below h.below.size (λk e=>by omega)),hS.row h.row (λk hk e=>h2 (e ▸ hk)), ?_,h3,h2⟩
 have:=zu (zu (zu h1 0 u0) 1 u1) 2 u2
 simpa using this
end
theorem qZ.start {W X:World} {gb:Nat} {mv:Value} {bad:Bool} {mem:List Int} (hr:X.ownsRow W.heap.size 3 1 mv mem.length (zl yO mem)) (hb:Below W.heap.size W X) (hx:X.heap[gb]? =some (.cells #[.slice none 0 0,mv, .bool bad] 35 (0,0))) (hl:W.heap.size<=gb) (hn:mv.ownBlock≠some gb):
  qZ W X gb (.slice none 0 0) mv bad [] mem [] :=
 ⟨⟨World.ownsRow_nil _ _ _ _,hr,λj hj=>by simp at hj,rfl,λj hj=>by simp at hj,λj hj=>by simp at hj,λk hk=>by simp [Value.ownBlock] at hk,λi j hi=>by simp at hi⟩,hx,hb,hl,by simp [Value.ownBlock],hn,λj hj=>by simp at hj⟩
theorem gT (w:World) (l:List Value) (t:TypeId):∀j u,l[j]? =some u->(w.alloc (.cells l.toArray t)).cell? ((⟨w.heap.size,0,none⟩:Addr).add j)=some u:=by
 intro j u hj
 have:=za (yE w (.cells l.toArray t)) j
 rw [show(⟨w.heap.size,0,none⟩:Addr).add j=⟨w.heap.size,j,none⟩ by simp only [Addr.add];split<;>simp_all,this]
 simpa using hj
theorem zC:(Tryz.prog.info? 35).map (·.size)=some 3:=by kernel_rfl
theorem zcy:(Tryz.prog.info? 35).map (λi=>(i.zero,i.size,i.bytes))=some (some (.agg #[.slice none 0 0, .slice none 0 0, .bool false]),3,56):=by kernel_rfl
theorem uK:(Tryz.prog.info? 47).map (λi=>(i.zero,i.size,i.bytes))=some (some (.agg #[.int .i64 0, .int .i64 0, .int .i64 0, .int .i64 0, .int .i64 0, .slice none 0 0]),6,64):=by kernel_rfl
