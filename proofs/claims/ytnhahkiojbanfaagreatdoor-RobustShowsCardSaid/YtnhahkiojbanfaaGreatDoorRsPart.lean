/- Steps. -/
import Derived.Test.YtnhahkiojbanfaaGreatDoorRsEval
import Derived.Test.YtnhahkiojbanfaaGreatDoorRsExpr2
import Derived.Test.YtnhahkiojbanfaaGreatDoorRsHeads
set_option linter.all false
namespace Go.Proofs.YtnhahkiojbanfaaGreatDoor
open Go.RowKit
set_option maxRecDepth 100000
set_option maxHeartbeats 16000000
theorem zwM {p:Bool} (h:true= !p):p=false:=by cases p<;>first|rfl|cases h
theorem zrV {p:Bool} (h:false= !p):p=true:=by cases p<;>first|rfl|cases h
def bC (k reg:Int):Bool:=if bZ k then decide (0<=reg) && decide (reg<4) else decide (reg=0)
def kC (k v vars:Int):Bool:=if wu k then decide (0<=v) && decide (v<vars) else decide (v=0)
def wW (k:Int) (a:zO) (dom:Int):Bool:=if gT k then zT dom 20 a else vo a
def bg (k:Int) (b:zO) (dom:Int):Bool:=if hasB k then zT dom 20 b else vo b
def qH (k reg v:Int) (a b:zO) (vars dom:Int):Bool:=bC k reg && kC k v vars && wW k a dom && bg k b dom
theorem zlV (w:World) (k reg v:Int) (a b:zO) (ka kb:Value) (e:Nat) (ha:zG e w a ka) (hb:zG e w b kb) (vars dom:Int):
  Calls Tryz.prog 68 #[.int .i64 k, .int .i64 reg, .int .i64 v,qy a ka,qy b kb, .int .i64 vars, .int .i64 dom] w λe w'=>e= .returned (.bool (qH k reg v a b vars dom))/\Below w.heap.size w w':=by
 obtain⟨aa,ac,rfl, -⟩:=ha.slice
 obtain⟨ba,bc,rfl, -⟩:=hb.slice
 have HB:=qh (xO w (.cells #[.int .i64 a.kind, .int .i64 a.n, .int .u8 a.op, .slice aa a.kids.length ac] 58) (.cells #[.int .i64 b.kind, .int .i64 b.n, .int .u8 b.op, .slice ba b.kids.length bc] 58))
 have H1:=qh (xP w (.cells #[.int .i64 a.kind, .int .i64 a.n, .int .u8 a.op, .slice aa a.kids.length ac] 58) (.cells #[.int .i64 b.kind, .int .i64 b.n, .int .u8 b.op, .slice ba b.kids.length bc] 58))
 have H2:=qh (xw w (.cells #[.int .i64 a.kind, .int .i64 a.n, .int .u8 a.op, .slice aa a.kids.length ac] 58) (.cells #[.int .i64 b.kind, .int .i64 b.n, .int .u8 b.op, .slice ba b.kids.length bc] 58))
 have HEA:Hid (∀X,Below w.heap.size w X->Calls Tryz.prog 87 #[.agg #[.int .i64 a.kind, .int .i64 a.n, .int .u8 a.op, .slice aa a.kids.length ac], .int .i64 dom] X λe w'=>e= .returned (.bool (zT dom 20 a))/\Below X.heap.size X w'):=λX hX=>zgJ dom e X a _ (ha.below hX)
 have HEB:Hid (∀X,Below w.heap.size w X->Calls Tryz.prog 87 #[.agg #[.int .i64 b.kind, .int .i64 b.n, .int .u8 b.op, .slice ba b.kids.length bc], .int .i64 dom] X λe w'=>e= .returned (.bool (zT dom 20 b))/\Below X.heap.size X w'):=λX hX=>zgJ dom e X b _ (hb.below hX)
 have HNA:Hid (∀X,Calls Tryz.prog 88 #[.agg #[.int .i64 a.kind, .int .i64 a.n, .int .u8 a.op, .slice aa a.kids.length ac]] X λe w'=>e= .returned (.bool (vo a))/\Below X.heap.size X w'):=λX=>zlW X a aa ac
 have HNB:Hid (∀X,Calls Tryz.prog 88 #[.agg #[.int .i64 b.kind, .int .i64 b.n, .int .u8 b.op, .slice ba b.kids.length bc]] X λe w'=>e= .returned (.bool (vo b))/\Below X.heap.size X w'):=λX=>zlW X b ba bc
 obtain⟨r,hr⟩:∃r,r=qH k reg v a b vars dom:=⟨_,rfl⟩
 rw [<-hr]
 have HR:Hid (r=((if bZ k then decide (0<=reg) && decide (reg<4) else decide (reg=0)) && (if wu k then decide (0<=v) && decide (v<vars) else decide (v=0)) && (if gT k then zT dom 20 a else vo a) && (if hasB k then zT dom 20 b else vo b))):=hr
 have HH:=qh (λX=>zyd X k)
 obtain⟨h0,e0⟩:∃h,h=bZ k:=⟨_,rfl⟩
 obtain⟨h1,e1⟩:∃h,h=wu k:=⟨_,rfl⟩
 obtain⟨h2,e2⟩:∃h,h=gT k:=⟨_,rfl⟩
 obtain⟨h3,e3⟩:∃h,h=hasB k:=⟨_,rfl⟩
 rw [<-e0, <-e1, <-e2, <-e3] at HR
 have HH2:Hid (∀X,Calls Tryz.prog 86 #[.int .i64 k] X λe w'=>e= .returned (.agg #[.bool h0, .bool h1, .bool h2, .bool h3])/\Below X.heap.size X w'):=λX=>by rw [e0,e1,e2,e3];exact HH.out X
 unfold qy
 clear ha hb hr HH e0 e1 e2 e3
 go_enter Tryz.func68,Tryz.ntmps68
 go_upto_region 1 with fail
 generalize World.alloc (World.alloc w _) _=W at HB H1 H2 ⊢
 obtain⟨gx,hgx⟩:∃gx,gx=w.heap.size:=⟨_,rfl⟩
 rw [<-hgx] at H1 H2 ⊢
 clear hgx
 go_wp2_with fail
 refine(HH2.out W).mono ?_
 rintro e X0 ⟨rfl,hb0⟩
 have HX0:=qh (zH hb0 ((Below.refl X0.heap.size X0).alloc (Nat.le_refl _) (.cells #[.bool h0, .bool h1, .bool h2, .bool h3] 160)))
 have HHB:=qh (yj X0 (.cells #[.bool h0, .bool h1, .bool h2, .bool h3] 160))
 clear hb0 HH2
 go_upto_region 2 with fail
 generalize World.alloc X0 _=X at HX0 HHB ⊢
 obtain⟨hx,hhx⟩:∃hx,hx=X0.heap.size:=⟨_,rfl⟩
 rw [<-hhx] at HHB ⊢
 clear hhx
 have HC:Hid (∀x,Below X.heap.size X x->(x.cell? ⟨gx,0,none⟩=some (.int .i64 a.kind)/\x.cell? ⟨gx,1,none⟩=some (.int .i64 a.n)/\x.cell? ⟨gx,2,none⟩=some (.int .u8 a.op)/\x.cell? ⟨gx,3,none⟩=some (.slice aa a.kids.length ac))/\
   (x.cell? ⟨gx+1,0,none⟩=some (.int .i64 b.kind)/\x.cell? ⟨gx+1,1,none⟩=some (.int .i64 b.n)/\x.cell? ⟨gx+1,2,none⟩=some (.int .u8 b.op)/\x.cell? ⟨gx+1,3,none⟩=some (.slice ba b.kids.length bc))/\
   (x.cell? ⟨hx,0,none⟩=some (.bool h0)/\x.cell? ⟨hx,1,none⟩=some (.bool h1)/\x.cell? ⟨hx,2,none⟩=some (.bool h2)/\x.cell? ⟨hx,3,none⟩=some (.bool h3))):=λx hx=>
  have k:=λp v h=>zk (zH HX0.out hx) p v h
  ⟨⟨k _ _ (ze H1.out 0),k _ _ (ze H1.out 1),k _ _ (ze H1.out 2),k _ _ (ze H1.out 3)⟩,⟨k _ _ (ze H2.out 0),k _ _ (ze H2.out 1),k _ _ (ze H2.out 2),k _ _ (ze H2.out 3)⟩,⟨zk hx _ _ (ze HHB.out 0),zk hx _ _ (ze HHB.out 1),zk hx _ _ (ze HHB.out 2),zk hx _ _ (ze HHB.out 3)⟩⟩
 have xI:=qh (HB.out.trans (HX0.out.mono HB.out.size))
 clear H1 H2 HHB HB HX0
 go_cut [58] (λs58 w'=>∃q:Bool,s58= .bool q/\w'=X/\Hid (q= !((if h0 then decide (0<=reg) && decide (reg<4) else decide (reg=0)) && (if h1 then decide (0<=v) && decide (v<vars) else decide (v=0)))))
 case first=>
  obtain⟨-, -,c0,c1, -, -⟩:=HC.out X (Below.refl _ _)
  cases h0 with
  |true=>
   by_cases r1:0<=reg
   rotate_left
   ·have r1n:reg<0:=by omega
    go_wp2_with fail
    go_meet
    case rel=>exact⟨true,by first|rfl|simp,rfl,by rw [Hid];simp [r1]⟩
   have r1n:¬reg<0:=by omega
   by_cases r2:reg<4
   rotate_left
   ·have r2n:4<=reg:=by omega
    go_wp2_with fail
    go_meet
    case rel=>exact⟨true,by first|rfl|simp,rfl,by rw [Hid];simp [r1,r2]⟩
   have r2n:¬4<=reg:=by omega
   cases h1 with
   |true=>
    by_cases v1:0<=v
    ·have v1n:¬v<0:=by omega
     by_cases v2:v<vars
     ·have v2n:¬vars<=v:=by omega
      go_wp2_with fail
      go_meet
      case rel=>exact⟨false,by first|rfl|simp,rfl,by rw [Hid];simp [r1,r2,v1,v2]⟩
     have v2n:vars<=v:=by omega
     go_wp2_with fail
     go_meet
     case rel=>exact⟨true,by first|rfl|simp,rfl,by rw [Hid];simp [r1,r2,v1,v2]⟩
    have v1n:v<0:=by omega
    go_wp2_with fail
    go_meet
    case rel=>exact⟨true,by first|rfl|simp,rfl,by rw [Hid];simp [r1,r2,v1]⟩
   |false=>
   by_cases v1:v=0
   ·have v1n:((v:Int) !=0)=false:=by simp [v1]
    have V1:=qh v1
    clear v1
    go_wp2_with fail
    go_meet
    case rel=>exact⟨false,by first|rfl|simp,rfl,by rw [Hid];simp [r1,r2,V1.out]⟩
   have v1n:((v:Int) !=0)=true:=by simp [v1]
   go_wp2_with fail
   go_meet
   case rel=>exact⟨true,by first|rfl|simp,rfl,by rw [Hid];simp [r1,r2,v1]⟩
  |false=>
  by_cases r1:reg=0
  rotate_left
  ·have r1n:((reg:Int) !=0)=true:=by simp [r1]
   go_wp2_with fail
   go_meet
   case rel=>exact⟨true,by first|rfl|simp,rfl,by rw [Hid];simp [r1]⟩
  have r1n:((reg:Int) !=0)=false:=by simp [r1]
  have R1:=qh r1
  clear r1
  cases h1 with
  |true=>
   by_cases v1:0<=v
   ·have v1n:¬v<0:=by omega
    by_cases v2:v<vars
    ·have v2n:¬vars<=v:=by omega
     go_wp2_with fail
     go_meet
     case rel=>exact⟨false,by first|rfl|simp,rfl,by rw [Hid];simp [R1.out,v1,v2]⟩
    have v2n:vars<=v:=by omega
    go_wp2_with fail
    go_meet
    case rel=>exact⟨true,by first|rfl|simp,rfl,by rw [Hid];simp [R1.out,v1,v2]⟩
   have v1n:v<0:=by omega
   go_wp2_with fail
   go_meet
   case rel=>exact⟨true,by first|rfl|simp,rfl,by rw [Hid];simp [R1.out,v1]⟩
  |false=>
  by_cases v1:v=0
  ·have v1n:((v:Int) !=0)=false:=by simp [v1]
   have V1:=qh v1
   clear v1
   go_wp2_with fail
   go_meet
   case rel=>exact⟨false,by first|rfl|simp,rfl,by rw [Hid];simp [R1.out,V1.out]⟩
  have v1n:((v:Int) !=0)=true:=by simp [v1]
  go_wp2_with fail
  go_meet
  case rel=>exact⟨true,by first|rfl|simp,rfl,by rw [Hid];simp [R1.out,v1]⟩
 case rest=>
 obtain⟨q,rfl,hwq,HQ⟩:=hcut
 obtain rfl:X=wc:=hwq.symm
 cases q with
 |true=>
  have hp:=HQ.out
  obtain rfl:r=false:=by
   rw [HR.out,zwM hp];rfl
  clear HR HQ hp
  go_wp2_with fail
  go_ret
  exact⟨by first|rfl|simp,xI.out⟩
 |false=>
 have HR2:Hid (r=((if h2 then zT dom 20 a else vo a) && (if h3 then zT dom 20 b else vo b))):=by
  rw [Hid,HR.out,zrV HQ.out];rfl
 clear HR HQ
 go_upto_region 4 with fail
 go_cut [76] (λs76 w'=>∃q:Bool,s76= .bool q/\Hid (q= !(if h2 then zT dom 20 a else vo a))/\Hid (Below X.heap.size X w'))
 case first=>
  obtain⟨⟨a0,a1,a2,a3⟩, -, -, -,c2, -⟩:=HC.out X (Below.refl _ _)
  cases h2 with
  |true=>
   go_wp2_with fail
   refine(HEA.out X xI.out).mono ?_
   rintro e Y ⟨rfl,hby⟩
   have jC:=qh hby
   obtain⟨-, -, -, -,c2', -⟩:=HC.out Y jC.out
   clear hby a0 a1 a2 a3 c2
   cases hv:zT dom 20 a with
   |true=>
    go_wp2_with fail
    go_meet
    case rel=>exact⟨false,by first|rfl|simp,by rw [Hid];simp [hv],jC.out⟩
   |false=>
   go_wp2_with fail
   go_meet
   case rel=>exact⟨true,by first|rfl|simp,by rw [Hid];simp [hv],jC.out⟩
  |false=>
  go_wp2_with fail
  refine(HNA.out X).mono ?_
  rintro e Y ⟨rfl,hby⟩
  have jC:=qh hby
  clear hby a0 a1 a2 a3 c2
  cases hv:vo a with
  |true=>
   go_wp2_with fail
   go_meet
   case rel=>exact⟨false,by first|rfl|simp,by rw [Hid];simp [hv],jC.out⟩
  |false=>
  go_wp2_with fail
  go_meet
  case rel=>exact⟨true,by first|rfl|simp,by rw [Hid];simp [hv],jC.out⟩
 case rest=>
 obtain⟨q,rfl,HQ,HBQ⟩:=hcut
 obtain⟨Y,rfl⟩:∃Y:World,Y=wc:=⟨_,rfl⟩
 have yR:=qh (xI.out.trans (HBQ.out.mono xI.out.size))
 cases q with
 |true=>
  obtain rfl:r=false:=by
   rw [HR2.out,zwM HQ.out];rfl
  clear HR2 HQ
  go_wp2_with fail
  go_ret
  exact⟨by first|rfl|simp,yR.out⟩
 |false=>
 have HR3:Hid (r=(if h3 then zT dom 20 b else vo b)):=by
  rw [Hid,HR2.out,zrV HQ.out];rfl
 clear HR2 HQ
 obtain⟨-,⟨b0,b1,b2,b3⟩, -, -, -,c3⟩:=HC.out Y HBQ.out
 cases h3 with
 |true=>
  have HR4:Hid (r=zT dom 20 b):=HR3.out
  go_wp2_with fail
  refine(HEB.out Y yR.out).mono ?_
  rw [<-HR4.out]
  rintro e Z ⟨rfl,hbz⟩
  have HBZ:=qh hbz
  obtain⟨-, -, -, -, -,c3'⟩:=HC.out Z (zH HBQ.out HBZ.out)
  clear hbz b0 b1 b2 b3 c3 HR3 HR4
  cases r with
  |true=>
   go_wp2_with fail
   go_ret
   exact⟨by first|rfl|simp,yR.out.trans (HBZ.out.mono yR.out.size)⟩
  |false=>
  go_wp2_with fail
  go_ret
  exact⟨by first|rfl|simp,yR.out.trans (HBZ.out.mono yR.out.size)⟩
 |false=>
 have HR4:Hid (r=vo b):=HR3.out
 go_wp2_with fail
 refine(HNB.out Y).mono ?_
 rw [<-HR4.out]
 rintro e Z ⟨rfl,hbz⟩
 have HBZ:=qh hbz
 clear hbz b0 b1 b2 b3 c3 HR3 HR4
 cases r with
 |true=>
  go_wp2_with fail
  go_ret
  exact⟨by first|rfl|simp,yR.out.trans (HBZ.out.mono yR.out.size)⟩
 |false=>
 go_wp2_with fail
 go_ret
 exact⟨by first|rfl|simp,yR.out.trans (HBZ.out.mono yR.out.size)⟩
def qM (vars dom kind yJ:Int) (x:zS):Bool:=decide (1<=kind) && decide (kind<=9) && decide (0<=x.dest) && decide (x.dest<=yJ) && qH kind x.reg x.var x.a x.b vars dom
def qC (vars dom:Int) (many:Nat) (x:zS):Bool:=
 if x.op=12 then qM vars dom 9 many x else if x.op=13 then qM vars dom 4 many x else if x.op=10\/x.op=11 then false else qM vars dom x.op 0 x
def rowOk (vars dom:Int) (l:List zS):Bool:=decide (l.length<=600) && l.all (qC vars dom l.length)
def codeOk (c:zD):Bool:=decide (1<=c.vars) && decide (c.vars<=4) && decide (2<=c.domain) && decide (c.domain<=16) && decide (1<=c.threads.length) && decide (c.threads.length<=4) && c.threads.all (rowOk c.vars c.domain)
theorem zck {α:Type} [Inhabited α] (l:List α) (d:α) (p:α->Bool) (h:∀j,j<l.length->p (l.getD j d)=true):l.all p=true:=by
 rw [List.all_eq_true]
 intro x hx
 obtain⟨j,hj,rfl⟩:=List.getElem_of_mem hx
 have:=h j hj
 rwa [List.getD_eq_getElem?_getD,List.getElem?_eq_getElem hj] at this
theorem zbF {α:Type} [Inhabited α] (l:List α) (d:α) (p:α->Bool) (j:Nat) (hj:j<l.length) (h:p (l.getD j d)=false):l.all p=false:=by
 rw [List.all_eq_false]
 rw [List.getD_eq_getElem?_getD,List.getElem?_eq_getElem hj] at h
 exact⟨l[j],List.getElem_mem hj,by simpa using h⟩
def qA (c:zD) (m:zy):Bool:=codeOk c && decide (0<=m.model) && decide (m.model<=2) && decide (1<=m.bound) && decide (m.bound<=8)
def xY (c:zD):zi:=if codeOk c then⟨List.replicate c.threads.length default,List.replicate c.vars.toNat 0,false⟩ else⟨[], [],false⟩
def qV (c:zD) (m:zy) (l:List zl) (k:Nat):Bool:=
 qX (l.take k) m (l.getD k default) && decide (0<=(l.getD k default).var) && decide ((l.getD k default).var<c.vars) && decide (0<=(l.getD k default).n) && decide ((l.getD k default).n<c.domain)
def qj (dom n:Int):Bool:=decide (0<=n) && decide (n<dom)
def vS (c:zD) (m:zy) (s:zi) (i:Nat):Bool:=
 decide (0<=(s.threads.getD i default).pc) && decide ((s.threads.getD i default).pc<=((c.threads.getD i []).length:Int)) &&
 (List.range 4).all (λk=>qj c.domain ((s.threads.getD i default).regs.getD k 0)) && (List.range (s.threads.getD i default).buf.length).all (qV c m (s.threads.getD i default).buf)
def yB (c:zD) (m:zy) (s:zi):Bool:=
 qA c m && decide (s.threads.length=c.threads.length) && decide ((s.mem.length:Int)=c.vars) && (List.range s.mem.length).all (λk=>qj c.domain (s.mem.getD k 0)) && (List.range s.threads.length).all (vS c m s)
def stepT (c:zD) (m:zy) (s:zi) (t:zx) (x:zS) (d:Nat):Option (zx × List Int × Bool):=
 let a:=yw t.regs c.domain d x.a
 let b:=yw t.regs c.domain d x.b
 let t1:zx:=⟨t.pc+1,t.regs,t.buf⟩
 let empty:=decide (t.buf.length=0)
 let v:=x.var.toNat
 let at_:=s.mem.getD v 0
 let zpD:=λn:Int=>(⟨t.pc+1,t.regs.set x.reg.toNat n,t.buf⟩:zx)
 if x.op=1 then some (zpD ((gL t.buf x.var).getD at_),s.mem,s.bad)
 else if x.op=2 then(if m.model=0 then some (t1,s.mem.set v a,s.bad) else if qX t.buf m ⟨x.var,a⟩ then some (⟨t.pc+1,t.regs,jM t.buf m ⟨x.var,a⟩⟩,s.mem,s.bad) else none)
 else if x.op=3 then some (zpD a,s.mem,s.bad)
 else if x.op=4 then(if empty then some (t1,s.mem,s.bad) else none)
 else if x.op=5 then(if empty|| !decide (m.model=2) then some (t1,s.mem,s.bad) else none)
 else if x.op=6 then(if empty then(if at_=a then some (zpD 1,s.mem.set v b,s.bad) else some (zpD 0,s.mem,s.bad)) else none)
 else if x.op=7 then(if empty && decide (at_=0) then some (t1,s.mem.set v 1,s.bad) else none)
 else if x.op=8 then(if empty then some (t1,s.mem.set v 0,s.bad) else none)
 else if x.op=9 then some (t1,s.mem,s.bad||decide (a=0))
 else if x.op=12 then some (if a=0 then⟨x.dest,t.regs,t.buf⟩ else t1,s.mem,s.bad)
 else if x.op=13 then some (⟨x.dest,t.regs,t.buf⟩,s.mem,s.bad)
 else some (t1,s.mem,s.bad)
def jl (c:zD) (m:zy) (s:zi) (i:Nat) (d:Nat):Option zi:=
 if (s.threads.getD i default).pc<((c.threads.getD i []).length:Int) then
  (stepT c m s (s.threads.getD i default) ((c.threads.getD i []).getD (s.threads.getD i default).pc.toNat default) d).map λr=>⟨s.threads.set i r.1,r.2.1,r.2.2⟩
 else none
def bN (s:zi) (i:Nat) (v:Int):zi:=
 ⟨s.threads.set i ⟨(s.threads.getD i default).pc,(s.threads.getD i default).regs,(takeB (s.threads.getD i default).buf v).2⟩,s.mem.set ((takeB (s.threads.getD i default).buf v).1.getD default).var.toNat ((takeB (s.threads.getD i default).buf v).1.getD default).n,s.bad⟩
def xA:zi:=⟨[], [],false⟩
def qB (c:zD) (m:zy) (s:zi) (x:zq) (d:Nat):zi × Int:=
 if yB c m s then
  if 0<=x.thread/\x.thread<(s.threads.length:Int) then
   if x.kind=1/\x.var=0 then
    match jl c m s x.thread.toNat d with
    |some t=>(t,0)
    |none=>(xA,50)
   else if x.kind=2/\x.var∈yK (s.threads.getD x.thread.toNat default).buf m.model then(bN s x.thread.toNat x.var,0)
   else(xA,50)
  else(xA,50)
 else(xA,1)
def kY (c:zD) (m:zy) (s:zi) (d:Nat) (i:Nat):List zq:=
 (if (jl c m s i d).isSome then [⟨1,i,0⟩] else [])++(yK (s.threads.getD i default).buf m.model).map λv=>⟨2,i,v⟩
def xH (c:zD) (m:zy) (s:zi) (d:Nat):List zq:=
 if yB c m s then(List.range s.threads.length).flatMap (kY c m s d) else []
def putAt (l:List zi) (t:zi):List zi × Nat:=if t∈l then(l,l.idxOf t) else(l++ [t],l.length)
instance:Inhabited zD:=⟨⟨0,0, []⟩⟩
theorem xV {c:zD} (h:codeOk c=true):1<=c.vars/\c.vars<=4/\2<=c.domain/\c.domain<=16/\1<=c.threads.length/\c.threads.length<=4:=by
 unfold codeOk at h
 simp only [Bool.and_eq_true,decide_eq_true_eq] at h
 exact⟨h.1.1.1.1.1.1,h.1.1.1.1.1.2,h.1.1.1.1.2,h.1.1.1.2,h.1.1.2,h.1.2⟩
end Go.Proofs.YtnhahkiojbanfaaGreatDoor
namespace Go.Proofs.YtnhahkiojbanfaaGreatDoor
open Go.RowKit
set_option maxRecDepth 100000
set_option maxHeartbeats 16000000
def zY:List zx->List Value->List Value
 | [],_=> []
 |t::l,bs=>t.cells (bs.getD 0 (.slice none 0 0))++zY l (bs.drop 1)
theorem kQ (t:zx) (b:Value):(t.cells b).length=6:=rfl
theorem gP (l:List zx):∀bs,(zY l bs).length=l.length*6:=by
 induction l with
 |nil=>intro bs;rfl
 |cons t l ih=>intro bs;simp only [zY,List.length_append,kQ,List.length_cons];rw [ih];omega
theorem vN:∀ {l:List zx} {bs:List Value} {j i:Nat},j<l.length->i<6->(zY l bs)[j*6+i]? =((l.getD j default).cells (bs.getD j (.slice none 0 0)))[i]? :=by
 intro l
 induction l with
 |nil=>intro bs j i hj;simp at hj
 |cons t l ih=>
 intro bs j i hj hi
 unfold zY
 cases j with
 |zero=>rw [Nat.zero_mul,Nat.zero_add,List.getElem?_append_left (by rw [kQ];exact hi)];rfl
 |succ j=>
 rw [List.getElem?_append_right (by rw [kQ,Nat.add_mul];omega),kQ,show(j+1)*6+i - 6=j*6+i by rw [Nat.add_mul];omega]
 rw [ih (by simpa using hj) hi]
 simp [List.getD_eq_getElem?_getD]
theorem zdi (l:List zx) (t:zx) (b:Value):∀bs:List Value,bs.length=l.length->zY (l++ [t]) (bs++ [b])=zY l bs++t.cells b:=by
 induction l with
 |nil=>
  intro bs h
  obtain rfl:bs= [] :=List.eq_nil_of_length_eq_zero h
  simp [zY]
 |cons u l ih=>
 intro bs h
 cases bs with
 |nil=>simp at h
 |cons b0 bs=>
 have h2:=ih bs (by simpa using h)
 simp only [List.cons_append,zY,List.getD_cons_zero,List.drop_one,List.tail_cons,h2,List.append_assoc]
structure OwnAt (B:Nat) (X:World) (tv mv:Value) (ts:List zx) (mem:List Int) (bs:List Value):Prop where
 row:X.ownsRow B 80 6 tv ts.length (zY ts bs)
 mem:X.ownsRow B 3 1 mv mem.length (zo yM mem)
 regs:∀j,j<ts.length->(ts.getD j default).regs.length=4
 len:bs.length=ts.length
 buf:∀j,j<ts.length->X.ownsRow B 110 2 (bs.getD j (.slice none 0 0)) (ts.getD j default).buf.length (zo zl.cells (ts.getD j default).buf)
 ne:∀j,j<ts.length->∀k,(bs.getD j (.slice none 0 0)).ownBlock=some k->tv.ownBlock≠some k/\mv.ownBlock≠some k
 dis:∀k,tv.ownBlock=some k->mv.ownBlock≠some k
 one:∀i j,i<ts.length->j<ts.length->i≠j->∀k,(bs.getD i (.slice none 0 0)).ownBlock=some k->(bs.getD j (.slice none 0 0)).ownBlock≠some k
theorem zpg {t:zx} {b:Value} (hb:b.oneCell'=true):∀u∈t.cells b,u.oneCell'=true:=by
 intro u hu
 simp only [zx.cells,List.mem_cons,List.not_mem_nil,or_false] at hu
 rcases hu with rfl|rfl|rfl|rfl|rfl|rfl<;>first|rfl|exact hb
theorem OwnAt.state {B:Nat} {X:World} {tv mv:Value} {ts:List zx} {mem:List Int} {bs:List Value} (h:OwnAt B X tv mv ts mem bs) (bad:Bool):zX X ⟨ts,mem,bad⟩ tv mv:=
 ⟨zh.zct h.row λj hj=>⟨(ts.getD j default).cells (bs.getD j (.slice none 0 0)),kQ _ _,λ_ hi=>vN hj hi,h.regs j hj,_,rfl,kX (h.buf j hj)⟩,gN h.mem⟩
theorem OwnAt.below {B:Nat} {X X':World} {tv mv:Value} {ts:List zx} {mem:List Int} {bs:List Value} (h:OwnAt B X tv mv ts mem bs) (hb:Below X.heap.size X X'):OwnAt B X' tv mv ts mem bs:=
 ⟨qp h.row hb,qp h.mem hb,h.regs,h.len,λj hj=>qp (h.buf j hj) hb,h.ne,h.dis,h.one⟩
theorem OwnAt.lower {B C:Nat} {X:World} {tv mv:Value} {ts:List zx} {mem:List Int} {bs:List Value} (h:OwnAt B X tv mv ts mem bs) (hC:C<=B):OwnAt C X tv mv ts mem bs:=
 ⟨xq h.row hC,xq h.mem hC,h.regs,h.len,λj hj=>xq (h.buf j hj) hC,h.ne,h.dis,h.one⟩
theorem OwnAt.since {F:Nat->Prop} {B:Nat} {X X':World} {tv mv:Value} {ts:List zx} {mem:List Int} {bs:List Value} (h:OwnAt B X tv mv ts mem bs) (hs:Since F X X') (h1:∀k,tv.ownBlock=some k->¬F k) (h2:∀k,mv.ownBlock=some k->¬F k)
  (h3:∀j,j<ts.length->∀k,(bs.getD j (.slice none 0 0)).ownBlock=some k->¬F k):OwnAt B X' tv mv ts mem bs:=
 ⟨hs.row h.row h1,hs.row h.mem h2,h.regs,h.len,λj hj=>hs.row (h.buf j hj) (h3 j hj),h.ne,h.dis,h.one⟩
structure vU (W X:World) (gb:Nat) (tv mv:Value) (bad:Bool) (ts:List zx) (mem:List Int) (bs:List Value):Prop where
 own:OwnAt W.heap.size X tv mv ts mem bs
 box:X.heap[gb]? =some (.cells #[tv,mv, .bool bad] 42 (0,0))
 below:Below W.heap.size W X
 lo:W.heap.size<=gb
 n1:tv.ownBlock≠some gb
 n2:mv.ownBlock≠some gb
 n3:∀j,j<ts.length->(bs.getD j (.slice none 0 0)).ownBlock≠some gb
theorem um {α:Type} {l:List α} {x d:α} {j:Nat} (hj:j<l.length+1):(l++ [x]).getD j d=if j=l.length then x else l.getD j d:=by
 simp only [List.getD_eq_getElem?_getD]
 by_cases h:j=l.length
 ·subst h;simp
 rw [if_neg h,List.getElem?_append_left (by omega)]
theorem vU.push {W X X1 X2 X3:World} {gb nb:Nat} {tv mv tv' bv:Value} {bad:Bool} {ts:List zx} {mem:List Int} {bs:List Value} {t:zx} (h:vU W X gb tv mv bad ts mem bs) (hr:t.regs.length=4)
  (hs1:Since (λ_=>False) X X1) (hb:X1.ownsRow W.heap.size 110 2 bv t.buf.length (zo zl.cells t.buf)) (hbn:∀k,bv.ownBlock=some k->X.heap.size<=k/\k≠nb) (hs2:Since (λk=>k=nb) X1 X2) (hnb:X.heap.size<=nb)
  (hrow:X3.ownsRow W.heap.size 80 6 tv' (ts.length+1) (zY ts bs++t.cells bv)) (hs3:Since (λk=>tv.ownBlock=some k) X2 X3) (hl:∀k,tv'.ownBlock=some k->tv.ownBlock=some k\/k=X2.heap.size):
  vU W (X3.setCell ⟨gb,0,none⟩ tv') gb tv' mv bad (ts++ [t]) mem (bs++ [bv]):=by
 have hgb:gb<X.heap.size:=zw h.box
 have hX1:=hs1.size
 have hX2:=hs2.size
 have hX3:=hs3.size
 have hS3:∀k,k<X.heap.size->tv.ownBlock≠some k->X3.heap[k]? =X.heap[k]? :=λk hk hne=>
  (hs3.block k (by omega) hne).trans ((hs2.block k (by omega) (by omega)).trans (hs1.block k hk (λe=>e)))
 have bG:X3.heap[gb]? =some (.cells #[tv,mv, .bool bad] 42 (0,0)):=(hS3 gb hgb h.n1).trans h.box
 have hrow':∀ {e size v n xs},X.ownsRow W.heap.size e size v n xs->(∀k,v.ownBlock=some k->tv.ownBlock≠some k)->X3.ownsRow W.heap.size e size v n xs:=λho hn=>
  hs3.row (hs2.row (hs1.row ho (λ_ _ e=>e)) (λk hk e=>by have:=(ho.lt k hk).2;omega)) hn
 have z6a:X3.ownsRow W.heap.size 110 2 bv t.buf.length (zo zl.cells t.buf):=hs3.row (hs2.row hb (λk hk=>(hbn k hk).2)) (λk hk e=>by have:=(hbn k hk).1;have:=(h.own.row.lt k e).2;omega)
 have hsS:Since (λk=>k=gb) X3 (X3.setCell ⟨gb,0,none⟩ tv'):=Since.setCell (F:=λk=>k=gb) (p:=⟨gb,0,none⟩) (Since.refl _ _) (.inl rfl) _
 have hn1':tv'.ownBlock≠some gb:=λe=>by
  rcases hl _ e with e'|e'
  ·exact h.n1 e'
  omega
 have hlen:=h.own.len
 have hnew:∀k,bv.ownBlock=some k->tv'.ownBlock≠some k/\mv.ownBlock≠some k/\k≠gb:=λk hk=>by
  have h1:=(hbn k hk).1
  refine⟨λe=> ?_,λe=>by have:=(h.own.mem.lt k e).2;omega,by omega⟩
  rcases hl _ e with e'|e'
  ·have:=(h.own.row.lt k e').2;omega
  have:=(hb.lt k hk).2;omega
 refine⟨⟨?_, ?_, ?_, ?_, ?_, ?_, ?_, ?_⟩, ?_, ?_,h.lo,hn1',h.n2, ?_⟩
 ·rw [List.length_append,zdi _ _ _ _ hlen];exact hsS.row hrow (λk hk e=>hn1' (e ▸ hk))
 ·exact hsS.row (hrow' h.own.mem (λk hk e=>h.own.dis k e hk)) (λk hk e=>h.n2 (e ▸ hk))
 ·intro j hj
  rw [List.length_append,List.length_singleton] at hj
  rw [um hj]
  split
  ·exact hr
  exact h.own.regs j (by omega)
 ·simp [hlen]
 ·intro j hj
  rw [List.length_append,List.length_singleton] at hj
  rw [um hj,um (by rw [hlen];exact hj),hlen]
  split
  ·exact hsS.row z6a (λk hk e=>(hnew k hk).2.2 e)
  exact hsS.row (hrow' (h.own.buf j (by omega)) (λk hk=>(h.own.ne j (by omega) k hk).1)) (λk hk e=>h.n3 j (by omega) (e ▸ hk))
 ·intro j hj k hk
  rw [List.length_append,List.length_singleton] at hj
  rw [um (by rw [hlen];exact hj),hlen] at hk
  split at hk
  ·exact⟨(hnew k hk).1,(hnew k hk).2.1⟩
  refine⟨λe=> ?_,(h.own.ne j (by omega) k hk).2⟩
  rcases hl _ e with e'|e'
  ·exact(h.own.ne j (by omega) k hk).1 e'
  have:=((h.own.buf j (by omega)).lt k hk).2;omega
 ·intro k hk e
  rcases hl _ hk with e'|e'
  ·exact h.own.dis k e' e
  have:=(h.own.mem.lt k e).2;omega
 ·intro i j hi hj hij k hk
  rw [List.length_append,List.length_singleton] at hi hj
  rw [um (by rw [hlen];exact hi),hlen] at hk
  rw [um (by rw [hlen];exact hj),hlen]
  split at hk
  ·rw [if_neg (by omega)]
   intro e
   have h1:=(hbn k hk).1
   have h2:=((h.own.buf j (by omega)).lt k e).2
   omega
  split
  ·intro e
   have h1:=(hbn k e).1
   have h2:=((h.own.buf i (by omega)).lt k hk).2
   omega
  exact h.own.one i j (by omega) (by omega) hij k hk
 ·have:=zu bG 0 tv'
  simpa using this
 ·exact h.below.trans ((((hs1.below h.below.size (λ_ e=>e.elim)).trans (hs2.below (Nat.le_trans h.below.size hX1) (λk e=>by have:=h.below.size;omega))).trans (hs3.below (by have:=h.below.size;omega) (λk hk=>(h.own.row.lt k hk).1))).trans (hsS.below (by have:=h.below.size;omega) (λk e=>by have:=h.lo;omega)))
 intro j hj
 rw [List.length_append,List.length_singleton] at hj
 rw [um (by rw [hlen];exact hj),hlen]
 split
 ·exact λe=>(hnew gb e).2.2 rfl
 exact h.n3 j (by omega)
theorem zaG (w:World) (o1 o2 o3:Obj):Below w.heap.size w (((w.alloc o1).alloc o2).alloc o3):=(xO w o1 o2).alloc (by simp;omega) o3
theorem zaH (w:World) (o1 o2 o3:Obj):(((w.alloc o1).alloc o2).alloc o3).heap[w.heap.size]? =some o1:=(Below.heap_alloc _ _ _ (by simp;omega)).trans (xP w o1 o2)
theorem zau (w:World) (o1 o2 o3:Obj):(((w.alloc o1).alloc o2).alloc o3).heap[w.heap.size+1]? =some o2:=(Below.heap_alloc _ _ _ (by simp)).trans (xw w o1 o2)
theorem zaI (w:World) (o1 o2 o3:Obj):(((w.alloc o1).alloc o2).alloc o3).heap[w.heap.size+2]? =some o3:=by
 have:=yj ((w.alloc o1).alloc o2) o3
 simpa using this
theorem wO {l:List Int} (h:l.length=4):∃a b c d,l= [a,b,c,d] :=by
 match l,h with
 | [a,b,c,d],_=>exact⟨a,b,c,d,rfl⟩
theorem bE {α:Type} [Inhabited α] {l:List α} {i:Nat} {t:α} (hi:i<l.length) (ht:t=l.getD i default):l.take (i+1)=l.take i++ [t] :=by
 rw [List.take_add_one,ht,List.getElem?_eq_getElem hi,List.getD_eq_getElem?_getD,List.getElem?_eq_getElem hi];rfl
structure wC (e:TypeId) (size:Nat) (t:TypeId) (V X:World) (v:Value) (n:Nat) (xs:List Value) (bs:List (Nat × List Value)):Prop where
 below:Below V.heap.size V X
 row:X.ownsRow V.heap.size e size v n xs
 news:∀p∈bs,X.heap[p.1]? =some (.cells p.2.toArray t (0,0))/\v.ownBlock≠some p.1/\V.heap.size<=p.1
section
variable {e t:TypeId} {size:Nat} {V X:World} {v:Value} {n:Nat} {xs:List Value} {bs:List (Nat × List Value)}
theorem wC.start (e:TypeId) (size:Nat) (t:TypeId) (V:World):wC e size t V V (.slice none 0 0) 0 [] [] :=⟨Below.refl _ _,World.ownsRow_nil _ _ _ _,by simp⟩
theorem wC.drew (h:wC e size t V X v n xs bs):wC e size t V X.drew v n xs bs:=⟨h.below.drew,(Since.refl (λ_=>False) X).drew.row h.row (λ_ _ h=>h),h.news⟩
theorem wC.alloc (h:wC e size t V X v n xs bs) (cs:List Value):wC e size t V (X.alloc (.cells cs.toArray t)) v n xs ((X.heap.size,cs)::bs):=by
 refine⟨h.below.alloc h.below.size _,h.row.alloc _, ?_⟩
 intro p hp
 rcases List.mem_cons.1 hp with rfl|hp
 ·exact⟨yj X _,λe=>by have:=(h.row.lt _ e).2;simp at this,h.below.size⟩
 obtain⟨a,b,c⟩:=h.news p hp
 exact⟨(Below.heap_alloc _ _ _ (zw a)).trans a,b,c⟩
theorem wC.app (h:wC e size t V X v n xs bs) {X':World} {v':Value} {m:Nat} {xs':List Value} (ho:X'.ownsRow V.heap.size e size v' m xs') (hs:Since (λk=>v.ownBlock=some k) X X') (hl:∀k,v'.ownBlock=some k->v.ownBlock=some k\/k=X.heap.size):wC e size t V X' v' m xs' bs:=by
 refine⟨h.below.trans (hs.below h.below.size (λk hk=>(h.row.lt k hk).1)),ho,λp hp=> ?_⟩
 obtain⟨a,b,c⟩:=h.news p hp
 refine⟨(hs.block _ (zw a) b).trans a,λe=> ?_,c⟩
 rcases hl _ e with e'|e'
 ·exact b e'
 have:=zw a;omega
theorem wC.zi3 (h:wC e size t V X v n xs bs) {gb:Nat} {a b c:Value} (hb:(gb, [a,b,c])∈bs) (u0 u1 u2:Value):
  Below V.heap.size V (((X.setCell ⟨gb,0,none⟩ u0).setCell ⟨gb,1,none⟩ u1).setCell ⟨gb,2,none⟩ u2)/\(((X.setCell ⟨gb,0,none⟩ u0).setCell ⟨gb,1,none⟩ u1).setCell ⟨gb,2,none⟩ u2).ownsRow V.heap.size e size v n xs/\
   (((X.setCell ⟨gb,0,none⟩ u0).setCell ⟨gb,1,none⟩ u1).setCell ⟨gb,2,none⟩ u2).heap[gb]? =some (.cells #[u0,u1,u2] t (0,0))/\V.heap.size<=gb/\v.ownBlock≠some gb:=by
 obtain⟨h1,h2,h3⟩:=h.news _ hb
 have hS:Since (λk=>k=gb) X (((X.setCell ⟨gb,0,none⟩ u0).setCell ⟨gb,1,none⟩ u1).setCell ⟨gb,2,none⟩ u2):=
  Since.setCell (F:=λk=>k=gb) (p:=⟨gb,2,none⟩) (Since.setCell (F:=λk=>k=gb) (p:=⟨gb,1,none⟩) (Since.setCell (F:=λk=>k=gb) (p:=⟨gb,0,none⟩) (Since.refl _ _) (.inl rfl) _) (.inl rfl) _) (.inl rfl) _
 refine⟨h.below.trans (hS.below h.below.size (λk e=>by omega)),hS.row h.row (λk hk e=>h2 (e ▸ hk)), ?_,h3,h2⟩
 have:=zu (zu (zu h1 0 u0) 1 u1) 2 u2
 simpa using this
end
theorem vU.start {W X:World} {gb:Nat} {mv:Value} {bad:Bool} {mem:List Int} (hr:X.ownsRow W.heap.size 3 1 mv mem.length (zo yM mem)) (hb:Below W.heap.size W X) (hx:X.heap[gb]? =some (.cells #[.slice none 0 0,mv, .bool bad] 42 (0,0))) (hl:W.heap.size<=gb) (hn:mv.ownBlock≠some gb):
  vU W X gb (.slice none 0 0) mv bad [] mem [] :=
 ⟨⟨World.ownsRow_nil _ _ _ _,hr,λj hj=>by simp at hj,rfl,λj hj=>by simp at hj,λj hj=>by simp at hj,λk hk=>by simp [Value.ownBlock] at hk,λi j hi=>by simp at hi⟩,hx,hb,hl,by simp [Value.ownBlock],hn,λj hj=>by simp at hj⟩
theorem qY (w:World) (l:List Value) (t:TypeId):∀j u,l[j]? =some u->(w.alloc (.cells l.toArray t)).cell? ((⟨w.heap.size,0,none⟩:Addr).add j)=some u:=by
 intro j u hj
 have:=ze (yj w (.cells l.toArray t)) j
 rw [show(⟨w.heap.size,0,none⟩:Addr).add j=⟨w.heap.size,j,none⟩ by simp only [Addr.add];split<;>simp_all,this]
 simpa using hj
theorem zM:(Tryz.prog.info? 42).map (·.size)=some 3:=by kernel_rfl
theorem pJ:(Tryz.prog.info? 42).map (λi=>(i.zero,i.size,i.bytes))=some (some (.agg #[.slice none 0 0, .slice none 0 0, .bool false]),3,56):=by kernel_rfl
theorem zao:(Tryz.prog.info? 80).map (λi=>(i.zero,i.size,i.bytes))=some (some (.agg #[.int .i64 0, .int .i64 0, .int .i64 0, .int .i64 0, .int .i64 0, .slice none 0 0]),6,64):=by kernel_rfl
