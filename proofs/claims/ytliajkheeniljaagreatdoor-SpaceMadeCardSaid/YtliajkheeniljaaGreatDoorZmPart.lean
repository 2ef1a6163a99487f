/- Steps. -/
import Derived.Test.YtliajkheeniljaaGreatDoorZmEval
import Derived.Test.YtliajkheeniljaaGreatDoorZmExpr2
import Derived.Test.YtliajkheeniljaaGreatDoorZmHeads
set_option linter.all false
namespace Go.Proofs.YtliajkheeniljaaGreatDoor
open Go.RowKit
set_option maxRecDepth 100000
set_option maxHeartbeats 16000000
theorem zw4 {p:Bool} (h:true= !p):p=false:=by cases p<;>first|rfl|cases h
theorem zsr {p:Bool} (h:false= !p):p=true:=by cases p<;>first|rfl|cases h
def uY (k reg:Int):Bool:=if bN k then decide (0<=reg) && decide (reg<4) else decide (reg=0)
def kg (k v vars:Int):Bool:=if wz k then decide (0<=v) && decide (v<vars) else decide (v=0)
def wU (k:Int) (a:zN) (dom:Int):Bool:=if gT k then zR dom 20 a else qR a
def uZ (k:Int) (b:zN) (dom:Int):Bool:=if hasB k then zR dom 20 b else qR b
def qA (k reg v:Int) (a b:zN) (vars dom:Int):Bool:=uY k reg && kg k v vars && wU k a dom && uZ k b dom
theorem zme (w:World) (k reg v:Int) (a b:zN) (ka kb:Value) (e:Nat) (ha:zC e w a ka) (hb:zC e w b kb) (vars dom:Int):
  Calls Tryz.prog 74 #[.int .i64 k, .int .i64 reg, .int .i64 v,qd a ka,qd b kb, .int .i64 vars, .int .i64 dom] w λe w'=>e= .returned (.bool (qA k reg v a b vars dom))/\Below w.heap.size w w':=by
 obtain⟨aa,ac,rfl, -⟩:=ha.slice
 obtain⟨ba,bc,rfl, -⟩:=hb.slice
 have HB:=qh (xg w (.cells #[.int .i64 a.kind, .int .i64 a.n, .int .u8 a.op, .slice aa a.kids.length ac] 62) (.cells #[.int .i64 b.kind, .int .i64 b.n, .int .u8 b.op, .slice ba b.kids.length bc] 62))
 have H1:=qh (xP w (.cells #[.int .i64 a.kind, .int .i64 a.n, .int .u8 a.op, .slice aa a.kids.length ac] 62) (.cells #[.int .i64 b.kind, .int .i64 b.n, .int .u8 b.op, .slice ba b.kids.length bc] 62))
 have H2:=qh (xw w (.cells #[.int .i64 a.kind, .int .i64 a.n, .int .u8 a.op, .slice aa a.kids.length ac] 62) (.cells #[.int .i64 b.kind, .int .i64 b.n, .int .u8 b.op, .slice ba b.kids.length bc] 62))
 have HEA:Hid (∀X,Below w.heap.size w X->Calls Tryz.prog 99 #[.agg #[.int .i64 a.kind, .int .i64 a.n, .int .u8 a.op, .slice aa a.kids.length ac], .int .i64 dom] X λe w'=>e= .returned (.bool (zR dom 20 a))/\Below X.heap.size X w'):=λX hX=>zgy dom e X a _ (ha.below hX)
 have HEB:Hid (∀X,Below w.heap.size w X->Calls Tryz.prog 99 #[.agg #[.int .i64 b.kind, .int .i64 b.n, .int .u8 b.op, .slice ba b.kids.length bc], .int .i64 dom] X λe w'=>e= .returned (.bool (zR dom 20 b))/\Below X.heap.size X w'):=λX hX=>zgy dom e X b _ (hb.below hX)
 have HNA:Hid (∀X,Calls Tryz.prog 100 #[.agg #[.int .i64 a.kind, .int .i64 a.n, .int .u8 a.op, .slice aa a.kids.length ac]] X λe w'=>e= .returned (.bool (qR a))/\Below X.heap.size X w'):=λX=>zmf X a aa ac
 have HNB:Hid (∀X,Calls Tryz.prog 100 #[.agg #[.int .i64 b.kind, .int .i64 b.n, .int .u8 b.op, .slice ba b.kids.length bc]] X λe w'=>e= .returned (.bool (qR b))/\Below X.heap.size X w'):=λX=>zmf X b ba bc
 obtain⟨r,hr⟩:∃r,r=qA k reg v a b vars dom:=⟨_,rfl⟩
 rw [<-hr]
 have HR:Hid (r=((if bN k then decide (0<=reg) && decide (reg<4) else decide (reg=0)) && (if wz k then decide (0<=v) && decide (v<vars) else decide (v=0)) && (if gT k then zR dom 20 a else qR a) && (if hasB k then zR dom 20 b else qR b))):=hr
 have HH:=qh (λX=>zwV X k)
 obtain⟨h0,e0⟩:∃h,h=bN k:=⟨_,rfl⟩
 obtain⟨h1,e1⟩:∃h,h=wz k:=⟨_,rfl⟩
 obtain⟨h2,e2⟩:∃h,h=gT k:=⟨_,rfl⟩
 obtain⟨h3,e3⟩:∃h,h=hasB k:=⟨_,rfl⟩
 rw [<-e0, <-e1, <-e2, <-e3] at HR
 have HH2:Hid (∀X,Calls Tryz.prog 98 #[.int .i64 k] X λe w'=>e= .returned (.agg #[.bool h0, .bool h1, .bool h2, .bool h3])/\Below X.heap.size X w'):=λX=>by rw [e0,e1,e2,e3];exact HH.out X
 unfold qd
 clear ha hb hr HH e0 e1 e2 e3
 go_enter Tryz.func74,Tryz.ntmps74
 go_upto_region 1 with fail
 generalize World.alloc (World.alloc w _) _=W at HB H1 H2 ⊢
 obtain⟨gx,hgx⟩:∃gx,gx=w.heap.size:=⟨_,rfl⟩
 rw [<-hgx] at H1 H2 ⊢
 clear hgx
 go_wp2_with fail
 refine(HH2.out W).mono ?_
 rintro e X0 ⟨rfl,hb0⟩
 have HX0:=qh (zF hb0 ((Below.refl X0.heap.size X0).alloc (Nat.le_refl _) (.cells #[.bool h0, .bool h1, .bool h2, .bool h3] 157)))
 have HHB:=qh (yh X0 (.cells #[.bool h0, .bool h1, .bool h2, .bool h3] 157))
 clear hb0 HH2
 go_upto_region 2 with fail
 generalize World.alloc X0 _=X at HX0 HHB ⊢
 obtain⟨hx,hhx⟩:∃hx,hx=X0.heap.size:=⟨_,rfl⟩
 rw [<-hhx] at HHB ⊢
 clear hhx
 have HC:Hid (∀x,Below X.heap.size X x->(x.cell? ⟨gx,0,none⟩=some (.int .i64 a.kind)/\x.cell? ⟨gx,1,none⟩=some (.int .i64 a.n)/\x.cell? ⟨gx,2,none⟩=some (.int .u8 a.op)/\x.cell? ⟨gx,3,none⟩=some (.slice aa a.kids.length ac))/\
   (x.cell? ⟨gx+1,0,none⟩=some (.int .i64 b.kind)/\x.cell? ⟨gx+1,1,none⟩=some (.int .i64 b.n)/\x.cell? ⟨gx+1,2,none⟩=some (.int .u8 b.op)/\x.cell? ⟨gx+1,3,none⟩=some (.slice ba b.kids.length bc))/\
   (x.cell? ⟨hx,0,none⟩=some (.bool h0)/\x.cell? ⟨hx,1,none⟩=some (.bool h1)/\x.cell? ⟨hx,2,none⟩=some (.bool h2)/\x.cell? ⟨hx,3,none⟩=some (.bool h3))):=λx hx=>
  have k:=λp v h=>zi (zF HX0.out hx) p v h
  ⟨⟨k _ _ (ze H1.out 0),k _ _ (ze H1.out 1),k _ _ (ze H1.out 2),k _ _ (ze H1.out 3)⟩,⟨k _ _ (ze H2.out 0),k _ _ (ze H2.out 1),k _ _ (ze H2.out 2),k _ _ (ze H2.out 3)⟩,⟨zi hx _ _ (ze HHB.out 0),zi hx _ _ (ze HHB.out 1),zi hx _ _ (ze HHB.out 2),zi hx _ _ (ze HHB.out 3)⟩⟩
 have xq:=qh (HB.out.trans (HX0.out.mono HB.out.size))
 clear H1 H2 HHB HB HX0
 go_cut [58] (λs58 w'=>∃q:Bool,s58= .bool q/\w'=X/\Hid (q= !((if h0 then decide (0<=reg) && decide (reg<4) else decide (reg=0)) && (if h1 then decide (0<=v) && decide (v<vars) else decide (v=0)))))
 case first=>
  obtain⟨-, -,c0,c1, -, -⟩:=HC.out X (Below.refl _ _)
  cases h0 with
  |true=>
   by_cases r1:0<=reg
   rotate_left
   ·have r1n:reg<0:=by omega
    go_wp2_with fail
    go_meet
    case rel=>exact⟨true,by first|rfl|simp,rfl,by rw [Hid];simp [r1]⟩
   have r1n:¬reg<0:=by omega
   by_cases r2:reg<4
   rotate_left
   ·have r2n:4<=reg:=by omega
    go_wp2_with fail
    go_meet
    case rel=>exact⟨true,by first|rfl|simp,rfl,by rw [Hid];simp [r1,r2]⟩
   have r2n:¬4<=reg:=by omega
   cases h1 with
   |true=>
    by_cases v1:0<=v
    ·have v1n:¬v<0:=by omega
     by_cases v2:v<vars
     ·have v2n:¬vars<=v:=by omega
      go_wp2_with fail
      go_meet
      case rel=>exact⟨false,by first|rfl|simp,rfl,by rw [Hid];simp [r1,r2,v1,v2]⟩
     have v2n:vars<=v:=by omega
     go_wp2_with fail
     go_meet
     case rel=>exact⟨true,by first|rfl|simp,rfl,by rw [Hid];simp [r1,r2,v1,v2]⟩
    have v1n:v<0:=by omega
    go_wp2_with fail
    go_meet
    case rel=>exact⟨true,by first|rfl|simp,rfl,by rw [Hid];simp [r1,r2,v1]⟩
   |false=>
   by_cases v1:v=0
   ·have v1n:((v:Int) !=0)=false:=by simp [v1]
    have V1:=qh v1
    clear v1
    go_wp2_with fail
    go_meet
    case rel=>exact⟨false,by first|rfl|simp,rfl,by rw [Hid];simp [r1,r2,V1.out]⟩
   have v1n:((v:Int) !=0)=true:=by simp [v1]
   go_wp2_with fail
   go_meet
   case rel=>exact⟨true,by first|rfl|simp,rfl,by rw [Hid];simp [r1,r2,v1]⟩
  |false=>
  by_cases r1:reg=0
  rotate_left
  ·have r1n:((reg:Int) !=0)=true:=by simp [r1]
   go_wp2_with fail
   go_meet
   case rel=>exact⟨true,by first|rfl|simp,rfl,by rw [Hid];simp [r1]⟩
  have r1n:((reg:Int) !=0)=false:=by simp [r1]
  have R1:=qh r1
  clear r1
  cases h1 with
  |true=>
   by_cases v1:0<=v
   ·have v1n:¬v<0:=by omega
    by_cases v2:v<vars
    ·have v2n:¬vars<=v:=by omega
     go_wp2_with fail
     go_meet
     case rel=>exact⟨false,by first|rfl|simp,rfl,by rw [Hid];simp [R1.out,v1,v2]⟩
    have v2n:vars<=v:=by omega
    go_wp2_with fail
    go_meet
    case rel=>exact⟨true,by first|rfl|simp,rfl,by rw [Hid];simp [R1.out,v1,v2]⟩
   have v1n:v<0:=by omega
   go_wp2_with fail
   go_meet
   case rel=>exact⟨true,by first|rfl|simp,rfl,by rw [Hid];simp [R1.out,v1]⟩
  |false=>
  by_cases v1:v=0
  ·have v1n:((v:Int) !=0)=false:=by simp [v1]
   have V1:=qh v1
   clear v1
   go_wp2_with fail
   go_meet
   case rel=>exact⟨false,by first|rfl|simp,rfl,by rw [Hid];simp [R1.out,V1.out]⟩
  have v1n:((v:Int) !=0)=true:=by simp [v1]
  go_wp2_with fail
  go_meet
  case rel=>exact⟨true,by first|rfl|simp,rfl,by rw [Hid];simp [R1.out,v1]⟩
 case rest=>
 obtain⟨q,rfl,hwq,HQ⟩:=hcut
 obtain rfl:X=wc:=hwq.symm
 cases q with
 |true=>
  have hp:=HQ.out
  obtain rfl:r=false:=by
   rw [HR.out,zw4 hp];rfl
  clear HR HQ hp
  go_wp2_with fail
  go_ret
  exact⟨by first|rfl|simp,xq.out⟩
 |false=>
 have HR2:Hid (r=((if h2 then zR dom 20 a else qR a) && (if h3 then zR dom 20 b else qR b))):=by
  rw [Hid,HR.out,zsr HQ.out];rfl
 clear HR HQ
 go_upto_region 4 with fail
 go_cut [76] (λs76 w'=>∃q:Bool,s76= .bool q/\Hid (q= !(if h2 then zR dom 20 a else qR a))/\Hid (Below X.heap.size X w'))
 case first=>
  obtain⟨⟨a0,a1,a2,a3⟩, -, -, -,c2, -⟩:=HC.out X (Below.refl _ _)
  cases h2 with
  |true=>
   go_wp2_with fail
   refine(HEA.out X xq.out).mono ?_
   rintro e Y ⟨rfl,hby⟩
   have jg:=qh hby
   obtain⟨-, -, -, -,c2', -⟩:=HC.out Y jg.out
   clear hby a0 a1 a2 a3 c2
   cases hv:zR dom 20 a with
   |true=>
    go_wp2_with fail
    go_meet
    case rel=>exact⟨false,by first|rfl|simp,by rw [Hid];simp [hv],jg.out⟩
   |false=>
   go_wp2_with fail
   go_meet
   case rel=>exact⟨true,by first|rfl|simp,by rw [Hid];simp [hv],jg.out⟩
  |false=>
  go_wp2_with fail
  refine(HNA.out X).mono ?_
  rintro e Y ⟨rfl,hby⟩
  have jg:=qh hby
  clear hby a0 a1 a2 a3 c2
  cases hv:qR a with
  |true=>
   go_wp2_with fail
   go_meet
   case rel=>exact⟨false,by first|rfl|simp,by rw [Hid];simp [hv],jg.out⟩
  |false=>
  go_wp2_with fail
  go_meet
  case rel=>exact⟨true,by first|rfl|simp,by rw [Hid];simp [hv],jg.out⟩
 case rest=>
 obtain⟨q,rfl,HQ,HBQ⟩:=hcut
 obtain⟨Y,rfl⟩:∃Y:World,Y=wc:=⟨_,rfl⟩
 have yx:=qh (xq.out.trans (HBQ.out.mono xq.out.size))
 cases q with
 |true=>
  obtain rfl:r=false:=by
   rw [HR2.out,zw4 HQ.out];rfl
  clear HR2 HQ
  go_wp2_with fail
  go_ret
  exact⟨by first|rfl|simp,yx.out⟩
 |false=>
 have HR3:Hid (r=(if h3 then zR dom 20 b else qR b)):=by
  rw [Hid,HR2.out,zsr HQ.out];rfl
 clear HR2 HQ
 obtain⟨-,⟨b0,b1,b2,b3⟩, -, -, -,c3⟩:=HC.out Y HBQ.out
 cases h3 with
 |true=>
  have HR4:Hid (r=zR dom 20 b):=HR3.out
  go_wp2_with fail
  refine(HEB.out Y yx.out).mono ?_
  rw [<-HR4.out]
  rintro e Z ⟨rfl,hbz⟩
  have HBZ:=qh hbz
  obtain⟨-, -, -, -, -,c3'⟩:=HC.out Z (zF HBQ.out HBZ.out)
  clear hbz b0 b1 b2 b3 c3 HR3 HR4
  cases r with
  |true=>
   go_wp2_with fail
   go_ret
   exact⟨by first|rfl|simp,yx.out.trans (HBZ.out.mono yx.out.size)⟩
  |false=>
  go_wp2_with fail
  go_ret
  exact⟨by first|rfl|simp,yx.out.trans (HBZ.out.mono yx.out.size)⟩
 |false=>
 have HR4:Hid (r=qR b):=HR3.out
 go_wp2_with fail
 refine(HNB.out Y).mono ?_
 rw [<-HR4.out]
 rintro e Z ⟨rfl,hbz⟩
 have HBZ:=qh hbz
 clear hbz b0 b1 b2 b3 c3 HR3 HR4
 cases r with
 |true=>
  go_wp2_with fail
  go_ret
  exact⟨by first|rfl|simp,yx.out.trans (HBZ.out.mono yx.out.size)⟩
 |false=>
 go_wp2_with fail
 go_ret
 exact⟨by first|rfl|simp,yx.out.trans (HBZ.out.mono yx.out.size)⟩
def qD (vars dom kind yI:Int) (x:zW):Bool:=decide (1<=kind) && decide (kind<=9) && decide (0<=x.dest) && decide (x.dest<=yI) && qA kind x.reg x.var x.a x.b vars dom
def qw (vars dom:Int) (many:Nat) (x:zW):Bool:=
 if x.op=12 then qD vars dom 9 many x else if x.op=13 then qD vars dom 4 many x else if x.op=10\/x.op=11 then false else qD vars dom x.op 0 x
def rowOk (vars dom:Int) (l:List zW):Bool:=decide (l.length<=600) && l.all (qw vars dom l.length)
def codeOk (c:zO):Bool:=decide (1<=c.vars) && decide (c.vars<=4) && decide (2<=c.domain) && decide (c.domain<=16) && decide (1<=c.threads.length) && decide (c.threads.length<=4) && c.threads.all (rowOk c.vars c.domain)
theorem zbT {α:Type} [Inhabited α] (l:List α) (d:α) (p:α->Bool) (h:∀j,j<l.length->p (l.getD j d)=true):l.all p=true:=by
 rw [List.all_eq_true]
 intro x hx
 obtain⟨j,hj,rfl⟩:=List.getElem_of_mem hx
 have:=h j hj
 rwa [List.getD_eq_getElem?_getD,List.getElem?_eq_getElem hj] at this
theorem zb1 {α:Type} [Inhabited α] (l:List α) (d:α) (p:α->Bool) (j:Nat) (hj:j<l.length) (h:p (l.getD j d)=false):l.all p=false:=by
 rw [List.all_eq_false]
 rw [List.getD_eq_getElem?_getD,List.getElem?_eq_getElem hj] at h
 exact⟨l[j],List.getElem_mem hj,by simpa using h⟩
def jk (c:zO) (m:zH):Bool:=codeOk c && decide (0<=m.model) && decide (m.model<=2) && decide (1<=m.bound) && decide (m.bound<=8)
def jS (c:zO):zl:=if codeOk c then⟨List.replicate c.threads.length default,List.replicate c.vars.toNat 0,false⟩ else⟨[], [],false⟩
def qm (c:zO) (m:zH) (l:List zk) (k:Nat):Bool:=
 qB (l.take k) m (l.getD k default) && decide (0<=(l.getD k default).var) && decide ((l.getD k default).var<c.vars) && decide (0<=(l.getD k default).n) && decide ((l.getD k default).n<c.domain)
def yZ (dom n:Int):Bool:=decide (0<=n) && decide (n<dom)
def qI (c:zO) (m:zH) (s:zl) (i:Nat):Bool:=
 decide (0<=(s.threads.getD i default).pc) && decide ((s.threads.getD i default).pc<=((c.threads.getD i []).length:Int)) &&
 (List.range 4).all (λk=>yZ c.domain ((s.threads.getD i default).regs.getD k 0)) && (List.range (s.threads.getD i default).buf.length).all (qm c m (s.threads.getD i default).buf)
def yJ (c:zO) (m:zH) (s:zl):Bool:=
 jk c m && decide (s.threads.length=c.threads.length) && decide ((s.mem.length:Int)=c.vars) && (List.range s.mem.length).all (λk=>yZ c.domain (s.mem.getD k 0)) && (List.range s.threads.length).all (qI c m s)
def stepT (c:zO) (m:zH) (s:zl) (t:zA) (x:zW) (d:Nat):Option (zA × List Int × Bool):=
 let a:=yw t.regs c.domain d x.a
 let b:=yw t.regs c.domain d x.b
 let t1:zA:=⟨t.pc+1,t.regs,t.buf⟩
 let empty:=decide (t.buf.length=0)
 let v:=x.var.toNat
 let at_:=s.mem.getD v 0
 let zpH:=λn:Int=>(⟨t.pc+1,t.regs.set x.reg.toNat n,t.buf⟩:zA)
 if x.op=1 then some (zpH ((gD t.buf x.var).getD at_),s.mem,s.bad)
 else if x.op=2 then(if m.model=0 then some (t1,s.mem.set v a,s.bad) else if qB t.buf m ⟨x.var,a⟩ then some (⟨t.pc+1,t.regs,jm t.buf m ⟨x.var,a⟩⟩,s.mem,s.bad) else none)
 else if x.op=3 then some (zpH a,s.mem,s.bad)
 else if x.op=4 then(if empty then some (t1,s.mem,s.bad) else none)
 else if x.op=5 then(if empty|| !decide (m.model=2) then some (t1,s.mem,s.bad) else none)
 else if x.op=6 then(if empty then(if at_=a then some (zpH 1,s.mem.set v b,s.bad) else some (zpH 0,s.mem,s.bad)) else none)
 else if x.op=7 then(if empty && decide (at_=0) then some (t1,s.mem.set v 1,s.bad) else none)
 else if x.op=8 then(if empty then some (t1,s.mem.set v 0,s.bad) else none)
 else if x.op=9 then some (t1,s.mem,s.bad||decide (a=0))
 else if x.op=12 then some (if a=0 then⟨x.dest,t.regs,t.buf⟩ else t1,s.mem,s.bad)
 else if x.op=13 then some (⟨x.dest,t.regs,t.buf⟩,s.mem,s.bad)
 else some (t1,s.mem,s.bad)
def jZ (c:zO) (m:zH) (s:zl) (i:Nat) (d:Nat):Option zl:=
 if (s.threads.getD i default).pc<((c.threads.getD i []).length:Int) then
  (stepT c m s (s.threads.getD i default) ((c.threads.getD i []).getD (s.threads.getD i default).pc.toNat default) d).map λr=>⟨s.threads.set i r.1,r.2.1,r.2.2⟩
 else none
def bM (s:zl) (i:Nat) (v:Int):zl:=
 ⟨s.threads.set i ⟨(s.threads.getD i default).pc,(s.threads.getD i default).regs,(takeB (s.threads.getD i default).buf v).2⟩,s.mem.set ((takeB (s.threads.getD i default).buf v).1.getD default).var.toNat ((takeB (s.threads.getD i default).buf v).1.getD default).n,s.bad⟩
def yY:zl:=⟨[], [],false⟩
def jD (c:zO) (m:zH) (s:zl) (x:zx) (d:Nat):zl × Int:=
 if yJ c m s then
  if 0<=x.thread/\x.thread<(s.threads.length:Int) then
   if x.kind=1/\x.var=0 then
    match jZ c m s x.thread.toNat d with
    |some t=>(t,0)
    |none=>(yY,50)
   else if x.kind=2/\x.var∈yL (s.threads.getD x.thread.toNat default).buf m.model then(bM s x.thread.toNat x.var,0)
   else(yY,50)
  else(yY,50)
 else(yY,1)
def wh (c:zO) (m:zH) (s:zl) (d:Nat) (i:Nat):List zx:=
 (if (jZ c m s i d).isSome then [⟨1,i,0⟩] else [])++(yL (s.threads.getD i default).buf m.model).map λv=>⟨2,i,v⟩
def ji (c:zO) (m:zH) (s:zl) (d:Nat):List zx:=
 if yJ c m s then(List.range s.threads.length).flatMap (wh c m s d) else []
def putAt (l:List zl) (t:zl):List zl × Nat:=if t∈l then(l,l.idxOf t) else(l++ [t],l.length)
instance:Inhabited zO:=⟨⟨0,0, []⟩⟩
theorem xS {c:zO} (h:codeOk c=true):1<=c.vars/\c.vars<=4/\2<=c.domain/\c.domain<=16/\1<=c.threads.length/\c.threads.length<=4:=by
 unfold codeOk at h
 simp only [Bool.and_eq_true,decide_eq_true_eq] at h
 exact⟨h.1.1.1.1.1.1,h.1.1.1.1.1.2,h.1.1.1.1.2,h.1.1.1.2,h.1.1.2,h.1.2⟩
theorem zhB (w:World) (c:zO) (tv:Value) (d:Nat) (h:yT d w tv c.threads):Calls Tryz.prog 46 #[yK c tv] w λe w'=>e= .returned (.bool (codeOk c))/\Below w.heap.size w w':=by
 obtain⟨ta,tc,rfl,htl⟩:=zh.slice h
 obtain⟨vars,dom,ts⟩:=c
 simp only [] at h htl ⊢
 obtain⟨n,hn⟩:∃n,n=ts.length:=⟨_,rfl⟩
 obtain⟨r,hr⟩:∃r,r=codeOk ⟨vars,dom,ts⟩:=⟨_,rfl⟩
 have hr2:r=(decide (1<=vars) && decide (vars<=4) && decide (2<=dom) && decide (dom<=16) && decide (1<=n) && decide (n<=4) && ts.all (rowOk vars dom)):=by rw [hr,hn];rfl
 rw [<-hr]
 unfold yK
 simp only []
 rw [<-hn] at h htl ⊢
 have hA:=(Below.refl w.heap.size w).alloc (Nat.le_refl _) (.cells #[.int .i64 vars, .int .i64 dom, .slice ta n tc] 24)
 have HB:=qh hA
 have H1:=qh (yh w (.cells #[.int .i64 vars, .int .i64 dom, .slice ta n tc] 24))
 have HT:=qh (zh.below (xY.stays d) h hA)
 have HR:=qh hr2
 have HN:=qh hn
 clear h hA hr hr2 hn
 go_enter Tryz.func46,Tryz.ntmps46
 go_upto_region 1 with fail
 generalize World.alloc w _=W at HB H1 HT ⊢
 obtain⟨gx,hgx⟩:∃gx,gx=w.heap.size:=⟨_,rfl⟩
 rw [<-hgx] at H1 ⊢
 clear hgx
 have HC:Hid (∀x,Below W.heap.size W x->x.cell? ⟨gx,0,none⟩=some (.int .i64 vars)/\x.cell? ⟨gx,1,none⟩=some (.int .i64 dom)/\x.cell? ⟨gx,2,none⟩=some (.slice ta n tc)):=λx hx=>⟨zi hx _ _ (ze H1.out 0),zi hx _ _ (ze H1.out 1),zi hx _ _ (ze H1.out 2)⟩
 obtain⟨c0,c1,c2⟩:=HC.out W (Below.refl _ _)
 by_cases hv:1<=vars/\vars<=4
 rotate_left
 ·obtain rfl:r=false:=by
   have:(decide (1<=vars) && decide (vars<=4))=false:=by simp;omega
   rw [HR.out,this];simp
  clear HR
  by_cases v1:vars<1
  ·clear hv
   go_wp2_with fail
   go_ret
   exact⟨by first|rfl|simp,HB.out⟩
  have v2:4<vars:=by omega
  clear hv
  go_wp2_with fail
  go_ret
  exact⟨by first|rfl|simp,HB.out⟩
 by_cases hd:2<=dom/\dom<=16
 rotate_left
 ·obtain rfl:r=false:=by
   have:(decide (2<=dom) && decide (dom<=16))=false:=by simp;omega
   rw [HR.out,Bool.and_assoc (decide (1<=vars) && decide (vars<=4)),this];simp
  clear HR
  obtain⟨v1,v2⟩:=hv
  have v1n:¬vars<1:=by omega
  have v2n:¬4<vars:=by omega
  by_cases d1:dom<2
  ·clear hd
   go_wp2_with fail
   go_ret
   exact⟨by first|rfl|simp,HB.out⟩
  have d2:16<dom:=by omega
  clear hd
  go_wp2_with fail
  go_ret
  exact⟨by first|rfl|simp,HB.out⟩
 by_cases ht:1<=n/\n<=4
 rotate_left
 ·obtain rfl:r=false:=by
   have:(decide (1<=n) && decide (n<=4))=false:=by simp;omega
   rw [HR.out,Bool.and_assoc (decide (1<=vars) && decide (vars<=4) && decide (2<=dom) && decide (dom<=16)),this];simp
  clear HR
  obtain⟨v1,v2⟩:=hv
  obtain⟨d1,d2⟩:=hd
  have v1n:¬vars<1:=by omega
  have v2n:¬4<vars:=by omega
  have d1n:¬dom<2:=by omega
  have d2n:¬16<dom:=by omega
  by_cases n1:n=0
  ·subst n1
   clear ht
   go_wp2_with fail
   go_ret
   exact⟨by first|rfl|simp,HB.out⟩
  have n1n:¬(n:Int)<1:=by omega
  have n2n:(4:Int)<(n:Int):=by omega
  clear ht
  go_wp2_with fail
  go_ret
  exact⟨by first|rfl|simp,HB.out⟩
 have HR3:Hid (r=ts.all (rowOk vars dom)):=by rw [Hid,HR.out];simp [hv.1,hv.2,hd.1,hd.2,ht.1,ht.2]
 clear HR
 obtain⟨v1,v2⟩:=hv
 obtain⟨d1,d2⟩:=hd
 obtain⟨n1,n2⟩:=ht
 have v1n:¬vars<1:=by omega
 have v2n:¬4<vars:=by omega
 have d1n:¬dom<2:=by omega
 have d2n:¬16<dom:=by omega
 have n1n:¬(n:Int)<1:=by omega
 have n2n:¬(4:Int)<(n:Int):=by omega
 go_wp2_with fail
 clear c0 c1 c2
 go_loopg [3] n (λgg s3 wr=>∃i:Nat,i<=n/\Hid (gg=n - i)/\s3= .int .i64 i/\Hid (Below W.heap.size W wr)/\Hid (∀j,j<i->rowOk vars dom (ts.getD j [])=true))
 case atStart=>exact⟨0,Nat.zero_le _,rfl,rfl,Below.refl _ _,λj hj=>by omega⟩
 case round=>
 obtain⟨i,hi,HG,rfl,HBO,HJ⟩:=hrel
 obtain⟨wo,rfl⟩:∃wo:World,wo=wr:=⟨_,rfl⟩
 obtain⟨c0,c1,c2⟩:=HC.out wo HBO.out
 by_cases hlt:i<n
 rotate_left
 ·obtain rfl:n=i:=by omega
  obtain rfl:r=true:=by
   rw [HR3.out]
   exact zbT ts [] (rowOk vars dom) (λj hj=>HJ.out j (by rw [HN.out];exact hj))
  clear HR3
  go_wp2_with fail
  go_ret
  exact⟨by first|rfl|simp,HB.out.trans (HBO.out.mono HB.out.size)⟩
 have qx:(i:Int)<(n:Int):=by omega
 obtain⟨eb,eo,ka,kc,rfl,heb,hec,hel⟩:=yT.part HT.out i (by rw [<-HN.out];exact hlt)
 obtain⟨l,hl⟩:∃l,l=ts.getD i [] :=⟨_,rfl⟩
 rw [<-hl] at hec hel
 obtain⟨ln,hln⟩:∃ln,ln=l.length:=⟨_,rfl⟩
 rw [<-hln] at hec hel
 have e0:=zi HBO.out _ _ hec
 have HL:=qh hl
 have jE:=qh hln
 have HEL:=qh hel
 clear hl hln hec hel heb
 by_cases h6:ln<=600
 rotate_left
 ·obtain rfl:r=false:=by
   rw [HR3.out]
   refine zb1 ts [] (rowOk vars dom) i (by rw [<-HN.out];exact hlt) ?_
   rw [<-HL.out]
   unfold rowOk
   rw [<-jE.out]
   simp [h6]
  clear HR3
  have h6n:(600:Int)<(ln:Int):=by omega
  go_wp2_with fail
  go_ret
  exact⟨by first|rfl|simp,HB.out.trans (HBO.out.mono HB.out.size)⟩
 have h6n:¬(600:Int)<(ln:Int):=by omega
 go_wp2_with fail
 clear c0 c1 c2 e0
 go_loopg [5] ln (λgg s5 wr=>∃q:Nat,q<=ln/\Hid (gg=ln - q)/\s5= .int .i64 q/\Hid (Below W.heap.size W wr)/\Hid (∀j,j<q->qw vars dom ln (l.getD j default)=true))
 case atStart=>exact⟨0,Nat.zero_le _,rfl,rfl,HBO.out,λj hj=>by omega⟩
 case round=>
 obtain⟨q,hq,HG2,rfl,HB2,HJ2⟩:=hrel
 by_cases hlq:q<ln
 rotate_left
 ·obtain rfl:ln=q:=by omega
  have hrow:rowOk vars dom (ts.getD i [])=true:=by
   rw [<-HL.out]
   unfold rowOk
   rw [<-jE.out,zbT l default (qw vars dom ln) (λj hj=>HJ2.out j (by rw [jE.out];exact hj))]
   simp [h6]
  have qP:=qh hrow
  clear hrow
  go_wp2_with fail
  go_roundg (n - (i+1))
  case measure=>rw [HG.out];omega
  case rel=>exact⟨i+1,by omega,rfl,by simp,HB2.out,λj hj=>by
   by_cases he:j=i
   ·subst he;exact qP.out
   exact HJ.out j (by omega)⟩
 have z4n:(q:Int)<(ln:Int):=by omega
 obtain⟨fb,fo,aa,ac,ba,bc,rfl, -,⟨x0,x1,x2⟩,⟨x3,x4,x5,x6⟩,⟨x7,x8,x9,x10⟩,wZ,xa,xb⟩:=wV.part HEL.out q (by rw [<-jE.out];exact hlq)
 obtain⟨x,hx⟩:∃x,x=l.getD q default:=⟨_,rfl⟩
 rw [<-hx] at x0 x1 x2 x3 x4 x5 x6 x7 x8 x9 x10 wZ xa xb
 have HX:=qh hx
 obtain⟨op,hop⟩:∃op,op=x.op:=⟨_,rfl⟩
 obtain⟨yI,hto⟩:∃t,t=x.dest:=⟨_,rfl⟩
 rw [<-hop] at x0
 rw [<-hto] at wZ
 have hst:qw vars dom ln x=if op=12 then qD vars dom 9 ln x else if op=13 then qD vars dom 4 ln x else if op=10\/op=11 then false else qD vars dom op 0 x:=by rw [hop];rfl
 have HST:=qh hst
 have HTO:=qh hto
 have zar:Hid (qw vars dom ln x=false->r=false):=λe=>by
  rw [HR3.out]
  refine zb1 ts [] (rowOk vars dom) i (by rw [<-HN.out];exact hlt) ?_
  rw [<-HL.out]
  unfold rowOk
  rw [<-jE.out,zb1 l default (qw vars dom ln) q (by rw [<-jE.out];exact hlq) (by rw [<-HX.out];exact e)]
  simp
 have bA:Hid (qw vars dom ln x=true->∀j,j<q+1->qw vars dom ln (l.getD j default)=true):=λe j hj=>by
  by_cases he:j=q
  ·subst he;rw [<-HX.out];exact e
  exact HJ2.out j (by omega)
 have k:=λp v h=>zi HB2.out p v h
 have CC:Hid (∀X,Below wr.heap.size wr X->X.cell? ⟨gx,0,none⟩=some (.int .i64 vars)/\X.cell? ⟨gx,1,none⟩=some (.int .i64 dom)/\X.cell? ⟨fb,fo+q*12+1,none⟩=some (.int .i64 x.reg)/\X.cell? ⟨fb,fo+q*12+2,none⟩=some (.int .i64 x.var)/\
   X.cell? ⟨fb,fo+q*12+3,none⟩=some (.int .i64 x.a.kind)/\X.cell? ⟨fb,fo+q*12+4,none⟩=some (.int .i64 x.a.n)/\X.cell? ⟨fb,fo+q*12+5,none⟩=some (.int .u8 x.a.op)/\X.cell? ⟨fb,fo+q*12+6,none⟩=some (.slice aa x.a.kids.length ac)/\
   X.cell? ⟨fb,fo+q*12+7,none⟩=some (.int .i64 x.b.kind)/\X.cell? ⟨fb,fo+q*12+8,none⟩=some (.int .i64 x.b.n)/\X.cell? ⟨fb,fo+q*12+9,none⟩=some (.int .u8 x.b.op)/\X.cell? ⟨fb,fo+q*12+10,none⟩=some (.slice ba x.b.kids.length bc)/\X.cell? ⟨fb,fo+q*12+11,none⟩=some (.int .i64 yI)):=λX hX=>
  have k2:=λp v h=>zi hX p v (k p v h)
  ⟨(HC.out X (zF HB2.out hX)).1,(HC.out X (zF HB2.out hX)).2.1,k2 _ _ x1,k2 _ _ x2,k2 _ _ x3,k2 _ _ x4,k2 _ _ x5,k2 _ _ x6,k2 _ _ x7,k2 _ _ x8,k2 _ _ x9,k2 _ _ x10,k2 _ _ wZ⟩
 have zw5:Hid (∀X,Below W.heap.size W X->∀kind:Int,Calls Tryz.prog 74 #[.int .i64 kind, .int .i64 x.reg, .int .i64 x.var, .agg #[.int .i64 x.a.kind, .int .i64 x.a.n, .int .u8 x.a.op, .slice aa x.a.kids.length ac], .agg #[.int .i64 x.b.kind, .int .i64 x.b.n, .int .u8 x.b.op, .slice ba x.b.kids.length bc], .int .i64 vars, .int .i64 dom] X λe w'=>e= .returned (.bool (qA kind x.reg x.var x.a x.b vars dom))/\Below X.heap.size X w'):=λX hX kind=>zme X kind x.reg x.var x.a x.b _ _ d (xa.below hX) (xb.below hX) vars dom
 have y0:=k _ _ x0
 have y11:=k _ _ wZ
 clear x0 x1 x2 x3 x4 x5 x6 x7 x8 x9 x10 wZ xa xb hx hop hto hst k
 by_cases o3:op=10
 ·subst o3
  obtain rfl:=zar.out (by rw [HST.out];rfl)
  clear HR3
  go_wp2_with fail
  go_ret
  exact⟨by first|rfl|simp,HB.out.trans (HB2.out.mono HB.out.size)⟩
 have b3:((op:Int)==10)=false:=by simp [o3]
 by_cases o4:op=11
 ·subst o4
  obtain rfl:=zar.out (by rw [HST.out];rfl)
  clear HR3
  go_wp2_with fail
  go_ret
  exact⟨by first|rfl|simp,HB.out.trans (HB2.out.mono HB.out.size)⟩
 have b4:((op:Int)==11)=false:=by simp [o4]
 go_upto_block 4 with fail
 go_cut [6,7] (λs6 s7 w'=>∃kind t7:Int,s6= .int .i64 kind/\s7= .int .i64 t7/\w'=wr/\Hid (qw vars dom ln x=qD vars dom kind t7 x))
 case first=>
  by_cases o1:op=12
  ·have O1:=qh o1
   have b1:((op:Int)==12)=true:=by simp [o1]
   clear o1
   go_wp2_with fail
   go_meet
   case rel=>exact⟨9,(ln:Int),by first|rfl|simp,by first|rfl|simp,rfl,by rw [Hid,HST.out,if_pos O1.out]⟩
  have b1:((op:Int)==12)=false:=by simp [o1]
  by_cases o2:op=13
  ·have O2:=qh o2
   have b2:((op:Int)==13)=true:=by simp [o2]
   clear o2
   go_wp2_with fail
   go_meet
   case rel=>exact⟨4,(ln:Int),by first|rfl|simp,by first|rfl|simp,rfl,by rw [Hid,HST.out,if_neg o1,if_pos O2.out]⟩
  have b2:((op:Int)==13)=false:=by simp [o2]
  go_wp2_with fail
  go_meet
  case rel=>exact⟨op,0,by first|rfl|simp,by first|rfl|simp,rfl,by rw [Hid,HST.out,if_neg o1,if_neg o2,if_neg (λh=>h.elim o3 o4)]⟩
 case rest=>
 obtain⟨kind,t7,rfl,rfl,hww,HFI⟩:=hcut
 obtain rfl:wr=wc:=hww.symm
 clear HST b3 b4 o3 o4
 have qz:Hid (qw vars dom ln x=(decide (1<=(kind:Int)) && decide ((kind:Int)<=9) && decide (0<=yI) && decide (yI<=t7) && qA kind x.reg x.var x.a x.b vars dom)):=by rw [Hid,HFI.out,HTO.out];rfl
 by_cases p1:1<=kind
 rotate_left
 ·skip
  have p1n:kind<1:=by omega
  obtain rfl:=zar.out (by rw [qz.out];simp [p1])
  clear HR3 qz
  go_upto_region 22 with fail
  obtain⟨z0,z1,z2,z3,z4,z5,z6,z7,z8,z9,z10,z11,z12⟩:=CC.out wr (Below.refl _ _)
  go_quiet (fail)
  go_wp2_with fail
  go_ret
  exact⟨by first|rfl|simp,HB.out.trans ((yg HB2.out _).mono HB.out.size)⟩
 skip
 have p1n:¬kind<1:=by omega
 by_cases p2:kind<=9
 rotate_left
 ·skip
  have p2n:9<kind:=by omega
  obtain rfl:=zar.out (by rw [qz.out];simp [p2])
  clear HR3 qz
  go_upto_region 22 with fail
  obtain⟨z0,z1,z2,z3,z4,z5,z6,z7,z8,z9,z10,z11,z12⟩:=CC.out wr (Below.refl _ _)
  go_quiet (fail)
  go_wp2_with fail
  go_ret
  exact⟨by first|rfl|simp,HB.out.trans ((yg HB2.out _).mono HB.out.size)⟩
 skip
 have p2n:¬9<kind:=by omega
 by_cases p3:0<=yI
 rotate_left
 ·skip
  have p3n:yI<0:=by omega
  obtain rfl:=zar.out (by rw [qz.out];simp [p3])
  clear HR3 qz
  go_upto_region 22 with fail
  obtain⟨z0,z1,z2,z3,z4,z5,z6,z7,z8,z9,z10,z11,z12⟩:=CC.out wr (Below.refl _ _)
  go_quiet (fail)
  go_wp2_with fail
  go_ret
  exact⟨by first|rfl|simp,HB.out.trans ((yg HB2.out _).mono HB.out.size)⟩
 skip
 have p3n:¬yI<0:=by omega
 by_cases p4:yI<=t7
 rotate_left
 ·skip
  have p4n:t7<yI:=by omega
  obtain rfl:=zar.out (by rw [qz.out];simp [p4])
  clear HR3 qz
  go_upto_region 22 with fail
  obtain⟨z0,z1,z2,z3,z4,z5,z6,z7,z8,z9,z10,z11,z12⟩:=CC.out wr (Below.refl _ _)
  go_quiet (fail)
  go_wp2_with fail
  go_ret
  exact⟨by first|rfl|simp,HB.out.trans ((yg HB2.out _).mono HB.out.size)⟩
 skip
 have p4n:¬t7<yI:=by omega
 obtain⟨po,hpo⟩:∃po,po=qA kind x.reg x.var x.a x.b vars dom:=⟨_,rfl⟩
 have z0U:Hid (qw vars dom ln x=po):=by rw [Hid,qz.out,hpo];simp [p3,p4,p1,p2]
 have HPO:=qh (λX (hX:Below W.heap.size W X)=>zw5.out X hX kind)
 rw [<-hpo] at HPO
 clear qz hpo zw5
 go_upto_region 22 with fail
 have hz:=HC.out wr HB2.out
 obtain⟨z0,z1,z2,z3,z4,z5,z6,z7,z8,z9,z10,z11,z12⟩:=CC.out wr (Below.refl _ _)
 refine wp_region_still_tail 49 (by kernel_rfl) (by kernel_rfl) ?_
 simp only [List.take_succ_cons,List.take_zero,List.drop_succ_cons,List.drop_zero]
 repeat still_step
 try refine wpStill_nil ?_
 change wpList _ _ _ _ _ wr.drew
 obtain⟨wd,hwd⟩:∃wd,wd=wr.drew:=⟨_,rfl⟩
 rw [<-hwd]
 have gU:Hid (Below W.heap.size W wd):=by rw [Hid,hwd];exact HB2.out.drew
 clear hwd z0 z1 z2 z3 z4 z5 z6 z7 z8 z9 z10 z11 z12 hz
 go_wp2_with fail
 refine(HPO.out wd gU.out).mono ?_
 rintro e Y ⟨rfl,hb⟩
 have jg:=qh (zF gU.out hb)
 clear hb
 cases po with
 |true=>
  go_wp2_with fail
  go_roundg (ln - (q+1))
  case measure=>rw [HG2.out];omega
  case rel=>exact⟨q+1,by omega,rfl,by simp,jg.out,bA.out z0U.out⟩
 |false=>
 obtain rfl:=zar.out z0U.out
 clear HR3 zar
 go_wp2_with fail
 go_ret
 exact⟨by first|rfl|simp,HB.out.trans (jg.out.mono HB.out.size)⟩
