/- Steps. -/
import Derived.Test.YtnhahkiojbanfaaGreatDoorRqExpr2
import Derived.Test.YtnhahkiojbanfaaGreatDoorRqKFuncs
set_option linter.all false
namespace Go.Proofs.YtnhahkiojbanfaaGreatDoor
open Go.RowKit
set_option maxRecDepth 100000
set_option maxHeartbeats 16000000
theorem zre {p:Bool} (h:true= !p):p=false:=by cases p<;>first|rfl|cases h
theorem znb {p:Bool} (h:false= !p):p=true:=by cases p<;>first|rfl|cases h
def kH (k reg:Int):Bool:=if kZ k then decide (0<=reg) && decide (reg<4) else decide (reg=0)
def vO (k v vars:Int):Bool:=if jg k then decide (0<=v) && decide (v<vars) else decide (v=0)
def jv (k:Int) (a:zG) (dom:Int):Bool:=if jG k then zH dom 20 a else xU a
def kG (k:Int) (b:zG) (dom:Int):Bool:=if hasB k then zH dom 20 b else xU b
def xH (k reg v:Int) (a b:zG) (vars dom:Int):Bool:=kH k reg && vO k v vars && jv k a dom && kG k b dom
theorem zpn (w:World) (k reg v:Int) (a b:zG) (ka kb:Value) (e:Nat) (ha:zw e w a ka) (hb:zw e w b kb) (vars dom:Int):
  Calls Tryz.prog 68 #[.int .i64 k, .int .i64 reg, .int .i64 v,yP a ka,yP b kb, .int .i64 vars, .int .i64 dom] w λe w'=>e= .returned (.bool (xH k reg v a b vars dom))/\Below w.heap.size w w':=by
 obtain⟨aa,ac,rfl, -⟩:=ha.slice
 obtain⟨ba,bc,rfl, -⟩:=hb.slice
 have HB:=qh (xQ w (.cells #[.int .i64 a.kind, .int .i64 a.n, .int .u8 a.op, .slice aa a.kids.length ac] 58) (.cells #[.int .i64 b.kind, .int .i64 b.n, .int .u8 b.op, .slice ba b.kids.length bc] 58))
 have H1:=qh (xR w (.cells #[.int .i64 a.kind, .int .i64 a.n, .int .u8 a.op, .slice aa a.kids.length ac] 58) (.cells #[.int .i64 b.kind, .int .i64 b.n, .int .u8 b.op, .slice ba b.kids.length bc] 58))
 have H2:=qh (yT w (.cells #[.int .i64 a.kind, .int .i64 a.n, .int .u8 a.op, .slice aa a.kids.length ac] 58) (.cells #[.int .i64 b.kind, .int .i64 b.n, .int .u8 b.op, .slice ba b.kids.length bc] 58))
 have HEA:Hid (∀X,Below w.heap.size w X->Calls Tryz.prog 87 #[.agg #[.int .i64 a.kind, .int .i64 a.n, .int .u8 a.op, .slice aa a.kids.length ac], .int .i64 dom] X λe w'=>e= .returned (.bool (zH dom 20 a))/\Below X.heap.size X w'):=λX hX=>zdK dom e X a _ (ha.below hX)
 have HEB:Hid (∀X,Below w.heap.size w X->Calls Tryz.prog 87 #[.agg #[.int .i64 b.kind, .int .i64 b.n, .int .u8 b.op, .slice ba b.kids.length bc], .int .i64 dom] X λe w'=>e= .returned (.bool (zH dom 20 b))/\Below X.heap.size X w'):=λX hX=>zdK dom e X b _ (hb.below hX)
 have HNA:Hid (∀X,Calls Tryz.prog 88 #[.agg #[.int .i64 a.kind, .int .i64 a.n, .int .u8 a.op, .slice aa a.kids.length ac]] X λe w'=>e= .returned (.bool (xU a))/\Below X.heap.size X w'):=λX=>zhZ X a aa ac
 have HNB:Hid (∀X,Calls Tryz.prog 88 #[.agg #[.int .i64 b.kind, .int .i64 b.n, .int .u8 b.op, .slice ba b.kids.length bc]] X λe w'=>e= .returned (.bool (xU b))/\Below X.heap.size X w'):=λX=>zhZ X b ba bc
 obtain⟨r,hr⟩:∃r,r=xH k reg v a b vars dom:=⟨_,rfl⟩
 rw [<-hr]
 have HR:Hid (r=((if kZ k then decide (0<=reg) && decide (reg<4) else decide (reg=0)) && (if jg k then decide (0<=v) && decide (v<vars) else decide (v=0)) && (if jG k then zH dom 20 a else xU a) && (if hasB k then zH dom 20 b else xU b))):=hr
 have HH:=qh (λX=>zsc X k)
 obtain⟨h0,e0⟩:∃h,h=kZ k:=⟨_,rfl⟩
 obtain⟨h1,e1⟩:∃h,h=jg k:=⟨_,rfl⟩
 obtain⟨h2,e2⟩:∃h,h=jG k:=⟨_,rfl⟩
 obtain⟨h3,e3⟩:∃h,h=hasB k:=⟨_,rfl⟩
 rw [<-e0, <-e1, <-e2, <-e3] at HR
 have bF:Hid (∀X,Calls Tryz.prog 86 #[.int .i64 k] X λe w'=>e= .returned (.agg #[.bool h0, .bool h1, .bool h2, .bool h3])/\Below X.heap.size X w'):=λX=>by rw [e0,e1,e2,e3];exact HH.out X
 unfold yP
 clear ha hb hr HH e0 e1 e2 e3
 go_enter Tryz.func68,Tryz.ntmps68
 go_upto_region 1 with fail
 generalize World.alloc (World.alloc w _) _=W at HB H1 H2 ⊢
 obtain⟨gx,hgx⟩:∃gx,gx=w.heap.size:=⟨_,rfl⟩
 rw [<-hgx] at H1 H2 ⊢
 clear hgx
 go_wp2_with fail
 refine(bF.out W).mono ?_
 rintro e X0 ⟨rfl,hb0⟩
 have HX0:=qh (zM hb0 ((Below.refl X0.heap.size X0).alloc (Nat.le_refl _) (.cells #[.bool h0, .bool h1, .bool h2, .bool h3] 160)))
 have HHB:=qh (zS X0 (.cells #[.bool h0, .bool h1, .bool h2, .bool h3] 160))
 clear hb0 bF
 go_upto_region 2 with fail
 generalize World.alloc X0 _=X at HX0 HHB ⊢
 obtain⟨hx,hhx⟩:∃hx,hx=X0.heap.size:=⟨_,rfl⟩
 rw [<-hhx] at HHB ⊢
 clear hhx
 have HC:Hid (∀x,Below X.heap.size X x->(x.cell? ⟨gx,0,none⟩=some (.int .i64 a.kind)/\x.cell? ⟨gx,1,none⟩=some (.int .i64 a.n)/\x.cell? ⟨gx,2,none⟩=some (.int .u8 a.op)/\x.cell? ⟨gx,3,none⟩=some (.slice aa a.kids.length ac))/\
   (x.cell? ⟨gx+1,0,none⟩=some (.int .i64 b.kind)/\x.cell? ⟨gx+1,1,none⟩=some (.int .i64 b.n)/\x.cell? ⟨gx+1,2,none⟩=some (.int .u8 b.op)/\x.cell? ⟨gx+1,3,none⟩=some (.slice ba b.kids.length bc))/\
   (x.cell? ⟨hx,0,none⟩=some (.bool h0)/\x.cell? ⟨hx,1,none⟩=some (.bool h1)/\x.cell? ⟨hx,2,none⟩=some (.bool h2)/\x.cell? ⟨hx,3,none⟩=some (.bool h3))):=λx hx=>
  have k:=λp v h=>zk (zM HX0.out hx) p v h
  ⟨⟨k _ _ (ze H1.out 0),k _ _ (ze H1.out 1),k _ _ (ze H1.out 2),k _ _ (ze H1.out 3)⟩,⟨k _ _ (ze H2.out 0),k _ _ (ze H2.out 1),k _ _ (ze H2.out 2),k _ _ (ze H2.out 3)⟩,⟨zk hx _ _ (ze HHB.out 0),zk hx _ _ (ze HHB.out 1),zk hx _ _ (ze HHB.out 2),zk hx _ _ (ze HHB.out 3)⟩⟩
 have xM:=qh (HB.out.trans (HX0.out.mono HB.out.size))
 clear H1 H2 HHB HB HX0
 go_cut [58] (λs58 w'=>∃q:Bool,s58= .bool q/\w'=X/\Hid (q= !((if h0 then decide (0<=reg) && decide (reg<4) else decide (reg=0)) && (if h1 then decide (0<=v) && decide (v<vars) else decide (v=0)))))
 case first=>
  obtain⟨-, -,c0,c1, -, -⟩:=HC.out X (Below.refl _ _)
  cases h0 with
  |true=>
   by_cases r1:0<=reg
   rotate_left
   ·have r1n:reg<0:=by omega
    go_wp2_with fail
    go_meet
    case rel=>exact⟨true,by first|rfl|simp,rfl,by rw [Hid];simp [r1]⟩
   have r1n:¬reg<0:=by omega
   by_cases r2:reg<4
   rotate_left
   ·have r2n:4<=reg:=by omega
    go_wp2_with fail
    go_meet
    case rel=>exact⟨true,by first|rfl|simp,rfl,by rw [Hid];simp [r1,r2]⟩
   have r2n:¬4<=reg:=by omega
   cases h1 with
   |true=>
    by_cases v1:0<=v
    ·have v1n:¬v<0:=by omega
     by_cases v2:v<vars
     ·have v2n:¬vars<=v:=by omega
      go_wp2_with fail
      go_meet
      case rel=>exact⟨false,by first|rfl|simp,rfl,by rw [Hid];simp [r1,r2,v1,v2]⟩
     have v2n:vars<=v:=by omega
     go_wp2_with fail
     go_meet
     case rel=>exact⟨true,by first|rfl|simp,rfl,by rw [Hid];simp [r1,r2,v1,v2]⟩
    have v1n:v<0:=by omega
    go_wp2_with fail
    go_meet
    case rel=>exact⟨true,by first|rfl|simp,rfl,by rw [Hid];simp [r1,r2,v1]⟩
   |false=>
   by_cases v1:v=0
   ·have v1n:((v:Int) !=0)=false:=by simp [v1]
    have V1:=qh v1
    clear v1
    go_wp2_with fail
    go_meet
    case rel=>exact⟨false,by first|rfl|simp,rfl,by rw [Hid];simp [r1,r2,V1.out]⟩
   have v1n:((v:Int) !=0)=true:=by simp [v1]
   go_wp2_with fail
   go_meet
   case rel=>exact⟨true,by first|rfl|simp,rfl,by rw [Hid];simp [r1,r2,v1]⟩
  |false=>
  by_cases r1:reg=0
  rotate_left
  ·have r1n:((reg:Int) !=0)=true:=by simp [r1]
   go_wp2_with fail
   go_meet
   case rel=>exact⟨true,by first|rfl|simp,rfl,by rw [Hid];simp [r1]⟩
  have r1n:((reg:Int) !=0)=false:=by simp [r1]
  have R1:=qh r1
  clear r1
  cases h1 with
  |true=>
   by_cases v1:0<=v
   ·have v1n:¬v<0:=by omega
    by_cases v2:v<vars
    ·have v2n:¬vars<=v:=by omega
     go_wp2_with fail
     go_meet
     case rel=>exact⟨false,by first|rfl|simp,rfl,by rw [Hid];simp [R1.out,v1,v2]⟩
    have v2n:vars<=v:=by omega
    go_wp2_with fail
    go_meet
    case rel=>exact⟨true,by first|rfl|simp,rfl,by rw [Hid];simp [R1.out,v1,v2]⟩
   have v1n:v<0:=by omega
   go_wp2_with fail
   go_meet
   case rel=>exact⟨true,by first|rfl|simp,rfl,by rw [Hid];simp [R1.out,v1]⟩
  |false=>
  by_cases v1:v=0
  ·have v1n:((v:Int) !=0)=false:=by simp [v1]
   have V1:=qh v1
   clear v1
   go_wp2_with fail
   go_meet
   case rel=>exact⟨false,by first|rfl|simp,rfl,by rw [Hid];simp [R1.out,V1.out]⟩
  have v1n:((v:Int) !=0)=true:=by simp [v1]
  go_wp2_with fail
  go_meet
  case rel=>exact⟨true,by first|rfl|simp,rfl,by rw [Hid];simp [R1.out,v1]⟩
 case rest=>
 obtain⟨q,rfl,hwq,HQ⟩:=hcut
 obtain rfl:X=wc:=hwq.symm
 cases q with
 |true=>
  have hp:=HQ.out
  obtain rfl:r=false:=by
   rw [HR.out,zre hp];rfl
  clear HR HQ hp
  go_wp2_with fail
  go_ret
  exact⟨by first|rfl|simp,xM.out⟩
 |false=>
 have HR2:Hid (r=((if h2 then zH dom 20 a else xU a) && (if h3 then zH dom 20 b else xU b))):=by
  rw [Hid,HR.out,znb HQ.out];rfl
 clear HR HQ
 go_upto_region 4 with fail
 go_cut [76] (λs76 w'=>∃q:Bool,s76= .bool q/\Hid (q= !(if h2 then zH dom 20 a else xU a))/\Hid (Below X.heap.size X w'))
 case first=>
  obtain⟨⟨a0,a1,a2,a3⟩, -, -, -,c2, -⟩:=HC.out X (Below.refl _ _)
  cases h2 with
  |true=>
   go_wp2_with fail
   refine(HEA.out X xM.out).mono ?_
   rintro e Y ⟨rfl,hby⟩
   have uN:=qh hby
   obtain⟨-, -, -, -,c2', -⟩:=HC.out Y uN.out
   clear hby a0 a1 a2 a3 c2
   cases hv:zH dom 20 a with
   |true=>
    go_wp2_with fail
    go_meet
    case rel=>exact⟨false,by first|rfl|simp,by rw [Hid];simp [hv],uN.out⟩
   |false=>
   go_wp2_with fail
   go_meet
   case rel=>exact⟨true,by first|rfl|simp,by rw [Hid];simp [hv],uN.out⟩
  |false=>
  go_wp2_with fail
  refine(HNA.out X).mono ?_
  rintro e Y ⟨rfl,hby⟩
  have uN:=qh hby
  clear hby a0 a1 a2 a3 c2
  cases hv:xU a with
  |true=>
   go_wp2_with fail
   go_meet
   case rel=>exact⟨false,by first|rfl|simp,by rw [Hid];simp [hv],uN.out⟩
  |false=>
  go_wp2_with fail
  go_meet
  case rel=>exact⟨true,by first|rfl|simp,by rw [Hid];simp [hv],uN.out⟩
 case rest=>
 obtain⟨q,rfl,HQ,HBQ⟩:=hcut
 obtain⟨Y,rfl⟩:∃Y:World,Y=wc:=⟨_,rfl⟩
 have yH:=qh (xM.out.trans (HBQ.out.mono xM.out.size))
 cases q with
 |true=>
  obtain rfl:r=false:=by
   rw [HR2.out,zre HQ.out];rfl
  clear HR2 HQ
  go_wp2_with fail
  go_ret
  exact⟨by first|rfl|simp,yH.out⟩
 |false=>
 have HR3:Hid (r=(if h3 then zH dom 20 b else xU b)):=by
  rw [Hid,HR2.out,znb HQ.out];rfl
 clear HR2 HQ
 obtain⟨-,⟨b0,b1,b2,b3⟩, -, -, -,c3⟩:=HC.out Y HBQ.out
 cases h3 with
 |true=>
  have HR4:Hid (r=zH dom 20 b):=HR3.out
  go_wp2_with fail
  refine(HEB.out Y yH.out).mono ?_
  rw [<-HR4.out]
  rintro e Z ⟨rfl,hbz⟩
  have HBZ:=qh hbz
  obtain⟨-, -, -, -, -,c3'⟩:=HC.out Z (zM HBQ.out HBZ.out)
  clear hbz b0 b1 b2 b3 c3 HR3 HR4
  cases r with
  |true=>
   go_wp2_with fail
   go_ret
   exact⟨by first|rfl|simp,yH.out.trans (HBZ.out.mono yH.out.size)⟩
  |false=>
  go_wp2_with fail
  go_ret
  exact⟨by first|rfl|simp,yH.out.trans (HBZ.out.mono yH.out.size)⟩
 |false=>
 have HR4:Hid (r=xU b):=HR3.out
 go_wp2_with fail
 refine(HNB.out Y).mono ?_
 rw [<-HR4.out]
 rintro e Z ⟨rfl,hbz⟩
 have HBZ:=qh hbz
 clear hbz b0 b1 b2 b3 c3 HR3 HR4
 cases r with
 |true=>
  go_wp2_with fail
  go_ret
  exact⟨by first|rfl|simp,yH.out.trans (HBZ.out.mono yH.out.size)⟩
 |false=>
 go_wp2_with fail
 go_ret
 exact⟨by first|rfl|simp,yH.out.trans (HBZ.out.mono yH.out.size)⟩
def evalOp (op a b:Int):Int:=
 if op=43 then wrap64 (a+b) else if op=45 then wrap64 (a - b) else if op=42 then wrap64 (a*b) else if op=38 then bits .and .i64 a b else if op=124 then bits .or .i64 a b
 else if op=60 then(if a<b then 1 else 0) else if op=61 then(if a=b then 1 else 0) else if op=33 then(if a=b then 0 else 1) else 0
def zW (regs:List Int) (dom:Int):Nat->zG->Int
 |0,_=>0
 |d+1,x=>
 if x.kind=1 then x.n
 else if x.kind=2 then(if 0<=x.n/\x.n<4 then regs.getD x.n.toNat 0 else 0)
 else if x.kind=3/\x.kids.length=2 then evalOp x.op (zW regs dom d (x.kids.getD 0 default)) (zW regs dom d (x.kids.getD 1 default)) % dom
 else 0
theorem zpo (n dom:Int) (h:1<=dom):(n.tmod dom+dom).tmod dom=n % dom:=by
 have h1:=Int.tmod_lt_of_pos n (show 0<dom by omega)
 have h2:=Int.lt_tmod_of_pos n (show 0<dom by omega)
 rw [Int.tmod_eq_emod_of_nonneg (by omega),Int.add_emod_right]
 rw [Int.tmod_def]
 rw [Int.sub_emod,Int.mul_emod_right]
 simp
theorem wrap_add {q dom:Int} (h2:q<dom) (h3: -dom<q) (h1:1<=dom) (h:dom<=1000):wrap64 (q+dom)=q+dom:=by unfold wrap64;omega
theorem zpp (w:World) (o1:Obj) (r0 r1 r2 r3:Int):∀m:Nat,m<4->((w.alloc o1).alloc (.cells #[.int .i64 r0, .int .i64 r1, .int .i64 r2, .int .i64 r3] 77)).cell? ⟨w.heap.size+1,m,none⟩=some (.int .i64 ([r0,r1,r2,r3].getD m 0)):=λm hm=>by
 rw [ze (yT w _ _) m]
 have:m=0\/m=1\/m=2\/m=3:=by omega
 rcases this with rfl|rfl|rfl|rfl<;>rfl
def xY (vars dom kind yt:Int) (x:zC):Bool:=decide (1<=kind) && decide (kind<=9) && decide (0<=x.dest) && decide (x.dest<=yt) && xH kind x.reg x.var x.a x.b vars dom
def qF (vars dom:Int) (many:Nat) (x:zC):Bool:=
 if x.op=12 then xY vars dom 9 many x else if x.op=13 then xY vars dom 4 many x else if x.op=10\/x.op=11 then false else xY vars dom x.op 0 x
def rowOk (vars dom:Int) (l:List zC):Bool:=decide (l.length<=600) && l.all (qF vars dom l.length)
def codeOk (c:zx):Bool:=decide (1<=c.vars) && decide (c.vars<=4) && decide (2<=c.domain) && decide (c.domain<=16) && decide (1<=c.threads.length) && decide (c.threads.length<=4) && c.threads.all (rowOk c.vars c.domain)
theorem zfe {α:Type} [Inhabited α] (l:List α) (d:α) (p:α->Bool) (h:∀j,j<l.length->p (l.getD j d)=true):l.all p=true:=by
 rw [List.all_eq_true]
 intro x hx
 obtain⟨j,hj,rfl⟩:=List.getElem_of_mem hx
 have:=h j hj
 rwa [List.getD_eq_getElem?_getD,List.getElem?_eq_getElem hj] at this
theorem zgz {α:Type} [Inhabited α] (l:List α) (d:α) (p:α->Bool) (j:Nat) (hj:j<l.length) (h:p (l.getD j d)=false):l.all p=false:=by
 rw [List.all_eq_false]
 rw [List.getD_eq_getElem?_getD,List.getElem?_eq_getElem hj] at h
 exact⟨l[j],List.getElem_mem hj,by simpa using h⟩
def xC (c:zx) (m:zu):Bool:=codeOk c && decide (0<=m.model) && decide (m.model<=2) && decide (1<=m.bound) && decide (m.bound<=8)
def xq (c:zx):zi:=if codeOk c then⟨List.replicate c.threads.length default,List.replicate c.vars.toNat 0,false⟩ else⟨[], [],false⟩
def vJ (c:zx) (m:zu) (l:List zl) (k:Nat):Bool:=
 qQ (l.take k) m (l.getD k default) && decide (0<=(l.getD k default).var) && decide ((l.getD k default).var<c.vars) && decide (0<=(l.getD k default).n) && decide ((l.getD k default).n<c.domain)
def qy (dom n:Int):Bool:=decide (0<=n) && decide (n<dom)
def uR (c:zx) (m:zu) (s:zi) (i:Nat):Bool:=
 decide (0<=(s.threads.getD i default).pc) && decide ((s.threads.getD i default).pc<=((c.threads.getD i []).length:Int)) &&
 (List.range 4).all (λk=>qy c.domain ((s.threads.getD i default).regs.getD k 0)) && (List.range (s.threads.getD i default).buf.length).all (vJ c m (s.threads.getD i default).buf)
def zP (c:zx) (m:zu) (s:zi):Bool:=
 xC c m && decide (s.threads.length=c.threads.length) && decide ((s.mem.length:Int)=c.vars) && (List.range s.mem.length).all (λk=>qy c.domain (s.mem.getD k 0)) && (List.range s.threads.length).all (uR c m s)
def stepT (c:zx) (m:zu) (s:zi) (t:zA) (x:zC) (d:Nat):Option (zA × List Int × Bool):=
 let a:=zW t.regs c.domain d x.a
 let b:=zW t.regs c.domain d x.b
 let t1:zA:=⟨t.pc+1,t.regs,t.buf⟩
 let empty:=decide (t.buf.length=0)
 let v:=x.var.toNat
 let at_:=s.mem.getD v 0
 let zll:=λn:Int=>(⟨t.pc+1,t.regs.set x.reg.toNat n,t.buf⟩:zA)
 if x.op=1 then some (zll ((wI t.buf x.var).getD at_),s.mem,s.bad)
 else if x.op=2 then(if m.model=0 then some (t1,s.mem.set v a,s.bad) else if qQ t.buf m ⟨x.var,a⟩ then some (⟨t.pc+1,t.regs,wP t.buf m ⟨x.var,a⟩⟩,s.mem,s.bad) else none)
 else if x.op=3 then some (zll a,s.mem,s.bad)
 else if x.op=4 then(if empty then some (t1,s.mem,s.bad) else none)
 else if x.op=5 then(if empty|| !decide (m.model=2) then some (t1,s.mem,s.bad) else none)
 else if x.op=6 then(if empty then(if at_=a then some (zll 1,s.mem.set v b,s.bad) else some (zll 0,s.mem,s.bad)) else none)
 else if x.op=7 then(if empty && decide (at_=0) then some (t1,s.mem.set v 1,s.bad) else none)
 else if x.op=8 then(if empty then some (t1,s.mem.set v 0,s.bad) else none)
 else if x.op=9 then some (t1,s.mem,s.bad||decide (a=0))
 else if x.op=12 then some (if a=0 then⟨x.dest,t.regs,t.buf⟩ else t1,s.mem,s.bad)
 else if x.op=13 then some (⟨x.dest,t.regs,t.buf⟩,s.mem,s.bad)
 else some (t1,s.mem,s.bad)
def vF (c:zx) (m:zu) (s:zi) (i:Nat) (d:Nat):Option zi:=
 if (s.threads.getD i default).pc<((c.threads.getD i []).length:Int) then
  (stepT c m s (s.threads.getD i default) ((c.threads.getD i []).getD (s.threads.getD i default).pc.toNat default) d).map λr=>⟨s.threads.set i r.1,r.2.1,r.2.2⟩
 else none
def wV (s:zi) (i:Nat) (v:Int):zi:=
 ⟨s.threads.set i ⟨(s.threads.getD i default).pc,(s.threads.getD i default).regs,(takeB (s.threads.getD i default).buf v).2⟩,s.mem.set ((takeB (s.threads.getD i default).buf v).1.getD default).var.toNat ((takeB (s.threads.getD i default).buf v).1.getD default).n,s.bad⟩
def zcC:zi:=⟨[], [],false⟩
def qD (c:zx) (m:zu) (s:zi) (x:zo) (d:Nat):zi × Int:=
 if zP c m s then
  if 0<=x.thread/\x.thread<(s.threads.length:Int) then
   if x.kind=1/\x.var=0 then
    match vF c m s x.thread.toNat d with
    |some t=>(t,0)
    |none=>(zcC,50)
   else if x.kind=2/\x.var∈yE (s.threads.getD x.thread.toNat default).buf m.model then(wV s x.thread.toNat x.var,0)
   else(zcC,50)
  else(zcC,50)
 else(zcC,1)
def wU (c:zx) (m:zu) (s:zi) (d:Nat) (i:Nat):List zo:=
 (if (vF c m s i d).isSome then [⟨1,i,0⟩] else [])++(yE (s.threads.getD i default).buf m.model).map λv=>⟨2,i,v⟩
def yF (c:zx) (m:zu) (s:zi) (d:Nat):List zo:=
 if zP c m s then(List.range s.threads.length).flatMap (wU c m s d) else []
def putAt (l:List zi) (t:zi):List zi × Nat:=if t∈l then(l,l.idxOf t) else(l++ [t],l.length)
instance:Inhabited zx:=⟨⟨0,0, []⟩⟩
theorem yQ {c:zx} (h:codeOk c=true):1<=c.vars/\c.vars<=4/\2<=c.domain/\c.domain<=16/\1<=c.threads.length/\c.threads.length<=4:=by
 unfold codeOk at h
 simp only [Bool.and_eq_true,decide_eq_true_eq] at h
 exact⟨h.1.1.1.1.1.1,h.1.1.1.1.1.2,h.1.1.1.1.2,h.1.1.1.2,h.1.1.2,h.1.2⟩
theorem zsd (w:World) (a b:Int):Calls Tryz.prog 177 #[.int .i64 a, .int .i64 b] w λe w'=>e= .returned (.int .i64 (evalOp 43 a b))/\Below w.heap.size w w':=by
 have hr:evalOp 43 a b=wrap64 (a+b):=by simp [evalOp]
 rw [hr]
 go_enter Tryz.func177,Tryz.ntmps177
 go_wp2_with fail
 go_ret
 exact⟨by first|rfl|simp,Below.refl _ _⟩
theorem zse (w:World) (a b:Int):Calls Tryz.prog 178 #[.int .i64 a, .int .i64 b] w λe w'=>e= .returned (.int .i64 (evalOp 45 a b))/\Below w.heap.size w w':=by
 have hr:evalOp 45 a b=wrap64 (a - b):=by simp [evalOp]
 rw [hr]
 go_enter Tryz.func178,Tryz.ntmps178
 go_wp2_with fail
 go_ret
 exact⟨by first|rfl|simp,Below.refl _ _⟩
theorem zsf (w:World) (a b:Int):Calls Tryz.prog 179 #[.int .i64 a, .int .i64 b] w λe w'=>e= .returned (.int .i64 (evalOp 42 a b))/\Below w.heap.size w w':=by
 have hr:evalOp 42 a b=wrap64 (a*b):=by simp [evalOp]
 rw [hr]
 go_enter Tryz.func179,Tryz.ntmps179
 go_wp2_with fail
 go_ret
 exact⟨by first|rfl|simp,Below.refl _ _⟩
theorem zsg (w:World) (a b:Int):Calls Tryz.prog 180 #[.int .i64 a, .int .i64 b] w λe w'=>e= .returned (.int .i64 (evalOp 38 a b))/\Below w.heap.size w w':=by
 have hr:evalOp 38 a b=bits .and .i64 a b:=by simp [evalOp]
 rw [hr]
 go_enter Tryz.func180,Tryz.ntmps180
 go_wp2_with fail
 go_ret
 exact⟨by first|rfl|simp,Below.refl _ _⟩
theorem zsh (w:World) (a b:Int):Calls Tryz.prog 181 #[.int .i64 a, .int .i64 b] w λe w'=>e= .returned (.int .i64 (evalOp 124 a b))/\Below w.heap.size w w':=by
 have hr:evalOp 124 a b=bits .or .i64 a b:=by simp [evalOp]
 rw [hr]
 go_enter Tryz.func181,Tryz.ntmps181
 go_wp2_with fail
 go_ret
 exact⟨by first|rfl|simp,Below.refl _ _⟩
theorem zsi (w:World) (a b:Int):Calls Tryz.prog 183 #[.int .i64 a, .int .i64 b] w λe w'=>e= .returned (.bool (decide (a<b)))/\w'=w:=by
 go_enter Tryz.func183,Tryz.ntmps183
 go_wp2_with fail
 go_ret
 exact⟨congrArg (λq=>Ending.returned (.bool q)) (by first|rfl|(rw [Bool.eq_iff_iff];simp)),rfl⟩
theorem zsj (w:World) (a b:Int):Calls Tryz.prog 184 #[.int .i64 a, .int .i64 b] w λe w'=>e= .returned (.bool (decide (a=b)))/\w'=w:=by
 go_enter Tryz.func184,Tryz.ntmps184
 go_wp2_with fail
 go_ret
 exact⟨congrArg (λq=>Ending.returned (.bool q)) (by first|rfl|(rw [Bool.eq_iff_iff];simp)),rfl⟩
theorem zsk (w:World) (a b:Int):Calls Tryz.prog 185 #[.int .i64 a, .int .i64 b] w λe w'=>e= .returned (.bool (!decide (a=b)))/\w'=w:=by
 go_enter Tryz.func185,Tryz.ntmps185
 go_wp2_with fail
 go_ret
 exact⟨congrArg (λq=>Ending.returned (.bool q)) (by first|rfl|(rw [Bool.eq_iff_iff];simp)),rfl⟩
def zvL (w:World) (op:Int) (v:Value):Prop:=∃f cap,v= .func (.func f) #[] cap/\(∀args W,(callFunc f args).run Tryz.prog W= .ok (.enter f args) W)/\
 ∀W,Below w.heap.size w W->∀a b:Int,Calls Tryz.prog f (#[.int .i64 a, .int .i64 b] ++cap) W λe W'=>e= .returned (.int .i64 (evalOp op a b))/\Below W.heap.size W W'
theorem zbK (w:World) (f:FuncId) (g:Nat) (hg:w.cell? ⟨g,0,none⟩=some (.func (.func f) #[] #[])) (hf:∀args W,(callFunc f args).run Tryz.prog W= .ok (.enter f args) W) (op a b:Int) (r:Bool) (hr:evalOp op a b=if r then 1 else 0)
  (hc:Calls Tryz.prog f #[.int .i64 a, .int .i64 b] w λe w'=>e= .returned (.bool r)/\w'=w):
  Calls Tryz.prog 188 #[.int .i64 a, .int .i64 b, .pointer (some ⟨g,0,none⟩)] w λe w'=>e= .returned (.int .i64 (evalOp op a b))/\Below w.heap.size w w':=by
 have HC:=qh hc
 have HR:=qh hr
 clear hc hr
 cases r with
 |true=>
  rw [HR.out]
  clear HR
  go_enter Tryz.func188,Tryz.ntmps188
  go_wp2_with fail
  refine HC.out.mono ?_
  rintro e w2 ⟨rfl,rfl⟩
  go_wp2_with fail
  go_ret
  exact⟨by first|rfl|simp,Below.refl _ _⟩
 |false=>
 rw [HR.out]
 clear HR
 go_enter Tryz.func188,Tryz.ntmps188
 go_wp2_with fail
 refine HC.out.mono ?_
 rintro e w2 ⟨rfl,rfl⟩
 go_wp2_with fail
 go_ret
 exact⟨by first|rfl|simp,Below.refl _ _⟩
theorem zcD (w:World) (f:FuncId):Calls Tryz.prog 182 #[.func (.func f) #[] #[]] w λe w'=>e= .returned (.func (.func 188) #[] #[.pointer (some ⟨w.heap.size,0,none⟩)])/\w'.cell? ⟨w.heap.size,0,none⟩=some (.func (.func f) #[] #[])/\w.heap.size<w'.heap.size/\Below w.heap.size w w':=by
 have HA:=qh ((Below.refl w.heap.size w).alloc (Nat.le_refl _) (.cells #[.func (.func f) #[] #[]] 187))
 have HX:=qh (zS w (.cells #[.func (.func f) #[] #[]] 187))
 go_enter Tryz.func182,Tryz.ntmps182
 go_wp2_with fail
 go_ret
 exact⟨rfl,ze HX.out 0,by simp,HA.out⟩
theorem zia (w:World) (op:Int):Calls Tryz.prog 174 #[.int .u8 op] w λe w'=>(∃v,e= .returned v/\(zvL w' op v\/(v= .nilFunc/\∀a b,evalOp op a b=0)))/\Below w.heap.size w w':=by
 by_cases o0:op=43
 ·subst o0
  go_enter Tryz.func174,Tryz.ntmps174
  go_wp2_with fail
  go_ret
  exact⟨⟨_,rfl, .inl ⟨177, #[],rfl,λ_ _=>rfl,λW _ a b=>zsd W a b⟩⟩,Below.refl _ _⟩
 skip
 by_cases o1:op=45
 ·subst o1
  clear o0
  go_enter Tryz.func174,Tryz.ntmps174
  go_wp2_with fail
  go_ret
  exact⟨⟨_,rfl, .inl ⟨178, #[],rfl,λ_ _=>rfl,λW _ a b=>zse W a b⟩⟩,Below.refl _ _⟩
 skip
 by_cases o2:op=42
 ·subst o2
  clear o0 o1
  go_enter Tryz.func174,Tryz.ntmps174
  go_wp2_with fail
  go_ret
  exact⟨⟨_,rfl, .inl ⟨179, #[],rfl,λ_ _=>rfl,λW _ a b=>zsf W a b⟩⟩,Below.refl _ _⟩
 skip
 by_cases o3:op=38
 ·subst o3
  clear o0 o1 o2
  go_enter Tryz.func174,Tryz.ntmps174
  go_wp2_with fail
  go_ret
  exact⟨⟨_,rfl, .inl ⟨180, #[],rfl,λ_ _=>rfl,λW _ a b=>zsg W a b⟩⟩,Below.refl _ _⟩
 skip
 by_cases o4:op=124
 ·subst o4
  clear o0 o1 o2 o3
  go_enter Tryz.func174,Tryz.ntmps174
  go_wp2_with fail
  go_ret
  exact⟨⟨_,rfl, .inl ⟨181, #[],rfl,λ_ _=>rfl,λW _ a b=>zsh W a b⟩⟩,Below.refl _ _⟩
 skip
 by_cases o5:op=60
 ·subst o5
  clear o0 o1 o2 o3 o4
  go_enter Tryz.func174,Tryz.ntmps174
  go_wp2_with fail
  refine(zcD w 183).mono ?_
  rintro e w2 ⟨rfl,hc,hlt,hb⟩
  have HC:=qh hc
  have HB:=qh hb
  have HLT:=qh hlt
  clear hc hb hlt
  go_wp2_with fail
  go_ret
  exact⟨⟨_,rfl, .inl ⟨188, #[.pointer (some ⟨w.heap.size,0,none⟩)],rfl,λ_ _=>rfl,λW hW a b=>zbK W 183 w.heap.size (zk hW _ _ HC.out) (λ_ _=>rfl) 60 a b (decide (a<b)) (by simp [evalOp]) (zsi W a b)⟩⟩,HB.out⟩
 skip
 by_cases o6:op=61
 ·subst o6
  clear o0 o1 o2 o3 o4 o5
  go_enter Tryz.func174,Tryz.ntmps174
  go_wp2_with fail
  refine(zcD w 184).mono ?_
  rintro e w2 ⟨rfl,hc,hlt,hb⟩
  have HC:=qh hc
  have HB:=qh hb
  have HLT:=qh hlt
  clear hc hb hlt
  go_wp2_with fail
  go_ret
  exact⟨⟨_,rfl, .inl ⟨188, #[.pointer (some ⟨w.heap.size,0,none⟩)],rfl,λ_ _=>rfl,λW hW a b=>zbK W 184 w.heap.size (zk hW _ _ HC.out) (λ_ _=>rfl) 61 a b (decide (a=b)) (by simp [evalOp]) (zsj W a b)⟩⟩,HB.out⟩
 skip
 by_cases o7:op=33
 ·subst o7
  clear o0 o1 o2 o3 o4 o5 o6
  go_enter Tryz.func174,Tryz.ntmps174
  go_wp2_with fail
  refine(zcD w 185).mono ?_
  rintro e w2 ⟨rfl,hc,hlt,hb⟩
  have HC:=qh hc
  have HB:=qh hb
  have HLT:=qh hlt
  clear hc hb hlt
  go_wp2_with fail
  go_ret
  exact⟨⟨_,rfl, .inl ⟨188, #[.pointer (some ⟨w.heap.size,0,none⟩)],rfl,λ_ _=>rfl,λW hW a b=>zbK W 185 w.heap.size (zk hW _ _ HC.out) (λ_ _=>rfl) 33 a b (!decide (a=b)) (by simp [evalOp]) (zsk W a b)⟩⟩,HB.out⟩
 have hz:∀a b,evalOp op a b=0:=λa b=>by simp [evalOp,o0,o1,o2,o3,o4,o5,o6,o7]
 have n0:((op:Int)==43)=false:=by simp [o0]
 have n1:((op:Int)==45)=false:=by simp [o1]
 have n2:((op:Int)==42)=false:=by simp [o2]
 have n3:((op:Int)==38)=false:=by simp [o3]
 have n4:((op:Int)==124)=false:=by simp [o4]
 have n5:((op:Int)==60)=false:=by simp [o5]
 have n6:((op:Int)==61)=false:=by simp [o6]
 have n7:((op:Int)==33)=false:=by simp [o7]
 have HZ:=qh hz
 clear hz o0 o1 o2 o3 o4 o5 o6 o7
 go_enter Tryz.func174,Tryz.ntmps174
 go_wp2_with fail
 go_ret
 exact⟨⟨_,rfl, .inr ⟨rfl,HZ.out⟩⟩,Below.refl _ _⟩
