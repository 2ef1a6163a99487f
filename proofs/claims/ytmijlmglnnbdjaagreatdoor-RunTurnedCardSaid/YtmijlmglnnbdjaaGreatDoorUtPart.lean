/- Steps. -/
import Derived.Test.YtmijlmglnnbdjaaGreatDoorUtEval
import Derived.Test.YtmijlmglnnbdjaaGreatDoorUtExpr2
import Derived.Test.YtmijlmglnnbdjaaGreatDoorUtHeads
set_option linter.all false
namespace Go.Proofs.YtmijlmglnnbdjaaGreatDoor
open Go.RowKit
set_option maxRecDepth 100000
set_option maxHeartbeats 16000000
theorem zzb {p:Bool} (h:true= !p):p=false:=by cases p<;>first|rfl|cases h
theorem zsZ {p:Bool} (h:false= !p):p=true:=by cases p<;>first|rfl|cases h
def zbo (k reg:Int):Bool:=if pQ k then decide (0<=reg) && decide (reg<4) else decide (reg=0)
def bT (k v vars:Int):Bool:=if uy k then decide (0<=v) && decide (v<vars) else decide (v=0)
def bU (k:Int) (a:zR) (dom:Int):Bool:=if uz k then zV dom 20 a else vK a
def zbp (k:Int) (b:zR) (dom:Int):Bool:=if hasB k then zV dom 20 b else vK b
def vg (k reg v:Int) (a b:zR) (vars dom:Int):Bool:=zbo k reg && bT k v vars && bU k a dom && zbp k b dom
theorem zlZ (w:World) (k reg v:Int) (a b:zR) (ka kb:Value) (e:Nat) (ha:zJ e w a ka) (hb:zJ e w b kb) (vars dom:Int):
  Calls Tryz.prog 78 #[I4 k,I4 reg,I4 v,qD a ka,qD b kb,I4 vars,I4 dom] w λe c=>e= .returned (.bool (vg k reg v a b vars dom))/\Below w.heap.size w c:=by
 obtain⟨L,J,rfl, -⟩:=ha.slice;obtain⟨I,H,rfl, -⟩:=hb.slice;have HB:=qh (xK w (.cells #[I4 a.kind,I4 a.n, .int .u8 a.op, .slice L a.kids.length J] 104) (.cells #[I4 b.kind,I4 b.n, .int .u8 b.op, .slice I b.kids.length H] 104));have O:=qh (xA w (.cells #[I4 a.kind,I4 a.n, .int .u8 a.op, .slice L a.kids.length J] 104) (.cells #[I4 b.kind,I4 b.n, .int .u8 b.op, .slice I b.kids.length H] 104));have N:=qh (xq w (.cells #[I4 a.kind,I4 a.n, .int .u8 a.op, .slice L a.kids.length J] 104) (.cells #[I4 b.kind,I4 b.n, .int .u8 b.op, .slice I b.kids.length H] 104))
 have HEA:J2 (∀X,Below w.heap.size w X->Calls Tryz.prog 112 #[.agg #[I4 a.kind,I4 a.n, .int .u8 a.op, .slice L a.kids.length J],I4 dom] X λe c=>e= .returned (.bool (zV dom 20 a))/\Below X.heap.size X c):=λX hX=>zhk dom e X a _ (ha.below hX);have HEB:J2 (∀X,Below w.heap.size w X->Calls Tryz.prog 112 #[.agg #[I4 b.kind,I4 b.n, .int .u8 b.op, .slice I b.kids.length H],I4 dom] X λe c=>e= .returned (.bool (zV dom 20 b))/\Below X.heap.size X c):=λX hX=>zhk dom e X b _ (hb.below hX)
 have HNA:J2 (∀X,Calls Tryz.prog 113 #[.agg #[I4 a.kind,I4 a.n, .int .u8 a.op, .slice L a.kids.length J]] X λe c=>e= .returned (.bool (vK a))/\Below X.heap.size X c):=λX=>zmu X a L J;have HNB:J2 (∀X,Calls Tryz.prog 113 #[.agg #[I4 b.kind,I4 b.n, .int .u8 b.op, .slice I b.kids.length H]] X λe c=>e= .returned (.bool (vK b))/\Below X.heap.size X c):=λX=>zmu X b I H;obtain⟨r,hr⟩:=qxE (vg k reg v a b vars dom);rw [<-hr]
 have s:J2 (r=((if pQ k then decide (0<=reg) && decide (reg<4) else decide (reg=0)) && (if uy k then decide (0<=v) && decide (v<vars) else decide (v=0)) && (if uz k then zV dom 20 a else vK a) && (if hasB k then zV dom 20 b else vK b))):=hr;have HH:=qh (λX=>z08 X k);obtain⟨R,e0⟩:=qxE (pQ k);obtain⟨G,e1⟩:=qxE (uy k);obtain⟨F,e2⟩:=qxE (uz k);obtain⟨E,e3⟩:=qxE (hasB k);rw [<-e0, <-e1, <-e2, <-e3] at s;have HH2:J2 (∀X,Calls Tryz.prog 111 #[I4 k] X λe c=>e= .returned (.agg #[.bool R, .bool G, .bool F, .bool E])/\Below X.heap.size X c):=λX=>by rw [e0,e1,e2,e3];exact HH.o X
 unfold qD;clear ha hb hr HH e0 e1 e2 e3;go_enter Tryz.func78,Tryz.ntmps78
 go_upto_region 1 with fail
 generalize World.alloc (World.alloc w _) _=W at HB O N ⊢;obtain⟨B,T⟩:=qxE w.heap.size;rw [<-T] at O N ⊢;clear T;go_wp2_with fail
 refine(HH2.o W).mono ?_
 rintro e K ⟨rfl,U⟩;have u:=qh (zy U ((Below.refl K.heap.size K).alloc (Nat.le_refl _) (.cells #[.bool R, .bool G, .bool F, .bool E] 182)));have f:=qh (zQ K (.cells #[.bool R, .bool G, .bool F, .bool E] 182));clear U HH2;go_upto_region 2 with fail
 generalize World.alloc K _=X at u f ⊢;obtain⟨hx,S⟩:=qxE K.heap.size;rw [<-S] at f ⊢;clear S
 have HC:J2 (∀x,Below X.heap.size X x->(K3 x B 0 (I4 a.kind)/\K3 x B 1 (I4 a.n)/\K3 x B 2 (.int .u8 a.op)/\K3 x B 3 (.slice L a.kids.length J))/\
   (x.cell? ⟨B+1,0,none⟩=some (I4 b.kind)/\x.cell? ⟨B+1,1,none⟩=some (I4 b.n)/\x.cell? ⟨B+1,2,none⟩=some (.int .u8 b.op)/\x.cell? ⟨B+1,3,none⟩=some (.slice I b.kids.length H))/\
   (x.cell? ⟨hx,0,none⟩=some (.bool R)/\x.cell? ⟨hx,1,none⟩=some (.bool G)/\x.cell? ⟨hx,2,none⟩=some (.bool F)/\x.cell? ⟨hx,3,none⟩=some (.bool E))):=λx hx=>
  have k:=λp v h=>zl (zy u.o hx) p v h
  ⟨⟨k _ _ (ze O.o 0),k _ _ (ze O.o 1),k _ _ (ze O.o 2),k _ _ (ze O.o 3)⟩,⟨k _ _ (ze N.o 0),k _ _ (ze N.o 1),k _ _ (ze N.o 2),k _ _ (ze N.o 3)⟩,⟨zl hx _ _ (ze f.o 0),zl hx _ _ (ze f.o 1),zl hx _ _ (ze f.o 2),zl hx _ _ (ze f.o 3)⟩⟩
 have yh:=qh (HB.o.trans (u.o.mono HB.o.size));clear O N f HB u;go_cut [58] (λs58 c=>∃q:Bool,s58= .bool q/\c=X/\J2 (q= !((if R then decide (0<=reg) && decide (reg<4) else decide (reg=0)) && (if G then decide (0<=v) && decide (v<vars) else decide (v=0)))))
 case first=>
  obtain⟨-, -,c0,c1, -, -⟩:=HC.o X (Below.refl _ _);cases R with
  |true=>
   by_cases r1:0<=reg
   rotate_left
   ·have D:reg<0:=by omega
    go_wp2_with fail
    go_meet
    case rel=>exact⟨true,by first|rfl|simp,rfl,by rw [J2];simp [r1]⟩
   have D:¬reg<0:=by omega
   by_cases r2:reg<4
   rotate_left
   ·have r2n:4<=reg:=by omega
    go_wp2_with fail
    go_meet
    case rel=>exact⟨true,by first|rfl|simp,rfl,by rw [J2];simp [r1,r2]⟩
   have r2n:¬4<=reg:=by omega
   cases G with
   |true=>
    by_cases v1:0<=v
    ·have d:¬v<0:=by omega
     by_cases v2:v<vars
     ·have C:¬vars<=v:=by omega
      go_wp2_with fail
      go_meet
      case rel=>exact⟨false,by first|rfl|simp,rfl,by rw [J2];simp [r1,r2,v1,v2]⟩
     have C:vars<=v:=by omega
     go_wp2_with fail
     go_meet
     case rel=>exact⟨true,by first|rfl|simp,rfl,by rw [J2];simp [r1,r2,v1,v2]⟩
    have d:v<0:=by omega
    go_wp2_with fail
    go_meet
    case rel=>exact⟨true,by first|rfl|simp,rfl,by rw [J2];simp [r1,r2,v1]⟩
   |false=>
   by_cases v1:v=0
   ·have d:((v:Int) !=0)=false:=by simp [v1]
    have V1:=qh v1;clear v1;go_wp2_with fail
    go_meet
    case rel=>exact⟨false,by first|rfl|simp,rfl,by rw [J2];simp [r1,r2,V1.o]⟩
   have d:((v:Int) !=0)=true:=by simp [v1]
   go_wp2_with fail
   go_meet
   case rel=>exact⟨true,by first|rfl|simp,rfl,by rw [J2];simp [r1,r2,v1]⟩
  |false=>
  by_cases r1:reg=0
  rotate_left
  ·have D:((reg:Int) !=0)=true:=by simp [r1]
   go_wp2_with fail
   go_meet
   case rel=>exact⟨true,by first|rfl|simp,rfl,by rw [J2];simp [r1]⟩
  have D:((reg:Int) !=0)=false:=by simp [r1]
  have Q:=qh r1;clear r1;cases G with
  |true=>
   by_cases v1:0<=v
   ·have d:¬v<0:=by omega
    by_cases v2:v<vars
    ·have C:¬vars<=v:=by omega
     go_wp2_with fail
     go_meet
     case rel=>exact⟨false,by first|rfl|simp,rfl,by rw [J2];simp [Q.o,v1,v2]⟩
    have C:vars<=v:=by omega
    go_wp2_with fail
    go_meet
    case rel=>exact⟨true,by first|rfl|simp,rfl,by rw [J2];simp [Q.o,v1,v2]⟩
   have d:v<0:=by omega
   go_wp2_with fail
   go_meet
   case rel=>exact⟨true,by first|rfl|simp,rfl,by rw [J2];simp [Q.o,v1]⟩
  |false=>
  by_cases v1:v=0
  ·have d:((v:Int) !=0)=false:=by simp [v1]
   have V1:=qh v1;clear v1;go_wp2_with fail
   go_meet
   case rel=>exact⟨false,by first|rfl|simp,rfl,by rw [J2];simp [Q.o,V1.o]⟩
  have d:((v:Int) !=0)=true:=by simp [v1]
  go_wp2_with fail
  go_meet
  case rel=>exact⟨true,by first|rfl|simp,rfl,by rw [J2];simp [Q.o,v1]⟩
 case rest=>
 obtain⟨q,rfl,hwq,A⟩:=hcut;obtain rfl:X=wc:=hwq.symm;cases q with
 |true=>
  have hp:=A.o
  obtain rfl:r=false:=by
   rw [s.o,zzb hp];rfl
  clear s A hp;go_wp2_with fail
  go_ret;exact⟨by first|rfl|simp,yh.o⟩
 |false=>
 have z:J2 (r=((if F then zV dom 20 a else vK a) && (if E then zV dom 20 b else vK b))):=by
  rw [J2,s.o,zsZ A.o];rfl
 clear s A;go_upto_region 4 with fail
 go_cut [76] (λs76 c=>∃q:Bool,s76= .bool q/\J2 (q= !(if F then zV dom 20 a else vK a))/\J2 (Below X.heap.size X c))
 case first=>
  obtain⟨⟨a0,a1,a2,a3⟩, -, -, -,c2, -⟩:=HC.o X (Below.refl _ _);cases F with
  |true=>
   go_wp2_with fail
   refine(HEA.o X yh.o).mono ?_
   rintro e Y ⟨rfl,j⟩;have P:=qh j;obtain⟨-, -, -, -,c2', -⟩:=HC.o Y P.o;clear j a0 a1 a2 a3 c2;cases hv:zV dom 20 a with
   |true=>
    go_wp2_with fail
    go_meet
    case rel=>exact⟨false,by first|rfl|simp,by rw [J2];simp [hv],P.o⟩
   |false=>
   go_wp2_with fail
   go_meet
   case rel=>exact⟨true,by first|rfl|simp,by rw [J2];simp [hv],P.o⟩
  |false=>
  go_wp2_with fail
  refine(HNA.o X).mono ?_
  rintro e Y ⟨rfl,j⟩;have P:=qh j;clear j a0 a1 a2 a3 c2;cases hv:vK a with
  |true=>
   go_wp2_with fail
   go_meet
   case rel=>exact⟨false,by first|rfl|simp,by rw [J2];simp [hv],P.o⟩
  |false=>
  go_wp2_with fail
  go_meet
  case rel=>exact⟨true,by first|rfl|simp,by rw [J2];simp [hv],P.o⟩
 case rest=>
 obtain⟨q,rfl,A,M⟩:=hcut;obtain⟨Y,rfl⟩:=qxE (wc:World);have m:=qh (yh.o.trans (M.o.mono yh.o.size));cases q with
 |true=>
  obtain rfl:r=false:=by
   rw [z.o,zzb A.o];rfl
  clear z A;go_wp2_with fail
  go_ret;exact⟨by first|rfl|simp,m.o⟩
 |false=>
 have y:J2 (r=(if E then zV dom 20 b else vK b)):=by
  rw [J2,z.o,zsZ A.o];rfl
 clear z A;obtain⟨-,⟨b0,b1,b2,b3⟩, -, -, -,c3⟩:=HC.o Y M.o;cases E with
 |true=>
  have l:J2 (r=zV dom 20 b):=y.o;go_wp2_with fail
  refine(HEB.o Y m.o).mono ?_
  rw [<-l.o];rintro e Z ⟨rfl,i⟩;have g:=qh i;obtain⟨-, -, -, -, -,c3'⟩:=HC.o Z (zy M.o g.o);clear i b0 b1 b2 b3 c3 y l;cases r with
  |true=>
   go_wp2_with fail
   go_ret;exact⟨by first|rfl|simp,m.o.trans (g.o.mono m.o.size)⟩
  |false=>
  go_wp2_with fail
  go_ret;exact⟨by first|rfl|simp,m.o.trans (g.o.mono m.o.size)⟩
 |false=>
 have l:J2 (r=vK b):=y.o;go_wp2_with fail
 refine(HNB.o Y).mono ?_
 rw [<-l.o];rintro e Z ⟨rfl,i⟩;have g:=qh i;clear i b0 b1 b2 b3 c3 y l;cases r with
 |true=>
  go_wp2_with fail
  go_ret;exact⟨by first|rfl|simp,m.o.trans (g.o.mono m.o.size)⟩
 |false=>
 go_wp2_with fail
 go_ret;exact⟨by first|rfl|simp,m.o.trans (g.o.mono m.o.size)⟩
def jf (vars dom kind yT:Int) (x:yg):Bool:=decide (1<=kind) && decide (kind<=9) && decide (0<=x.dest) && decide (x.dest<=yT) && vg kind x.reg x.var x.a x.b vars dom
def qH (vars dom:Int) (many:Nat) (x:yg):Bool:=
 if x.op=12 then jf vars dom 9 many x else if x.op=13 then jf vars dom 4 many x else if x.op=10\/x.op=11 then false else jf vars dom x.op 0 x
def rowOk (vars dom:Int) (l:List yg):Bool:=decide (l.length<=600) && l.all (qH vars dom l.length)
def codeOk (c:zG):Bool:=decide (1<=c.vars) && decide (c.vars<=4) && decide (2<=c.domain) && decide (c.domain<=16) && decide (1<=c.threads.length) && decide (c.threads.length<=4) && c.threads.all (rowOk c.vars c.domain)
theorem zeS {α:Type} [Inhabited α] (l:List α) (d:α) (p:α->Bool) (h:∀j,j<l.length->p (l.getD j d)=true):l.all p=true:=by
 rw [List.all_eq_true];intro x hx;obtain⟨j,b,rfl⟩:=List.getElem_of_mem hx;have:=h j b
 rwa [List.getD_eq_getElem?_getD,List.getElem?_eq_getElem b] at this
theorem zcj {α:Type} [Inhabited α] (l:List α) (d:α) (p:α->Bool) (j:Nat) (b:j<l.length) (h:p (l.getD j d)=false):l.all p=false:=by
 rw [List.all_eq_false];rw [List.getD_eq_getElem?_getD,List.getElem?_eq_getElem b] at h;exact⟨l[j],List.getElem_mem b,by simpa using h⟩
def jU (c:zG) (m:zC):Bool:=codeOk c && decide (0<=m.model) && decide (m.model<=2) && decide (1<=m.bound) && decide (m.bound<=8)
def vM (c:zG):zo:=if codeOk c then⟨List.replicate c.threads.length default,List.replicate c.vars.toNat 0,false⟩ else⟨[], [],false⟩
def qF (c:zG) (m:zC) (l:List zq) (k:Nat):Bool:=
 qM (l.take k) m (l.getD k default) && decide (0<=(l.getD k default).var) && decide ((l.getD k default).var<c.vars) && decide (0<=(l.getD k default).n) && decide ((l.getD k default).n<c.domain)
def xJ (dom n:Int):Bool:=decide (0<=n) && decide (n<dom)
def vE (c:zG) (m:zC) (s:zo) (i:Nat):Bool:=
 decide (0<=(s.threads.getD i default).pc) && decide ((s.threads.getD i default).pc<=((c.threads.getD i []).length:Int)) &&
 (List.range 4).all (λk=>xJ c.domain ((s.threads.getD i default).regs.getD k 0)) && (List.range (s.threads.getD i default).buf.length).all (qF c m (s.threads.getD i default).buf)
def yJ (c:zG) (m:zC) (s:zo):Bool:=
 jU c m && decide (s.threads.length=c.threads.length) && decide ((s.mem.length:Int)=c.vars) && (List.range s.mem.length).all (λk=>xJ c.domain (s.mem.getD k 0)) && (List.range s.threads.length).all (vE c m s)
def stepT (c:zG) (m:zC) (s:zo) (t:zD) (x:yg) (d:Nat):Option (zD × List Int × Bool):=
 let a:=yF t.regs c.domain d x.a
 let b:=yF t.regs c.domain d x.b
 let t1:zD:=⟨t.pc+1,t.regs,t.buf⟩
 let empty:=decide (t.buf.length=0)
 let v:=x.var.toNat
 let at_:=s.mem.getD v 0
 let zql:=λn:Int=>(⟨t.pc+1,t.regs.set x.reg.toNat n,t.buf⟩:zD)
 if x.op=1 then some (zql ((uo t.buf x.var).getD at_),s.mem,s.bad)
 else if x.op=2 then(if m.model=0 then some (t1,s.mem.set v a,s.bad) else if qM t.buf m ⟨x.var,a⟩ then some (⟨t.pc+1,t.regs,jQ t.buf m ⟨x.var,a⟩⟩,s.mem,s.bad) else none)
 else if x.op=3 then some (zql a,s.mem,s.bad)
 else if x.op=4 then(if empty then some (t1,s.mem,s.bad) else none)
 else if x.op=5 then(if empty|| !decide (m.model=2) then some (t1,s.mem,s.bad) else none)
 else if x.op=6 then(if empty then(if at_=a then some (zql 1,s.mem.set v b,s.bad) else some (zql 0,s.mem,s.bad)) else none)
 else if x.op=7 then(if empty && decide (at_=0) then some (t1,s.mem.set v 1,s.bad) else none)
 else if x.op=8 then(if empty then some (t1,s.mem.set v 0,s.bad) else none)
 else if x.op=9 then some (t1,s.mem,s.bad||decide (a=0))
 else if x.op=12 then some (if a=0 then⟨x.dest,t.regs,t.buf⟩ else t1,s.mem,s.bad)
 else if x.op=13 then some (⟨x.dest,t.regs,t.buf⟩,s.mem,s.bad)
 else some (t1,s.mem,s.bad)
def kQ (c:zG) (m:zC) (s:zo) (i:Nat) (d:Nat):Option zo:=
 if (s.threads.getD i default).pc<((c.threads.getD i []).length:Int) then
  (stepT c m s (s.threads.getD i default) ((c.threads.getD i []).getD (s.threads.getD i default).pc.toNat default) d).map λr=>⟨s.threads.set i r.1,r.2.1,r.2.2⟩
 else none
def pR (s:zo) (i:Nat) (v:Int):zo:=
 ⟨s.threads.set i ⟨(s.threads.getD i default).pc,(s.threads.getD i default).regs,(takeB (s.threads.getD i default).buf v).2⟩,s.mem.set ((takeB (s.threads.getD i default).buf v).1.getD default).var.toNat ((takeB (s.threads.getD i default).buf v).1.getD default).n,s.bad⟩
def qj:zo:=⟨[], [],false⟩
def jR (c:zG) (m:zC) (s:zo) (x:zw) (d:Nat):zo × Int:=
 if yJ c m s then
  if 0<=x.thread/\x.thread<(s.threads.length:Int) then
   if x.kind=1/\x.var=0 then
    match kQ c m s x.thread.toNat d with
    |some t=>(t,0)
    |none=>(qj,50)
   else if x.kind=2/\x.var∈yX (s.threads.getD x.thread.toNat default).buf m.model then(pR s x.thread.toNat x.var,0)
   else(qj,50)
  else(qj,50)
 else(qj,1)
def wE (c:zG) (m:zC) (s:zo) (d:Nat) (i:Nat):List zw:=
 (if (kQ c m s i d).isSome then [⟨1,i,0⟩] else [])++(yX (s.threads.getD i default).buf m.model).map λv=>⟨2,i,v⟩
def xL (c:zG) (m:zC) (s:zo) (d:Nat):List zw:=
 if yJ c m s then(List.range s.threads.length).flatMap (wE c m s d) else []
instance:Inhabited zG:=⟨⟨0,0, []⟩⟩
theorem xY {c:zG} (h:codeOk c=true):1<=c.vars/\c.vars<=4/\2<=c.domain/\c.domain<=16/\1<=c.threads.length/\c.threads.length<=4:=by
 unfold codeOk at h;simp only [Bool.and_eq_true,decide_eq_true_eq] at h;exact⟨h.1.1.1.1.1.1,h.1.1.1.1.1.2,h.1.1.1.1.2,h.1.1.1.2,h.1.1.2,h.1.2⟩
end Go.Proofs.YtmijlmglnnbdjaaGreatDoor
namespace Go.Proofs.YtmijlmglnnbdjaaGreatDoor
open Go.RowKit
set_option maxRecDepth 100000
set_option maxHeartbeats 16000000
def yu:List zD->List Value->List Value
 | [],_=> []
 |t::l,bs=>t.cells (bs.getD 0 (N7))++yu l (bs.drop 1)
theorem wI (t:zD) (b:Value):(t.cells b).length=6:=rfl
theorem uF (l:List zD):∀bs,(yu l bs).length=l.length*6:=by
 induction l with
 |nil=>intro bs;rfl
 |cons t l ih=>intro bs;simp only [yu,List.length_append,wI,List.length_cons];rw [ih];omega
theorem je:∀ {l:List zD} {bs:List Value} {j i:Nat},j<l.length->i<6->(yu l bs)[j*6+i]? =((l.getD j default).cells (bs.getD j (N7)))[i]? :=by
 intro l;induction l with
 |nil=>intro bs j i b;simp at b
 |cons t l ih=>
 intro bs j i b c;unfold yu;cases j with
 |zero=>rw [Nat.zero_mul,Nat.zero_add,List.getElem?_append_left (by rw [wI];exact c)];rfl
 |succ j=>
 rw [List.getElem?_append_right (by rw [wI,Nat.add_mul];omega),wI,show(j+1)*6+i - 6=j*6+i by rw [Nat.add_mul];omega]
 rw [ih (by simpa using b) c];simp [List.getD_eq_getElem?_getD]
theorem zd7 (l:List zD) (t:zD) (b:Value):∀bs:List Value,bs.length=l.length->yu (l++ [t]) (bs++ [b])=yu l bs++t.cells b:=by
 induction l with
 |nil=>
  intro bs h;obtain rfl:bs= [] :=List.eq_nil_of_length_eq_zero h;simp [yu]
 |cons u l ih=>
 intro bs h;cases bs with
 |nil=>simp at h
 |cons b0 bs=>
 have c:=ih bs (by simpa using h);simp only [List.cons_append,yu,List.getD_cons_zero,List.drop_one,List.tail_cons,c,List.append_assoc]
structure OwnAt (B:Nat) (X:World) (tv mv:Value) (ts:List zD) (mem:List Int) (bs:List Value):Prop where
 row:X.ownsRow B 75 6 tv ts.length (yu ts bs)
 mem:X.ownsRow B 3 1 mv mem.length (zx xI mem)
 regs:∀j,j<ts.length->(ts.getD j default).regs.length=4
 len:bs.length=ts.length
 buf:∀j,j<ts.length->X.ownsRow B 116 2 (bs.getD j (N7)) (ts.getD j default).buf.length (zx zq.cells (ts.getD j default).buf)
 ne:∀j,j<ts.length->∀k,(bs.getD j (N7)).ownBlock=some k->tv.ownBlock≠some k/\mv.ownBlock≠some k
 dis:∀k,tv.ownBlock=some k->mv.ownBlock≠some k
 one:∀i j,i<ts.length->j<ts.length->i≠j->∀k,(bs.getD i (N7)).ownBlock=some k->(bs.getD j (N7)).ownBlock≠some k
theorem zqm {t:zD} {b:Value} (d:b.oneCell'=true):∀u∈t.cells b,u.oneCell'=true:=by
 intro u c;simp only [zD.cells,List.mem_cons,List.not_mem_nil,or_false] at c;rcases c with rfl|rfl|rfl|rfl|rfl|rfl<;>first|rfl|exact d
theorem OwnAt.state {B:Nat} {X:World} {tv mv:Value} {ts:List zD} {mem:List Int} {bs:List Value} (h:OwnAt B X tv mv ts mem bs) (bad:Bool):yD X ⟨ts,mem,bad⟩ tv mv:=
 ⟨zh.jB h.row λj b=>⟨(ts.getD j default).cells (bs.getD j (N7)),wI _ _,λ_ c=>je b c,h.regs j b,_,rfl,wQ (h.buf j b)⟩,zal h.mem⟩
theorem OwnAt.below {B:Nat} {X c:World} {tv mv:Value} {ts:List zD} {mem:List Int} {bs:List Value} (h:OwnAt B X tv mv ts mem bs) (b:Below X.heap.size X c):OwnAt B c tv mv ts mem bs:=
 ⟨xD h.row b,xD h.mem b,h.regs,h.len,λj d=>xD (h.buf j d) b,h.ne,h.dis,h.one⟩
theorem OwnAt.lower {B C:Nat} {X:World} {tv mv:Value} {ts:List zD} {mem:List Int} {bs:List Value} (h:OwnAt B X tv mv ts mem bs) (b:C<=B):OwnAt C X tv mv ts mem bs:=
 ⟨xO h.row b,xO h.mem b,h.regs,h.len,λj c=>xO (h.buf j c) b,h.ne,h.dis,h.one⟩
theorem OwnAt.since {F:Nat->Prop} {B:Nat} {X d:World} {tv mv:Value} {ts:List zD} {mem:List Int} {bs:List Value} (h:OwnAt B X tv mv ts mem bs) (b:Since F X d) (i:∀k,tv.ownBlock=some k->¬F k) (g:∀k,mv.ownBlock=some k->¬F k)
  (f:∀j,j<ts.length->∀k,(bs.getD j (N7)).ownBlock=some k->¬F k):OwnAt B d tv mv ts mem bs:=
 ⟨b.row h.row i,b.row h.mem g,h.regs,h.len,λj c=>b.row (h.buf j c) (f j c),h.ne,h.dis,h.one⟩
structure jl (W X:World) (gb:Nat) (tv mv:Value) (bad:Bool) (ts:List zD) (mem:List Int) (bs:List Value):Prop where
 own:OwnAt W.heap.size X tv mv ts mem bs
 box:X.heap[gb]? =some (.cells #[tv,mv, .bool bad] 61 (0,0))
 below:Below W.heap.size W X
 lo:W.heap.size<=gb
 n1:tv.ownBlock≠some gb
 n2:mv.ownBlock≠some gb
 n3:∀j,j<ts.length->(bs.getD j (N7)).ownBlock≠some gb
theorem uQ {α:Type} {l:List α} {x d:α} {j:Nat} (b:j<l.length+1):(l++ [x]).getD j d=if j=l.length then x else l.getD j d:=by
 simp only [List.getD_eq_getElem?_getD];by_cases h:j=l.length
 ·subst h;simp
 rw [if_neg h,List.getElem?_append_left (by omega)]
theorem jl.push {W X N M y:World} {gb E:Nat} {tv mv d A:Value} {bad:Bool} {ts:List zD} {mem:List Int} {bs:List Value} {t:zD} (h:jl W X gb tv mv bad ts mem bs) (U:t.regs.length=4)
  (x:Since (λ_=>False) X N) (R:N.ownsRow W.heap.size 116 2 A t.buf.length (zx zq.cells t.buf)) (r:∀k,A.ownBlock=some k->X.heap.size<=k/\k≠E) (o:Since (λk=>k=E) N M) (Y:X.heap.size<=E)
  (B:y.ownsRow W.heap.size 75 6 d (ts.length+1) (yu ts bs++t.cells A)) (m:Since (λk=>tv.ownBlock=some k) M y) (C:∀k,d.ownBlock=some k->tv.ownBlock=some k\/k=M.heap.size):
  jl W (y.setCell ⟨gb,0,none⟩ d) gb d mv bad (ts++ [t]) mem (bs++ [A]):=by
 have I:gb<X.heap.size:=zA h.box;have J:=x.size;have Q:=o.size;have K:=m.size
 have L:∀k,k<X.heap.size->tv.ownBlock≠some k->y.heap[k]? =X.heap[k]? :=λk b G=>
  (m.block k (by omega) G).trans ((o.block k (by omega) (by omega)).trans (x.block k b (λe=>e)))
 have T:y.heap[gb]? =some (.cells #[tv,mv, .bool bad] 61 (0,0)):=(L gb I h.n1).trans h.box
 have q:∀ {e size v n xs},X.ownsRow W.heap.size e size v n xs->(∀k,v.ownBlock=some k->tv.ownBlock≠some k)->y.ownsRow W.heap.size e size v n xs:=λO Z=>
  m.row (o.row (x.row O (λ_ _ e=>e)) (λk b e=>by have:=(O.lt k b).2;omega)) Z
 have D:y.ownsRow W.heap.size 116 2 A t.buf.length (zx zq.cells t.buf):=m.row (o.row R (λk b=>(r k b).2)) (λk b e=>by have:=(r k b).1;have:=(h.own.row.lt k e).2;omega)
 have l:Since (λk=>k=gb) y (y.setCell ⟨gb,0,none⟩ d):=Since.setCell (F:=λk=>k=gb) (p:=⟨gb,0,none⟩) (Since.refl _ _) (.inl rfl) _
 have z:d.ownBlock≠some gb:=λe=>by
  rcases C _ e with u|u
  ·exact h.n1 u
  omega
 have c:=h.own.len
 have g:∀k,A.ownBlock=some k->d.ownBlock≠some k/\mv.ownBlock≠some k/\k≠gb:=λk b=>by
  have S:=(r k b).1;refine⟨λe=> ?_,λe=>by have:=(h.own.mem.lt k e).2;omega,by omega⟩
  rcases C _ e with u|u
  ·have:=(h.own.row.lt k u).2;omega
  have:=(R.lt k b).2;omega
 refine⟨⟨?_, ?_, ?_, ?_, ?_, ?_, ?_, ?_⟩, ?_, ?_,h.lo,z,h.n2, ?_⟩
 ·rw [List.length_append,zd7 _ _ _ _ c];exact l.row B (λk b e=>z (e ▸ b))
 ·exact l.row (q h.own.mem (λk b e=>h.own.dis k e b)) (λk b e=>h.n2 (e ▸ b))
 ·intro j f;rw [List.length_append,List.length_singleton] at f;rw [uQ f];split
  ·exact U
  exact h.own.regs j (by omega)
 ·simp [c]
 ·intro j f;rw [List.length_append,List.length_singleton] at f;rw [uQ f,uQ (by rw [c];exact f),c];split
  ·exact l.row D (λk b e=>(g k b).2.2 e)
  exact l.row (q (h.own.buf j (by omega)) (λk b=>(h.own.ne j (by omega) k b).1)) (λk b e=>h.n3 j (by omega) (e ▸ b))
 ·intro j f k b;rw [List.length_append,List.length_singleton] at f;rw [uQ (by rw [c];exact f),c] at b;split at b
  ·exact⟨(g k b).1,(g k b).2.1⟩
  refine⟨λe=> ?_,(h.own.ne j (by omega) k b).2⟩
  rcases C _ e with u|u
  ·exact(h.own.ne j (by omega) k b).1 u
  have:=((h.own.buf j (by omega)).lt k b).2;omega
 ·intro k b e;rcases C _ b with u|u
  ·exact h.own.dis k u e
  have:=(h.own.mem.lt k e).2;omega
 ·intro i j P f H k b;rw [List.length_append,List.length_singleton] at P f;rw [uQ (by rw [c];exact P),c] at b;rw [uQ (by rw [c];exact f),c];split at b
  ·rw [if_neg (by omega)];intro e;have S:=(r k b).1;have a:=((h.own.buf j (by omega)).lt k e).2;omega
  split
  ·intro e;have S:=(r k e).1;have a:=((h.own.buf i (by omega)).lt k b).2;omega
  exact h.own.one i j (by omega) (by omega) H k b
 ·have:=zu T 0 d
  simpa using this
 ·exact h.below.trans ((((x.below h.below.size (λ_ e=>e.elim)).trans (o.below (Nat.le_trans h.below.size J) (λk e=>by have:=h.below.size;omega))).trans (m.below (by have:=h.below.size;omega) (λk b=>(h.own.row.lt k b).1))).trans (l.below (by have:=h.below.size;omega) (λk e=>by have:=h.lo;omega)))
 intro j f;rw [List.length_append,List.length_singleton] at f;rw [uQ (by rw [c];exact f),c];split
 ·exact λe=>(g gb e).2.2 rfl
 exact h.n3 j (by omega)
theorem zbv (w:World) (d c b:Obj):Below w.heap.size w (((w.alloc d).alloc c).alloc b):=(xK w d c).alloc (by simp;omega) b
theorem zbw (w:World) (b c d:Obj):(((w.alloc b).alloc c).alloc d).heap[w.heap.size]? =some b:=(Below.heap_alloc _ _ _ (by simp;omega)).trans (xA w b c)
theorem zaN (w:World) (c b d:Obj):(((w.alloc c).alloc b).alloc d).heap[w.heap.size+1]? =some b:=(Below.heap_alloc _ _ _ (by simp)).trans (xq w c b)
theorem zbx (w:World) (d c b:Obj):(((w.alloc d).alloc c).alloc b).heap[w.heap.size+2]? =some b:=by
 have:=zQ ((w.alloc d).alloc c) b
 simpa using this
theorem wM {l:List Int} (h:l.length=4):∃a b c d,l= [a,b,c,d] :=by
 match l,h with
 | [a,b,c,d],_=>exact⟨a,b,c,d,rfl⟩
theorem uR {α:Type} [Inhabited α] {l:List α} {i:Nat} {t:α} (b:i<l.length) (c:t=l.getD i default):l.take (i+1)=l.take i++ [t] :=by
 rw [List.take_add_one,c,List.getElem?_eq_getElem b,List.getD_eq_getElem?_getD,List.getElem?_eq_getElem b];rfl
structure wP (e:TypeId) (size:Nat) (t:TypeId) (V X:World) (v:Value) (n:Nat) (xs:List Value) (bs:List (Nat × List Value)):Prop where
 below:Below V.heap.size V X
 row:X.ownsRow V.heap.size e size v n xs
 news:∀p∈bs,X.heap[p.1]? =some (.cells p.2.toArray t (0,0))/\v.ownBlock≠some p.1/\V.heap.size<=p.1
section
variable {e t:TypeId} {size:Nat} {V X:World} {v:Value} {n:Nat} {xs:List Value} {bs:List (Nat × List Value)}
theorem wP.start (e:TypeId) (size:Nat) (t:TypeId) (V:World):wP e size t V V (N7) 0 [] [] :=⟨Below.refl _ _,World.ownsRow_nil _ _ _ _,by simp⟩
theorem wP.drew (h:wP e size t V X v n xs bs):wP e size t V X.drew v n xs bs:=⟨h.below.drew,(Since.refl (λ_=>False) X).drew.row h.row (λ_ _ h=>h),h.news⟩
theorem wP.alloc (h:wP e size t V X v n xs bs) (cs:List Value):wP e size t V (X.alloc (.cells cs.toArray t)) v n xs ((X.heap.size,cs)::bs):=by
 refine⟨h.below.alloc h.below.size _,h.row.alloc _, ?_⟩
 intro p d;rcases List.mem_cons.1 d with rfl|d
 ·exact⟨zQ X _,λe=>by have:=(h.row.lt _ e).2;simp at this,h.below.size⟩
 obtain⟨a,b,c⟩:=h.news p d;exact⟨(Below.heap_alloc _ _ _ (zA a)).trans a,b,c⟩
theorem wP.app (h:wP e size t V X v n xs bs) {g:World} {f:Value} {m:Nat} {d:List Value} (o:g.ownsRow V.heap.size e size f m d) (i:Since (λk=>v.ownBlock=some k) X g) (q:∀k,f.ownBlock=some k->v.ownBlock=some k\/k=X.heap.size):wP e size t V g f m d bs:=by
 refine⟨h.below.trans (i.below h.below.size (λk r=>(h.row.lt k r).1)),o,λp l=> ?_⟩
 obtain⟨a,b,c⟩:=h.news p l;refine⟨(i.block _ (zA a) b).trans a,λe=> ?_,c⟩
 rcases q _ e with j|j
 ·exact b j
 have:=zA a;omega
theorem wP.ziF (h:wP e size t V X v n xs bs) {gb:Nat} {a b c:Value} (m:(gb, [a,b,c])∈bs) (g f d:Value):
  Below V.heap.size V (((X.setCell ⟨gb,0,none⟩ g).setCell ⟨gb,1,none⟩ f).setCell ⟨gb,2,none⟩ d)/\(((X.setCell ⟨gb,0,none⟩ g).setCell ⟨gb,1,none⟩ f).setCell ⟨gb,2,none⟩ d).ownsRow V.heap.size e size v n xs/\
   (((X.setCell ⟨gb,0,none⟩ g).setCell ⟨gb,1,none⟩ f).setCell ⟨gb,2,none⟩ d).heap[gb]? =some (.cells #[g,f,d] t (0,0))/\V.heap.size<=gb/\v.ownBlock≠some gb:=by
 obtain⟨q,j,o⟩:=h.news _ m
 have i:Since (λk=>k=gb) X (((X.setCell ⟨gb,0,none⟩ g).setCell ⟨gb,1,none⟩ f).setCell ⟨gb,2,none⟩ d):=
  Since.setCell (F:=λk=>k=gb) (p:=⟨gb,2,none⟩) (Since.setCell (F:=λk=>k=gb) (p:=⟨gb,1,none⟩) (Since.setCell (F:=λk=>k=gb) (p:=⟨gb,0,none⟩) (Since.refl _ _) (.inl rfl) _) (.inl rfl) _) (.inl rfl) _
 refine⟨h.below.trans (i.below h.below.size (λk e=>by omega)),i.row h.row (λk l e=>j (e ▸ l)), ?_,o,j⟩
 have:=zu (zu (zu q 0 g) 1 f) 2 d
 simpa using this
end
theorem jl.start {W X:World} {gb:Nat} {mv:Value} {bad:Bool} {mem:List Int} (c:X.ownsRow W.heap.size 3 1 mv mem.length (zx xI mem)) (l:Below W.heap.size W X) (hx:X.heap[gb]? =some (.cells #[N7,mv, .bool bad] 61 (0,0))) (f:W.heap.size<=gb) (d:mv.ownBlock≠some gb):
  jl W X gb (N7) mv bad [] mem [] :=
 ⟨⟨World.ownsRow_nil _ _ _ _,c,λj b=>by simp at b,rfl,λj b=>by simp at b,λj b=>by simp at b,λk g=>by simp [Value.ownBlock] at g,λi j h=>by simp at h⟩,hx,l,f,by simp [Value.ownBlock],d,λj b=>by simp at b⟩
theorem j4 (w:World) (l:List Value) (t:TypeId):∀j u,l[j]? =some u->(w.alloc (.cells l.toArray t)).cell? ((⟨w.heap.size,0,none⟩:Addr).add j)=some u:=by
 intro j u b;have:=ze (zQ w (.cells l.toArray t)) j
 rw [show(⟨w.heap.size,0,none⟩:Addr).add j=⟨w.heap.size,j,none⟩ by simp only [Addr.add];split<;>simp_all,this]
 simpa using b
theorem zN:(Tryz.prog.info? 61).map (·.size)=some 3:=by kernel_rfl
theorem zby:(Tryz.prog.info? 61).map (λi=>(i.zero,i.size,i.bytes))=some (some (.agg #[N7,N7, .bool false]),3,56):=by kernel_rfl
theorem zaF:(Tryz.prog.info? 75).map (λi=>(i.zero,i.size,i.bytes))=some (some (.agg #[I4 0,I4 0,I4 0,I4 0,I4 0,N7]),6,64):=by kernel_rfl
