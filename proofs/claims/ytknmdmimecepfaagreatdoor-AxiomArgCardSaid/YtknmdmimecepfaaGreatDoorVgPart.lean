/- Steps. -/
import Derived.Test.YtknmdmimecepfaaGreatDoorVgExpr2
set_option linter.all false
namespace Go.Proofs.YtknmdmimecepfaaGreatDoor
open Go.RowKit
set_option maxRecDepth 100000
set_option maxHeartbeats 16000000
theorem zqa {p:Bool} (h:true= !p):p=false:=by cases p<;>first|rfl|cases h
theorem znh {p:Bool} (h:false= !p):p=true:=by cases p<;>first|rfl|cases h
def wW (k reg:Int):Bool:=if jT k then decide (0<=reg) && decide (reg<4) else decide (reg=0)
def jZ (k v vars:Int):Bool:=if j3 k then decide (0<=v) && decide (v<vars) else decide (v=0)
def kg (k:Int) (a:zx) (dom:Int):Bool:=if j4 k then zy dom 20 a else xI a
def wX (k:Int) (b:zx) (dom:Int):Bool:=if hasB k then zy dom 20 b else xI b
def xu (k reg v:Int) (a b:zx) (vars dom:Int):Bool:=wW k reg && jZ k v vars && kg k a dom && wX k b dom
theorem zid (w:World) (k reg v:Int) (a b:zx) (ka kb:Value) (e:Nat) (ha:zu e w a ka) (hb:zu e w b kb) (vars dom:Int):
  Calls Tryz.prog 58 #[.int .i64 k, .int .i64 reg, .int .i64 v,yX a ka,yX b kb, .int .i64 vars, .int .i64 dom] w λe w'=>e= .returned (.bool (xu k reg v a b vars dom))/\Below w.heap.size w w':=by
 obtain⟨aa,ac,rfl, -⟩:=ha.slice
 obtain⟨ba,bc,rfl, -⟩:=hb.slice
 have HB:=qh (qJ w (.cells #[.int .i64 a.kind, .int .i64 a.n, .int .u8 a.op, .slice aa a.kids.length ac] 43) (.cells #[.int .i64 b.kind, .int .i64 b.n, .int .u8 b.op, .slice ba b.kids.length bc] 43))
 have H1:=qh (qm w (.cells #[.int .i64 a.kind, .int .i64 a.n, .int .u8 a.op, .slice aa a.kids.length ac] 43) (.cells #[.int .i64 b.kind, .int .i64 b.n, .int .u8 b.op, .slice ba b.kids.length bc] 43))
 have H2:=qh (xA w (.cells #[.int .i64 a.kind, .int .i64 a.n, .int .u8 a.op, .slice aa a.kids.length ac] 43) (.cells #[.int .i64 b.kind, .int .i64 b.n, .int .u8 b.op, .slice ba b.kids.length bc] 43))
 have HEA:Hid (∀X,Below w.heap.size w X->Calls Tryz.prog 80 #[.agg #[.int .i64 a.kind, .int .i64 a.n, .int .u8 a.op, .slice aa a.kids.length ac], .int .i64 dom] X λe w'=>e= .returned (.bool (zy dom 20 a))/\Below X.heap.size X w'):=λX hX=>zd2 dom e X a _ (ha.below hX)
 have HEB:Hid (∀X,Below w.heap.size w X->Calls Tryz.prog 80 #[.agg #[.int .i64 b.kind, .int .i64 b.n, .int .u8 b.op, .slice ba b.kids.length bc], .int .i64 dom] X λe w'=>e= .returned (.bool (zy dom 20 b))/\Below X.heap.size X w'):=λX hX=>zd2 dom e X b _ (hb.below hX)
 have HNA:Hid (∀X,Calls Tryz.prog 81 #[.agg #[.int .i64 a.kind, .int .i64 a.n, .int .u8 a.op, .slice aa a.kids.length ac]] X λe w'=>e= .returned (.bool (xI a))/\Below X.heap.size X w'):=λX=>ziq X a aa ac
 have zP:Hid (∀X,Calls Tryz.prog 81 #[.agg #[.int .i64 b.kind, .int .i64 b.n, .int .u8 b.op, .slice ba b.kids.length bc]] X λe w'=>e= .returned (.bool (xI b))/\Below X.heap.size X w'):=λX=>ziq X b ba bc
 obtain⟨r,hr⟩:∃r,r=xu k reg v a b vars dom:=⟨_,rfl⟩
 rw [<-hr]
 have HR:Hid (r=((if jT k then decide (0<=reg) && decide (reg<4) else decide (reg=0)) && (if j3 k then decide (0<=v) && decide (v<vars) else decide (v=0)) && (if j4 k then zy dom 20 a else xI a) && (if hasB k then zy dom 20 b else xI b))):=hr
 have HH:=qh (λX=>zq0 X k)
 obtain⟨h0,e0⟩:∃h,h=jT k:=⟨_,rfl⟩
 obtain⟨h1,e1⟩:∃h,h=j3 k:=⟨_,rfl⟩
 obtain⟨h2,e2⟩:∃h,h=j4 k:=⟨_,rfl⟩
 obtain⟨h3,e3⟩:∃h,h=hasB k:=⟨_,rfl⟩
 rw [<-e0, <-e1, <-e2, <-e3] at HR
 have HH2:Hid (∀X,Calls Tryz.prog 79 #[.int .i64 k] X λe w'=>e= .returned (.agg #[.bool h0, .bool h1, .bool h2, .bool h3])/\Below X.heap.size X w'):=λX=>by rw [e0,e1,e2,e3];exact HH.out X
 unfold yX
 clear ha hb hr HH e0 e1 e2 e3
 go_enter Tryz.func58,Tryz.ntmps58
 go_upto_region 1 with fail
 generalize World.alloc (World.alloc w _) _=W at HB H1 H2 ⊢
 obtain⟨gx,hgx⟩:∃gx,gx=w.heap.size:=⟨_,rfl⟩
 rw [<-hgx] at H1 H2 ⊢
 clear hgx
 go_wp2_with fail
 refine(HH2.out W).mono ?_
 rintro e X0 ⟨rfl,hb0⟩
 have HX0:=qh (zm hb0 ((Below.refl X0.heap.size X0).alloc (Nat.le_refl _) (.cells #[.bool h0, .bool h1, .bool h2, .bool h3] 153)))
 have HHB:=qh (zT X0 (.cells #[.bool h0, .bool h1, .bool h2, .bool h3] 153))
 clear hb0 HH2
 go_upto_region 2 with fail
 generalize World.alloc X0 _=X at HX0 HHB ⊢
 obtain⟨hx,hhx⟩:∃hx,hx=X0.heap.size:=⟨_,rfl⟩
 rw [<-hhx] at HHB ⊢
 clear hhx
 have HC:Hid (∀x,Below X.heap.size X x->(x.cell? ⟨gx,0,none⟩=some (.int .i64 a.kind)/\x.cell? ⟨gx,1,none⟩=some (.int .i64 a.n)/\x.cell? ⟨gx,2,none⟩=some (.int .u8 a.op)/\x.cell? ⟨gx,3,none⟩=some (.slice aa a.kids.length ac))/\
   (x.cell? ⟨gx+1,0,none⟩=some (.int .i64 b.kind)/\x.cell? ⟨gx+1,1,none⟩=some (.int .i64 b.n)/\x.cell? ⟨gx+1,2,none⟩=some (.int .u8 b.op)/\x.cell? ⟨gx+1,3,none⟩=some (.slice ba b.kids.length bc))/\
   (x.cell? ⟨hx,0,none⟩=some (.bool h0)/\x.cell? ⟨hx,1,none⟩=some (.bool h1)/\x.cell? ⟨hx,2,none⟩=some (.bool h2)/\x.cell? ⟨hx,3,none⟩=some (.bool h3))):=λx hx=>
  have k:=λp v h=>zi (zm HX0.out hx) p v h
  ⟨⟨k _ _ (za H1.out 0),k _ _ (za H1.out 1),k _ _ (za H1.out 2),k _ _ (za H1.out 3)⟩,⟨k _ _ (za H2.out 0),k _ _ (za H2.out 1),k _ _ (za H2.out 2),k _ _ (za H2.out 3)⟩,⟨zi hx _ _ (za HHB.out 0),zi hx _ _ (za HHB.out 1),zi hx _ _ (za HHB.out 2),zi hx _ _ (za HHB.out 3)⟩⟩
 have qz:=qh (HB.out.trans (HX0.out.mono HB.out.size))
 clear H1 H2 HHB HB HX0
 go_cut [58] (λs58 w'=>∃q:Bool,s58= .bool q/\w'=X/\Hid (q= !((if h0 then decide (0<=reg) && decide (reg<4) else decide (reg=0)) && (if h1 then decide (0<=v) && decide (v<vars) else decide (v=0)))))
 case first=>
  obtain⟨-, -,c0,c1, -, -⟩:=HC.out X (Below.refl _ _)
  cases h0 with
  |true=>
   by_cases r1:0<=reg
   rotate_left
   ·have r1n:reg<0:=by omega
    go_wp2_with fail
    go_meet
    case rel=>exact⟨true,by first|rfl|simp,rfl,by rw [Hid];simp [r1]⟩
   have r1n:¬reg<0:=by omega
   by_cases r2:reg<4
   rotate_left
   ·have r2n:4<=reg:=by omega
    go_wp2_with fail
    go_meet
    case rel=>exact⟨true,by first|rfl|simp,rfl,by rw [Hid];simp [r1,r2]⟩
   have r2n:¬4<=reg:=by omega
   cases h1 with
   |true=>
    by_cases v1:0<=v
    ·have v1n:¬v<0:=by omega
     by_cases v2:v<vars
     ·have v2n:¬vars<=v:=by omega
      go_wp2_with fail
      go_meet
      case rel=>exact⟨false,by first|rfl|simp,rfl,by rw [Hid];simp [r1,r2,v1,v2]⟩
     have v2n:vars<=v:=by omega
     go_wp2_with fail
     go_meet
     case rel=>exact⟨true,by first|rfl|simp,rfl,by rw [Hid];simp [r1,r2,v1,v2]⟩
    have v1n:v<0:=by omega
    go_wp2_with fail
    go_meet
    case rel=>exact⟨true,by first|rfl|simp,rfl,by rw [Hid];simp [r1,r2,v1]⟩
   |false=>
   by_cases v1:v=0
   ·have v1n:((v:Int) !=0)=false:=by simp [v1]
    have V1:=qh v1
    clear v1
    go_wp2_with fail
    go_meet
    case rel=>exact⟨false,by first|rfl|simp,rfl,by rw [Hid];simp [r1,r2,V1.out]⟩
   have v1n:((v:Int) !=0)=true:=by simp [v1]
   go_wp2_with fail
   go_meet
   case rel=>exact⟨true,by first|rfl|simp,rfl,by rw [Hid];simp [r1,r2,v1]⟩
  |false=>
  by_cases r1:reg=0
  rotate_left
  ·have r1n:((reg:Int) !=0)=true:=by simp [r1]
   go_wp2_with fail
   go_meet
   case rel=>exact⟨true,by first|rfl|simp,rfl,by rw [Hid];simp [r1]⟩
  have r1n:((reg:Int) !=0)=false:=by simp [r1]
  have R1:=qh r1
  clear r1
  cases h1 with
  |true=>
   by_cases v1:0<=v
   ·have v1n:¬v<0:=by omega
    by_cases v2:v<vars
    ·have v2n:¬vars<=v:=by omega
     go_wp2_with fail
     go_meet
     case rel=>exact⟨false,by first|rfl|simp,rfl,by rw [Hid];simp [R1.out,v1,v2]⟩
    have v2n:vars<=v:=by omega
    go_wp2_with fail
    go_meet
    case rel=>exact⟨true,by first|rfl|simp,rfl,by rw [Hid];simp [R1.out,v1,v2]⟩
   have v1n:v<0:=by omega
   go_wp2_with fail
   go_meet
   case rel=>exact⟨true,by first|rfl|simp,rfl,by rw [Hid];simp [R1.out,v1]⟩
  |false=>
  by_cases v1:v=0
  ·have v1n:((v:Int) !=0)=false:=by simp [v1]
   have V1:=qh v1
   clear v1
   go_wp2_with fail
   go_meet
   case rel=>exact⟨false,by first|rfl|simp,rfl,by rw [Hid];simp [R1.out,V1.out]⟩
  have v1n:((v:Int) !=0)=true:=by simp [v1]
  go_wp2_with fail
  go_meet
  case rel=>exact⟨true,by first|rfl|simp,rfl,by rw [Hid];simp [R1.out,v1]⟩
 case rest=>
 obtain⟨q,rfl,hwq,HQ⟩:=hcut
 obtain rfl:X=wc:=hwq.symm
 cases q with
 |true=>
  have hp:=HQ.out
  obtain rfl:r=false:=by
   rw [HR.out,zqa hp];rfl
  clear HR HQ hp
  go_wp2_with fail
  go_ret
  exact⟨by first|rfl|simp,qz.out⟩
 |false=>
 have HR2:Hid (r=((if h2 then zy dom 20 a else xI a) && (if h3 then zy dom 20 b else xI b))):=by
  rw [Hid,HR.out,znh HQ.out];rfl
 clear HR HQ
 go_upto_region 4 with fail
 go_cut [76] (λs76 w'=>∃q:Bool,s76= .bool q/\Hid (q= !(if h2 then zy dom 20 a else xI a))/\Hid (Below X.heap.size X w'))
 case first=>
  obtain⟨⟨a0,a1,a2,a3⟩, -, -, -,c2, -⟩:=HC.out X (Below.refl _ _)
  cases h2 with
  |true=>
   go_wp2_with fail
   refine(HEA.out X qz.out).mono ?_
   rintro e Y ⟨rfl,hby⟩
   have kF:=qh hby
   obtain⟨-, -, -, -,c2', -⟩:=HC.out Y kF.out
   clear hby a0 a1 a2 a3 c2
   cases hv:zy dom 20 a with
   |true=>
    go_wp2_with fail
    go_meet
    case rel=>exact⟨false,by first|rfl|simp,by rw [Hid];simp [hv],kF.out⟩
   |false=>
   go_wp2_with fail
   go_meet
   case rel=>exact⟨true,by first|rfl|simp,by rw [Hid];simp [hv],kF.out⟩
  |false=>
  go_wp2_with fail
  refine(HNA.out X).mono ?_
  rintro e Y ⟨rfl,hby⟩
  have kF:=qh hby
  clear hby a0 a1 a2 a3 c2
  cases hv:xI a with
  |true=>
   go_wp2_with fail
   go_meet
   case rel=>exact⟨false,by first|rfl|simp,by rw [Hid];simp [hv],kF.out⟩
  |false=>
  go_wp2_with fail
  go_meet
  case rel=>exact⟨true,by first|rfl|simp,by rw [Hid];simp [hv],kF.out⟩
 case rest=>
 obtain⟨q,rfl,HQ,HBQ⟩:=hcut
 obtain⟨Y,rfl⟩:∃Y:World,Y=wc:=⟨_,rfl⟩
 have qM:=qh (qz.out.trans (HBQ.out.mono qz.out.size))
 cases q with
 |true=>
  obtain rfl:r=false:=by
   rw [HR2.out,zqa HQ.out];rfl
  clear HR2 HQ
  go_wp2_with fail
  go_ret
  exact⟨by first|rfl|simp,qM.out⟩
 |false=>
 have HR3:Hid (r=(if h3 then zy dom 20 b else xI b)):=by
  rw [Hid,HR2.out,znh HQ.out];rfl
 clear HR2 HQ
 obtain⟨-,⟨b0,b1,b2,b3⟩, -, -, -,c3⟩:=HC.out Y HBQ.out
 cases h3 with
 |true=>
  have HR4:Hid (r=zy dom 20 b):=HR3.out
  go_wp2_with fail
  refine(HEB.out Y qM.out).mono ?_
  rw [<-HR4.out]
  rintro e Z ⟨rfl,hbz⟩
  have HBZ:=qh hbz
  obtain⟨-, -, -, -, -,c3'⟩:=HC.out Z (zm HBQ.out HBZ.out)
  clear hbz b0 b1 b2 b3 c3 HR3 HR4
  cases r with
  |true=>
   go_wp2_with fail
   go_ret
   exact⟨by first|rfl|simp,qM.out.trans (HBZ.out.mono qM.out.size)⟩
  |false=>
  go_wp2_with fail
  go_ret
  exact⟨by first|rfl|simp,qM.out.trans (HBZ.out.mono qM.out.size)⟩
 |false=>
 have HR4:Hid (r=xI b):=HR3.out
 go_wp2_with fail
 refine(zP.out Y).mono ?_
 rw [<-HR4.out]
 rintro e Z ⟨rfl,hbz⟩
 have HBZ:=qh hbz
 clear hbz b0 b1 b2 b3 c3 HR3 HR4
 cases r with
 |true=>
  go_wp2_with fail
  go_ret
  exact⟨by first|rfl|simp,qM.out.trans (HBZ.out.mono qM.out.size)⟩
 |false=>
 go_wp2_with fail
 go_ret
 exact⟨by first|rfl|simp,qM.out.trans (HBZ.out.mono qM.out.size)⟩
