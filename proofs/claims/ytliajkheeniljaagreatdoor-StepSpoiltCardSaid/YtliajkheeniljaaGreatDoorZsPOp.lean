/- What an operator makes of two numbers: the program's closures: the walks. What expressions are: the program's answer: the walk. -/
import Derived.Test.YtliajkheeniljaaGreatDoorZsEval
import Derived.Test.YtliajkheeniljaaGreatDoorZsKFuncs
import Derived.Test.YtliajkheeniljaaGreatDoorZsShort
set_option linter.all false
namespace Go.Proofs.YtliajkheeniljaaGreatDoor
open Go.RowKit
set_option maxRecDepth 100000
set_option maxHeartbeats 16000000
theorem zwc (w:World) (a b:Int):Calls Tryz.prog 192 #[.int .i64 a, .int .i64 b] w fun e w'=>e= .returned (.int .i64 (evalOp 43 a b))/\Below w.heap.size w w':=by
 have hr:evalOp 43 a b=wrap64 (a+b):=by simp [evalOp]
 rw [hr]
 go_enter Tryz.func192,Tryz.ntmps192
 go_wp2_with fail
 go_ret
 exact⟨by first|rfl|simp,Below.refl _ _⟩
theorem zwd (w:World) (a b:Int):Calls Tryz.prog 193 #[.int .i64 a, .int .i64 b] w fun e w'=>e= .returned (.int .i64 (evalOp 45 a b))/\Below w.heap.size w w':=by
 have hr:evalOp 45 a b=wrap64 (a - b):=by simp [evalOp]
 rw [hr]
 go_enter Tryz.func193,Tryz.ntmps193
 go_wp2_with fail
 go_ret
 exact⟨by first|rfl|simp,Below.refl _ _⟩
theorem zwe (w:World) (a b:Int):Calls Tryz.prog 194 #[.int .i64 a, .int .i64 b] w fun e w'=>e= .returned (.int .i64 (evalOp 42 a b))/\Below w.heap.size w w':=by
 have hr:evalOp 42 a b=wrap64 (a*b):=by simp [evalOp]
 rw [hr]
 go_enter Tryz.func194,Tryz.ntmps194
 go_wp2_with fail
 go_ret
 exact⟨by first|rfl|simp,Below.refl _ _⟩
theorem zwf (w:World) (a b:Int):Calls Tryz.prog 195 #[.int .i64 a, .int .i64 b] w fun e w'=>e= .returned (.int .i64 (evalOp 38 a b))/\Below w.heap.size w w':=by
 have hr:evalOp 38 a b=bits .and .i64 a b:=by simp [evalOp]
 rw [hr]
 go_enter Tryz.func195,Tryz.ntmps195
 go_wp2_with fail
 go_ret
 exact⟨by first|rfl|simp,Below.refl _ _⟩
theorem zwg (w:World) (a b:Int):Calls Tryz.prog 196 #[.int .i64 a, .int .i64 b] w fun e w'=>e= .returned (.int .i64 (evalOp 124 a b))/\Below w.heap.size w w':=by
 have hr:evalOp 124 a b=bits .or .i64 a b:=by simp [evalOp]
 rw [hr]
 go_enter Tryz.func196,Tryz.ntmps196
 go_wp2_with fail
 go_ret
 exact⟨by first|rfl|simp,Below.refl _ _⟩
theorem zwh (w:World) (a b:Int):Calls Tryz.prog 198 #[.int .i64 a, .int .i64 b] w fun e w'=>e= .returned (.bool (decide (a<b)))/\w'=w:=by
 go_enter Tryz.func198,Tryz.ntmps198
 go_wp2_with fail
 go_ret
 exact⟨congrArg (fun q=>Ending.returned (.bool q)) (by first|rfl|(rw [Bool.eq_iff_iff];simp)),rfl⟩
theorem zwi (w:World) (a b:Int):Calls Tryz.prog 199 #[.int .i64 a, .int .i64 b] w fun e w'=>e= .returned (.bool (decide (a=b)))/\w'=w:=by
 go_enter Tryz.func199,Tryz.ntmps199
 go_wp2_with fail
 go_ret
 exact⟨congrArg (fun q=>Ending.returned (.bool q)) (by first|rfl|(rw [Bool.eq_iff_iff];simp)),rfl⟩
theorem zwj (w:World) (a b:Int):Calls Tryz.prog 200 #[.int .i64 a, .int .i64 b] w fun e w'=>e= .returned (.bool (!decide (a=b)))/\w'=w:=by
 go_enter Tryz.func200,Tryz.ntmps200
 go_wp2_with fail
 go_ret
 exact⟨congrArg (fun q=>Ending.returned (.bool q)) (by first|rfl|(rw [Bool.eq_iff_iff];simp)),rfl⟩
def z4V (w:World) (op:Int) (v:Value):Prop:=∃f cap,v= .func (.func f) #[] cap/\(∀args W,(callFunc f args).run Tryz.prog W= .ok (.enter f args) W)/\
 ∀W,Below w.heap.size w W->∀a b:Int,Calls Tryz.prog f (#[.int .i64 a, .int .i64 b] ++cap) W fun e W'=>e= .returned (.int .i64 (evalOp op a b))/\Below W.heap.size W W'
theorem zcV (w:World) (f:FuncId) (g:Nat) (hg:w.cell? ⟨g,0,none⟩=some (.func (.func f) #[] #[])) (hf:∀args W,(callFunc f args).run Tryz.prog W= .ok (.enter f args) W) (op a b:Int) (r:Bool) (hr:evalOp op a b=if r then 1 else 0)
  (hc:Calls Tryz.prog f #[.int .i64 a, .int .i64 b] w fun e w'=>e= .returned (.bool r)/\w'=w):
  Calls Tryz.prog 203 #[.int .i64 a, .int .i64 b, .pointer (some ⟨g,0,none⟩)] w fun e w'=>e= .returned (.int .i64 (evalOp op a b))/\Below w.heap.size w w':=by
 have HC:=qh hc
 have HR:=qh hr
 clear hc hr
 cases r with
 |true=>
  rw [HR.out]
  clear HR
  go_enter Tryz.func203,Tryz.ntmps203
  go_wp2_with fail
  refine HC.out.mono ?_
  rintro e w2 ⟨rfl,rfl⟩
  go_wp2_with fail
  go_ret
  exact⟨by first|rfl|simp,Below.refl _ _⟩
 |false=>
  rw [HR.out]
  clear HR
  go_enter Tryz.func203,Tryz.ntmps203
  go_wp2_with fail
  refine HC.out.mono ?_
  rintro e w2 ⟨rfl,rfl⟩
  go_wp2_with fail
  go_ret
  exact⟨by first|rfl|simp,Below.refl _ _⟩
theorem zdS (w:World) (f:FuncId):Calls Tryz.prog 197 #[.func (.func f) #[] #[]] w fun e w'=>e= .returned (.func (.func 203) #[] #[.pointer (some ⟨w.heap.size,0,none⟩)])/\w'.cell? ⟨w.heap.size,0,none⟩=some (.func (.func f) #[] #[])/\w.heap.size<w'.heap.size/\Below w.heap.size w w':=by
 have HA:=qh ((Below.refl w.heap.size w).alloc (Nat.le_refl _) (.cells #[.func (.func f) #[] #[]] 200))
 have HX:=qh (yD w (.cells #[.func (.func f) #[] #[]] 200))
 go_enter Tryz.func197,Tryz.ntmps197
 go_wp2_with fail
 go_ret
 exact⟨rfl,zi HX.out 0,by simp,HA.out⟩
theorem zjS (w:World) (op:Int):Calls Tryz.prog 189 #[.int .u8 op] w fun e w'=>(∃v,e= .returned v/\(z4V w' op v\/(v= .nilFunc/\∀a b,evalOp op a b=0)))/\Below w.heap.size w w':=by
 by_cases o0:op=43
 ·subst o0
  go_enter Tryz.func189,Tryz.ntmps189
  go_wp2_with fail
  go_ret
  exact⟨⟨_,rfl, .inl ⟨192, #[],rfl,fun _ _=>rfl,fun W _ a b=>zwc W a b⟩⟩,Below.refl _ _⟩
 skip
 by_cases o1:op=45
 ·subst o1
  clear o0
  go_enter Tryz.func189,Tryz.ntmps189
  go_wp2_with fail
  go_ret
  exact⟨⟨_,rfl, .inl ⟨193, #[],rfl,fun _ _=>rfl,fun W _ a b=>zwd W a b⟩⟩,Below.refl _ _⟩
 skip
 by_cases o2:op=42
 ·subst o2
  clear o0 o1
  go_enter Tryz.func189,Tryz.ntmps189
  go_wp2_with fail
  go_ret
  exact⟨⟨_,rfl, .inl ⟨194, #[],rfl,fun _ _=>rfl,fun W _ a b=>zwe W a b⟩⟩,Below.refl _ _⟩
 skip
 by_cases o3:op=38
 ·subst o3
  clear o0 o1 o2
  go_enter Tryz.func189,Tryz.ntmps189
  go_wp2_with fail
  go_ret
  exact⟨⟨_,rfl, .inl ⟨195, #[],rfl,fun _ _=>rfl,fun W _ a b=>zwf W a b⟩⟩,Below.refl _ _⟩
 skip
 by_cases o4:op=124
 ·subst o4
  clear o0 o1 o2 o3
  go_enter Tryz.func189,Tryz.ntmps189
  go_wp2_with fail
  go_ret
  exact⟨⟨_,rfl, .inl ⟨196, #[],rfl,fun _ _=>rfl,fun W _ a b=>zwg W a b⟩⟩,Below.refl _ _⟩
 skip
 by_cases o5:op=60
 ·subst o5
  clear o0 o1 o2 o3 o4
  go_enter Tryz.func189,Tryz.ntmps189
  go_wp2_with fail
  refine(zdS w 198).mono ?_
  rintro e w2 ⟨rfl,hc,hlt,hb⟩
  have HC:=qh hc
  have HB:=qh hb
  have HLT:=qh hlt
  clear hc hb hlt
  go_wp2_with fail
  go_ret
  exact⟨⟨_,rfl, .inl ⟨203, #[.pointer (some ⟨w.heap.size,0,none⟩)],rfl,fun _ _=>rfl,fun W hW a b=>zcV W 198 w.heap.size (zl hW _ _ HC.out) (fun _ _=>rfl) 60 a b (decide (a<b)) (by simp [evalOp]) (zwh W a b)⟩⟩,HB.out⟩
 skip
 by_cases o6:op=61
 ·subst o6
  clear o0 o1 o2 o3 o4 o5
  go_enter Tryz.func189,Tryz.ntmps189
  go_wp2_with fail
  refine(zdS w 199).mono ?_
  rintro e w2 ⟨rfl,hc,hlt,hb⟩
  have HC:=qh hc
  have HB:=qh hb
  have HLT:=qh hlt
  clear hc hb hlt
  go_wp2_with fail
  go_ret
  exact⟨⟨_,rfl, .inl ⟨203, #[.pointer (some ⟨w.heap.size,0,none⟩)],rfl,fun _ _=>rfl,fun W hW a b=>zcV W 199 w.heap.size (zl hW _ _ HC.out) (fun _ _=>rfl) 61 a b (decide (a=b)) (by simp [evalOp]) (zwi W a b)⟩⟩,HB.out⟩
 skip
 by_cases o7:op=33
 ·subst o7
  clear o0 o1 o2 o3 o4 o5 o6
  go_enter Tryz.func189,Tryz.ntmps189
  go_wp2_with fail
  refine(zdS w 200).mono ?_
  rintro e w2 ⟨rfl,hc,hlt,hb⟩
  have HC:=qh hc
  have HB:=qh hb
  have HLT:=qh hlt
  clear hc hb hlt
  go_wp2_with fail
  go_ret
  exact⟨⟨_,rfl, .inl ⟨203, #[.pointer (some ⟨w.heap.size,0,none⟩)],rfl,fun _ _=>rfl,fun W hW a b=>zcV W 200 w.heap.size (zl hW _ _ HC.out) (fun _ _=>rfl) 33 a b (!decide (a=b)) (by simp [evalOp]) (zwj W a b)⟩⟩,HB.out⟩
 have hz:∀a b,evalOp op a b=0:=fun a b=>by simp [evalOp,o0,o1,o2,o3,o4,o5,o6,o7]
 have n0:((op:Int)==43)=false:=by simp [o0]
 have n1:((op:Int)==45)=false:=by simp [o1]
 have n2:((op:Int)==42)=false:=by simp [o2]
 have n3:((op:Int)==38)=false:=by simp [o3]
 have n4:((op:Int)==124)=false:=by simp [o4]
 have n5:((op:Int)==60)=false:=by simp [o5]
 have n6:((op:Int)==61)=false:=by simp [o6]
 have n7:((op:Int)==33)=false:=by simp [o7]
 have HZ:=qh hz
 clear hz o0 o1 o2 o3 o4 o5 o6 o7
 go_enter Tryz.func189,Tryz.ntmps189
 go_wp2_with fail
 go_ret
 exact⟨⟨_,rfl, .inr ⟨rfl,HZ.out⟩⟩,Below.refl _ _⟩
theorem zh9:Tryz.prog.underlying 236=some (.func #[3,3] #[3] false):=by kernel_rfl
theorem zjT (w:World) (d:Nat) (f:Fn) (a c:Array Value):(Op.equalIn (d+1) 236 (.func f a c) .nilFunc).run Tryz.prog w= .ok false w:=by simp [Op.equalIn,run_underlying zh9]
theorem zg4 (w:World) (d:Nat):(Op.equalIn (d+1) 236 .nilFunc .nilFunc).run Tryz.prog w= .ok true w:=by simp [Op.equalIn,run_underlying zh9]
theorem ztv (w:World) (f:Fn) (a c:Array Value):(binOp .eql 236 (.func f a c) .nilFunc).run Tryz.prog w= .ok (.bool false) w:=by
 have h:(Op.equal 236 (.func f a c) .nilFunc).run Tryz.prog w= .ok false w:=zjT w 9999 f a c
 simp only [binOp]
 simp [h]
theorem zjU (w:World):(binOp .eql 236 .nilFunc .nilFunc).run Tryz.prog w= .ok (.bool true) w:=by
 have h:(Op.equal 236 .nilFunc .nilFunc).run Tryz.prog w= .ok true w:=zg4 w 9999
 simp only [binOp]
 simp [h]
theorem zqh (n dom:Int) (h:1<=dom):(if n.tmod dom<0 then n.tmod dom+dom else n.tmod dom)=n % dom:=by
 rw [<-vW n dom h]
 have h1:=Int.tmod_lt_of_pos n (show 0<dom by omega)
 have h2:=Int.lt_tmod_of_pos n (show 0<dom by omega)
 generalize n.tmod dom=q at h1 h2 ⊢
 rw [Int.tmod_eq_emod_of_nonneg (by omega)]
 split
 ·rw [Int.emod_eq_of_lt (by omega) (by omega)]
 ·rw [Int.add_emod_right,Int.emod_eq_of_lt (by omega) (by omega)]
theorem zqi (r0 r1 r2 r3 dom:Int) (hd1:1<=dom) (hd2:dom<=1000) (d:Nat):∀(w:World) (x:zJ) (kv:Value),zC d w x kv->
  Calls Tryz.prog 183 #[xP x kv, .agg #[.int .i64 r0, .int .i64 r1, .int .i64 r2, .int .i64 r3], .int .i64 dom] w fun e w'=>e= .returned (.int .i64 (yw [r0,r1,r2,r3] dom d x))/\Below w.heap.size w w':=by
 induction d with
 |zero=>intro w x kv h;exact h.elim
 |succ d ih=>
  intro w x kv h
  obtain⟨ka,kc,rfl,hkl⟩:=h.slice
  obtain⟨k,hk⟩:∃k,k=x.kind:=⟨_,rfl⟩
  obtain⟨n,hn⟩:∃n,n=x.n:=⟨_,rfl⟩
  obtain⟨o,ho⟩:∃o,o=x.op:=⟨_,rfl⟩
  obtain⟨m,hm⟩:∃m,m=x.kids.length:=⟨_,rfl⟩
  obtain⟨r,hr⟩:∃r,r=yw [r0,r1,r2,r3] dom (d+1) x:=⟨_,rfl⟩
  have hr2:r=(if k=1 then n else if k=2 then(if 0<=n/\n<4 then [r0,r1,r2,r3].getD n.toNat 0 else 0)
   else if k=3/\m=2 then evalOp o (yw [r0,r1,r2,r3] dom d (x.kids.getD 0 default)) (yw [r0,r1,r2,r3] dom d (x.kids.getD 1 default)) % dom else 0):=by rw [hr,hk,hn,ho,hm];rfl
  rw [<-hr]
  have HR:=qh hr2
  have HM:=qh hm
  rw [<-hm] at h hkl
  have HE:=qh h
  have HIH:=qh ih
  unfold xP
  rw [<-hk, <-hn, <-ho, <-hm]
  clear hk hn ho hm hr hr2 h ih
  have HB:=qh (xQ w (.cells #[.int .i64 k, .int .i64 n, .int .u8 o, .slice ka m kc] 62) (.cells #[.int .i64 r0, .int .i64 r1, .int .i64 r2, .int .i64 r3] 45))
  have H1:=qh (xH w (.cells #[.int .i64 k, .int .i64 n, .int .u8 o, .slice ka m kc] 62) (.cells #[.int .i64 r0, .int .i64 r1, .int .i64 r2, .int .i64 r3] 45))
  have H2:=qh (zii w (.cells #[.int .i64 k, .int .i64 n, .int .u8 o, .slice ka m kc] 62) r0 r1 r2 r3)
  go_enter Tryz.func183,Tryz.ntmps183
  go_upto_region 1 with fail
  generalize World.alloc (World.alloc w _) _=W at HB H1 H2 ⊢
  obtain⟨gx,hgx⟩:∃gx,gx=w.heap.size:=⟨_,rfl⟩
  rw [<-hgx] at H1 H2 ⊢
  clear hgx
  have c0:W.cell? ⟨gx,0,none⟩=some (.int .i64 k):=zi H1.out 0
  have c1:W.cell? ⟨gx,1,none⟩=some (.int .i64 n):=zi H1.out 1
  have c2:W.cell? ⟨gx,2,none⟩=some (.int .u8 o):=zi H1.out 2
  have c3:W.cell? ⟨gx,3,none⟩=some (.slice ka m kc):=zi H1.out 3
  by_cases k1:k=1
  ·obtain rfl:r=n:=by rw [HR.out,if_pos k1]
   clear HR
   subst k1
   go_wp2_with fail
   go_ret
   exact⟨by first|rfl|simp,HB.out⟩
  have kb:((k:Int)==1)=false:=by simp [k1]
  by_cases k2:k=2
  ·by_cases a1:0<=n
   rotate_left
   ·obtain rfl:r=0:=by rw [HR.out,if_neg k1,if_pos k2,if_neg (fun h=>a1 h.1)]
    subst k2
    clear HR k1
    go_wp2_with fail
    go_ret
    exact⟨by first|rfl|simp,HB.out⟩
   by_cases a2:n<4
   ·obtain⟨q,rfl⟩:∃q:Nat,n=(q:Int):=⟨n.toNat,by omega⟩
    have hq4:q<4:=by omega
    have xO:=H2.out q hq4
    have hr3:r= [r0,r1,r2,r3].getD q 0:=by rw [HR.out,if_neg k1,if_pos k2,if_pos ⟨a1,a2⟩];simp
    rw [<-hr3] at xO
    subst k2
    clear HR k1 hr3
    go_wp2_with fail
    go_ret
    exact⟨by first|rfl|simp,HB.out⟩
   ·obtain rfl:r=0:=by rw [HR.out,if_neg k1,if_pos k2,if_neg (fun h=>a2 h.2)]
    subst k2
    clear HR k1
    go_wp2_with fail
    go_ret
    exact⟨by first|rfl|simp,HB.out⟩
  have kb2:((k:Int)==2)=false:=by simp [k2]
  have HR2:Hid (r=if k=3/\m=2 then evalOp o (yw [r0,r1,r2,r3] dom d (x.kids.getD 0 default)) (yw [r0,r1,r2,r3] dom d (x.kids.getD 1 default)) % dom else 0):=by rw [Hid,HR.out,if_neg k1,if_neg k2]
  clear HR k1 k2
  by_cases k3:k=3
  rotate_left
  ·have kb3:((k:Int) !=3)=true:=by simp [k3]
   have kb4:((k:Int)==3)=false:=by simp [k3]
   obtain rfl:r=0:=by rw [HR2.out,if_neg (fun h=>k3 h.1)]
   clear HR2 k3
   go_wp2_with fail
   go_ret
   exact⟨by first|rfl|simp,HB.out⟩
  by_cases m2:m=2
  rotate_left
  ·obtain rfl:r=0:=by rw [HR2.out,if_neg (fun h=>m2 h.2)]
   have b2:((m:Int) !=2)=true:=by rw [bne_iff_ne];omega
   have b3:(m==2)=false:=by simp [m2]
   clear HR2
   subst k3
   go_wp2_with fail
   go_ret
   exact⟨by first|rfl|simp,HB.out⟩
  have HR3:Hid (r=evalOp o (yw [r0,r1,r2,r3] dom d (x.kids.getD 0 default)) (yw [r0,r1,r2,r3] dom d (x.kids.getD 1 default)) % dom):=by rw [Hid,HR2.out,if_pos ⟨k3,m2⟩]
  clear HR2 kb kb2
  subst k3
  subst m2
  have hdn:¬dom<1:=by omega
  obtain⟨jo,ko,ka0,kc0,hka, -,p0,p1,p2,p3,hx0⟩:=HE.out.part 0 (by rw [<-HM.out];omega)
  subst hka
  obtain⟨zwZ,ko2,ka1,kc1,hka, -,q0,q1,q2,q3,hx1⟩:=HE.out.part 1 (by rw [<-HM.out];omega)
  cases hka
  obtain⟨y0,hy0⟩:∃y,y=x.kids.getD 0 default:=⟨_,rfl⟩
  obtain⟨y1,hy1⟩:∃y,y=x.kids.getD 1 default:=⟨_,rfl⟩
  rw [<-hy0] at p0 p1 p2 p3 hx0
  rw [<-hy1] at q0 q1 q2 q3 hx1
  rw [<-hy0, <-hy1] at HR3
  rw [Nat.zero_mul,Nat.add_zero] at p0 p1 p2 p3
  rw [Nat.one_mul] at q0 q1 q2 q3
  have hk:=fun X (hX:Below W.heap.size W X)=>zl (HB.out.trans (hX.mono HB.out.size))
  have CC:Hid (∀X,Below W.heap.size W X->X.cell? ⟨gx,3,none⟩=some (.slice (some ⟨jo,ko,none⟩) 2 kc)/\X.cell? ⟨gx+1,0,none⟩=some (.int .i64 r0)/\X.cell? ⟨gx+1,1,none⟩=some (.int .i64 r1)/\X.cell? ⟨gx+1,2,none⟩=some (.int .i64 r2)/\X.cell? ⟨gx+1,3,none⟩=some (.int .i64 r3)/\
    X.cell? ⟨jo,ko,none⟩=some (.int .i64 y0.kind)/\X.cell? ⟨jo,ko+1,none⟩=some (.int .i64 y0.n)/\X.cell? ⟨jo,ko+2,none⟩=some (.int .u8 y0.op)/\X.cell? ⟨jo,ko+3,none⟩=some (.slice ka0 y0.kids.length kc0)/\
    X.cell? ⟨jo,ko+4,none⟩=some (.int .i64 y1.kind)/\X.cell? ⟨jo,ko+4+1,none⟩=some (.int .i64 y1.n)/\X.cell? ⟨jo,ko+4+2,none⟩=some (.int .u8 y1.op)/\X.cell? ⟨jo,ko+4+3,none⟩=some (.slice ka1 y1.kids.length kc1)):=fun X hX=>
   ⟨zl hX _ _ c3,zl hX _ _ (H2.out 0 (by omega)),zl hX _ _ (H2.out 1 (by omega)),zl hX _ _ (H2.out 2 (by omega)),zl hX _ _ (H2.out 3 (by omega)),hk X hX _ _ p0,hk X hX _ _ p1,hk X hX _ _ p2,hk X hX _ _ p3,hk X hX _ _ q0,hk X hX _ _ q1,hk X hX _ _ q2,hk X hX _ _ q3⟩
  have HX0:Hid (∀X,Below W.heap.size W X->Calls Tryz.prog 183 #[.agg #[.int .i64 y0.kind, .int .i64 y0.n, .int .u8 y0.op, .slice ka0 y0.kids.length kc0], .agg #[.int .i64 r0, .int .i64 r1, .int .i64 r2, .int .i64 r3], .int .i64 dom] X fun e w'=>e= .returned (.int .i64 (yw [r0,r1,r2,r3] dom d y0))/\Below X.heap.size X w'):=fun X hX=>HIH.out X y0 _ (hx0.below (HB.out.trans (hX.mono HB.out.size)))
  have HX1:Hid (∀X,Below W.heap.size W X->Calls Tryz.prog 183 #[.agg #[.int .i64 y1.kind, .int .i64 y1.n, .int .u8 y1.op, .slice ka1 y1.kids.length kc1], .agg #[.int .i64 r0, .int .i64 r1, .int .i64 r2, .int .i64 r3], .int .i64 dom] X fun e w'=>e= .returned (.int .i64 (yw [r0,r1,r2,r3] dom d y1))/\Below X.heap.size X w'):=fun X hX=>HIH.out X y1 _ (hx1.below (HB.out.trans (hX.mono HB.out.size)))
  obtain⟨va,hva⟩:∃v,v=yw [r0,r1,r2,r3] dom d y0:=⟨_,rfl⟩
  obtain⟨vb,hvb⟩:∃v,v=yw [r0,r1,r2,r3] dom d y1:=⟨_,rfl⟩
  rw [<-hva] at HX0 HR3
  rw [<-hvb] at HX1 HR3
  clear p0 p1 p2 p3 q0 q1 q2 q3 hx0 hx1 hk hy0 hy1 hva hvb
  go_wp2_with fail
  refine(zjS W o).mono ?_
  rintro e w2 ⟨⟨v,rfl,hv⟩,hb2⟩
  have HB2:=qh hb2
  clear c0 c1 c2 c3 hb2
  rcases hv with hv|⟨rfl,hz⟩
  ·obtain⟨f,cap,rfl,hfn,hop⟩:=hv
   have xB:=qh (hop)
   clear hop
   have C2:Hid (∀X,Below w2.heap.size w2 X->X.cell? ⟨gx,3,none⟩=some (.slice (some ⟨jo,ko,none⟩) 2 kc)/\X.cell? ⟨gx+1,0,none⟩=some (.int .i64 r0)/\X.cell? ⟨gx+1,1,none⟩=some (.int .i64 r1)/\X.cell? ⟨gx+1,2,none⟩=some (.int .i64 r2)/\X.cell? ⟨gx+1,3,none⟩=some (.int .i64 r3)/\
    X.cell? ⟨jo,ko,none⟩=some (.int .i64 y0.kind)/\X.cell? ⟨jo,ko+1,none⟩=some (.int .i64 y0.n)/\X.cell? ⟨jo,ko+2,none⟩=some (.int .u8 y0.op)/\X.cell? ⟨jo,ko+3,none⟩=some (.slice ka0 y0.kids.length kc0)/\
    X.cell? ⟨jo,ko+4,none⟩=some (.int .i64 y1.kind)/\X.cell? ⟨jo,ko+4+1,none⟩=some (.int .i64 y1.n)/\X.cell? ⟨jo,ko+4+2,none⟩=some (.int .u8 y1.op)/\X.cell? ⟨jo,ko+4+3,none⟩=some (.slice ka1 y1.kids.length kc1)):=fun X hX=>CC.out X (zF HB2.out hX)
   have HY0:Hid (∀X,Below w2.heap.size w2 X->Calls Tryz.prog 183 #[.agg #[.int .i64 y0.kind, .int .i64 y0.n, .int .u8 y0.op, .slice ka0 y0.kids.length kc0], .agg #[.int .i64 r0, .int .i64 r1, .int .i64 r2, .int .i64 r3], .int .i64 dom] X fun e w'=>e= .returned (.int .i64 va)/\Below X.heap.size X w'):=fun X hX=>HX0.out X (zF HB2.out hX)
   have bF:Hid (∀X,Below w2.heap.size w2 X->Calls Tryz.prog 183 #[.agg #[.int .i64 y1.kind, .int .i64 y1.n, .int .u8 y1.op, .slice ka1 y1.kids.length kc1], .agg #[.int .i64 r0, .int .i64 r1, .int .i64 r2, .int .i64 r3], .int .i64 dom] X fun e w'=>e= .returned (.int .i64 vb)/\Below X.heap.size X w'):=fun X hX=>HX1.out X (zF HB2.out hX)
   have yu:Hid (Below w.heap.size w w2):=HB.out.trans (HB2.out.mono HB.out.size)
   have hdz:dom≠0:=by omega
   have zB8:((dom:Int)==0)=false:=by simp [hdz]
   clear HX0 HX1 CC HIH
   have heq:=ztv w2 (.func f) #[] cap
   go_upto_region 10 with fail
   clear heq
   refine wp_region_noPanic ?_
   refine wp_region_held_drew (S:=fun x=>Below w2.heap.size w2 x) (by kernel_rfl) (Below.refl _ _).drew (fun hH=> ?_)
   refine zo 0 52 ?vh1 rfl ?uH ?_
   case uH=>(intro x h;have e:=C2.out x h;go_simp<;>rfl)
   simp only [Act.put,za,ze,zh]
   refine zo 1 53 ?vh2 rfl ?uI ?_
   case uI=>(intro x h;have e:=C2.out x h;go_simp<;>rfl)
   simp only [Act.put,za,ze,zh]
   refine zo 2 54 ?vh3 rfl ?uJ ?_
   case uJ=>(intro x h;have e:=C2.out x h;go_simp<;>rfl)
   simp only [Act.put,za,ze,zh]
   refine zo 3 55 ?vh4 rfl ?uK ?_
   case uK=>(intro x h;have e:=C2.out x h;go_simp<;>rfl)
   simp only [Act.put,za,ze,zh]
   refine zo 4 56 ?vh5 rfl ?uL ?_
   case uL=>(intro x h;have e:=C2.out x h;go_simp<;>rfl)
   simp only [Act.put,za,ze,zh]
   refine zo 5 57 ?vh6 rfl ?uM ?_
   case uM=>(intro x h;have e:=C2.out x h;go_simp<;>rfl)
   simp only [Act.put,za,ze,zh]
   refine zo 6 58 ?vh7 rfl ?uN ?_
   case uN=>(intro x h;have e:=C2.out x h;go_simp<;>rfl)
   simp only [Act.put,za,ze,zh]
   refine zo 8 60 ?vh8 rfl ?uO ?_
   case uO=>(intro x h;have e:=C2.out x h;go_simp<;>rfl)
   simp only [Act.put,za,ze,zh]
   refine zo 9 61 ?vh9 rfl ?zaa ?_
   case zaa=>(intro x h;have e:=C2.out x h;go_simp<;>rfl)
   simp only [Act.put,za,ze,zh]
   refine zo 10 62 ?zrE rfl ?zcD ?_
   case zcD=>(intro x h;have e:=C2.out x h;go_simp<;>rfl)
   simp only [Act.put,za,ze,zh]
   refine zo 11 63 ?z0q rfl ?zg5 ?_
   case zg5=>(intro x h;have e:=C2.out x h;go_simp<;>rfl)
   simp only [Act.put,za,ze,zh]
   refine zo 12 64 ?zB9 rfl ?znt ?_
   case znt=>(intro x h;have e:=C2.out x h;go_simp<;>rfl)
   simp only [Act.put,za,ze,zh]
   refine zo 13 65 ?zBA rfl ?znu ?_
   case znu=>(intro x h;have e:=C2.out x h;go_simp<;>rfl)
   simp only [Act.put,za,ze,zh]
   refine zo 16 68 ?zBB rfl ?znv ?_
   case znv=>(intro x h;have e:=C2.out x h;go_simp<;>rfl)
   simp only [Act.put,za,ze,zh]
   refine zY 7 rfl (fun K hK=> ?_)
   go_simp
   refine(HY0.out w2.drew hH).mono ?_
   rintro e hw7 ⟨rfl,hb⟩
   have uR:Below w2.heap.size w2 hw7:=zF hH hb
   refine hK.out _ _ uR (fun _=> ?_)
   clear hK K hb hH
   refine zY 14 rfl (fun K hK=> ?_)
   go_simp
   refine(bF.out hw7 uR).mono ?_
   rintro e z0r ⟨rfl,hb⟩
   have zhZ:Below w2.heap.size w2 z0r:=zF uR hb
   refine hK.out _ _ zhZ (fun _=> ?_)
   clear hK K hb uR
   refine zY 15 rfl (fun K hK=> ?_)
   go_simp
   refine(xB.out z0r zhZ va vb).mono ?_
   rintro e z0s ⟨rfl,hb⟩
   have zuD:Below w2.heap.size w2 z0s:=zF zhZ hb
   refine hK.out _ _ zuD (fun _=> ?_)
   clear hK K hb zhZ
   refine zo 17 69 ?zBC rfl ?znw ?_
   case znw=>(intro x h;have e:=C2.out x h;go_simp<;>rfl)
   simp only [Act.put,za,ze,zh]
   refine zo 18 8 ?zK0 rfl ?z4W ?_
   case z4W=>(intro x h;have e:=C2.out x h;go_simp<;>rfl)
   simp only [Act.put,za,ze,zh]
   refine wpAnyH_done (by kernel_rfl) ?_ _
   refine NoPanic.normal ?_
   have xg:Hid (Below w.heap.size w z0s):=yu.out.trans (zuD.mono yu.out.size)
   clear HY0 bF xB hfn C2 hdz zB8
   obtain⟨q9,hq9⟩:∃q,q=(evalOp o va vb).tmod dom:=⟨_,rfl⟩
   rw [<-hq9]
   have hrr:r=if q9<0 then q9+dom else q9:=by rw [HR3.out, <-zqh _ _ hd1, <-hq9]
   have h91:=Int.tmod_lt_of_pos (evalOp o va vb) (show 0<dom by omega)
   have h92:=Int.lt_tmod_of_pos (evalOp o va vb) (show 0<dom by omega)
   rw [<-hq9] at h91 h92
   have t4:=wrap_add h91 h92 hd1 hd2
   have HRR:=qh hrr
   clear hq9 hrr h91 h92 HR3
   by_cases hneg:q9<0
   ·obtain rfl:r=q9+dom:=by rw [HRR.out,if_pos hneg]
    clear HRR
    go_wp2_with fail
    go_ret
    exact⟨by simp [t4],xg.out⟩
   ·obtain rfl:r=q9:=by rw [HRR.out,if_neg hneg]
    clear HRR
    go_wp2_with fail
    go_ret
    exact⟨by first|rfl|simp,xg.out⟩
  ·obtain rfl:r=0:=by rw [HR3.out,hz];simp
   clear HR3 hz
   have heq:=zjU w2
   go_wp2_with fail
   go_ret
   exact⟨by first|rfl|simp,HB.out.trans (HB2.out.mono HB.out.size)⟩
end Go.Proofs.YtliajkheeniljaaGreatDoor
