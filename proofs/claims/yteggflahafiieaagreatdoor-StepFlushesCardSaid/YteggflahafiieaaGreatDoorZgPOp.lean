/- Steps. -/
import Derived.Test.YteggflahafiieaaGreatDoorZgEval
import Derived.Test.YteggflahafiieaaGreatDoorZgKFuncs
set_option linter.all false
namespace Go.Proofs.YteggflahafiieaaGreatDoor
open Go.RowKit
set_option maxRecDepth 100000
set_option maxHeartbeats 16000000
theorem zxk (w:World) (a b:Int):Calls Tryz.prog 177 #[.int .i64 a, .int .i64 b] w λe w'=>e= .returned (.int .i64 (evalOp 43 a b))/\Below w.heap.size w w':=by
 have hr:evalOp 43 a b=wrap64 (a+b):=by simp [evalOp]
 rw [hr]
 go_enter Tryz.func177,Tryz.ntmps177
 go_wp2_with fail
 go_ret
 exact⟨by first|rfl|simp,Below.refl _ _⟩
theorem zxl (w:World) (a b:Int):Calls Tryz.prog 178 #[.int .i64 a, .int .i64 b] w λe w'=>e= .returned (.int .i64 (evalOp 45 a b))/\Below w.heap.size w w':=by
 have hr:evalOp 45 a b=wrap64 (a - b):=by simp [evalOp]
 rw [hr]
 go_enter Tryz.func178,Tryz.ntmps178
 go_wp2_with fail
 go_ret
 exact⟨by first|rfl|simp,Below.refl _ _⟩
theorem zxm (w:World) (a b:Int):Calls Tryz.prog 179 #[.int .i64 a, .int .i64 b] w λe w'=>e= .returned (.int .i64 (evalOp 42 a b))/\Below w.heap.size w w':=by
 have hr:evalOp 42 a b=wrap64 (a*b):=by simp [evalOp]
 rw [hr]
 go_enter Tryz.func179,Tryz.ntmps179
 go_wp2_with fail
 go_ret
 exact⟨by first|rfl|simp,Below.refl _ _⟩
theorem zxn (w:World) (a b:Int):Calls Tryz.prog 180 #[.int .i64 a, .int .i64 b] w λe w'=>e= .returned (.int .i64 (evalOp 38 a b))/\Below w.heap.size w w':=by
 have hr:evalOp 38 a b=bits .and .i64 a b:=by simp [evalOp]
 rw [hr]
 go_enter Tryz.func180,Tryz.ntmps180
 go_wp2_with fail
 go_ret
 exact⟨by first|rfl|simp,Below.refl _ _⟩
theorem zxo (w:World) (a b:Int):Calls Tryz.prog 181 #[.int .i64 a, .int .i64 b] w λe w'=>e= .returned (.int .i64 (evalOp 124 a b))/\Below w.heap.size w w':=by
 have hr:evalOp 124 a b=bits .or .i64 a b:=by simp [evalOp]
 rw [hr]
 go_enter Tryz.func181,Tryz.ntmps181
 go_wp2_with fail
 go_ret
 exact⟨by first|rfl|simp,Below.refl _ _⟩
theorem zxp (w:World) (a b:Int):Calls Tryz.prog 183 #[.int .i64 a, .int .i64 b] w λe w'=>e= .returned (.bool (decide (a<b)))/\w'=w:=by
 go_enter Tryz.func183,Tryz.ntmps183
 go_wp2_with fail
 go_ret
 exact⟨congrArg (λq=>Ending.returned (.bool q)) (by first|rfl|(rw [Bool.eq_iff_iff];simp)),rfl⟩
theorem zxq (w:World) (a b:Int):Calls Tryz.prog 184 #[.int .i64 a, .int .i64 b] w λe w'=>e= .returned (.bool (decide (a=b)))/\w'=w:=by
 go_enter Tryz.func184,Tryz.ntmps184
 go_wp2_with fail
 go_ret
 exact⟨congrArg (λq=>Ending.returned (.bool q)) (by first|rfl|(rw [Bool.eq_iff_iff];simp)),rfl⟩
theorem zxr (w:World) (a b:Int):Calls Tryz.prog 185 #[.int .i64 a, .int .i64 b] w λe w'=>e= .returned (.bool (!decide (a=b)))/\w'=w:=by
 go_enter Tryz.func185,Tryz.ntmps185
 go_wp2_with fail
 go_ret
 exact⟨congrArg (λq=>Ending.returned (.bool q)) (by first|rfl|(rw [Bool.eq_iff_iff];simp)),rfl⟩
def z16 (w:World) (op:Int) (v:Value):Prop:=∃f cap,v= .func (.func f) #[] cap/\(∀args W,(callFunc f args).run Tryz.prog W= .ok (.enter f args) W)/\
 ∀W,Below w.heap.size w W->∀a b:Int,Calls Tryz.prog f (#[.int .i64 a, .int .i64 b] ++cap) W λe W'=>e= .returned (.int .i64 (evalOp op a b))/\Below W.heap.size W W'
theorem zcj (w:World) (f:FuncId) (g:Nat) (hg:w.cell? ⟨g,0,none⟩=some (.func (.func f) #[] #[])) (hf:∀args W,(callFunc f args).run Tryz.prog W= .ok (.enter f args) W) (op a b:Int) (r:Bool) (hr:evalOp op a b=if r then 1 else 0)
  (hc:Calls Tryz.prog f #[.int .i64 a, .int .i64 b] w λe w'=>e= .returned (.bool r)/\w'=w):
  Calls Tryz.prog 209 #[.int .i64 a, .int .i64 b, .pointer (some ⟨g,0,none⟩)] w λe w'=>e= .returned (.int .i64 (evalOp op a b))/\Below w.heap.size w w':=by
 have HC:=qh hc
 have HR:=qh hr
 clear hc hr
 cases r with
 |true=>
  rw [HR.out]
  clear HR
  go_enter Tryz.func209,Tryz.ntmps209
  go_wp2_with fail
  refine HC.out.mono ?_
  rintro e w2 ⟨rfl,rfl⟩
  go_wp2_with fail
  go_ret
  exact⟨by first|rfl|simp,Below.refl _ _⟩
 |false=>
 rw [HR.out]
 clear HR
 go_enter Tryz.func209,Tryz.ntmps209
 go_wp2_with fail
 refine HC.out.mono ?_
 rintro e w2 ⟨rfl,rfl⟩
 go_wp2_with fail
 go_ret
 exact⟨by first|rfl|simp,Below.refl _ _⟩
theorem zcZ (w:World) (f:FuncId):Calls Tryz.prog 182 #[.func (.func f) #[] #[]] w λe w'=>e= .returned (.func (.func 209) #[] #[.pointer (some ⟨w.heap.size,0,none⟩)])/\w'.cell? ⟨w.heap.size,0,none⟩=some (.func (.func f) #[] #[])/\w.heap.size<w'.heap.size/\Below w.heap.size w w':=by
 have HA:=qh ((Below.refl w.heap.size w).alloc (Nat.le_refl _) (.cells #[.func (.func f) #[] #[]] 169))
 have HX:=qh (yE w (.cells #[.func (.func f) #[] #[]] 169))
 go_enter Tryz.func182,Tryz.ntmps182
 go_wp2_with fail
 go_ret
 exact⟨rfl,za HX.out 0,by simp,HA.out⟩
theorem zkY (w:World) (op:Int):Calls Tryz.prog 143 #[.int .u8 op] w λe w'=>(∃v,e= .returned v/\(z16 w' op v\/(v= .nilFunc/\∀a b,evalOp op a b=0)))/\Below w.heap.size w w':=by
 by_cases o0:op=43
 ·subst o0
  go_enter Tryz.func143,Tryz.ntmps143
  go_wp2_with fail
  go_ret
  exact⟨⟨_,rfl, .inl ⟨177, #[],rfl,λ_ _=>rfl,λW _ a b=>zxk W a b⟩⟩,Below.refl _ _⟩
 skip
 by_cases o1:op=45
 ·subst o1
  clear o0
  go_enter Tryz.func143,Tryz.ntmps143
  go_wp2_with fail
  go_ret
  exact⟨⟨_,rfl, .inl ⟨178, #[],rfl,λ_ _=>rfl,λW _ a b=>zxl W a b⟩⟩,Below.refl _ _⟩
 skip
 by_cases o2:op=42
 ·subst o2
  clear o0 o1
  go_enter Tryz.func143,Tryz.ntmps143
  go_wp2_with fail
  go_ret
  exact⟨⟨_,rfl, .inl ⟨179, #[],rfl,λ_ _=>rfl,λW _ a b=>zxm W a b⟩⟩,Below.refl _ _⟩
 skip
 by_cases o3:op=38
 ·subst o3
  clear o0 o1 o2
  go_enter Tryz.func143,Tryz.ntmps143
  go_wp2_with fail
  go_ret
  exact⟨⟨_,rfl, .inl ⟨180, #[],rfl,λ_ _=>rfl,λW _ a b=>zxn W a b⟩⟩,Below.refl _ _⟩
 skip
 by_cases o4:op=124
 ·subst o4
  clear o0 o1 o2 o3
  go_enter Tryz.func143,Tryz.ntmps143
  go_wp2_with fail
  go_ret
  exact⟨⟨_,rfl, .inl ⟨181, #[],rfl,λ_ _=>rfl,λW _ a b=>zxo W a b⟩⟩,Below.refl _ _⟩
 skip
 by_cases o5:op=60
 ·subst o5
  clear o0 o1 o2 o3 o4
  go_enter Tryz.func143,Tryz.ntmps143
  go_wp2_with fail
  refine(zcZ w 183).mono ?_
  rintro e w2 ⟨rfl,hc,hlt,hb⟩
  have HC:=qh hc
  have HB:=qh hb
  have HLT:=qh hlt
  clear hc hb hlt
  go_wp2_with fail
  go_ret
  exact⟨⟨_,rfl, .inl ⟨209, #[.pointer (some ⟨w.heap.size,0,none⟩)],rfl,λ_ _=>rfl,λW hW a b=>zcj W 183 w.heap.size (zh hW _ _ HC.out) (λ_ _=>rfl) 60 a b (decide (a<b)) (by simp [evalOp]) (zxp W a b)⟩⟩,HB.out⟩
 skip
 by_cases o6:op=61
 ·subst o6
  clear o0 o1 o2 o3 o4 o5
  go_enter Tryz.func143,Tryz.ntmps143
  go_wp2_with fail
  refine(zcZ w 184).mono ?_
  rintro e w2 ⟨rfl,hc,hlt,hb⟩
  have HC:=qh hc
  have HB:=qh hb
  have HLT:=qh hlt
  clear hc hb hlt
  go_wp2_with fail
  go_ret
  exact⟨⟨_,rfl, .inl ⟨209, #[.pointer (some ⟨w.heap.size,0,none⟩)],rfl,λ_ _=>rfl,λW hW a b=>zcj W 184 w.heap.size (zh hW _ _ HC.out) (λ_ _=>rfl) 61 a b (decide (a=b)) (by simp [evalOp]) (zxq W a b)⟩⟩,HB.out⟩
 skip
 by_cases o7:op=33
 ·subst o7
  clear o0 o1 o2 o3 o4 o5 o6
  go_enter Tryz.func143,Tryz.ntmps143
  go_wp2_with fail
  refine(zcZ w 185).mono ?_
  rintro e w2 ⟨rfl,hc,hlt,hb⟩
  have HC:=qh hc
  have HB:=qh hb
  have HLT:=qh hlt
  clear hc hb hlt
  go_wp2_with fail
  go_ret
  exact⟨⟨_,rfl, .inl ⟨209, #[.pointer (some ⟨w.heap.size,0,none⟩)],rfl,λ_ _=>rfl,λW hW a b=>zcj W 185 w.heap.size (zh hW _ _ HC.out) (λ_ _=>rfl) 33 a b (!decide (a=b)) (by simp [evalOp]) (zxr W a b)⟩⟩,HB.out⟩
 have hz:∀a b,evalOp op a b=0:=λa b=>by simp [evalOp,o0,o1,o2,o3,o4,o5,o6,o7]
 have n0:((op:Int)==43)=false:=by simp [o0]
 have n1:((op:Int)==45)=false:=by simp [o1]
 have n2:((op:Int)==42)=false:=by simp [o2]
 have n3:((op:Int)==38)=false:=by simp [o3]
 have n4:((op:Int)==124)=false:=by simp [o4]
 have n5:((op:Int)==60)=false:=by simp [o5]
 have n6:((op:Int)==61)=false:=by simp [o6]
 have n7:((op:Int)==33)=false:=by simp [o7]
 have HZ:=qh hz
 clear hz o0 o1 o2 o3 o4 o5 o6 o7
 go_enter Tryz.func143,Tryz.ntmps143
 go_wp2_with fail
 go_ret
 exact⟨⟨_,rfl, .inr ⟨rfl,HZ.out⟩⟩,Below.refl _ _⟩
theorem zjk:Tryz.prog.underlying 217=some (.func #[3,3] #[3] false):=by kernel_rfl
theorem zkZ (w:World) (d:Nat) (f:Fn) (a c:Array Value):(Op.equalIn (d+1) 217 (.func f a c) .nilFunc).run Tryz.prog w= .ok false w:=by simp [Op.equalIn,run_underlying zjk]
theorem zfG (w:World) (d:Nat):(Op.equalIn (d+1) 217 .nilFunc .nilFunc).run Tryz.prog w= .ok true w:=by simp [Op.equalIn,run_underlying zjk]
theorem ztF (w:World) (f:Fn) (a c:Array Value):(binOp .eql 217 (.func f a c) .nilFunc).run Tryz.prog w= .ok (.bool false) w:=by
 have h:(Op.equal 217 (.func f a c) .nilFunc).run Tryz.prog w= .ok false w:=zkZ w 9999 f a c
 simp only [binOp]
 simp [h]
theorem zla (w:World):(binOp .eql 217 .nilFunc .nilFunc).run Tryz.prog w= .ok (.bool true) w:=by
 have h:(Op.equal 217 .nilFunc .nilFunc).run Tryz.prog w= .ok true w:=zfG w 9999
 simp only [binOp]
 simp [h]
theorem zrm (n dom:Int) (h:1<=dom):(if n.tmod dom<0 then n.tmod dom+dom else n.tmod dom)=n % dom:=by
 rw [<-vZ n dom h]
 have h1:=Int.tmod_lt_of_pos n (show 0<dom by omega)
 have h2:=Int.lt_tmod_of_pos n (show 0<dom by omega)
 generalize n.tmod dom=q at h1 h2 ⊢
 rw [Int.tmod_eq_emod_of_nonneg (by omega)]
 split
 ·rw [Int.emod_eq_of_lt (by omega) (by omega)]
 rw [Int.add_emod_right,Int.emod_eq_of_lt (by omega) (by omega)]
theorem zrn (r0 r1 r2 r3 dom:Int) (hd1:1<=dom) (hd2:dom<=1000) (d:Nat):∀(w:World) (x:zH) (kv:Value),zx d w x kv->
  Calls Tryz.prog 104 #[xQ x kv, .agg #[.int .i64 r0, .int .i64 r1, .int .i64 r2, .int .i64 r3], .int .i64 dom] w λe w'=>e= .returned (.int .i64 (zZ [r0,r1,r2,r3] dom d x))/\Below w.heap.size w w':=by
 induction d with
 |zero=>intro w x kv h;exact h.elim
 |succ d ih=>
 intro w x kv h
 obtain⟨ka,kc,rfl,hkl⟩:=h.slice
 obtain⟨k,hk⟩:∃k,k=x.kind:=⟨_,rfl⟩
 obtain⟨n,hn⟩:∃n,n=x.n:=⟨_,rfl⟩
 obtain⟨o,ho⟩:∃o,o=x.op:=⟨_,rfl⟩
 obtain⟨m,hm⟩:∃m,m=x.kids.length:=⟨_,rfl⟩
 obtain⟨r,hr⟩:∃r,r=zZ [r0,r1,r2,r3] dom (d+1) x:=⟨_,rfl⟩
 have hr2:r=(if k=1 then n else if k=2 then(if 0<=n/\n<4 then [r0,r1,r2,r3].getD n.toNat 0 else 0)
  else if k=3/\m=2 then evalOp o (zZ [r0,r1,r2,r3] dom d (x.kids.getD 0 default)) (zZ [r0,r1,r2,r3] dom d (x.kids.getD 1 default)) % dom else 0):=by rw [hr,hk,hn,ho,hm];rfl
 rw [<-hr]
 have HR:=qh hr2
 have HM:=qh hm
 rw [<-hm] at h hkl
 have HE:=qh h
 have HIH:=qh ih
 unfold xQ
 rw [<-hk, <-hn, <-ho, <-hm]
 clear hk hn ho hm hr hr2 h ih
 have HB:=qh (xZ w (.cells #[.int .i64 k, .int .i64 n, .int .u8 o, .slice ka m kc] 51) (.cells #[.int .i64 r0, .int .i64 r1, .int .i64 r2, .int .i64 r3] 44))
 have H1:=qh (xL w (.cells #[.int .i64 k, .int .i64 n, .int .u8 o, .slice ka m kc] 51) (.cells #[.int .i64 r0, .int .i64 r1, .int .i64 r2, .int .i64 r3] 44))
 have H2:=qh (zlb w (.cells #[.int .i64 k, .int .i64 n, .int .u8 o, .slice ka m kc] 51) r0 r1 r2 r3)
 go_enter Tryz.func104,Tryz.ntmps104
 go_upto_region 1 with fail
 generalize World.alloc (World.alloc w _) _=W at HB H1 H2 ⊢
 obtain⟨gx,hgx⟩:∃gx,gx=w.heap.size:=⟨_,rfl⟩
 rw [<-hgx] at H1 H2 ⊢
 clear hgx
 have c0:W.cell? ⟨gx,0,none⟩=some (.int .i64 k):=za H1.out 0
 have c1:W.cell? ⟨gx,1,none⟩=some (.int .i64 n):=za H1.out 1
 have c2:W.cell? ⟨gx,2,none⟩=some (.int .u8 o):=za H1.out 2
 have c3:W.cell? ⟨gx,3,none⟩=some (.slice ka m kc):=za H1.out 3
 by_cases k1:k=1
 ·obtain rfl:r=n:=by rw [HR.out,if_pos k1]
  clear HR
  subst k1
  go_wp2_with fail
  go_ret
  exact⟨by first|rfl|simp,HB.out⟩
 have kb:((k:Int)==1)=false:=by simp [k1]
 by_cases k2:k=2
 ·by_cases a1:0<=n
  rotate_left
  ·obtain rfl:r=0:=by rw [HR.out,if_neg k1,if_pos k2,if_neg (λh=>a1 h.1)]
   subst k2
   clear HR k1
   go_wp2_with fail
   go_ret
   exact⟨by first|rfl|simp,HB.out⟩
  by_cases a2:n<4
  ·obtain⟨q,rfl⟩:∃q:Nat,n=(q:Int):=⟨n.toNat,by omega⟩
   have hq4:q<4:=by omega
   have xP:=H2.out q hq4
   have hr3:r= [r0,r1,r2,r3].getD q 0:=by rw [HR.out,if_neg k1,if_pos k2,if_pos ⟨a1,a2⟩];simp
   rw [<-hr3] at xP
   subst k2
   clear HR k1 hr3
   go_wp2_with fail
   go_ret
   exact⟨by first|rfl|simp,HB.out⟩
  obtain rfl:r=0:=by rw [HR.out,if_neg k1,if_pos k2,if_neg (λh=>a2 h.2)]
  subst k2
  clear HR k1
  go_wp2_with fail
  go_ret
  exact⟨by first|rfl|simp,HB.out⟩
 have kb2:((k:Int)==2)=false:=by simp [k2]
 have HR2:Hid (r=if k=3/\m=2 then evalOp o (zZ [r0,r1,r2,r3] dom d (x.kids.getD 0 default)) (zZ [r0,r1,r2,r3] dom d (x.kids.getD 1 default)) % dom else 0):=by rw [Hid,HR.out,if_neg k1,if_neg k2]
 clear HR k1 k2
 by_cases k3:k=3
 rotate_left
 ·have kb3:((k:Int) !=3)=true:=by simp [k3]
  have kb4:((k:Int)==3)=false:=by simp [k3]
  obtain rfl:r=0:=by rw [HR2.out,if_neg (λh=>k3 h.1)]
  clear HR2 k3
  go_wp2_with fail
  go_ret
  exact⟨by first|rfl|simp,HB.out⟩
 by_cases m2:m=2
 rotate_left
 ·obtain rfl:r=0:=by rw [HR2.out,if_neg (λh=>m2 h.2)]
  have b2:((m:Int) !=2)=true:=by rw [bne_iff_ne];omega
  have b3:(m==2)=false:=by simp [m2]
  clear HR2
  subst k3
  go_wp2_with fail
  go_ret
  exact⟨by first|rfl|simp,HB.out⟩
 have HR3:Hid (r=evalOp o (zZ [r0,r1,r2,r3] dom d (x.kids.getD 0 default)) (zZ [r0,r1,r2,r3] dom d (x.kids.getD 1 default)) % dom):=by rw [Hid,HR2.out,if_pos ⟨k3,m2⟩]
 clear HR2 kb kb2
 subst k3
 subst m2
 have hdn:¬dom<1:=by omega
 obtain⟨jy,ko,ka0,kc0,hka, -,p0,p1,p2,p3,hx0⟩:=HE.out.part 0 (by rw [<-HM.out];omega)
 subst hka
 obtain⟨zxK,ko2,ka1,kc1,hka, -,q0,q1,q2,q3,hx1⟩:=HE.out.part 1 (by rw [<-HM.out];omega)
 cases hka
 obtain⟨y0,hy0⟩:∃y,y=x.kids.getD 0 default:=⟨_,rfl⟩
 obtain⟨y1,hy1⟩:∃y,y=x.kids.getD 1 default:=⟨_,rfl⟩
 rw [<-hy0] at p0 p1 p2 p3 hx0
 rw [<-hy1] at q0 q1 q2 q3 hx1
 rw [<-hy0, <-hy1] at HR3
 rw [Nat.zero_mul,Nat.add_zero] at p0 p1 p2 p3
 rw [Nat.one_mul] at q0 q1 q2 q3
 have hk:=λX (hX:Below W.heap.size W X)=>zh (HB.out.trans (hX.mono HB.out.size))
 have CC:Hid (∀X,Below W.heap.size W X->X.cell? ⟨gx,3,none⟩=some (.slice (some ⟨jy,ko,none⟩) 2 kc)/\X.cell? ⟨gx+1,0,none⟩=some (.int .i64 r0)/\X.cell? ⟨gx+1,1,none⟩=some (.int .i64 r1)/\X.cell? ⟨gx+1,2,none⟩=some (.int .i64 r2)/\X.cell? ⟨gx+1,3,none⟩=some (.int .i64 r3)/\
   X.cell? ⟨jy,ko,none⟩=some (.int .i64 y0.kind)/\X.cell? ⟨jy,ko+1,none⟩=some (.int .i64 y0.n)/\X.cell? ⟨jy,ko+2,none⟩=some (.int .u8 y0.op)/\X.cell? ⟨jy,ko+3,none⟩=some (.slice ka0 y0.kids.length kc0)/\
   X.cell? ⟨jy,ko+4,none⟩=some (.int .i64 y1.kind)/\X.cell? ⟨jy,ko+4+1,none⟩=some (.int .i64 y1.n)/\X.cell? ⟨jy,ko+4+2,none⟩=some (.int .u8 y1.op)/\X.cell? ⟨jy,ko+4+3,none⟩=some (.slice ka1 y1.kids.length kc1)):=λX hX=>
  ⟨zh hX _ _ c3,zh hX _ _ (H2.out 0 (by omega)),zh hX _ _ (H2.out 1 (by omega)),zh hX _ _ (H2.out 2 (by omega)),zh hX _ _ (H2.out 3 (by omega)),hk X hX _ _ p0,hk X hX _ _ p1,hk X hX _ _ p2,hk X hX _ _ p3,hk X hX _ _ q0,hk X hX _ _ q1,hk X hX _ _ q2,hk X hX _ _ q3⟩
 have HX0:Hid (∀X,Below W.heap.size W X->Calls Tryz.prog 104 #[.agg #[.int .i64 y0.kind, .int .i64 y0.n, .int .u8 y0.op, .slice ka0 y0.kids.length kc0], .agg #[.int .i64 r0, .int .i64 r1, .int .i64 r2, .int .i64 r3], .int .i64 dom] X λe w'=>e= .returned (.int .i64 (zZ [r0,r1,r2,r3] dom d y0))/\Below X.heap.size X w'):=λX hX=>HIH.out X y0 _ (hx0.below (HB.out.trans (hX.mono HB.out.size)))
 have HX1:Hid (∀X,Below W.heap.size W X->Calls Tryz.prog 104 #[.agg #[.int .i64 y1.kind, .int .i64 y1.n, .int .u8 y1.op, .slice ka1 y1.kids.length kc1], .agg #[.int .i64 r0, .int .i64 r1, .int .i64 r2, .int .i64 r3], .int .i64 dom] X λe w'=>e= .returned (.int .i64 (zZ [r0,r1,r2,r3] dom d y1))/\Below X.heap.size X w'):=λX hX=>HIH.out X y1 _ (hx1.below (HB.out.trans (hX.mono HB.out.size)))
 obtain⟨va,hva⟩:∃v,v=zZ [r0,r1,r2,r3] dom d y0:=⟨_,rfl⟩
 obtain⟨vb,hvb⟩:∃v,v=zZ [r0,r1,r2,r3] dom d y1:=⟨_,rfl⟩
 rw [<-hva] at HX0 HR3
 rw [<-hvb] at HX1 HR3
 clear p0 p1 p2 p3 q0 q1 q2 q3 hx0 hx1 hk hy0 hy1 hva hvb
 go_wp2_with fail
 refine(zkY W o).mono ?_
 rintro e w2 ⟨⟨v,rfl,hv⟩,hb2⟩
 have HB2:=qh hb2
 clear c0 c1 c2 c3 hb2
 rcases hv with hv|⟨rfl,hz⟩
 ·obtain⟨f,cap,rfl,hfn,hop⟩:=hv
  have xB:=qh (hop)
  clear hop
  have C2:Hid (∀X,Below w2.heap.size w2 X->X.cell? ⟨gx,3,none⟩=some (.slice (some ⟨jy,ko,none⟩) 2 kc)/\X.cell? ⟨gx+1,0,none⟩=some (.int .i64 r0)/\X.cell? ⟨gx+1,1,none⟩=some (.int .i64 r1)/\X.cell? ⟨gx+1,2,none⟩=some (.int .i64 r2)/\X.cell? ⟨gx+1,3,none⟩=some (.int .i64 r3)/\
   X.cell? ⟨jy,ko,none⟩=some (.int .i64 y0.kind)/\X.cell? ⟨jy,ko+1,none⟩=some (.int .i64 y0.n)/\X.cell? ⟨jy,ko+2,none⟩=some (.int .u8 y0.op)/\X.cell? ⟨jy,ko+3,none⟩=some (.slice ka0 y0.kids.length kc0)/\
   X.cell? ⟨jy,ko+4,none⟩=some (.int .i64 y1.kind)/\X.cell? ⟨jy,ko+4+1,none⟩=some (.int .i64 y1.n)/\X.cell? ⟨jy,ko+4+2,none⟩=some (.int .u8 y1.op)/\X.cell? ⟨jy,ko+4+3,none⟩=some (.slice ka1 y1.kids.length kc1)):=λX hX=>CC.out X (zB HB2.out hX)
  have HY0:Hid (∀X,Below w2.heap.size w2 X->Calls Tryz.prog 104 #[.agg #[.int .i64 y0.kind, .int .i64 y0.n, .int .u8 y0.op, .slice ka0 y0.kids.length kc0], .agg #[.int .i64 r0, .int .i64 r1, .int .i64 r2, .int .i64 r3], .int .i64 dom] X λe w'=>e= .returned (.int .i64 va)/\Below X.heap.size X w'):=λX hX=>HX0.out X (zB HB2.out hX)
  have uV:Hid (∀X,Below w2.heap.size w2 X->Calls Tryz.prog 104 #[.agg #[.int .i64 y1.kind, .int .i64 y1.n, .int .u8 y1.op, .slice ka1 y1.kids.length kc1], .agg #[.int .i64 r0, .int .i64 r1, .int .i64 r2, .int .i64 r3], .int .i64 dom] X λe w'=>e= .returned (.int .i64 vb)/\Below X.heap.size X w'):=λX hX=>HX1.out X (zB HB2.out hX)
  have yM:Hid (Below w.heap.size w w2):=HB.out.trans (HB2.out.mono HB.out.size)
  have hdz:dom≠0:=by omega
  have z5n:((dom:Int)==0)=false:=by simp [hdz]
  clear HX0 HX1 CC HIH
  have heq:=ztF w2 (.func f) #[] cap
  go_upto_region 10 with fail
  clear heq
  refine vJ (S:=λx=>Below w2.heap.size w2 x) (Below.refl _ _).drew (λhH=> ?_)
  refine zk 0 C2.out ?_
  refine zk 1 C2.out ?_
  refine zk 2 C2.out ?_
  refine zk 3 C2.out ?_
  refine zk 4 C2.out ?_
  refine zk 5 C2.out ?_
  refine zk 6 C2.out ?_
  refine zk 8 C2.out ?_
  refine zk 9 C2.out ?_
  refine zk 10 C2.out ?_
  refine zk 11 C2.out ?_
  refine zk 12 C2.out ?_
  refine zk 13 C2.out ?_
  refine zk 16 C2.out ?_
  refine yw 7 rfl (λK hK=> ?_)
  go_simp
  refine(HY0.out w2.drew hH).mono ?_
  rintro e hw7 ⟨rfl,hb⟩
  have zar:Below w2.heap.size w2 hw7:=zB hH hb
  refine hK.out _ _ zar (λ_=> ?_)
  clear hK K hb hH
  refine yw 14 rfl (λK hK=> ?_)
  go_simp
  refine(uV.out hw7 zar).mono ?_
  rintro e zxL ⟨rfl,hb⟩
  have zkL:Below w2.heap.size w2 zxL:=zB zar hb
  refine hK.out _ _ zkL (λ_=> ?_)
  clear hK K hb zar
  refine yw 15 rfl (λK hK=> ?_)
  go_simp
  refine(xB.out zxL zkL va vb).mono ?_
  rintro e zxM ⟨rfl,hb⟩
  have zvW:Below w2.heap.size w2 zxM:=zB zkL hb
  refine hK.out _ _ zvW (λ_=> ?_)
  clear hK K hb zkL
  refine zk 17 C2.out ?_
  refine zk 18 C2.out ?_
  refine xM ?_
  have xC:Hid (Below w.heap.size w zxM):=yM.out.trans (zvW.mono yM.out.size)
  clear HY0 uV xB hfn C2 hdz z5n
  obtain⟨q9,hq9⟩:∃q,q=(evalOp o va vb).tmod dom:=⟨_,rfl⟩
  rw [<-hq9]
  have hrr:r=if q9<0 then q9+dom else q9:=by rw [HR3.out, <-zrm _ _ hd1, <-hq9]
  have h91:=Int.tmod_lt_of_pos (evalOp o va vb) (show 0<dom by omega)
  have h92:=Int.lt_tmod_of_pos (evalOp o va vb) (show 0<dom by omega)
  rw [<-hq9] at h91 h92
  have t4:=wrap_add h91 h92 hd1 hd2
  have HRR:=qh hrr
  clear hq9 hrr h91 h92 HR3
  by_cases hneg:q9<0
  ·obtain rfl:r=q9+dom:=by rw [HRR.out,if_pos hneg]
   clear HRR
   go_wp2_with fail
   go_ret
   exact⟨by simp [t4],xC.out⟩
  obtain rfl:r=q9:=by rw [HRR.out,if_neg hneg]
  clear HRR
  go_wp2_with fail
  go_ret
  exact⟨by first|rfl|simp,xC.out⟩
 obtain rfl:r=0:=by rw [HR3.out,hz];simp
 clear HR3 hz
 have heq:=zla w2
 go_wp2_with fail
 go_ret
 exact⟨by first|rfl|simp,HB.out.trans (HB2.out.mono HB.out.size)⟩
