/- Steps. -/
import Derived.Test.YteggflahafiieaaGreatDoorZgLook
set_option linter.all false
namespace Go.Proofs.YteggflahafiieaaGreatDoor
open Go.RowKit
set_option maxRecDepth 100000
set_option maxHeartbeats 16000000
def evalOp (op a b:Int):Int:=
 if op=43 then wrap64 (a+b) else if op=45 then wrap64 (a - b) else if op=42 then wrap64 (a*b) else if op=38 then bits .and .i64 a b else if op=124 then bits .or .i64 a b
 else if op=60 then(if a<b then 1 else 0) else if op=61 then(if a=b then 1 else 0) else if op=33 then(if a=b then 0 else 1) else 0
def zZ (regs:List Int) (dom:Int):Nat->zH->Int
 |0,_=>0
 |d+1,x=>
 if x.kind=1 then x.n
 else if x.kind=2 then(if 0<=x.n/\x.n<4 then regs.getD x.n.toNat 0 else 0)
 else if x.kind=3/\x.kids.length=2 then evalOp x.op (zZ regs dom d (x.kids.getD 0 default)) (zZ regs dom d (x.kids.getD 1 default)) % dom
 else 0
theorem vZ (n dom:Int) (h:1<=dom):(n.tmod dom+dom).tmod dom=n % dom:=by
 have h1:=Int.tmod_lt_of_pos n (show 0<dom by omega)
 have h2:=Int.lt_tmod_of_pos n (show 0<dom by omega)
 rw [Int.tmod_eq_emod_of_nonneg (by omega),Int.add_emod_right]
 rw [Int.tmod_def]
 rw [Int.sub_emod,Int.mul_emod_right]
 simp
theorem wrap_add {q dom:Int} (h2:q<dom) (h3: -dom<q) (h1:1<=dom) (h:dom<=1000):wrap64 (q+dom)=q+dom:=by unfold wrap64;omega
theorem zlb (w:World) (o1:Obj) (r0 r1 r2 r3:Int):∀m:Nat,m<4->((w.alloc o1).alloc (.cells #[.int .i64 r0, .int .i64 r1, .int .i64 r2, .int .i64 r3] 44)).cell? ⟨w.heap.size+1,m,none⟩=some (.int .i64 ([r0,r1,r2,r3].getD m 0)):=λm hm=>by
 rw [za (xE w _ _) m]
 have:m=0\/m=1\/m=2\/m=3:=by omega
 rcases this with rfl|rfl|rfl|rfl<;>rfl
theorem znN (r0 r1 r2 r3 dom:Int) (hd1:1<=dom) (hd2:dom<=1000) (d:Nat):∀(w:World) (x:zH) (kv:Value),zx d w x kv->
  Calls Tryz.prog 82 #[xQ x kv, .agg #[.int .i64 r0, .int .i64 r1, .int .i64 r2, .int .i64 r3], .int .i64 dom] w λe w'=>e= .returned (.int .i64 (zZ [r0,r1,r2,r3] dom d x))/\Below w.heap.size w w':=by
 induction d with
 |zero=>intro w x kv h;exact h.elim
 |succ d ih=>
 intro w x kv h
 obtain⟨ka,kc,rfl,hkl⟩:=h.slice
 obtain⟨k,hk⟩:∃k,k=x.kind:=⟨_,rfl⟩
 obtain⟨n,hn⟩:∃n,n=x.n:=⟨_,rfl⟩
 obtain⟨o,ho⟩:∃o,o=x.op:=⟨_,rfl⟩
 obtain⟨m,hm⟩:∃m,m=x.kids.length:=⟨_,rfl⟩
 obtain⟨r,hr⟩:∃r,r=zZ [r0,r1,r2,r3] dom (d+1) x:=⟨_,rfl⟩
 have hr2:r=(if k=1 then n else if k=2 then(if 0<=n/\n<4 then [r0,r1,r2,r3].getD n.toNat 0 else 0)
  else if k=3/\m=2 then evalOp o (zZ [r0,r1,r2,r3] dom d (x.kids.getD 0 default)) (zZ [r0,r1,r2,r3] dom d (x.kids.getD 1 default)) % dom else 0):=by rw [hr,hk,hn,ho,hm];rfl
 rw [<-hr]
 have HR:=qh hr2
 have HM:=qh hm
 rw [<-hm] at h hkl
 have HE:=qh h
 have HIH:=qh ih
 unfold xQ
 rw [<-hk, <-hn, <-ho, <-hm]
 clear hk hn ho hm hr hr2 h ih
 have HB:=qh (xZ w (.cells #[.int .i64 k, .int .i64 n, .int .u8 o, .slice ka m kc] 51) (.cells #[.int .i64 r0, .int .i64 r1, .int .i64 r2, .int .i64 r3] 44))
 have H1:=qh (xL w (.cells #[.int .i64 k, .int .i64 n, .int .u8 o, .slice ka m kc] 51) (.cells #[.int .i64 r0, .int .i64 r1, .int .i64 r2, .int .i64 r3] 44))
 have H2:=qh (zlb w (.cells #[.int .i64 k, .int .i64 n, .int .u8 o, .slice ka m kc] 51) r0 r1 r2 r3)
 go_enter Tryz.func82,Tryz.ntmps82
 go_upto_region 1 with fail
 generalize World.alloc (World.alloc w _) _=W at HB H1 H2 ⊢
 obtain⟨gx,hgx⟩:∃gx,gx=w.heap.size:=⟨_,rfl⟩
 rw [<-hgx] at H1 H2 ⊢
 clear hgx
 have c0:W.cell? ⟨gx,0,none⟩=some (.int .i64 k):=za H1.out 0
 have c1:W.cell? ⟨gx,1,none⟩=some (.int .i64 n):=za H1.out 1
 have c2:W.cell? ⟨gx,2,none⟩=some (.int .u8 o):=za H1.out 2
 have c3:W.cell? ⟨gx,3,none⟩=some (.slice ka m kc):=za H1.out 3
 by_cases k1:k=1
 ·have kb:((k:Int)==1)=true:=by simp [k1]
  obtain rfl:r=n:=by rw [HR.out,if_pos k1]
  clear HR k1
  go_wp2_with fail
  go_ret
  exact⟨by first|rfl|simp,HB.out⟩
 have kb:((k:Int)==1)=false:=by simp [k1]
 by_cases k2:k=2
 ·have kb2:((k:Int)==2)=true:=by simp [k2]
  by_cases a1:0<=n
  rotate_left
  ·obtain rfl:r=0:=by rw [HR.out,if_neg k1,if_pos k2,if_neg (λh=>a1 h.1)]
   clear HR k1 k2
   go_wp2_with fail
   go_ret
   exact⟨by first|rfl|simp,HB.out⟩
  by_cases a2:n<4
  ·obtain⟨q,rfl⟩:∃q:Nat,n=(q:Int):=⟨n.toNat,by omega⟩
   have hq4:q<4:=by omega
   have xP:=H2.out q hq4
   have hr3:r= [r0,r1,r2,r3].getD q 0:=by rw [HR.out,if_neg k1,if_pos k2,if_pos ⟨a1,a2⟩];simp
   rw [<-hr3] at xP
   clear HR k1 k2 hr3
   go_wp2_with fail
   go_ret
   exact⟨by first|rfl|simp,HB.out⟩
  obtain rfl:r=0:=by rw [HR.out,if_neg k1,if_pos k2,if_neg (λh=>a2 h.2)]
  clear HR k1 k2
  go_wp2_with fail
  go_ret
  exact⟨by first|rfl|simp,HB.out⟩
 have kb2:((k:Int)==2)=false:=by simp [k2]
 have HR2:Hid (r=if k=3/\m=2 then evalOp o (zZ [r0,r1,r2,r3] dom d (x.kids.getD 0 default)) (zZ [r0,r1,r2,r3] dom d (x.kids.getD 1 default)) % dom else 0):=by rw [Hid,HR.out,if_neg k1,if_neg k2]
 clear HR k1 k2
 by_cases k3:k=3
 rotate_left
 ·have kb3:((k:Int) !=3)=true:=by simp [k3]
  obtain rfl:r=0:=by rw [HR2.out,if_neg (λh=>k3 h.1)]
  clear HR2
  go_wp2_with fail
  go_ret
  exact⟨by first|rfl|simp,HB.out⟩
 have kb3:((k:Int) !=3)=false:=by simp [k3]
 by_cases m2:m=2
 rotate_left
 ·have m2b:((m:Int) !=2)=true:=by rw [bne_iff_ne];omega
  have m2c:(m !=2)=true:=by simp [m2]
  obtain rfl:r=0:=by rw [HR2.out,if_neg (λh=>m2 h.2)]
  clear HR2
  go_wp2_with fail
  go_ret
  exact⟨by first|rfl|simp,HB.out⟩
 have HR3:Hid (r=evalOp o (zZ [r0,r1,r2,r3] dom d (x.kids.getD 0 default)) (zZ [r0,r1,r2,r3] dom d (x.kids.getD 1 default)) % dom):=by rw [Hid,HR2.out,if_pos ⟨k3,m2⟩]
 clear HR2 k3
 subst m2
 obtain⟨jy,ko,ka0,kc0,hka, -,p0,p1,p2,p3,hx0⟩:=HE.out.part 0 (by rw [<-HM.out];omega)
 subst hka
 obtain⟨zxK,ko2,ka1,kc1,hka, -,q0,q1,q2,q3,hx1⟩:=HE.out.part 1 (by rw [<-HM.out];omega)
 cases hka
 obtain⟨y0,hy0⟩:∃y,y=x.kids.getD 0 default:=⟨_,rfl⟩
 obtain⟨y1,hy1⟩:∃y,y=x.kids.getD 1 default:=⟨_,rfl⟩
 rw [<-hy0] at p0 p1 p2 p3 hx0
 rw [<-hy1] at q0 q1 q2 q3 hx1
 rw [<-hy0, <-hy1] at HR3
 rw [Nat.zero_mul,Nat.add_zero] at p0 p1 p2 p3
 rw [Nat.one_mul] at q0 q1 q2 q3
 have hk:=λX (hX:Below W.heap.size W X)=>zh (HB.out.trans (hX.mono HB.out.size))
 have CC:Hid (∀X,Below W.heap.size W X->X.cell? ⟨gx,3,none⟩=some (.slice (some ⟨jy,ko,none⟩) 2 kc)/\X.cell? ⟨gx+1,0,none⟩=some (.int .i64 r0)/\X.cell? ⟨gx+1,1,none⟩=some (.int .i64 r1)/\X.cell? ⟨gx+1,2,none⟩=some (.int .i64 r2)/\X.cell? ⟨gx+1,3,none⟩=some (.int .i64 r3)/\
   X.cell? ⟨jy,ko,none⟩=some (.int .i64 y0.kind)/\X.cell? ⟨jy,ko+1,none⟩=some (.int .i64 y0.n)/\X.cell? ⟨jy,ko+2,none⟩=some (.int .u8 y0.op)/\X.cell? ⟨jy,ko+3,none⟩=some (.slice ka0 y0.kids.length kc0)/\
   X.cell? ⟨jy,ko+4,none⟩=some (.int .i64 y1.kind)/\X.cell? ⟨jy,ko+4+1,none⟩=some (.int .i64 y1.n)/\X.cell? ⟨jy,ko+4+2,none⟩=some (.int .u8 y1.op)/\X.cell? ⟨jy,ko+4+3,none⟩=some (.slice ka1 y1.kids.length kc1)):=λX hX=>
  ⟨zh hX _ _ c3,zh hX _ _ (H2.out 0 (by omega)),zh hX _ _ (H2.out 1 (by omega)),zh hX _ _ (H2.out 2 (by omega)),zh hX _ _ (H2.out 3 (by omega)),hk X hX _ _ p0,hk X hX _ _ p1,hk X hX _ _ p2,hk X hX _ _ p3,hk X hX _ _ q0,hk X hX _ _ q1,hk X hX _ _ q2,hk X hX _ _ q3⟩
 have HX0:Hid (∀X,Below W.heap.size W X->Calls Tryz.prog 82 #[.agg #[.int .i64 y0.kind, .int .i64 y0.n, .int .u8 y0.op, .slice ka0 y0.kids.length kc0], .agg #[.int .i64 r0, .int .i64 r1, .int .i64 r2, .int .i64 r3], .int .i64 dom] X λe w'=>e= .returned (.int .i64 (zZ [r0,r1,r2,r3] dom d y0))/\Below X.heap.size X w'):=λX hX=>HIH.out X y0 _ (hx0.below (HB.out.trans (hX.mono HB.out.size)))
 have HX1:Hid (∀X,Below W.heap.size W X->Calls Tryz.prog 82 #[.agg #[.int .i64 y1.kind, .int .i64 y1.n, .int .u8 y1.op, .slice ka1 y1.kids.length kc1], .agg #[.int .i64 r0, .int .i64 r1, .int .i64 r2, .int .i64 r3], .int .i64 dom] X λe w'=>e= .returned (.int .i64 (zZ [r0,r1,r2,r3] dom d y1))/\Below X.heap.size X w'):=λX hX=>HIH.out X y1 _ (hx1.below (HB.out.trans (hX.mono HB.out.size)))
 obtain⟨va,hva⟩:∃v,v=zZ [r0,r1,r2,r3] dom d y0:=⟨_,rfl⟩
 obtain⟨vb,hvb⟩:∃v,v=zZ [r0,r1,r2,r3] dom d y1:=⟨_,rfl⟩
 rw [<-hva] at HX0 HR3
 rw [<-hvb] at HX1 HR3
 clear p0 p1 p2 p3 q0 q1 q2 q3 hx0 hx1 hk hy0 hy1 hva hvb
 go_upto_region 10 with fail
 clear c0 c1 c2 c3
 have hS0:=Below.refl W.heap.size W
 refine vJ (S:=λx=>Below W.heap.size W x) (Below.refl _ _).drew (λ_=> ?_)
 obtain⟨wd,hwd⟩:∃wd,wd=W.drew:=⟨_,rfl⟩
 rw [<-hwd]
 have bH:Hid (Below W.heap.size W wd):=by rw [Hid,hwd];exact(Below.refl _ _).drew
 clear hwd hS0
 refine zA 0 CC.out (bH.out) ?_
 refine zA 1 CC.out (bH.out) ?_
 refine zA 2 CC.out (bH.out) ?_
 refine zA 3 CC.out (bH.out) ?_
 refine zA 4 CC.out (bH.out) ?_
 refine zA 5 CC.out (bH.out) ?_
 refine zA 7 CC.out (bH.out) ?_
 refine zA 8 CC.out (bH.out) ?_
 refine zA 9 CC.out (bH.out) ?_
 refine zA 10 CC.out (bH.out) ?_
 refine zA 11 CC.out (bH.out) ?_
 refine zA 12 CC.out (bH.out) ?_
 refine yw 6 rfl (λK hK=> ?_)
 go_simp
 refine(HX0.out wd (bH.out)).mono ?_
 rintro e Wq1 ⟨rfl,hb⟩
 have zvo:=qh (zB bH.out hb)
 clear hb
 refine hK.out _ _ zvo.out (λ_=> ?_)
 clear hK K
 refine yw 13 rfl (λK hK=> ?_)
 go_simp
 refine(HX1.out Wq1 (zvo.out)).mono ?_
 rintro e Wq3 ⟨rfl,hb⟩
 have zqH:=qh (zB zvo.out hb)
 clear hb
 refine hK.out _ _ zqH.out (λ_=> ?_)
 clear hK K
 refine zA 14 CC.out (zqH.out) ?_
 refine zA 15 CC.out (zqH.out) ?_
 refine xM ?_
 have vM:=qh (zqH.out)
 have c2:Wq3.cell? ⟨gx,2,none⟩=some (.int .u8 o):=zh vM.out _ _ (za H1.out 2)
 obtain⟨Y,rfl⟩:∃Y:World,Y=Wq3:=⟨_,rfl⟩
 have t6:¬dom=0:=by omega
 have t7:¬dom<1:=by omega
 have t8:(dom==0)=false:=by simp [t6]
 by_cases o0:o=43
 ·subst o0
  obtain⟨n9,e9⟩:∃n9:Int,wrap64 (va+vb)=n9:=⟨_,rfl⟩
  have jm:r=n9 % dom:=by rw [HR3.out, <-e9];simp [evalOp]
  obtain⟨q9,t1⟩:∃q9,n9.tmod dom=q9:=⟨_,rfl⟩
  have t2:=Int.tmod_lt_of_pos n9 (show 0<dom by omega)
  have t3:=Int.lt_tmod_of_pos n9 (show 0<dom by omega)
  rw [t1] at t2 t3
  have t4:=wrap_add t2 t3 hd1 hd2
  have t5:(q9+dom).tmod dom=r:=by rw [jm, <-t1];exact vZ _ dom hd1
  clear HR3 jm t2 t3
  go_wp2_with fail
  go_ret
  exact⟨by first|rfl|simp,HB.out.trans (vM.out.mono HB.out.size)⟩
 have b0:((o:Int)==43)=false:=by simp [o0]
 by_cases o1:o=45
 ·subst o1
  obtain⟨n9,e9⟩:∃n9:Int,wrap64 (va - vb)=n9:=⟨_,rfl⟩
  have jm:r=n9 % dom:=by rw [HR3.out, <-e9];simp [evalOp]
  obtain⟨q9,t1⟩:∃q9,n9.tmod dom=q9:=⟨_,rfl⟩
  have t2:=Int.tmod_lt_of_pos n9 (show 0<dom by omega)
  have t3:=Int.lt_tmod_of_pos n9 (show 0<dom by omega)
  rw [t1] at t2 t3
  have t4:=wrap_add t2 t3 hd1 hd2
  have t5:(q9+dom).tmod dom=r:=by rw [jm, <-t1];exact vZ _ dom hd1
  clear HR3 jm t2 t3
  go_wp2_with fail
  go_ret
  exact⟨by first|rfl|simp,HB.out.trans (vM.out.mono HB.out.size)⟩
 have b1:((o:Int)==45)=false:=by simp [o1]
 by_cases o2:o=42
 ·subst o2
  obtain⟨n9,e9⟩:∃n9:Int,wrap64 (va*vb)=n9:=⟨_,rfl⟩
  have jm:r=n9 % dom:=by rw [HR3.out, <-e9];simp [evalOp]
  obtain⟨q9,t1⟩:∃q9,n9.tmod dom=q9:=⟨_,rfl⟩
  have t2:=Int.tmod_lt_of_pos n9 (show 0<dom by omega)
  have t3:=Int.lt_tmod_of_pos n9 (show 0<dom by omega)
  rw [t1] at t2 t3
  have t4:=wrap_add t2 t3 hd1 hd2
  have t5:(q9+dom).tmod dom=r:=by rw [jm, <-t1];exact vZ _ dom hd1
  clear HR3 jm t2 t3
  go_wp2_with fail
  go_ret
  exact⟨by first|rfl|simp,HB.out.trans (vM.out.mono HB.out.size)⟩
 have b2:((o:Int)==42)=false:=by simp [o2]
 by_cases o3:o=38
 ·subst o3
  obtain⟨n9,e9⟩:∃n9:Int,bits .and .i64 va vb=n9:=⟨_,rfl⟩
  have jm:r=n9 % dom:=by rw [HR3.out, <-e9];simp [evalOp]
  obtain⟨q9,t1⟩:∃q9,n9.tmod dom=q9:=⟨_,rfl⟩
  have t2:=Int.tmod_lt_of_pos n9 (show 0<dom by omega)
  have t3:=Int.lt_tmod_of_pos n9 (show 0<dom by omega)
  rw [t1] at t2 t3
  have t4:=wrap_add t2 t3 hd1 hd2
  have t5:(q9+dom).tmod dom=r:=by rw [jm, <-t1];exact vZ _ dom hd1
  clear HR3 jm t2 t3
  go_wp2_with fail
  go_ret
  exact⟨by first|rfl|simp,HB.out.trans (vM.out.mono HB.out.size)⟩
 have b3:((o:Int)==38)=false:=by simp [o3]
 by_cases o4:o=124
 ·subst o4
  obtain⟨n9,e9⟩:∃n9:Int,bits .or .i64 va vb=n9:=⟨_,rfl⟩
  have jm:r=n9 % dom:=by rw [HR3.out, <-e9];simp [evalOp]
  obtain⟨q9,t1⟩:∃q9,n9.tmod dom=q9:=⟨_,rfl⟩
  have t2:=Int.tmod_lt_of_pos n9 (show 0<dom by omega)
  have t3:=Int.lt_tmod_of_pos n9 (show 0<dom by omega)
  rw [t1] at t2 t3
  have t4:=wrap_add t2 t3 hd1 hd2
  have t5:(q9+dom).tmod dom=r:=by rw [jm, <-t1];exact vZ _ dom hd1
  clear HR3 jm t2 t3
  go_wp2_with fail
  go_ret
  exact⟨by first|rfl|simp,HB.out.trans (vM.out.mono HB.out.size)⟩
 have b4:((o:Int)==124)=false:=by simp [o4]
 by_cases o5:o=60
 ·subst o5
  by_cases l:va<vb
  rotate_left
  ·skip
   have jm:r=(0:Int) % dom:=by rw [HR3.out];simp [evalOp,l]
   obtain⟨q9,t1⟩:∃q9,(0:Int).tmod dom=q9:=⟨_,rfl⟩
   have t2:=Int.tmod_lt_of_pos (0:Int) (show 0<dom by omega)
   have t3:=Int.lt_tmod_of_pos (0:Int) (show 0<dom by omega)
   rw [t1] at t2 t3
   have t4:=wrap_add t2 t3 hd1 hd2
   have t5:(q9+dom).tmod dom=r:=by rw [jm, <-t1];exact vZ _ dom hd1
   clear HR3 jm t2 t3
   go_wp2_with fail
   go_ret
   exact⟨by first|rfl|simp,HB.out.trans (vM.out.mono HB.out.size)⟩
  skip
  have jm:r=(1:Int) % dom:=by rw [HR3.out];simp [evalOp,l]
  obtain⟨q9,t1⟩:∃q9,(1:Int).tmod dom=q9:=⟨_,rfl⟩
  have t2:=Int.tmod_lt_of_pos (1:Int) (show 0<dom by omega)
  have t3:=Int.lt_tmod_of_pos (1:Int) (show 0<dom by omega)
  rw [t1] at t2 t3
  have t4:=wrap_add t2 t3 hd1 hd2
  have t5:(q9+dom).tmod dom=r:=by rw [jm, <-t1];exact vZ _ dom hd1
  clear HR3 jm t2 t3
  go_wp2_with fail
  go_ret
  exact⟨by first|rfl|simp,HB.out.trans (vM.out.mono HB.out.size)⟩
 have b5:((o:Int)==60)=false:=by simp [o5]
 by_cases o6:o=61
 ·subst o6
  by_cases l:va=vb
  rotate_left
  ·have lb:((va:Int)==vb)=false:=by simp [l]
   have jm:r=(0:Int) % dom:=by rw [HR3.out];simp [evalOp,l]
   obtain⟨q9,t1⟩:∃q9,(0:Int).tmod dom=q9:=⟨_,rfl⟩
   have t2:=Int.tmod_lt_of_pos (0:Int) (show 0<dom by omega)
   have t3:=Int.lt_tmod_of_pos (0:Int) (show 0<dom by omega)
   rw [t1] at t2 t3
   have t4:=wrap_add t2 t3 hd1 hd2
   have t5:(q9+dom).tmod dom=r:=by rw [jm, <-t1];exact vZ _ dom hd1
   clear HR3 jm t2 t3
   go_wp2_with fail
   go_ret
   exact⟨by first|rfl|simp,HB.out.trans (vM.out.mono HB.out.size)⟩
  have lb:((va:Int)==vb)=true:=by simp [l]
  have HL:=qh l
  clear l
  have jm:r=(1:Int) % dom:=by rw [HR3.out];simp [evalOp,HL.out]
  obtain⟨q9,t1⟩:∃q9,(1:Int).tmod dom=q9:=⟨_,rfl⟩
  have t2:=Int.tmod_lt_of_pos (1:Int) (show 0<dom by omega)
  have t3:=Int.lt_tmod_of_pos (1:Int) (show 0<dom by omega)
  rw [t1] at t2 t3
  have t4:=wrap_add t2 t3 hd1 hd2
  have t5:(q9+dom).tmod dom=r:=by rw [jm, <-t1];exact vZ _ dom hd1
  clear HR3 jm t2 t3
  go_wp2_with fail
  go_ret
  exact⟨by first|rfl|simp,HB.out.trans (vM.out.mono HB.out.size)⟩
 have b6:((o:Int)==61)=false:=by simp [o6]
 by_cases o7:o=33
 rotate_left
 ·have b7:((o:Int)==33)=false:=by simp [o7]
  have jm:r=(0:Int) % dom:=by rw [HR3.out];simp [evalOp,o0,o1,o2,o3,o4,o5,o6,o7]
  obtain⟨q9,t1⟩:∃q9,(0:Int).tmod dom=q9:=⟨_,rfl⟩
  have t2:=Int.tmod_lt_of_pos (0:Int) (show 0<dom by omega)
  have t3:=Int.lt_tmod_of_pos (0:Int) (show 0<dom by omega)
  rw [t1] at t2 t3
  have t4:=wrap_add t2 t3 hd1 hd2
  have t5:(q9+dom).tmod dom=r:=by rw [jm, <-t1];exact vZ _ dom hd1
  clear HR3 jm t2 t3
  go_wp2_with fail
  go_ret
  exact⟨by first|rfl|simp,HB.out.trans (vM.out.mono HB.out.size)⟩
 subst o7
 by_cases l:va=vb
 rotate_left
 ·have lb:((va:Int) !=vb)=true:=by simp [l]
  have jm:r=(1:Int) % dom:=by rw [HR3.out];simp [evalOp,l]
  obtain⟨q9,t1⟩:∃q9,(1:Int).tmod dom=q9:=⟨_,rfl⟩
  have t2:=Int.tmod_lt_of_pos (1:Int) (show 0<dom by omega)
  have t3:=Int.lt_tmod_of_pos (1:Int) (show 0<dom by omega)
  rw [t1] at t2 t3
  have t4:=wrap_add t2 t3 hd1 hd2
  have t5:(q9+dom).tmod dom=r:=by rw [jm, <-t1];exact vZ _ dom hd1
  clear HR3 jm t2 t3
  go_wp2_with fail
  go_ret
  exact⟨by first|rfl|simp,HB.out.trans (vM.out.mono HB.out.size)⟩
 have lb:((va:Int) !=vb)=false:=by simp [l]
 have HL:=qh l
 clear l
 have jm:r=(0:Int) % dom:=by rw [HR3.out];simp [evalOp,HL.out]
 obtain⟨q9,t1⟩:∃q9,(0:Int).tmod dom=q9:=⟨_,rfl⟩
 have t2:=Int.tmod_lt_of_pos (0:Int) (show 0<dom by omega)
 have t3:=Int.lt_tmod_of_pos (0:Int) (show 0<dom by omega)
 rw [t1] at t2 t3
 have t4:=wrap_add t2 t3 hd1 hd2
 have t5:(q9+dom).tmod dom=r:=by rw [jm, <-t1];exact vZ _ dom hd1
 clear HR3 jm t2 t3
 go_wp2_with fail
 go_ret
 exact⟨by first|rfl|simp,HB.out.trans (vM.out.mono HB.out.size)⟩
