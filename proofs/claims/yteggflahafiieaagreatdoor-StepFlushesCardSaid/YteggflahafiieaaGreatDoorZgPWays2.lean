/- Steps. -/
import Derived.Test.YteggflahafiieaaGreatDoorZgPLook
import Derived.Test.YteggflahafiieaaGreatDoorZgPWays
set_option linter.all false
namespace Go.Proofs.YteggflahafiieaaGreatDoor
open Go.RowKit
set_option maxRecDepth 100000
set_option maxHeartbeats 16000000
variable {v0:Value}
theorem zuJ {w:World} {B gr mb mc:Nat} {pc r0 r1 r2 r3 dom:Int} {buf:List zi} {bv:Value} {m:zF} {mem:List Int} {bad:Bool} (h:xq v0 w B gr pc r0 r1 r2 r3 buf bv m dom mem mb mc bad) (hB:B<=w.heap.size) (hd1:1<=dom) (hd2:dom<=1000) (d:Nat) (x:zT) (ka kb:Value) (ha:zx d w x.a ka) (hb:zx d w x.b kb)
  (xP:0<=x.reg/\x.reg<4) (hvar:0<=x.var/\x.var<(mem.length:Int)) (hbl:buf.length<=1000000):Calls Tryz.prog 129 #[.pointer (some ⟨gr,0,none⟩),qd x ka kb] w λe w'=>
  qo v0 w B gr m dom mb mc (some (⟨pc, [r0,r1,r2,r3].set x.reg.toNat (zZ [r0,r1,r2,r3] dom d x.a),buf⟩,mem,bad)) e w':=by
 have yG:=λW V (hV:xq v0 W B gr pc r0 r1 r2 r3 buf V m dom mem mb mc bad) (hW:Below w.heap.size w W)=>bg hV hd1 hd2 d x.a ka (ha.below hW)
 obtain⟨aa,ac,rfl, -⟩:=ha.slice
 obtain⟨ba,bc,rfl, -⟩:=hb.slice
 obtain⟨ua,uc,rfl, -⟩:=ze.slice h.qJ
 obtain⟨op,reg,v,a,b,yA⟩:=x
 simp only [] at xP hvar ha hb yG ⊢
 obtain⟨reg,rfl⟩:∃k:Nat,reg=(k:Int):=⟨reg.toNat,by omega⟩
 obtain⟨v,rfl⟩:∃k:Nat,v=(k:Int):=⟨v.toNat,by omega⟩
 have hr4:reg<4:=by omega
 have kW:v<mem.length:=by omega
 have wX:(v:Int)<(mem.length:Int):=hvar.2
 have hrI:(reg:Int)<4:=xP.2
 try simp only [Int.toNat_natCast]
 clear ha hb
 unfold qd
 simp only []
 unfold xQ at yG
 generalize hva:zZ [r0,r1,r2,r3] dom d a=va at yG ⊢
 clear hva
 generalize a.kind=ak at yG ⊢
 generalize a.n=an at yG ⊢
 generalize a.op=ao at yG ⊢
 generalize a.kids.length=al at yG ⊢
 generalize b.kind=bk at ⊢
 generalize b.n=bn at ⊢
 generalize b.op=bo at ⊢
 generalize b.kids.length=bl at ⊢
 have HEA:=qh yG
 clear yG
 obtain⟨res,hres⟩:∃r:Option (zo × List Int × Bool),r=(some (⟨pc, [r0,r1,r2,r3].set reg (va),buf⟩,mem,bad)):=⟨_,rfl⟩
 rw [<-hres]
 have zJ:=qh hres
 clear hres
 obtain⟨un,hun⟩:∃n,n=buf.length:=⟨_,rfl⟩
 rw [<-hun] at h hbl
 have HUN:=qh hun
 have HR:=qh h
 have yM:=qh hB
 have HA:=qh ((Below.refl w.heap.size w).alloc (Nat.le_refl _) (.cells #[.int .i64 op, .int .i64 (reg:Int), .int .i64 (v:Int), .int .i64 ak, .int .i64 an, .int .u8 ao, .slice aa al ac, .int .i64 bk, .int .i64 bn, .int .u8 bo, .slice ba bl bc, .int .i64 yA] 53))
 have HX:=qh (yE w (.cells #[.int .i64 op, .int .i64 (reg:Int), .int .i64 (v:Int), .int .i64 ak, .int .i64 an, .int .u8 ao, .slice aa al ac, .int .i64 bk, .int .i64 bn, .int .u8 bo, .slice ba bl bc, .int .i64 yA] 53))
 clear h hun hB
 go_enter Tryz.func129,Tryz.ntmps129
 go_upto_region 1 with fail
 generalize World.alloc w _=W at HA HX ⊢
 obtain⟨gi,hgi⟩:∃g,g=w.heap.size:=⟨_,rfl⟩
 rw [<-hgi] at HX ⊢
 clear hgi
 have HRW:=qh (HR.out.below HA.out)
 have vX:Hid (Below B w W):=HA.out.mono yM.out
 have CC:Hid (∀x,Below W.heap.size W x->x.cell? ⟨gi,1,none⟩=some (.int .i64 (reg:Int))/\x.cell? ⟨gi,3,none⟩=some (.int .i64 ak)/\x.cell? ⟨gi,4,none⟩=some (.int .i64 an)/\x.cell? ⟨gi,5,none⟩=some (.int .u8 ao)/\x.cell? ⟨gi,6,none⟩=some (.slice aa al ac)):=λx hx=>⟨zh hx _ _ (za HX.out 1),zh hx _ _ (za HX.out 3),zh hx _ _ (za HX.out 4),zh hx _ _ (za HX.out 5),zh hx _ _ (za HX.out 6)⟩
 refine wp_region_noPanic ?_
 refine yS (n0:=11) (S:=λx=>Below W.heap.size W x) (by kernel_rfl) ((Below.refl _ _).drew) (λhT=> ?_)
 refine zP 0 (λ_=>hT) ?_
 refine zP 1 (λ_=>hT) ?_
 refine vK [10,11] 2 CC.out hT ?_
 refine zP 3 (λ_=>hT) ?_
 refine zP 4 (λ_=>hT) ?_
 refine vK [6,10,11] 5 CC.out hT ?_
 refine zP 7 (λ_=>hT) ?_
 refine zP 8 (λ_=>hT) ?_
 refine zP 9 (λ_=>hT) ?_
 refine jD 6 rfl (λK hK=> ?_)
 go_simp
 refine(HEA.out W.drew _ (HRW.out.below hT) (zB HA.out hT)).mono ?_
 rintro e tw6 ⟨rfl,hb⟩
 have hT6:Below W.heap.size W tw6:=zB hT hb
 refine hK.out _ _ (λ_ _=>hT6) ?_
 clear hK K hb hT
 refine zP 10 (λ_=>hT6) ?_
 refine jD 11 rfl (λK hK=> ?_)
 obtain⟨q0,q1⟩:=(HRW.out.below hT6).zce hr4
 go_simp
 refine hK.out _ _ (λh=>absurd rfl h) ?_
 clear hK K
 refine xO (by kernel_rfl) ?_ _
 refine NoPanic.normal ?_
 clear q0 q1
 have HR2:=qh ((HRW.out.below hT6).zd0 reg hr4 va)
 have HB2:Hid (Below B w (tw6.setCell ⟨gr,1+reg,none⟩ (.int .i64 va))):=(vX.out.trans (hT6.mono (Nat.le_trans yM.out HA.out.size))).setCell (p:=⟨gr,1+reg,none⟩) HRW.out.base _
 go_wp2_with fail
 go_ret
 rw [zJ.out]
 exact zcf HR2.out HB2.out
theorem zsd {w:World} {B gr mb mc:Nat} {pc r0 r1 r2 r3 dom:Int} {buf:List zi} {bv:Value} {m:zF} {mem:List Int} {bad:Bool} (h:xq v0 w B gr pc r0 r1 r2 r3 buf bv m dom mem mb mc bad) (hB:B<=w.heap.size) (hd1:1<=dom) (hd2:dom<=1000) (d:Nat) (x:zT) (ka kb:Value) (ha:zx d w x.a ka) (hb:zx d w x.b kb)
  (xP:0<=x.reg/\x.reg<4) (hvar:0<=x.var/\x.var<(mem.length:Int)) (hbl:buf.length<=1000000):Calls Tryz.prog 133 #[.pointer (some ⟨gr,0,none⟩),qd x ka kb] w λe w'=>
  qo v0 w B gr m dom mb mc (if buf.length=0/\mem.getD x.var.toNat 0=0 then some (⟨pc, [r0,r1,r2,r3],buf⟩,mem.set x.var.toNat 1,bad) else none) e w':=by
 obtain⟨aa,ac,rfl, -⟩:=ha.slice
 obtain⟨ba,bc,rfl, -⟩:=hb.slice
 obtain⟨ua,uc,rfl, -⟩:=ze.slice h.qJ
 obtain⟨op,reg,v,a,b,yA⟩:=x
 simp only [] at xP hvar ha hb ⊢
 obtain⟨reg,rfl⟩:∃k:Nat,reg=(k:Int):=⟨reg.toNat,by omega⟩
 obtain⟨v,rfl⟩:∃k:Nat,v=(k:Int):=⟨v.toNat,by omega⟩
 have hr4:reg<4:=by omega
 have kW:v<mem.length:=by omega
 have wX:(v:Int)<(mem.length:Int):=hvar.2
 have hrI:(reg:Int)<4:=xP.2
 try simp only [Int.toNat_natCast]
 clear ha hb
 unfold qd
 simp only []
 generalize a.kind=ak at ⊢
 generalize a.n=an at ⊢
 generalize a.op=ao at ⊢
 generalize a.kids.length=al at ⊢
 generalize b.kind=bk at ⊢
 generalize b.n=bn at ⊢
 generalize b.op=bo at ⊢
 generalize b.kids.length=bl at ⊢
 obtain⟨res,hres⟩:∃r:Option (zo × List Int × Bool),r=(if buf.length=0/\mem.getD v 0=0 then some (⟨pc, [r0,r1,r2,r3],buf⟩,mem.set v 1,bad) else none):=⟨_,rfl⟩
 rw [<-hres]
 have zJ:=qh hres
 clear hres
 obtain⟨un,hun⟩:∃n,n=buf.length:=⟨_,rfl⟩
 rw [<-hun] at h hbl
 have HUN:=qh hun
 have HR:=qh h
 have yM:=qh hB
 have HA:=qh ((Below.refl w.heap.size w).alloc (Nat.le_refl _) (.cells #[.int .i64 op, .int .i64 (reg:Int), .int .i64 (v:Int), .int .i64 ak, .int .i64 an, .int .u8 ao, .slice aa al ac, .int .i64 bk, .int .i64 bn, .int .u8 bo, .slice ba bl bc, .int .i64 yA] 53))
 have HX:=qh (yE w (.cells #[.int .i64 op, .int .i64 (reg:Int), .int .i64 (v:Int), .int .i64 ak, .int .i64 an, .int .u8 ao, .slice aa al ac, .int .i64 bk, .int .i64 bn, .int .u8 bo, .slice ba bl bc, .int .i64 yA] 53))
 clear h hun hB
 go_enter Tryz.func133,Tryz.ntmps133
 go_upto_region 1 with fail
 generalize World.alloc w _=W at HA HX ⊢
 obtain⟨gi,hgi⟩:∃g,g=w.heap.size:=⟨_,rfl⟩
 rw [<-hgi] at HX ⊢
 clear hgi
 have HRW:=qh (HR.out.below HA.out)
 have vX:Hid (Below B w W):=HA.out.mono yM.out
 have CC:Hid (∀x,Below W.heap.size W x->x.cell? ⟨gi,2,none⟩=some (.int .i64 (v:Int))/\x.cell? ⟨gr,9,none⟩=some (.slice (some ⟨mb,0,none⟩) mem.length mc)/\x.cell? ⟨mb,v,none⟩=some (.int .i64 (mem.getD v 0))):=λx hx=>⟨zh hx _ _ (za HX.out 2),zh hx _ _ (za HRW.out.block 9),zh hx _ _ (HRW.out.wR kW).1⟩
 obtain⟨z,hz⟩:∃z,z=mem.getD v 0:=⟨_,rfl⟩
 rw [<-hz] at CC zJ
 clear hz
 by_cases hz0:z=0
 rotate_left
 ·have hz1:((z:Int)==0)=false:=by simp [hz0]
  have HZ0:=qh hz0
  clear hz0
  refine vJ (S:=λx=>Below W.heap.size W x) ((Below.refl _ _).drew) (λhH=> ?_)
  refine zk 0 CC.out ?_
  refine zk 1 CC.out ?_
  refine zk 2 CC.out ?_
  refine zk 3 CC.out ?_
  refine zk 4 CC.out ?_
  refine zk 5 CC.out ?_
  refine zk 6 CC.out ?_
  refine zk 7 CC.out ?_
  refine zk 8 CC.out ?_
  refine zk 9 CC.out ?_
  refine xM ?_
  go_upto_region 2 with fail
  refine wp_region_noPanic ?_
  refine yS (n0:=7) (S:=λx=>Below W.heap.size W x) (by kernel_rfl) ((Below.refl _ _).drew.drew) (λhT=> ?_)
  refine zP 0 (λ_=>hT) ?_
  refine zP 1 (λ_=>hT) ?_
  refine zP 2 (λ_=>hT) ?_
  refine vK [6,7] 3 CC.out hT ?_
  refine zP 4 (λ_=>hT) ?_
  refine vK [6,7] 5 CC.out hT ?_
  refine zP 6 (λ_=>hT) ?_
  refine jD 7 rfl (λK hK=> ?_)
  obtain⟨q0,q1⟩:=(HRW.out.below (Below.refl _ _).drew.drew).wR kW
  go_simp
  refine hK.out _ _ (λh=>absurd rfl h) ?_
  clear hK K
  refine xO (by kernel_rfl) ?_ _
  refine NoPanic.normal ?_
  clear q0 q1
  have HR2:=qh ((HRW.out.below (Below.refl _ _).drew.drew).zcg v 1)
  have HB2:Hid (Below B w (W.drew.drew.setCell ⟨mb,v,none⟩ (.int .i64 1))):=vX.out.drew.drew.setCell (p:=⟨mb,v,none⟩) HRW.out.kQ.1 _
  go_wp2_with fail
  go_ret
  rw [zJ.out,if_neg (λh=>HZ0.out h.2)]
  exact kC HB2.out
 have hz1:((z:Int)==0)=true:=by simp [hz0]
 have HZ0:=qh hz0
 clear hz0
 refine vJ (S:=λx=>Below W.heap.size W x) ((Below.refl _ _).drew) (λhH=> ?_)
 refine zk 0 CC.out ?_
 refine zk 1 CC.out ?_
 refine zk 2 CC.out ?_
 refine zk 3 CC.out ?_
 refine zk 4 CC.out ?_
 refine zk 5 CC.out ?_
 refine zk 6 CC.out ?_
 refine zk 7 CC.out ?_
 refine zk 8 CC.out ?_
 refine zk 9 CC.out ?_
 refine xM ?_
 go_upto_region 2 with fail
 refine wp_region_noPanic ?_
 refine yS (n0:=7) (S:=λx=>Below W.heap.size W x) (by kernel_rfl) ((Below.refl _ _).drew.drew) (λhT=> ?_)
 refine zP 0 (λ_=>hT) ?_
 refine zP 1 (λ_=>hT) ?_
 refine zP 2 (λ_=>hT) ?_
 refine vK [6,7] 3 CC.out hT ?_
 refine zP 4 (λ_=>hT) ?_
 refine vK [6,7] 5 CC.out hT ?_
 refine zP 6 (λ_=>hT) ?_
 refine jD 7 rfl (λK hK=> ?_)
 obtain⟨q0,q1⟩:=(HRW.out.below (Below.refl _ _).drew.drew).wR kW
 go_simp
 refine hK.out _ _ (λh=>absurd rfl h) ?_
 clear hK K
 refine xO (by kernel_rfl) ?_ _
 refine NoPanic.normal ?_
 clear q0 q1
 have HR2:=qh ((HRW.out.below (Below.refl _ _).drew.drew).zcg v 1)
 have HB2:Hid (Below B w (W.drew.drew.setCell ⟨mb,v,none⟩ (.int .i64 1))):=vX.out.drew.drew.setCell (p:=⟨mb,v,none⟩) HRW.out.kQ.1 _
 go_wp2_with fail
 refine(gZ HR2.out).mono ?_
 rintro e w3 ⟨rfl,rfl⟩
 by_cases hz:buf.length=0
 ·have HZ:=qh hz
  have hz1:decide (buf.length=0)=true:=decide_eq_true hz
  clear hz
  rw [hz1]
  go_wp2_with fail
  go_ret
  rw [zJ.out,if_pos ⟨HZ.out,HZ0.out⟩]
  exact vV HR2.out HB2.out
 have HZ:=qh hz
 have hz1:decide (buf.length=0)=false:=decide_eq_false hz
 clear hz
 rw [hz1]
 go_wp2_with fail
 go_ret
 rw [zJ.out,if_neg (λh=>HZ.out h.1)]
 exact kC HB2.out
theorem zse {w:World} {B gr mb mc:Nat} {pc r0 r1 r2 r3 dom:Int} {buf:List zi} {bv:Value} {m:zF} {mem:List Int} {bad:Bool} (h:xq v0 w B gr pc r0 r1 r2 r3 buf bv m dom mem mb mc bad) (hB:B<=w.heap.size) (hd1:1<=dom) (hd2:dom<=1000) (d:Nat) (x:zT) (ka kb:Value) (ha:zx d w x.a ka) (hb:zx d w x.b kb)
  (xP:0<=x.reg/\x.reg<4) (hvar:0<=x.var/\x.var<(mem.length:Int)) (hbl:buf.length<=1000000):Calls Tryz.prog 127 #[.pointer (some ⟨gr,0,none⟩),qd x ka kb] w λe w'=>
  qo v0 w B gr m dom mb mc (some (⟨pc, [r0,r1,r2,r3].set x.reg.toNat ((kF buf x.var).getD (mem.getD x.var.toNat 0)),buf⟩,mem,bad)) e w':=by
 obtain⟨aa,ac,rfl, -⟩:=ha.slice
 obtain⟨ba,bc,rfl, -⟩:=hb.slice
 obtain⟨ua,uc,rfl, -⟩:=ze.slice h.qJ
 obtain⟨op,reg,v,a,b,yA⟩:=x
 simp only [] at xP hvar ha hb ⊢
 obtain⟨reg,rfl⟩:∃k:Nat,reg=(k:Int):=⟨reg.toNat,by omega⟩
 obtain⟨v,rfl⟩:∃k:Nat,v=(k:Int):=⟨v.toNat,by omega⟩
 have hr4:reg<4:=by omega
 have kW:v<mem.length:=by omega
 have wX:(v:Int)<(mem.length:Int):=hvar.2
 have hrI:(reg:Int)<4:=xP.2
 try simp only [Int.toNat_natCast]
 clear ha hb
 unfold qd
 simp only []
 generalize a.kind=ak at ⊢
 generalize a.n=an at ⊢
 generalize a.op=ao at ⊢
 generalize a.kids.length=al at ⊢
 generalize b.kind=bk at ⊢
 generalize b.n=bn at ⊢
 generalize b.op=bo at ⊢
 generalize b.kids.length=bl at ⊢
 obtain⟨res,hres⟩:∃r:Option (zo × List Int × Bool),r=(some (⟨pc, [r0,r1,r2,r3].set reg ((kF buf (v:Int)).getD (mem.getD v 0)),buf⟩,mem,bad)):=⟨_,rfl⟩
 rw [<-hres]
 have zJ:=qh hres
 clear hres
 obtain⟨un,hun⟩:∃n,n=buf.length:=⟨_,rfl⟩
 rw [<-hun] at h hbl
 have HUN:=qh hun
 have HR:=qh h
 have yM:=qh hB
 have HA:=qh ((Below.refl w.heap.size w).alloc (Nat.le_refl _) (.cells #[.int .i64 op, .int .i64 (reg:Int), .int .i64 (v:Int), .int .i64 ak, .int .i64 an, .int .u8 ao, .slice aa al ac, .int .i64 bk, .int .i64 bn, .int .u8 bo, .slice ba bl bc, .int .i64 yA] 53))
 have HX:=qh (yE w (.cells #[.int .i64 op, .int .i64 (reg:Int), .int .i64 (v:Int), .int .i64 ak, .int .i64 an, .int .u8 ao, .slice aa al ac, .int .i64 bk, .int .i64 bn, .int .u8 bo, .slice ba bl bc, .int .i64 yA] 53))
 clear h hun hB
 go_enter Tryz.func127,Tryz.ntmps127
 go_upto_region 1 with fail
 generalize World.alloc w _=W at HA HX ⊢
 obtain⟨gi,hgi⟩:∃g,g=w.heap.size:=⟨_,rfl⟩
 rw [<-hgi] at HX ⊢
 clear hgi
 have HRW:=qh (HR.out.below HA.out)
 have vX:Hid (Below B w W):=HA.out.mono yM.out
 have CC:Hid (∀x,Below W.heap.size W x->x.cell? ⟨gi,1,none⟩=some (.int .i64 (reg:Int))/\x.cell? ⟨gi,2,none⟩=some (.int .i64 (v:Int))/\x.cell? ⟨gr,5,none⟩=some (.slice ua un uc)/\x.cell? ⟨gr,9,none⟩=some (.slice (some ⟨mb,0,none⟩) mem.length mc)/\x.cell? ⟨mb,v,none⟩=some (.int .i64 (mem.getD v 0))):=λx hx=>⟨zh hx _ _ (za HX.out 1),zh hx _ _ (za HX.out 2),zh hx _ _ (za HRW.out.block 5),zh hx _ _ (za HRW.out.block 9),zh hx _ _ (HRW.out.wR kW).1⟩
 obtain⟨lk,hlk⟩:∃k,k=kF buf (v:Int):=⟨_,rfl⟩
 have zw6:Hid (∀x,Below W.heap.size W x->Calls Tryz.prog 174 #[.slice ua un uc, .int .i64 (v:Int)] x λe w'=>e= .returned (.tuple #[.int .i64 (lk.getD 0), .bool lk.isSome])/\Below x.heap.size x w'):=λx hx=>by rw [hlk];exact zsf x _ buf (HRW.out.below hx).qJ (by rw [<-HUN.out];exact hbl) v
 obtain⟨z,hz⟩:∃z,z=mem.getD v 0:=⟨_,rfl⟩
 rw [<-hz] at CC zJ
 rw [<-hlk] at zJ
 clear hz hlk
 cases lk with
 |some y=>
  refine vJ (S:=λx=>Below W.heap.size W x) ((Below.refl _ _).drew) (λhH=> ?_)
  refine zk 0 CC.out ?_
  refine zk 1 CC.out ?_
  refine zk 2 CC.out ?_
  refine zk 3 CC.out ?_
  refine zk 4 CC.out ?_
  refine zk 5 CC.out ?_
  refine zk 6 CC.out ?_
  refine yw 7 rfl (λK hK=> ?_)
  go_simp
  refine(zw6.out W.drew hH).mono ?_
  rintro e zze ⟨rfl,hb⟩
  have zw7:Below W.heap.size W zze:=zB hH hb
  refine hK.out _ _ zw7 (λ_=> ?_)
  clear hK K hb hH
  refine zk 8 CC.out ?_
  refine zk 9 CC.out ?_
  refine zk 10 CC.out ?_
  refine zk 11 CC.out ?_
  refine zk 12 CC.out ?_
  refine xM ?_
  go_upto_region 4 with fail
  refine wp_region_noPanic ?_
  refine yS (n0:=8) (S:=λx=>Below W.heap.size W x) (by kernel_rfl) ((zB zw7 (Below.refl _ _).drew)) (λqF=> ?_)
  refine zP 0 (λ_=>qF) ?_
  refine zP 1 (λ_=>qF) ?_
  refine vK [7,8] 2 CC.out qF ?_
  refine zP 3 (λ_=>qF) ?_
  refine zP 4 (λ_=>qF) ?_
  refine zP 5 (λ_=>qF) ?_
  refine zP 6 (λ_=>qF) ?_
  refine zP 7 (λ_=>qF) ?_
  refine jD 8 rfl (λK hK=> ?_)
  obtain⟨q0,q1⟩:=(HRW.out.below qF).zce hr4
  go_simp
  refine hK.out _ _ (λh=>absurd rfl h) ?_
  clear hK K
  refine xO (by kernel_rfl) ?_ _
  refine NoPanic.normal ?_
  clear q0 q1
  have HR2:=qh ((HRW.out.below qF).zd0 reg hr4 y)
  have HB2:Hid (Below B w (zze.drew.setCell ⟨gr,1+reg,none⟩ (.int .i64 y))):=(vX.out.trans (qF.mono (Nat.le_trans yM.out HA.out.size))).setCell (p:=⟨gr,1+reg,none⟩) HRW.out.base _
  go_wp2_with fail
  go_ret
  rw [zJ.out]
  exact zcf HR2.out HB2.out
 |none=>
 refine vJ (S:=λx=>Below W.heap.size W x) ((Below.refl _ _).drew) (λhH=> ?_)
 refine zk 0 CC.out ?_
 refine zk 1 CC.out ?_
 refine zk 2 CC.out ?_
 refine zk 3 CC.out ?_
 refine zk 4 CC.out ?_
 refine zk 5 CC.out ?_
 refine zk 6 CC.out ?_
 refine yw 7 rfl (λK hK=> ?_)
 go_simp
 refine(zw6.out W.drew hH).mono ?_
 rintro e zzf ⟨rfl,hb⟩
 have zqq:Below W.heap.size W zzf:=zB hH hb
 refine hK.out _ _ zqq (λ_=> ?_)
 clear hK K hb hH
 refine zk 8 CC.out ?_
 refine zk 9 CC.out ?_
 refine zk 10 CC.out ?_
 refine zk 11 CC.out ?_
 refine zk 12 CC.out ?_
 refine xM ?_
 go_upto_region 3 with fail
 refine vJ (S:=λx=>Below W.heap.size W x) ((zB zqq (Below.refl _ _).drew)) (λhK3=> ?_)
 refine zk 0 CC.out ?_
 refine zk 1 CC.out ?_
 refine zk 2 CC.out ?_
 refine zk 3 CC.out ?_
 refine zk 4 CC.out ?_
 refine zk 5 CC.out ?_
 refine zk 6 CC.out ?_
 refine zk 7 CC.out ?_
 refine zk 8 CC.out ?_
 refine xM ?_
 go_upto_region 4 with fail
 refine wp_region_noPanic ?_
 refine yS (n0:=8) (S:=λx=>Below W.heap.size W x) (by kernel_rfl) ((zB zqq (Below.refl _ _).drew.drew)) (λqF=> ?_)
 refine zP 0 (λ_=>qF) ?_
 refine zP 1 (λ_=>qF) ?_
 refine vK [7,8] 2 CC.out qF ?_
 refine zP 3 (λ_=>qF) ?_
 refine zP 4 (λ_=>qF) ?_
 refine zP 5 (λ_=>qF) ?_
 refine zP 6 (λ_=>qF) ?_
 refine zP 7 (λ_=>qF) ?_
 refine jD 8 rfl (λK hK=> ?_)
 obtain⟨q0,q1⟩:=(HRW.out.below qF).zce hr4
 go_simp
 refine hK.out _ _ (λh=>absurd rfl h) ?_
 clear hK K
 refine xO (by kernel_rfl) ?_ _
 refine NoPanic.normal ?_
 clear q0 q1
 have HR2:=qh ((HRW.out.below qF).zd0 reg hr4 z)
 have HB2:Hid (Below B w (zzf.drew.drew.setCell ⟨gr,1+reg,none⟩ (.int .i64 z))):=(vX.out.trans (qF.mono (Nat.le_trans yM.out HA.out.size))).setCell (p:=⟨gr,1+reg,none⟩) HRW.out.base _
 go_wp2_with fail
 go_ret
 rw [zJ.out]
 exact zcf HR2.out HB2.out
