/- Steps. -/
import Derived.Test.YteggflahafiieaaGreatDoorZgPWays
set_option linter.all false
namespace Go.Proofs.YteggflahafiieaaGreatDoor
open Go.RowKit
set_option maxRecDepth 100000
set_option maxHeartbeats 16000000
variable {v0:Value}
theorem zv3 {w:World} {B gr mb mc:Nat} {pc r0 r1 r2 r3 dom:Int} {buf:List zi} {bv:Value} {m:zF} {mem:List Int} {bad:Bool} (h:xq v0 w B gr pc r0 r1 r2 r3 buf bv m dom mem mb mc bad) (hB:B<=w.heap.size) (hd1:1<=dom) (hd2:dom<=1000) (d:Nat) (x:zT) (ka kb:Value) (ha:zx d w x.a ka) (hb:zx d w x.b kb)
  (xP:0<=x.reg/\x.reg<4) (hvar:0<=x.var/\x.var<(mem.length:Int)) (hbl:buf.length<=1000000):Calls Tryz.prog 132 #[.pointer (some ⟨gr,0,none⟩),qd x ka kb] w λe w'=>
  qo v0 w B gr m dom mb mc (if mem.getD x.var.toNat 0=zZ [r0,r1,r2,r3] dom d x.a then(if buf.length=0 then some (⟨pc, [r0,r1,r2,r3].set x.reg.toNat 1,buf⟩,mem.set x.var.toNat (zZ [r0,r1,r2,r3] dom d x.b),bad) else none) else(if buf.length=0 then some (⟨pc, [r0,r1,r2,r3].set x.reg.toNat 0,buf⟩,mem,bad) else none)) e w':=by
 have yG:=λW V (hV:xq v0 W B gr pc r0 r1 r2 r3 buf V m dom mem mb mc bad) (hW:Below w.heap.size w W)=>bg hV hd1 hd2 d x.a ka (ha.below hW)
 have heb:=λW V (hV:xq v0 W B gr pc r0 r1 r2 r3 buf V m dom mem mb mc bad) (hW:Below w.heap.size w W)=>bg hV hd1 hd2 d x.b kb (hb.below hW)
 obtain⟨aa,ac,rfl, -⟩:=ha.slice
 obtain⟨ba,bc,rfl, -⟩:=hb.slice
 obtain⟨ua,uc,rfl, -⟩:=ze.slice h.qJ
 obtain⟨op,reg,v,a,b,yA⟩:=x
 simp only [] at xP hvar ha hb yG heb ⊢
 obtain⟨reg,rfl⟩:∃k:Nat,reg=(k:Int):=⟨reg.toNat,by omega⟩
 obtain⟨v,rfl⟩:∃k:Nat,v=(k:Int):=⟨v.toNat,by omega⟩
 have hr4:reg<4:=by omega
 have kW:v<mem.length:=by omega
 have wX:(v:Int)<(mem.length:Int):=hvar.2
 have hrI:(reg:Int)<4:=xP.2
 try simp only [Int.toNat_natCast]
 clear ha hb
 unfold qd
 simp only []
 unfold xQ at yG heb
 generalize hva:zZ [r0,r1,r2,r3] dom d a=va at yG ⊢
 clear hva
 generalize hvb:zZ [r0,r1,r2,r3] dom d b=vb at heb ⊢
 clear hvb
 generalize a.kind=ak at yG ⊢
 generalize a.n=an at yG ⊢
 generalize a.op=ao at yG ⊢
 generalize a.kids.length=al at yG ⊢
 generalize b.kind=bk at heb ⊢
 generalize b.n=bn at heb ⊢
 generalize b.op=bo at heb ⊢
 generalize b.kids.length=bl at heb ⊢
 have HEA:=qh yG
 clear yG
 have HEB:=qh heb
 clear heb
 obtain⟨res,hres⟩:∃r:Option (zo × List Int × Bool),r=(if mem.getD v 0=va then(if buf.length=0 then some (⟨pc, [r0,r1,r2,r3].set reg 1,buf⟩,mem.set v (vb),bad) else none) else(if buf.length=0 then some (⟨pc, [r0,r1,r2,r3].set reg 0,buf⟩,mem,bad) else none)):=⟨_,rfl⟩
 rw [<-hres]
 have zJ:=qh hres
 clear hres
 obtain⟨un,hun⟩:∃n,n=buf.length:=⟨_,rfl⟩
 rw [<-hun] at h hbl
 have HUN:=qh hun
 have HR:=qh h
 have yM:=qh hB
 have HA:=qh ((Below.refl w.heap.size w).alloc (Nat.le_refl _) (.cells #[.int .i64 op, .int .i64 (reg:Int), .int .i64 (v:Int), .int .i64 ak, .int .i64 an, .int .u8 ao, .slice aa al ac, .int .i64 bk, .int .i64 bn, .int .u8 bo, .slice ba bl bc, .int .i64 yA] 53))
 have HX:=qh (yE w (.cells #[.int .i64 op, .int .i64 (reg:Int), .int .i64 (v:Int), .int .i64 ak, .int .i64 an, .int .u8 ao, .slice aa al ac, .int .i64 bk, .int .i64 bn, .int .u8 bo, .slice ba bl bc, .int .i64 yA] 53))
 clear h hun hB
 go_enter Tryz.func132,Tryz.ntmps132
 go_upto_region 1 with fail
 generalize World.alloc w _=W at HA HX ⊢
 obtain⟨gi,hgi⟩:∃g,g=w.heap.size:=⟨_,rfl⟩
 rw [<-hgi] at HX ⊢
 have HGI:=qh hgi
 clear hgi
 have HRW:=qh (HR.out.below HA.out)
 have vX:Hid (Below B w W):=HA.out.mono yM.out
 have CC:Hid (∀x,Below W.heap.size W x->x.cell? ⟨gi,1,none⟩=some (.int .i64 (reg:Int))/\x.cell? ⟨gi,2,none⟩=some (.int .i64 (v:Int))/\x.cell? ⟨gi,3,none⟩=some (.int .i64 ak)/\x.cell? ⟨gi,4,none⟩=some (.int .i64 an)/\x.cell? ⟨gi,5,none⟩=some (.int .u8 ao)/\x.cell? ⟨gi,6,none⟩=some (.slice aa al ac)/\x.cell? ⟨gi,7,none⟩=some (.int .i64 bk)/\x.cell? ⟨gi,8,none⟩=some (.int .i64 bn)/\x.cell? ⟨gi,9,none⟩=some (.int .u8 bo)/\x.cell? ⟨gi,10,none⟩=some (.slice ba bl bc)/\x.cell? ⟨gr,9,none⟩=some (.slice (some ⟨mb,0,none⟩) mem.length mc)/\x.cell? ⟨mb,v,none⟩=some (.int .i64 (mem.getD v 0))):=λx hx=>⟨zh hx _ _ (za HX.out 1),zh hx _ _ (za HX.out 2),zh hx _ _ (za HX.out 3),zh hx _ _ (za HX.out 4),zh hx _ _ (za HX.out 5),zh hx _ _ (za HX.out 6),zh hx _ _ (za HX.out 7),zh hx _ _ (za HX.out 8),zh hx _ _ (za HX.out 9),zh hx _ _ (za HX.out 10),zh hx _ _ (za HRW.out.block 9),zh hx _ _ (HRW.out.wR kW).1⟩
 have HGM:=qh (show gi≠mb by have:=HR.out.kQ.2;have:=HGI.out;omega)
 obtain⟨z,hz⟩:∃z,z=mem.getD v 0:=⟨_,rfl⟩
 rw [<-hz] at CC zJ
 clear hz
 refine vJ (S:=λx=>Below W.heap.size W x) ((Below.refl _ _).drew) (λhH=> ?_)
 refine zk 0 CC.out ?_
 refine zk 1 CC.out ?_
 refine zk 2 CC.out ?_
 refine zk 4 CC.out ?_
 refine zk 5 CC.out ?_
 refine zk 6 CC.out ?_
 refine yw 3 rfl (λK hK=> ?_)
 go_simp
 refine(HEA.out W.drew _ (HRW.out.below hH) (zB HA.out hH)).mono ?_
 rintro e hw3 ⟨rfl,hb⟩
 have zoc:Below W.heap.size W hw3:=zB hH hb
 refine hK.out _ _ zoc (λ_=> ?_)
 clear hK K hb hH
 refine yw 7 rfl (λK hK=> ?_)
 go_simp
 refine(HEB.out hw3 _ (HRW.out.below zoc) (zB HA.out zoc)).mono ?_
 rintro e hw7 ⟨rfl,hb⟩
 have zar:Below W.heap.size W hw7:=zB zoc hb
 refine hK.out _ _ zar (λ_=> ?_)
 clear hK K hb zoc
 refine zk 8 CC.out ?_
 refine zk 9 CC.out ?_
 refine zk 10 CC.out ?_
 refine xM ?_
 go_upto_region 2 with fail
 by_cases hz0:z=va
 rotate_left
 ·have hz1:((z:Int)==va)=false:=by simp [hz0]
  have HZ0:=qh hz0
  clear hz0
  refine vJ (S:=λx=>Below W.heap.size W x) ((zB zar (Below.refl _ _).drew)) (λhK2=> ?_)
  refine zk 0 CC.out ?_
  refine zk 1 CC.out ?_
  refine zk 2 CC.out ?_
  refine zk 3 CC.out ?_
  refine zk 4 CC.out ?_
  refine zk 5 CC.out ?_
  refine zk 6 CC.out ?_
  refine zk 7 CC.out ?_
  refine zk 8 CC.out ?_
  refine zk 9 CC.out ?_
  refine xM ?_
  have HR2:=qh (HRW.out.below (zB zar (Below.refl _ _).drew))
  have HB2:Hid (Below B w hw7.drew):=vX.out.trans ((zB zar (Below.refl _ _).drew).mono (Nat.le_trans yM.out HA.out.size))
  have HS2:Hid (Since (λk=>k=mb) W hw7.drew):=wm _ (zB zar (Below.refl _ _).drew)
  go_upto_region 4 with fail
  generalize World.drew _=W4 at HR2 HB2 HS2 ⊢
  have C4:Hid (∀x,Below W4.heap.size W4 x->x.cell? ⟨gi,1,none⟩=some (.int .i64 (reg:Int))):=λx hx=>zh hx _ _ ((HS2.out.cell (p:=⟨gi,1,none⟩) (zq HX.out) (λe=>HGM.out e)).trans (za HX.out 1))
  refine wp_region_noPanic ?_
  refine yS (n0:=8) (S:=λx=>Below W4.heap.size W4 x) (by kernel_rfl) ((Below.refl _ _).drew) (λqF=> ?_)
  refine zP 0 (λ_=>qF) ?_
  refine zP 1 (λ_=>qF) ?_
  refine vK [7,8] 2 C4.out qF ?_
  refine zP 3 (λ_=>qF) ?_
  refine zP 4 (λ_=>qF) ?_
  refine zP 5 (λ_=>qF) ?_
  refine zP 6 (λ_=>qF) ?_
  refine zP 7 (λ_=>qF) ?_
  refine jD 8 rfl (λK hK=> ?_)
  obtain⟨q0,q1⟩:=(HR2.out.below qF).zce hr4
  go_simp
  refine hK.out _ _ (λh=>absurd rfl h) ?_
  clear hK K
  refine xO (by kernel_rfl) ?_ _
  refine NoPanic.normal ?_
  clear q0 q1
  have HR3:=qh ((HR2.out.below qF).zd0 reg hr4 0)
  have HB3:Hid (Below B w (W4.drew.setCell ⟨gr,1+reg,none⟩ (.int .i64 0))):=HB2.out.drew.setCell (p:=⟨gr,1+reg,none⟩) HRW.out.base _
  go_wp2_with fail
  refine(gZ HR3.out).mono ?_
  rintro e w9 ⟨rfl,rfl⟩
  by_cases hz:buf.length=0
  ·have HZ:=qh hz
   have hz1:decide (buf.length=0)=true:=decide_eq_true hz
   clear hz
   rw [hz1]
   go_wp2_with fail
   go_ret
   rw [zJ.out,if_neg HZ0.out,if_pos HZ.out]
   exact zcf HR3.out HB3.out
  have HZ:=qh hz
  have hz1:decide (buf.length=0)=false:=decide_eq_false hz
  clear hz
  rw [hz1]
  go_wp2_with fail
  go_ret
  rw [zJ.out,if_neg HZ0.out,if_neg HZ.out]
  exact kC HB3.out
 have hz1:((z:Int)==va)=true:=by simp [hz0]
 have HZ0:=qh hz0
 clear hz0
 refine vJ (S:=λx=>Below W.heap.size W x) ((zB zar (Below.refl _ _).drew)) (λhK2=> ?_)
 refine zk 0 CC.out ?_
 refine zk 1 CC.out ?_
 refine zk 2 CC.out ?_
 refine zk 3 CC.out ?_
 refine zk 4 CC.out ?_
 refine zk 5 CC.out ?_
 refine zk 6 CC.out ?_
 refine zk 7 CC.out ?_
 refine zk 8 CC.out ?_
 refine zk 9 CC.out ?_
 refine xM ?_
 go_upto_region 3 with fail
 refine wp_region_noPanic ?_
 refine yS (n0:=8) (S:=λx=>Below W.heap.size W x) (by kernel_rfl) ((zB zar (Below.refl _ _).drew.drew)) (λhT3=> ?_)
 refine zP 0 (λ_=>hT3) ?_
 refine zP 1 (λ_=>hT3) ?_
 refine zP 2 (λ_=>hT3) ?_
 refine vK [7,8,9] 3 CC.out hT3 ?_
 refine zP 4 (λ_=>hT3) ?_
 refine vK [7,8,9] 5 CC.out hT3 ?_
 refine zP 6 (λ_=>hT3) ?_
 refine zP 7 (λ_=>hT3) ?_
 refine jD 8 rfl (λK hK=> ?_)
 obtain⟨q0,q1⟩:=(HRW.out.below hT3).wR kW
 go_simp
 refine hK.out _ _ (λh=>absurd rfl h) ?_
 clear hK K
 refine zP 9 (λh=>absurd h (by decide+kernel)) ?_
 refine xO (by kernel_rfl) ?_ _
 refine NoPanic.normal ?_
 clear q0 q1
 have HR2:=qh ((HRW.out.below hT3).zcg v vb)
 have HB2:Hid (Below B w (hw7.drew.drew.setCell ⟨mb,v,none⟩ (.int .i64 vb))):=(vX.out.trans (hT3.mono (Nat.le_trans yM.out HA.out.size))).setCell (p:=⟨mb,v,none⟩) HRW.out.kQ.1 _
 have HS2:Hid (Since (λk=>k=mb) W (hw7.drew.drew.setCell ⟨mb,v,none⟩ (.int .i64 vb))):=(wm _ hT3).trans (Since.setCell (F:=λk=>k=mb) (p:=⟨mb,v,none⟩) (Since.refl _ _) (.inl rfl) _) (λ_ h=> .inl h)
 go_upto_region 4 with fail
 have eW:hw7.drew.drew.setCell ⟨mb,v,none⟩ (.int .i64 vb)=(hw7.setCell ⟨mb,v,none⟩ (.int .i64 vb)).drew.drew:=rfl
 rw [eW] at HR2 HB2 HS2
 clear eW
 generalize (World.setCell hw7 ⟨mb,v,none⟩ (.int .i64 vb)).drew.drew=W4 at HR2 HB2 HS2 ⊢
 have C4:Hid (∀x,Below W4.heap.size W4 x->x.cell? ⟨gi,1,none⟩=some (.int .i64 (reg:Int))):=λx hx=>zh hx _ _ ((HS2.out.cell (p:=⟨gi,1,none⟩) (zq HX.out) (λe=>HGM.out e)).trans (za HX.out 1))
 refine wp_region_noPanic ?_
 refine yS (n0:=8) (S:=λx=>Below W4.heap.size W4 x) (by kernel_rfl) ((Below.refl _ _).drew) (λqF=> ?_)
 refine zP 0 (λ_=>qF) ?_
 refine zP 1 (λ_=>qF) ?_
 refine vK [7,8] 2 C4.out qF ?_
 refine zP 3 (λ_=>qF) ?_
 refine zP 4 (λ_=>qF) ?_
 refine zP 5 (λ_=>qF) ?_
 refine zP 6 (λ_=>qF) ?_
 refine zP 7 (λ_=>qF) ?_
 refine jD 8 rfl (λK hK=> ?_)
 obtain⟨q0,q1⟩:=(HR2.out.below qF).zce hr4
 go_simp
 refine hK.out _ _ (λh=>absurd rfl h) ?_
 clear hK K
 refine xO (by kernel_rfl) ?_ _
 refine NoPanic.normal ?_
 clear q0 q1
 have HR3:=qh ((HR2.out.below qF).zd0 reg hr4 1)
 have HB3:Hid (Below B w (W4.drew.setCell ⟨gr,1+reg,none⟩ (.int .i64 1))):=HB2.out.drew.setCell (p:=⟨gr,1+reg,none⟩) HRW.out.base _
 go_wp2_with fail
 refine(gZ HR3.out).mono ?_
 rintro e w9 ⟨rfl,rfl⟩
 by_cases hz:buf.length=0
 ·have HZ:=qh hz
  have hz1:decide (buf.length=0)=true:=decide_eq_true hz
  clear hz
  rw [hz1]
  go_wp2_with fail
  go_ret
  rw [zJ.out,if_pos HZ0.out,if_pos HZ.out]
  exact zcf HR3.out HB3.out
 have HZ:=qh hz
 have hz1:decide (buf.length=0)=false:=decide_eq_false hz
 clear hz
 rw [hz1]
 go_wp2_with fail
 go_ret
 rw [zJ.out,if_pos HZ0.out,if_neg HZ.out]
 exact kC HB3.out
