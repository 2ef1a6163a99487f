/- Steps. -/
import Derived.Test.YtnhahkiojbanfaaGreatDoorRqPWays
set_option linter.all false
namespace Go.Proofs.YtnhahkiojbanfaaGreatDoor
open Go.RowKit
set_option maxRecDepth 100000
set_option maxHeartbeats 16000000
variable {v0:Value}
theorem zqa {w:World} {B gr mb mc:Nat} {pc r0 r1 r2 r3 dom:Int} {buf:List zl} {bv:Value} {m:zu} {mem:List Int} {bad:Bool} (h:yx v0 w B gr pc r0 r1 r2 r3 buf bv m dom mem mb mc bad) (hB:B<=w.heap.size) (hd1:1<=dom) (hd2:dom<=1000) (d:Nat) (x:zC) (ka kb:Value) (ha:zw d w x.a ka) (hb:zw d w x.b kb)
  (yO:0<=x.reg/\x.reg<4) (hvar:0<=x.var/\x.var<(mem.length:Int)) (hbl:buf.length<=1000000):Calls Tryz.prog 125 #[.pointer (some ⟨gr,0,none⟩),xw x ka kb] w λe w'=>
  xG v0 w B gr m dom mb mc (if mem.getD x.var.toNat 0=zW [r0,r1,r2,r3] dom d x.a then(if buf.length=0 then some (⟨pc, [r0,r1,r2,r3].set x.reg.toNat 1,buf⟩,mem.set x.var.toNat (zW [r0,r1,r2,r3] dom d x.b),bad) else none) else(if buf.length=0 then some (⟨pc, [r0,r1,r2,r3].set x.reg.toNat 0,buf⟩,mem,bad) else none)) e w':=by
 have zZ:=λW V (hV:yx v0 W B gr pc r0 r1 r2 r3 buf V m dom mem mb mc bad) (hW:Below w.heap.size w W)=>gW hV hd1 hd2 d x.a ka (ha.below hW)
 have heb:=λW V (hV:yx v0 W B gr pc r0 r1 r2 r3 buf V m dom mem mb mc bad) (hW:Below w.heap.size w W)=>gW hV hd1 hd2 d x.b kb (hb.below hW)
 obtain⟨aa,ac,rfl, -⟩:=ha.slice
 obtain⟨ba,bc,rfl, -⟩:=hb.slice
 obtain⟨ua,uc,rfl, -⟩:=zh.slice h.qm
 obtain⟨op,reg,v,a,b,yt⟩:=x
 simp only [] at yO hvar ha hb zZ heb ⊢
 obtain⟨reg,rfl⟩:∃k:Nat,reg=(k:Int):=⟨reg.toNat,by omega⟩
 obtain⟨v,rfl⟩:∃k:Nat,v=(k:Int):=⟨v.toNat,by omega⟩
 have hr4:reg<4:=by omega
 have kW:v<mem.length:=by omega
 have hvI:(v:Int)<(mem.length:Int):=hvar.2
 have hrI:(reg:Int)<4:=yO.2
 try simp only [Int.toNat_natCast]
 clear ha hb
 unfold xw
 simp only []
 unfold yP at zZ heb
 generalize hva:zW [r0,r1,r2,r3] dom d a=va at zZ ⊢
 clear hva
 generalize hvb:zW [r0,r1,r2,r3] dom d b=vb at heb ⊢
 clear hvb
 generalize a.kind=ak at zZ ⊢
 generalize a.n=an at zZ ⊢
 generalize a.op=ao at zZ ⊢
 generalize a.kids.length=al at zZ ⊢
 generalize b.kind=bk at heb ⊢
 generalize b.n=bn at heb ⊢
 generalize b.op=bo at heb ⊢
 generalize b.kids.length=bl at heb ⊢
 have HEA:=qh zZ
 clear zZ
 have HEB:=qh heb
 clear heb
 obtain⟨res,hres⟩:∃r:Option (zA × List Int × Bool),r=(if mem.getD v 0=va then(if buf.length=0 then some (⟨pc, [r0,r1,r2,r3].set reg 1,buf⟩,mem.set v (vb),bad) else none) else(if buf.length=0 then some (⟨pc, [r0,r1,r2,r3].set reg 0,buf⟩,mem,bad) else none)):=⟨_,rfl⟩
 rw [<-hres]
 have yK:=qh hres
 clear hres
 obtain⟨un,hun⟩:∃n,n=buf.length:=⟨_,rfl⟩
 rw [<-hun] at h hbl
 have HUN:=qh hun
 have HR:=qh h
 have yH:=qh hB
 have HA:=qh ((Below.refl w.heap.size w).alloc (Nat.le_refl _) (.cells #[.int .i64 op, .int .i64 (reg:Int), .int .i64 (v:Int), .int .i64 ak, .int .i64 an, .int .u8 ao, .slice aa al ac, .int .i64 bk, .int .i64 bn, .int .u8 bo, .slice ba bl bc, .int .i64 yt] 60))
 have HX:=qh (zS w (.cells #[.int .i64 op, .int .i64 (reg:Int), .int .i64 (v:Int), .int .i64 ak, .int .i64 an, .int .u8 ao, .slice aa al ac, .int .i64 bk, .int .i64 bn, .int .u8 bo, .slice ba bl bc, .int .i64 yt] 60))
 clear h hun hB
 go_enter Tryz.func125,Tryz.ntmps125
 go_upto_region 1 with fail
 generalize World.alloc w _=W at HA HX ⊢
 obtain⟨gi,hgi⟩:∃g,g=w.heap.size:=⟨_,rfl⟩
 rw [<-hgi] at HX ⊢
 have HGI:=qh hgi
 clear hgi
 have HRW:=qh (HR.out.below HA.out)
 have qN:Hid (Below B w W):=HA.out.mono yH.out
 have CC:Hid (∀x,Below W.heap.size W x->x.cell? ⟨gi,1,none⟩=some (.int .i64 (reg:Int))/\x.cell? ⟨gi,2,none⟩=some (.int .i64 (v:Int))/\x.cell? ⟨gi,3,none⟩=some (.int .i64 ak)/\x.cell? ⟨gi,4,none⟩=some (.int .i64 an)/\x.cell? ⟨gi,5,none⟩=some (.int .u8 ao)/\x.cell? ⟨gi,6,none⟩=some (.slice aa al ac)/\x.cell? ⟨gi,7,none⟩=some (.int .i64 bk)/\x.cell? ⟨gi,8,none⟩=some (.int .i64 bn)/\x.cell? ⟨gi,9,none⟩=some (.int .u8 bo)/\x.cell? ⟨gi,10,none⟩=some (.slice ba bl bc)/\x.cell? ⟨gr,9,none⟩=some (.slice (some ⟨mb,0,none⟩) mem.length mc)/\x.cell? ⟨mb,v,none⟩=some (.int .i64 (mem.getD v 0))):=λx hx=>⟨zk hx _ _ (ze HX.out 1),zk hx _ _ (ze HX.out 2),zk hx _ _ (ze HX.out 3),zk hx _ _ (ze HX.out 4),zk hx _ _ (ze HX.out 5),zk hx _ _ (ze HX.out 6),zk hx _ _ (ze HX.out 7),zk hx _ _ (ze HX.out 8),zk hx _ _ (ze HX.out 9),zk hx _ _ (ze HX.out 10),zk hx _ _ (ze HRW.out.block 9),zk hx _ _ (HRW.out.kD kW).1⟩
 have HGM:=qh (show gi≠mb by have:=HR.out.jD.2;have:=HGI.out;omega)
 obtain⟨z,hz⟩:∃z,z=mem.getD v 0:=⟨_,rfl⟩
 rw [<-hz] at CC yK
 clear hz
 refine gX (S:=λx=>Below W.heap.size W x) ((Below.refl _ _).drew) (λhH=> ?_)
 refine zB 0 CC.out ?_
 refine zB 1 CC.out ?_
 refine zB 2 CC.out ?_
 refine zB 4 CC.out ?_
 refine zB 5 CC.out ?_
 refine zB 6 CC.out ?_
 refine yZ 3 rfl (λK hK=> ?_)
 go_simp
 refine(HEA.out W.drew _ (HRW.out.below hH) (zM HA.out hH)).mono ?_
 rintro e hw3 ⟨rfl,hb⟩
 have ziI:Below W.heap.size W hw3:=zM hH hb
 refine hK.out _ _ ziI (λ_=> ?_)
 clear hK K hb hH
 refine yZ 7 rfl (λK hK=> ?_)
 go_simp
 refine(HEB.out hw3 _ (HRW.out.below ziI) (zM HA.out ziI)).mono ?_
 rintro e hw7 ⟨rfl,hb⟩
 have wQ:Below W.heap.size W hw7:=zM ziI hb
 refine hK.out _ _ wQ (λ_=> ?_)
 clear hK K hb ziI
 refine zB 8 CC.out ?_
 refine zB 9 CC.out ?_
 refine zB 10 CC.out ?_
 refine vN ?_
 go_upto_region 2 with fail
 by_cases hz0:z=va
 rotate_left
 ·have hz1:((z:Int)==va)=false:=by simp [hz0]
  have HZ0:=qh hz0
  clear hz0
  refine gX (S:=λx=>Below W.heap.size W x) ((zM wQ (Below.refl _ _).drew)) (λhK2=> ?_)
  refine zB 0 CC.out ?_
  refine zB 1 CC.out ?_
  refine zB 2 CC.out ?_
  refine zB 3 CC.out ?_
  refine zB 4 CC.out ?_
  refine zB 5 CC.out ?_
  refine zB 6 CC.out ?_
  refine zB 7 CC.out ?_
  refine zB 8 CC.out ?_
  refine zB 9 CC.out ?_
  refine vN ?_
  have HR2:=qh (HRW.out.below (zM wQ (Below.refl _ _).drew))
  have HB2:Hid (Below B w hw7.drew):=qN.out.trans ((zM wQ (Below.refl _ _).drew).mono (Nat.le_trans yH.out HA.out.size))
  have HS2:Hid (Since (λk=>k=mb) W hw7.drew):=qA _ (zM wQ (Below.refl _ _).drew)
  go_upto_region 4 with fail
  generalize World.drew _=W4 at HR2 HB2 HS2 ⊢
  have C4:Hid (∀x,Below W4.heap.size W4 x->x.cell? ⟨gi,1,none⟩=some (.int .i64 (reg:Int))):=λx hx=>zk hx _ _ ((HS2.out.cell (p:=⟨gi,1,none⟩) (zy HX.out) (λe=>HGM.out e)).trans (ze HX.out 1))
  refine wp_region_noPanic ?_
  refine yh (n0:=8) (S:=λx=>Below W4.heap.size W4 x) (by kernel_rfl) ((Below.refl _ _).drew) (λyI=> ?_)
  refine zJ 0 (λ_=>yI) ?_
  refine zJ 1 (λ_=>yI) ?_
  refine qP [7,8] 2 C4.out yI ?_
  refine zJ 3 (λ_=>yI) ?_
  refine zJ 4 (λ_=>yI) ?_
  refine zJ 5 (λ_=>yI) ?_
  refine zJ 6 (λ_=>yI) ?_
  refine zJ 7 (λ_=>yI) ?_
  refine qx 8 rfl (λK hK=> ?_)
  obtain⟨q0,q1⟩:=(HR2.out.below yI).zbh hr4
  go_simp
  refine hK.out _ _ (λh=>absurd rfl h) ?_
  clear hK K
  refine yA (by kernel_rfl) ?_ _
  refine NoPanic.normal ?_
  clear q0 q1
  have HR3:=qh ((HR2.out.below yI).zcw reg hr4 0)
  have HB3:Hid (Below B w (W4.drew.setCell ⟨gr,1+reg,none⟩ (.int .i64 0))):=HB2.out.drew.setCell (p:=⟨gr,1+reg,none⟩) HRW.out.base _
  go_wp2_with fail
  refine(wG HR3.out).mono ?_
  rintro e w9 ⟨rfl,rfl⟩
  by_cases hz:buf.length=0
  ·have HZ:=qh hz
   have hz1:decide (buf.length=0)=true:=decide_eq_true hz
   clear hz
   rw [hz1]
   go_wp2_with fail
   go_ret
   rw [yK.out,if_neg HZ0.out,if_pos HZ.out]
   exact zbg HR3.out HB3.out
  have HZ:=qh hz
  have hz1:decide (buf.length=0)=false:=decide_eq_false hz
  clear hz
  rw [hz1]
  go_wp2_with fail
  go_ret
  rw [yK.out,if_neg HZ0.out,if_neg HZ.out]
  exact jA HB3.out
 have hz1:((z:Int)==va)=true:=by simp [hz0]
 have HZ0:=qh hz0
 clear hz0
 refine gX (S:=λx=>Below W.heap.size W x) ((zM wQ (Below.refl _ _).drew)) (λhK2=> ?_)
 refine zB 0 CC.out ?_
 refine zB 1 CC.out ?_
 refine zB 2 CC.out ?_
 refine zB 3 CC.out ?_
 refine zB 4 CC.out ?_
 refine zB 5 CC.out ?_
 refine zB 6 CC.out ?_
 refine zB 7 CC.out ?_
 refine zB 8 CC.out ?_
 refine zB 9 CC.out ?_
 refine vN ?_
 go_upto_region 3 with fail
 refine wp_region_noPanic ?_
 refine yh (n0:=8) (S:=λx=>Below W.heap.size W x) (by kernel_rfl) ((zM wQ (Below.refl _ _).drew.drew)) (λqK=> ?_)
 refine zJ 0 (λ_=>qK) ?_
 refine zJ 1 (λ_=>qK) ?_
 refine zJ 2 (λ_=>qK) ?_
 refine qP [7,8,9] 3 CC.out qK ?_
 refine zJ 4 (λ_=>qK) ?_
 refine qP [7,8,9] 5 CC.out qK ?_
 refine zJ 6 (λ_=>qK) ?_
 refine zJ 7 (λ_=>qK) ?_
 refine qx 8 rfl (λK hK=> ?_)
 obtain⟨q0,q1⟩:=(HRW.out.below qK).kD kW
 go_simp
 refine hK.out _ _ (λh=>absurd rfl h) ?_
 clear hK K
 refine zJ 9 (λh=>absurd h (by decide+kernel)) ?_
 refine yA (by kernel_rfl) ?_ _
 refine NoPanic.normal ?_
 clear q0 q1
 have HR2:=qh ((HRW.out.below qK).zaZ v vb)
 have HB2:Hid (Below B w (hw7.drew.drew.setCell ⟨mb,v,none⟩ (.int .i64 vb))):=(qN.out.trans (qK.mono (Nat.le_trans yH.out HA.out.size))).setCell (p:=⟨mb,v,none⟩) HRW.out.jD.1 _
 have HS2:Hid (Since (λk=>k=mb) W (hw7.drew.drew.setCell ⟨mb,v,none⟩ (.int .i64 vb))):=(qA _ qK).trans (Since.setCell (F:=λk=>k=mb) (p:=⟨mb,v,none⟩) (Since.refl _ _) (.inl rfl) _) (λ_ h=> .inl h)
 go_upto_region 4 with fail
 have eW:hw7.drew.drew.setCell ⟨mb,v,none⟩ (.int .i64 vb)=(hw7.setCell ⟨mb,v,none⟩ (.int .i64 vb)).drew.drew:=rfl
 rw [eW] at HR2 HB2 HS2
 clear eW
 generalize (World.setCell hw7 ⟨mb,v,none⟩ (.int .i64 vb)).drew.drew=W4 at HR2 HB2 HS2 ⊢
 have C4:Hid (∀x,Below W4.heap.size W4 x->x.cell? ⟨gi,1,none⟩=some (.int .i64 (reg:Int))):=λx hx=>zk hx _ _ ((HS2.out.cell (p:=⟨gi,1,none⟩) (zy HX.out) (λe=>HGM.out e)).trans (ze HX.out 1))
 refine wp_region_noPanic ?_
 refine yh (n0:=8) (S:=λx=>Below W4.heap.size W4 x) (by kernel_rfl) ((Below.refl _ _).drew) (λyI=> ?_)
 refine zJ 0 (λ_=>yI) ?_
 refine zJ 1 (λ_=>yI) ?_
 refine qP [7,8] 2 C4.out yI ?_
 refine zJ 3 (λ_=>yI) ?_
 refine zJ 4 (λ_=>yI) ?_
 refine zJ 5 (λ_=>yI) ?_
 refine zJ 6 (λ_=>yI) ?_
 refine zJ 7 (λ_=>yI) ?_
 refine qx 8 rfl (λK hK=> ?_)
 obtain⟨q0,q1⟩:=(HR2.out.below yI).zbh hr4
 go_simp
 refine hK.out _ _ (λh=>absurd rfl h) ?_
 clear hK K
 refine yA (by kernel_rfl) ?_ _
 refine NoPanic.normal ?_
 clear q0 q1
 have HR3:=qh ((HR2.out.below yI).zcw reg hr4 1)
 have HB3:Hid (Below B w (W4.drew.setCell ⟨gr,1+reg,none⟩ (.int .i64 1))):=HB2.out.drew.setCell (p:=⟨gr,1+reg,none⟩) HRW.out.base _
 go_wp2_with fail
 refine(wG HR3.out).mono ?_
 rintro e w9 ⟨rfl,rfl⟩
 by_cases hz:buf.length=0
 ·have HZ:=qh hz
  have hz1:decide (buf.length=0)=true:=decide_eq_true hz
  clear hz
  rw [hz1]
  go_wp2_with fail
  go_ret
  rw [yK.out,if_pos HZ0.out,if_pos HZ.out]
  exact zbg HR3.out HB3.out
 have HZ:=qh hz
 have hz1:decide (buf.length=0)=false:=decide_eq_false hz
 clear hz
 rw [hz1]
 go_wp2_with fail
 go_ret
 rw [yK.out,if_pos HZ0.out,if_neg HZ.out]
 exact jA HB3.out
