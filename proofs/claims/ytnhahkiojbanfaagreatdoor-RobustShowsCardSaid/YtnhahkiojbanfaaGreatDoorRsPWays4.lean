/- Steps. -/
import Derived.Test.YtnhahkiojbanfaaGreatDoorRsPWays2
set_option linter.all false
namespace Go.Proofs.YtnhahkiojbanfaaGreatDoor
open Go.RowKit
set_option maxRecDepth 100000
set_option maxHeartbeats 16000000
variable {v0:Value}
theorem zwm {w:World} {B gr mb mc:Nat} {pc r0 r1 r2 r3 dom:Int} {buf:List zl} {bv:Value} {m:zy} {mem:List Int} {bad:Bool} (h:xD v0 w B gr pc r0 r1 r2 r3 buf bv m dom mem mb mc bad) (hB:B<=w.heap.size) (hd1:1<=dom) (hd2:dom<=1000) (d:Nat) (x:zS) (ka kb:Value) (ha:zG d w x.a ka) (hb:zG d w x.b kb)
  (qw:0<=x.reg/\x.reg<4) (hvar:0<=x.var/\x.var<(mem.length:Int)) (hbl:buf.length<=1000000):Calls Tryz.prog 125 #[.pointer (some ⟨gr,0,none⟩),qK x ka kb] w λe w'=>
  qP v0 w B gr m dom mb mc (if mem.getD x.var.toNat 0=yw [r0,r1,r2,r3] dom d x.a then(if buf.length=0 then some (⟨pc, [r0,r1,r2,r3].set x.reg.toNat 1,buf⟩,mem.set x.var.toNat (yw [r0,r1,r2,r3] dom d x.b),bad) else none) else(if buf.length=0 then some (⟨pc, [r0,r1,r2,r3].set x.reg.toNat 0,buf⟩,mem,bad) else none)) e w':=by
 have yh:=λW V (hV:xD v0 W B gr pc r0 r1 r2 r3 buf V m dom mem mb mc bad) (hW:Below w.heap.size w W)=>zaB hV hd1 hd2 d x.a ka (ha.below hW)
 have pq:=λW V (hV:xD v0 W B gr pc r0 r1 r2 r3 buf V m dom mem mb mc bad) (hW:Below w.heap.size w W)=>zaB hV hd1 hd2 d x.b kb (hb.below hW)
 obtain⟨aa,ac,rfl, -⟩:=ha.slice
 obtain⟨ba,bc,rfl, -⟩:=hb.slice
 obtain⟨ua,uc,rfl, -⟩:=zh.slice h.vI
 obtain⟨op,reg,v,a,b,yJ⟩:=x
 simp only [] at qw hvar ha hb yh pq ⊢
 obtain⟨reg,rfl⟩:∃k:Nat,reg=(k:Int):=⟨reg.toNat,by omega⟩
 obtain⟨v,rfl⟩:∃k:Nat,v=(k:Int):=⟨v.toNat,by omega⟩
 have hr4:reg<4:=by omega
 have uy:v<mem.length:=by omega
 have bA:(v:Int)<(mem.length:Int):=hvar.2
 have hrI:(reg:Int)<4:=qw.2
 try simp only [Int.toNat_natCast]
 clear ha hb
 unfold qK
 simp only []
 unfold qy at yh pq
 generalize hva:yw [r0,r1,r2,r3] dom d a=va at yh ⊢
 clear hva
 generalize hvb:yw [r0,r1,r2,r3] dom d b=vb at pq ⊢
 clear hvb
 generalize a.kind=ak at yh ⊢
 generalize a.n=an at yh ⊢
 generalize a.op=ao at yh ⊢
 generalize a.kids.length=al at yh ⊢
 generalize b.kind=bk at pq ⊢
 generalize b.n=bn at pq ⊢
 generalize b.op=bo at pq ⊢
 generalize b.kids.length=bl at pq ⊢
 have HEA:=qh yh
 clear yh
 have HEB:=qh pq
 clear pq
 obtain⟨res,hres⟩:∃r:Option (zx × List Int × Bool),r=(if mem.getD v 0=va then(if buf.length=0 then some (⟨pc, [r0,r1,r2,r3].set reg 1,buf⟩,mem.set v (vb),bad) else none) else(if buf.length=0 then some (⟨pc, [r0,r1,r2,r3].set reg 0,buf⟩,mem,bad) else none)):=⟨_,rfl⟩
 rw [<-hres]
 have zQ:=qh hres
 clear hres
 obtain⟨un,hun⟩:∃n,n=buf.length:=⟨_,rfl⟩
 rw [<-hun] at h hbl
 have HUN:=qh hun
 have HR:=qh h
 have yR:=qh hB
 have HA:=qh ((Below.refl w.heap.size w).alloc (Nat.le_refl _) (.cells #[.int .i64 op, .int .i64 (reg:Int), .int .i64 (v:Int), .int .i64 ak, .int .i64 an, .int .u8 ao, .slice aa al ac, .int .i64 bk, .int .i64 bn, .int .u8 bo, .slice ba bl bc, .int .i64 yJ] 60))
 have HX:=qh (yj w (.cells #[.int .i64 op, .int .i64 (reg:Int), .int .i64 (v:Int), .int .i64 ak, .int .i64 an, .int .u8 ao, .slice aa al ac, .int .i64 bk, .int .i64 bn, .int .u8 bo, .slice ba bl bc, .int .i64 yJ] 60))
 clear h hun hB
 go_enter Tryz.func125,Tryz.ntmps125
 go_upto_region 1 with fail
 generalize World.alloc w _=W at HA HX ⊢
 obtain⟨gi,hgi⟩:∃g,g=w.heap.size:=⟨_,rfl⟩
 rw [<-hgi] at HX ⊢
 have HGI:=qh hgi
 clear hgi
 have HRW:=qh (HR.out.below HA.out)
 have jF:Hid (Below B w W):=HA.out.mono yR.out
 have CC:Hid (∀x,Below W.heap.size W x->x.cell? ⟨gi,1,none⟩=some (.int .i64 (reg:Int))/\x.cell? ⟨gi,2,none⟩=some (.int .i64 (v:Int))/\x.cell? ⟨gi,3,none⟩=some (.int .i64 ak)/\x.cell? ⟨gi,4,none⟩=some (.int .i64 an)/\x.cell? ⟨gi,5,none⟩=some (.int .u8 ao)/\x.cell? ⟨gi,6,none⟩=some (.slice aa al ac)/\x.cell? ⟨gi,7,none⟩=some (.int .i64 bk)/\x.cell? ⟨gi,8,none⟩=some (.int .i64 bn)/\x.cell? ⟨gi,9,none⟩=some (.int .u8 bo)/\x.cell? ⟨gi,10,none⟩=some (.slice ba bl bc)/\x.cell? ⟨gr,9,none⟩=some (.slice (some ⟨mb,0,none⟩) mem.length mc)/\x.cell? ⟨mb,v,none⟩=some (.int .i64 (mem.getD v 0))):=λx hx=>⟨zk hx _ _ (ze HX.out 1),zk hx _ _ (ze HX.out 2),zk hx _ _ (ze HX.out 3),zk hx _ _ (ze HX.out 4),zk hx _ _ (ze HX.out 5),zk hx _ _ (ze HX.out 6),zk hx _ _ (ze HX.out 7),zk hx _ _ (ze HX.out 8),zk hx _ _ (ze HX.out 9),zk hx _ _ (ze HX.out 10),zk hx _ _ (ze HRW.out.block 9),zk hx _ _ (HRW.out.uV uy).1⟩
 have HGM:=qh (show gi≠mb by have:=HR.out.gW.2;have:=HGI.out;omega)
 obtain⟨z,hz⟩:∃z,z=mem.getD v 0:=⟨_,rfl⟩
 rw [<-hz] at CC zQ
 clear hz
 refine jf (S:=λx=>Below W.heap.size W x) ((Below.refl _ _).drew) (λhH=> ?_)
 refine zB 0 CC.out ?_
 refine zB 1 CC.out ?_
 refine zB 2 CC.out ?_
 refine zB 4 CC.out ?_
 refine zB 5 CC.out ?_
 refine zB 6 CC.out ?_
 refine yC 3 rfl (λK hK=> ?_)
 go_simp
 refine(HEA.out W.drew _ (HRW.out.below hH) (zH HA.out hH)).mono ?_
 rintro e hw3 ⟨rfl,hb⟩
 have znc:Below W.heap.size W hw3:=zH hH hb
 refine hK.out _ _ znc (λ_=> ?_)
 clear hK K hb hH
 refine yC 7 rfl (λK hK=> ?_)
 go_simp
 refine(HEB.out hw3 _ (HRW.out.below znc) (zH HA.out znc)).mono ?_
 rintro e hw7 ⟨rfl,hb⟩
 have gU:Below W.heap.size W hw7:=zH znc hb
 refine hK.out _ _ gU (λ_=> ?_)
 clear hK K hb znc
 refine zB 8 CC.out ?_
 refine zB 9 CC.out ?_
 refine zB 10 CC.out ?_
 refine xW ?_
 go_upto_region 2 with fail
 by_cases hz0:z=va
 rotate_left
 ·have hz1:((z:Int)==va)=false:=by simp [hz0]
  have HZ0:=qh hz0
  clear hz0
  refine jf (S:=λx=>Below W.heap.size W x) ((zH gU (Below.refl _ _).drew)) (λhK2=> ?_)
  refine zB 0 CC.out ?_
  refine zB 1 CC.out ?_
  refine zB 2 CC.out ?_
  refine zB 3 CC.out ?_
  refine zB 4 CC.out ?_
  refine zB 5 CC.out ?_
  refine zB 6 CC.out ?_
  refine zB 7 CC.out ?_
  refine zB 8 CC.out ?_
  refine zB 9 CC.out ?_
  refine xW ?_
  have HR2:=qh (HRW.out.below (zH gU (Below.refl _ _).drew))
  have HB2:Hid (Below B w hw7.drew):=jF.out.trans ((zH gU (Below.refl _ _).drew).mono (Nat.le_trans yR.out HA.out.size))
  have HS2:Hid (Since (λk=>k=mb) W hw7.drew):=xU _ (zH gU (Below.refl _ _).drew)
  go_upto_region 4 with fail
  generalize World.drew _=W4 at HR2 HB2 HS2 ⊢
  have C4:Hid (∀x,Below W4.heap.size W4 x->x.cell? ⟨gi,1,none⟩=some (.int .i64 (reg:Int))):=λx hx=>zk hx _ _ ((HS2.out.cell (p:=⟨gi,1,none⟩) (zw HX.out) (λe=>HGM.out e)).trans (ze HX.out 1))
  refine wp_region_noPanic ?_
  refine yX (n0:=8) (S:=λx=>Below W4.heap.size W4 x) (by kernel_rfl) ((Below.refl _ _).drew) (λqd=> ?_)
  refine zV 0 (λ_=>qd) ?_
  refine zV 1 (λ_=>qd) ?_
  refine jr [7,8] 2 C4.out qd ?_
  refine zV 3 (λ_=>qd) ?_
  refine zV 4 (λ_=>qd) ?_
  refine zV 5 (λ_=>qd) ?_
  refine zV 6 (λ_=>qd) ?_
  refine zV 7 (λ_=>qd) ?_
  refine vO 8 rfl (λK hK=> ?_)
  obtain⟨q0,q1⟩:=(HR2.out.below qd).zdK hr4
  go_simp
  refine hK.out _ _ (λh=>absurd rfl h) ?_
  clear hK K
  refine xE (by kernel_rfl) ?_ _
  refine NoPanic.normal ?_
  clear q0 q1
  have HR3:=qh ((HR2.out.below qd).zf1 reg hr4 0)
  have HB3:Hid (Below B w (W4.drew.setCell ⟨gr,1+reg,none⟩ (.int .i64 0))):=HB2.out.drew.setCell (p:=⟨gr,1+reg,none⟩) HRW.out.base _
  go_wp2_with fail
  refine(pQ HR3.out).mono ?_
  rintro e w9 ⟨rfl,rfl⟩
  by_cases hz:buf.length=0
  ·have HZ:=qh hz
   have hz1:decide (buf.length=0)=true:=decide_eq_true hz
   clear hz
   rw [hz1]
   go_wp2_with fail
   go_ret
   rw [zQ.out,if_neg HZ0.out,if_pos HZ.out]
   exact zdL HR3.out HB3.out
  have HZ:=qh hz
  have hz1:decide (buf.length=0)=false:=decide_eq_false hz
  clear hz
  rw [hz1]
  go_wp2_with fail
  go_ret
  rw [zQ.out,if_neg HZ0.out,if_neg HZ.out]
  exact gH HB3.out
 have hz1:((z:Int)==va)=true:=by simp [hz0]
 have HZ0:=qh hz0
 clear hz0
 refine jf (S:=λx=>Below W.heap.size W x) ((zH gU (Below.refl _ _).drew)) (λhK2=> ?_)
 refine zB 0 CC.out ?_
 refine zB 1 CC.out ?_
 refine zB 2 CC.out ?_
 refine zB 3 CC.out ?_
 refine zB 4 CC.out ?_
 refine zB 5 CC.out ?_
 refine zB 6 CC.out ?_
 refine zB 7 CC.out ?_
 refine zB 8 CC.out ?_
 refine zB 9 CC.out ?_
 refine xW ?_
 go_upto_region 3 with fail
 refine wp_region_noPanic ?_
 refine yX (n0:=8) (S:=λx=>Below W.heap.size W x) (by kernel_rfl) ((zH gU (Below.refl _ _).drew.drew)) (λjg=> ?_)
 refine zV 0 (λ_=>jg) ?_
 refine zV 1 (λ_=>jg) ?_
 refine zV 2 (λ_=>jg) ?_
 refine jr [7,8,9] 3 CC.out jg ?_
 refine zV 4 (λ_=>jg) ?_
 refine jr [7,8,9] 5 CC.out jg ?_
 refine zV 6 (λ_=>jg) ?_
 refine zV 7 (λ_=>jg) ?_
 refine vO 8 rfl (λK hK=> ?_)
 obtain⟨q0,q1⟩:=(HRW.out.below jg).uV uy
 go_simp
 refine hK.out _ _ (λh=>absurd rfl h) ?_
 clear hK K
 refine zV 9 (λh=>absurd h (by decide+kernel)) ?_
 refine xE (by kernel_rfl) ?_ _
 refine NoPanic.normal ?_
 clear q0 q1
 have HR2:=qh ((HRW.out.below jg).zdM v vb)
 have HB2:Hid (Below B w (hw7.drew.drew.setCell ⟨mb,v,none⟩ (.int .i64 vb))):=(jF.out.trans (jg.mono (Nat.le_trans yR.out HA.out.size))).setCell (p:=⟨mb,v,none⟩) HRW.out.gW.1 _
 have HS2:Hid (Since (λk=>k=mb) W (hw7.drew.drew.setCell ⟨mb,v,none⟩ (.int .i64 vb))):=(xU _ jg).trans (Since.setCell (F:=λk=>k=mb) (p:=⟨mb,v,none⟩) (Since.refl _ _) (.inl rfl) _) (λ_ h=> .inl h)
 go_upto_region 4 with fail
 have eW:hw7.drew.drew.setCell ⟨mb,v,none⟩ (.int .i64 vb)=(hw7.setCell ⟨mb,v,none⟩ (.int .i64 vb)).drew.drew:=rfl
 rw [eW] at HR2 HB2 HS2
 clear eW
 generalize (World.setCell hw7 ⟨mb,v,none⟩ (.int .i64 vb)).drew.drew=W4 at HR2 HB2 HS2 ⊢
 have C4:Hid (∀x,Below W4.heap.size W4 x->x.cell? ⟨gi,1,none⟩=some (.int .i64 (reg:Int))):=λx hx=>zk hx _ _ ((HS2.out.cell (p:=⟨gi,1,none⟩) (zw HX.out) (λe=>HGM.out e)).trans (ze HX.out 1))
 refine wp_region_noPanic ?_
 refine yX (n0:=8) (S:=λx=>Below W4.heap.size W4 x) (by kernel_rfl) ((Below.refl _ _).drew) (λqd=> ?_)
 refine zV 0 (λ_=>qd) ?_
 refine zV 1 (λ_=>qd) ?_
 refine jr [7,8] 2 C4.out qd ?_
 refine zV 3 (λ_=>qd) ?_
 refine zV 4 (λ_=>qd) ?_
 refine zV 5 (λ_=>qd) ?_
 refine zV 6 (λ_=>qd) ?_
 refine zV 7 (λ_=>qd) ?_
 refine vO 8 rfl (λK hK=> ?_)
 obtain⟨q0,q1⟩:=(HR2.out.below qd).zdK hr4
 go_simp
 refine hK.out _ _ (λh=>absurd rfl h) ?_
 clear hK K
 refine xE (by kernel_rfl) ?_ _
 refine NoPanic.normal ?_
 clear q0 q1
 have HR3:=qh ((HR2.out.below qd).zf1 reg hr4 1)
 have HB3:Hid (Below B w (W4.drew.setCell ⟨gr,1+reg,none⟩ (.int .i64 1))):=HB2.out.drew.setCell (p:=⟨gr,1+reg,none⟩) HRW.out.base _
 go_wp2_with fail
 refine(pQ HR3.out).mono ?_
 rintro e w9 ⟨rfl,rfl⟩
 by_cases hz:buf.length=0
 ·have HZ:=qh hz
  have hz1:decide (buf.length=0)=true:=decide_eq_true hz
  clear hz
  rw [hz1]
  go_wp2_with fail
  go_ret
  rw [zQ.out,if_pos HZ0.out,if_pos HZ.out]
  exact zdL HR3.out HB3.out
 have HZ:=qh hz
 have hz1:decide (buf.length=0)=false:=decide_eq_false hz
 clear hz
 rw [hz1]
 go_wp2_with fail
 go_ret
 rw [zQ.out,if_pos HZ0.out,if_neg HZ.out]
 exact gH HB3.out
end Go.Proofs.YtnhahkiojbanfaaGreatDoor
namespace Go.Proofs.YtnhahkiojbanfaaGreatDoor
open Go.RowKit
set_option maxRecDepth 100000
set_option maxHeartbeats 16000000
variable {v0:Value}
theorem zqI {w:World} {B gr mb mc:Nat} {pc r0 r1 r2 r3 dom:Int} {buf:List zl} {bv:Value} {m:zy} {mem:List Int} {bad:Bool} (h:xD v0 w B gr pc r0 r1 r2 r3 buf bv m dom mem mb mc bad) (hB:B<=w.heap.size) (hd1:1<=dom) (hd2:dom<=1000) (d:Nat) (x:zS) (ka kb:Value) (ha:zG d w x.a ka) (hb:zG d w x.b kb)
  (qw:0<=x.reg/\x.reg<4) (hvar:0<=x.var/\x.var<(mem.length:Int)) (hbl:buf.length<=1000000):Calls Tryz.prog 121 #[.pointer (some ⟨gr,0,none⟩),qK x ka kb] w λe w'=>
  qP v0 w B gr m dom mb mc (if m.model=0 then some (⟨pc, [r0,r1,r2,r3],buf⟩,mem.set x.var.toNat (yw [r0,r1,r2,r3] dom d x.a),bad) else if qX buf m ⟨x.var,yw [r0,r1,r2,r3] dom d x.a⟩=true then some (⟨pc, [r0,r1,r2,r3],jM buf m ⟨x.var,yw [r0,r1,r2,r3] dom d x.a⟩⟩,mem,bad) else none) e w':=by
 have yh:=λW V (hV:xD v0 W B gr pc r0 r1 r2 r3 buf V m dom mem mb mc bad) (hW:Below w.heap.size w W)=>zaB hV hd1 hd2 d x.a ka (ha.below hW)
 obtain⟨aa,ac,rfl, -⟩:=ha.slice
 obtain⟨ba,bc,rfl, -⟩:=hb.slice
 obtain⟨ua,uc,rfl, -⟩:=zh.slice h.vI
 obtain⟨op,reg,v,a,b,yJ⟩:=x
 simp only [] at qw hvar ha hb yh ⊢
 obtain⟨reg,rfl⟩:∃k:Nat,reg=(k:Int):=⟨reg.toNat,by omega⟩
 obtain⟨v,rfl⟩:∃k:Nat,v=(k:Int):=⟨v.toNat,by omega⟩
 have hr4:reg<4:=by omega
 have uy:v<mem.length:=by omega
 have bA:(v:Int)<(mem.length:Int):=hvar.2
 have hrI:(reg:Int)<4:=qw.2
 try simp only [Int.toNat_natCast]
 clear ha hb
 unfold qK
 simp only []
 unfold qy at yh
 generalize hva:yw [r0,r1,r2,r3] dom d a=va at yh ⊢
 clear hva
 generalize a.kind=ak at yh ⊢
 generalize a.n=an at yh ⊢
 generalize a.op=ao at yh ⊢
 generalize a.kids.length=al at yh ⊢
 generalize b.kind=bk at ⊢
 generalize b.n=bn at ⊢
 generalize b.op=bo at ⊢
 generalize b.kids.length=bl at ⊢
 have HEA:=qh yh
 clear yh
 obtain⟨res,hres⟩:∃r:Option (zx × List Int × Bool),r=(if m.model=0 then some (⟨pc, [r0,r1,r2,r3],buf⟩,mem.set v (va),bad) else if qX buf m ⟨(v:Int),va⟩=true then some (⟨pc, [r0,r1,r2,r3],jM buf m ⟨(v:Int),va⟩⟩,mem,bad) else none):=⟨_,rfl⟩
 rw [<-hres]
 have zQ:=qh hres
 clear hres
 obtain⟨un,hun⟩:∃n,n=buf.length:=⟨_,rfl⟩
 rw [<-hun] at h hbl
 have HUN:=qh hun
 have HR:=qh h
 have yR:=qh hB
 have HA:=qh ((Below.refl w.heap.size w).alloc (Nat.le_refl _) (.cells #[.int .i64 op, .int .i64 (reg:Int), .int .i64 (v:Int), .int .i64 ak, .int .i64 an, .int .u8 ao, .slice aa al ac, .int .i64 bk, .int .i64 bn, .int .u8 bo, .slice ba bl bc, .int .i64 yJ] 60))
 have HX:=qh (yj w (.cells #[.int .i64 op, .int .i64 (reg:Int), .int .i64 (v:Int), .int .i64 ak, .int .i64 an, .int .u8 ao, .slice aa al ac, .int .i64 bk, .int .i64 bn, .int .u8 bo, .slice ba bl bc, .int .i64 yJ] 60))
 clear h hun hB
 go_enter Tryz.func121,Tryz.ntmps121
 go_upto_region 1 with fail
 generalize World.alloc w _=W at HA HX ⊢
 obtain⟨gi,hgi⟩:∃g,g=w.heap.size:=⟨_,rfl⟩
 rw [<-hgi] at HX ⊢
 clear hgi
 have HRW:=qh (HR.out.below HA.out)
 have jF:Hid (Below B w W):=HA.out.mono yR.out
 have CC:Hid (∀x,Below W.heap.size W x->x.cell? ⟨gi,2,none⟩=some (.int .i64 (v:Int))/\x.cell? ⟨gi,3,none⟩=some (.int .i64 ak)/\x.cell? ⟨gi,4,none⟩=some (.int .i64 an)/\x.cell? ⟨gi,5,none⟩=some (.int .u8 ao)/\x.cell? ⟨gi,6,none⟩=some (.slice aa al ac)/\x.cell? ⟨gr,5,none⟩=some (.slice ua un uc)/\x.cell? ⟨gr,6,none⟩=some (.int .i64 m.model)/\x.cell? ⟨gr,7,none⟩=some (.int .i64 m.bound)/\x.cell? ⟨gr,9,none⟩=some (.slice (some ⟨mb,0,none⟩) mem.length mc)):=λx hx=>⟨zk hx _ _ (ze HX.out 2),zk hx _ _ (ze HX.out 3),zk hx _ _ (ze HX.out 4),zk hx _ _ (ze HX.out 5),zk hx _ _ (ze HX.out 6),zk hx _ _ (ze HRW.out.block 5),zk hx _ _ (ze HRW.out.block 6),zk hx _ _ (ze HRW.out.block 7),zk hx _ _ (ze HRW.out.block 9)⟩
 obtain⟨c0,c1,c2,c3,c4,c5,c6,c7,c8⟩:=CC.out W (Below.refl _ _)
 go_wp2_with fail
 refine(HEA.out W _ HRW.out HA.out).mono ?_
 rintro e w2 ⟨rfl,hb2⟩
 have HB2:=qh hb2
 have HR2:=qh (HRW.out.below hb2)
 have HBB:Hid (Below B w w2):=jF.out.trans (hb2.mono (Nat.le_trans yR.out HA.out.size))
 clear hb2 c0 c1 c2 c3 c4 c5 c6 c7 c8
 have C2:Hid (∀x,Below w2.heap.size w2 x->x.cell? ⟨gi,2,none⟩=some (.int .i64 (v:Int))/\x.cell? ⟨gr,5,none⟩=some (.slice ua un uc)/\x.cell? ⟨gr,6,none⟩=some (.int .i64 m.model)/\x.cell? ⟨gr,7,none⟩=some (.int .i64 m.bound)/\x.cell? ⟨gr,9,none⟩=some (.slice (some ⟨mb,0,none⟩) mem.length mc)):=λx hx=>⟨zk (zH HB2.out hx) _ _ (ze HX.out 2),zk hx _ _ (ze HR2.out.block 5),zk hx _ _ (ze HR2.out.block 6),zk hx _ _ (ze HR2.out.block 7),zk hx _ _ (ze HR2.out.block 9)⟩
 obtain⟨-, -,e6, -, -⟩:=C2.out w2 (Below.refl _ _)
 by_cases hm:m.model=0
 ·have hm1:((m.model:Int)==0)=true:=by simp [hm]
  have HM:=qh hm
  clear hm
  go_upto_region 3 with fail
  clear e6 hm1
  refine wp_region_noPanic ?_
  refine yX (n0:=8) (S:=λx=>Below w2.heap.size w2 x) (by kernel_rfl) ((Below.refl _ _).drew) (λhT=> ?_)
  refine zV 0 (λ_=>hT) ?_
  refine zV 1 (λ_=>hT) ?_
  refine zV 2 (λ_=>hT) ?_
  refine jr [7,8] 3 C2.out hT ?_
  refine zV 4 (λ_=>hT) ?_
  refine jr [7,8] 5 C2.out hT ?_
  refine zV 6 (λ_=>hT) ?_
  refine zV 7 (λ_=>hT) ?_
  refine vO 8 rfl (λK hK=> ?_)
  obtain⟨q0,q1⟩:=(HR2.out.below hT).uV uy
  go_simp
  refine hK.out _ _ (λh=>absurd rfl h) ?_
  clear hK K
  refine xE (by kernel_rfl) ?_ _
  refine NoPanic.normal ?_
  clear q0 q1
  have HR3:=qh ((HR2.out.below hT).zdM v va)
  have HB3:Hid (Below B w (w2.drew.setCell ⟨mb,v,none⟩ (.int .i64 va))):=HBB.out.drew.setCell (p:=⟨mb,v,none⟩) HR2.out.gW.1 _
  go_wp2_with fail
  go_ret
  rw [zQ.out,if_pos HM.out]
  exact j5 HR3.out HB3.out
 have hm1:((m.model:Int)==0)=false:=by simp [hm]
 have HM:=qh hm
 clear hm
 have jE:Hid (∀x,Below w2.heap.size w2 x->Calls Tryz.prog 157 #[.slice ua un uc, .agg #[.int .i64 m.model, .int .i64 m.bound], .agg #[.int .i64 (v:Int), .int .i64 va]] x λe w'=>(∃bv',e= .returned (.tuple #[bv', .bool (qX buf m ⟨(v:Int),va⟩)])/\zZ w' bv' (jM buf m ⟨(v:Int),va⟩)/\(qX buf m ⟨(v:Int),va⟩=true->w'.ownsRow x.heap.size 110 2 bv' (jM buf m ⟨(v:Int),va⟩).length (zo zl.cells (jM buf m ⟨(v:Int),va⟩))))/\Below x.heap.size x w'):=λx hx=>zwb x _ buf (HR2.out.below hx).vI (by rw [<-HUN.out];exact hbl) m ⟨(v:Int),va⟩
 obtain⟨pb,hpb⟩:∃l,l=jM buf m ⟨(v:Int),va⟩:=⟨_,rfl⟩
 rw [<-hpb] at jE zQ
 clear hpb
 go_upto_region 5 with fail
 clear e6 hm1
 cases hok:qX buf m ⟨(v:Int),va⟩ with
 |true=>
  rw [hok] at jE zQ
  clear hok
  refine wp_region_noPanic ?_
  refine yX (n0:=21) (S:=λx=>Below w2.heap.size w2 x) (by kernel_rfl) ((Below.refl _ _).drew) (λhT=> ?_)
  refine zV 0 (λ_=>hT) ?_
  refine zV 1 (λ_=>hT) ?_
  refine zV 2 (λ_=>hT) ?_
  refine zV 3 (λ_=>hT) ?_
  refine zV 4 (λ_=>hT) ?_
  refine jr [14,15,16,17,18,19,20,21,22] 5 C2.out hT ?_
  refine zV 6 (λ_=>hT) ?_
  refine zV 7 (λ_=>hT) ?_
  refine zV 8 (λ_=>hT) ?_
  refine jr [14,15,16,17,18,19,20,21,22] 9 C2.out hT ?_
  refine zV 10 (λ_=>hT) ?_
  refine jr [13,14,15,16,17,18,19,20,21,22] 11 C2.out hT ?_
  refine zV 12 (λ_=>hT) ?_
  refine zV 13 (λ_=>hT) ?_
  refine vO 14 rfl (λK hK=> ?_)
  go_simp
  refine(jE.out w2.drew hT).mono ?_
  rintro e zeK ⟨⟨bv',rfl,hbf,hrow⟩,hb⟩
  obtain⟨xa,xc,rfl, -⟩:=zh.slice hbf
  have qZ:=qh hrow
  clear hbf hrow
  have gZ:Below w2.heap.size w2 zeK:=zH hT hb
  refine hK.out _ _ (λ_ _=>gZ) ?_
  clear hK K hb hT
  refine zV 15 (λ_=>gZ) ?_
  refine zV 16 (λ_=>gZ) ?_
  refine zV 17 (λ_=>gZ) ?_
  refine zV 18 (λ_=>gZ) ?_
  refine zV 19 (λ_=>gZ) ?_
  refine zV 20 (λ_=>gZ) ?_
  refine vO 21 rfl (λK hK=> ?_)
  have HBK:=qh ((HR2.out.below gZ).block)
  have q0:zeK.cell? ⟨gr,5,none⟩=some (.slice ua un uc):=ze HBK.out 5
  have q1:zeK.frozen? ⟨gr,5,none⟩=false:=zA HBK.out 5
  go_simp
  refine hK.out _ _ (λh=>absurd rfl h) ?_
  clear hK K
  refine zV 22 (λh=>absurd h (by decide+kernel)) ?_
  refine xE (by kernel_rfl) ?_ _
  refine NoPanic.normal ?_
  clear q0 q1
  have HB3:Hid (Below B w (zeK.setCell ⟨gr,5,none⟩ (.slice xa pb.length xc))):=(HBB.out.trans (gZ.mono (Nat.le_trans yR.out (Nat.le_trans HA.out.size HB2.out.size)))).setCell (p:=⟨gr,5,none⟩) HRW.out.base _
  have HR3:=qh ((HR2.out.below gZ).zse (V:=w2.drew) ⟨zw HR2.out.block,HR2.out.gW.2⟩ (qZ.out rfl))
  go_wp2_with fail
  go_ret
  first|rw [zQ.out,if_neg HM.out,if_pos rfl] |rw [zQ.out,if_neg HM.out,if_pos trivial]
  exact j5 HR3.out HB3.out
 |false=>
 rw [hok] at jE zQ
 clear hok
 refine wp_region_noPanic ?_
 refine yX (n0:=21) (S:=λx=>Below w2.heap.size w2 x) (by kernel_rfl) ((Below.refl _ _).drew) (λhT=> ?_)
 refine zV 0 (λ_=>hT) ?_
 refine zV 1 (λ_=>hT) ?_
 refine zV 2 (λ_=>hT) ?_
 refine zV 3 (λ_=>hT) ?_
 refine zV 4 (λ_=>hT) ?_
 refine jr [14,15,16,17,18,19,20,21,22] 5 C2.out hT ?_
 refine zV 6 (λ_=>hT) ?_
 refine zV 7 (λ_=>hT) ?_
 refine zV 8 (λ_=>hT) ?_
 refine jr [14,15,16,17,18,19,20,21,22] 9 C2.out hT ?_
 refine zV 10 (λ_=>hT) ?_
 refine jr [13,14,15,16,17,18,19,20,21,22] 11 C2.out hT ?_
 refine zV 12 (λ_=>hT) ?_
 refine zV 13 (λ_=>hT) ?_
 refine vO 14 rfl (λK hK=> ?_)
 go_simp
 refine(jE.out w2.drew hT).mono ?_
 rintro e zdx ⟨⟨bv',rfl,hbf,hrow⟩,hb⟩
 obtain⟨xa,xc,rfl, -⟩:=zh.slice hbf
 have qZ:=qh hrow
 clear hbf hrow
 have gZ:Below w2.heap.size w2 zdx:=zH hT hb
 refine hK.out _ _ (λ_ _=>gZ) ?_
 clear hK K hb hT
 refine zV 15 (λ_=>gZ) ?_
 refine zV 16 (λ_=>gZ) ?_
 refine zV 17 (λ_=>gZ) ?_
 refine zV 18 (λ_=>gZ) ?_
 refine zV 19 (λ_=>gZ) ?_
 refine zV 20 (λ_=>gZ) ?_
 refine vO 21 rfl (λK hK=> ?_)
 have HBK:=qh ((HR2.out.below gZ).block)
 have q0:zdx.cell? ⟨gr,5,none⟩=some (.slice ua un uc):=ze HBK.out 5
 have q1:zdx.frozen? ⟨gr,5,none⟩=false:=zA HBK.out 5
 go_simp
 refine hK.out _ _ (λh=>absurd rfl h) ?_
 clear hK K
 refine zV 22 (λh=>absurd h (by decide+kernel)) ?_
 refine xE (by kernel_rfl) ?_ _
 refine NoPanic.normal ?_
 clear q0 q1
 have HB3:Hid (Below B w (zdx.setCell ⟨gr,5,none⟩ (.slice xa pb.length xc))):=(HBB.out.trans (gZ.mono (Nat.le_trans yR.out (Nat.le_trans HA.out.size HB2.out.size)))).setCell (p:=⟨gr,5,none⟩) HRW.out.base _
 go_wp2_with fail
 go_ret
 rw [zQ.out,if_neg HM.out,if_neg (λh=>by cases h)]
 exact gH HB3.out
end Go.Proofs.YtnhahkiojbanfaaGreatDoor
namespace Go.Proofs.YtnhahkiojbanfaaGreatDoor
open Go.RowKit
set_option maxRecDepth 100000
set_option maxHeartbeats 16000000
variable {v0:Value}
def wyL:List (Int × Value):= [(1, .func (.func 120) #[] #[]),(2, .func (.func 121) #[] #[]),(3, .func (.func 122) #[] #[]),(4, .func (.func 123) #[] #[]),(5, .func (.func 124) #[] #[]),(6, .func (.func 125) #[] #[]),(7, .func (.func 126) #[] #[]),(8, .func (.func 127) #[] #[]),(9, .func (.func 128) #[] #[]),(12, .func (.func 129) #[] #[]),(13, .func (.func 130) #[] #[])]
theorem zt0 (w:World):Calls Tryz.prog 99 #[] w (zmZ wyL w):=by
 have hmm:= @run_makeMap Tryz.prog
 have h0:xL (w.alloc (.map #[] 0)) w.heap.size [] :=⟨#[],0,yj w _,rfl⟩
 have hB0:Below w.heap.size w (w.alloc (.map #[] 0)):=(Below.refl _ _).alloc (Nat.le_refl _) _
 go_enter Tryz.func99,Tryz.ntmps99
 go_wp2_with(refine vM _ rfl _ _ _ 171 rfl 3 170 .i64 Tryz.underlying171 Tryz.underlying3 w.heap.size _ rfl _ rfl _ rfl h0 ?_;clear h0;intro w1 h0 hs1 hz1;replace hB0:=hB0.trans (hs1.below hB0.size (λk hk=>by omega));clear hs1 hz1)
 go_ret
 exact⟨w.heap.size,rfl,h0,Nat.le_refl _,hB0⟩
def zqe (k:Int):Prop:=k=1\/k=2\/k=3\/k=4\/k=5\/k=6\/k=7\/k=8\/k=9\/k=12\/k=13
theorem zwl {w:World} {B gr mb mc:Nat} {pc r0 r1 r2 r3:Int} {buf:List zl} {bv:Value} {m:zy} {c:zD} {s:zi} (h:xD v0 w B gr (pc+1) r0 r1 r2 r3 buf bv m c.domain s.mem mb mc s.bad) (hB:B<=w.heap.size) (hd1:1<=c.domain) (hd2:c.domain<=1000) (d:Nat) (x:zS) (ka kb:Value) (ha:zG d w x.a ka) (hb:zG d w x.b kb)
  (qw:0<=x.reg/\x.reg<4) (hvar:0<=x.var/\x.var<(s.mem.length:Int)) (hbl:buf.length<=1000000) (hop:zqe x.op):
  ∃f,vE wyL x.op=some (.func (.func f) #[] #[])/\(∀args W,(callFunc f args).run Tryz.prog W= .ok (.enter f args) W)/\
   Calls Tryz.prog f #[.pointer (some ⟨gr,0,none⟩),qK x ka kb] w λe w'=>qP v0 w B gr m c.domain mb mc (stepT c m s ⟨pc, [r0,r1,r2,r3],buf⟩ x d) e w':=by
 rcases hop with k|k|k|k|k|k|k|k|k|k|k
 ·exact⟨_,by rw [k];rfl,λ_ _=>rfl,by rw [uE k];exact zr8 h hB hd1 hd2 d x ka kb ha hb qw hvar hbl⟩
 ·refine⟨_,by rw [k];rfl,λ_ _=>rfl, ?_⟩
  have hw:=zqI h hB hd1 hd2 d x ka kb ha hb qw hvar hbl
  by_cases hm:m.model=0
  ·rw [jW k hm];simp only [if_pos hm] at hw;exact hw
  simp only [if_neg hm] at hw
  cases hp:qX buf m ⟨x.var,yw [r0,r1,r2,r3] c.domain d x.a⟩ with
  |true=>rw [bO k hm hp];simp only [hp,if_true] at hw;exact hw
  |false=>rw [bP k hm hp];simp only [hp,Bool.false_eq_true,if_false] at hw;exact hw
 ·exact⟨_,by rw [k];rfl,λ_ _=>rfl,by rw [za9 k];exact zuz h hB hd1 hd2 d x ka kb ha hb qw hvar hbl⟩
 ·exact⟨_,by rw [k];rfl,λ_ _=>rfl,by rw [gF k];exact zqc h hB hd1 hd2 d x ka kb ha hb qw hvar hbl⟩
 ·exact⟨_,by rw [k];rfl,λ_ _=>rfl,by rw [wU k];exact zsE h hB hd1 hd2 d x ka kb ha hb qw hvar hbl⟩
 ·refine⟨_,by rw [k];rfl,λ_ _=>rfl, ?_⟩
  have hw:=zwm h hB hd1 hd2 d x ka kb ha hb qw hvar hbl
  by_cases hv:s.mem.getD x.var.toNat 0=yw [r0,r1,r2,r3] c.domain d x.a
  ·rw [uF k hv];simp only [if_pos hv] at hw;exact hw
  rw [uG k hv];simp only [if_neg hv] at hw;exact hw
 ·exact⟨_,by rw [k];rfl,λ_ _=>rfl,by rw [wV k];exact zr7 h hB hd1 hd2 d x ka kb ha hb qw hvar hbl⟩
 ·exact⟨_,by rw [k];rfl,λ_ _=>rfl,by rw [kZ k];exact zn7 h hB hd1 hd2 d x ka kb ha hb qw hvar hbl⟩
 ·exact⟨_,by rw [k];rfl,λ_ _=>rfl,by rw [jX k];exact zn6 h hB hd1 hd2 d x ka kb ha hb qw hvar hbl⟩
 ·refine⟨_,by rw [k];rfl,λ_ _=>rfl, ?_⟩
  have hw:=zn5 h hB hd1 hd2 d x ka kb ha hb qw hvar hbl
  rw [wh k]
  by_cases hv:yw [r0,r1,r2,r3] c.domain d x.a=0
  ·simp only [if_pos hv] at hw ⊢;exact hw
  simp only [if_neg hv] at hw ⊢;exact hw
 exact⟨_,by rw [k];rfl,λ_ _=>rfl,by rw [pG k];exact zsD h hB hd1 hd2 d x ka kb ha hb qw hvar hbl⟩
