/- Steps. -/
import Derived.Test.YtnhahkiojbanfaaGreatDoorRsTail
set_option linter.all false
namespace Go.Proofs.YtnhahkiojbanfaaGreatDoor
open Go.RowKit
set_option maxRecDepth 100000
set_option maxHeartbeats 16000000
variable {v0:Value}
theorem zuz {w:World} {B gr mb mc:Nat} {pc r0 r1 r2 r3 dom:Int} {buf:List zl} {bv:Value} {m:zy} {mem:List Int} {bad:Bool} (h:xD v0 w B gr pc r0 r1 r2 r3 buf bv m dom mem mb mc bad) (hB:B<=w.heap.size) (hd1:1<=dom) (hd2:dom<=1000) (d:Nat) (x:zS) (ka kb:Value) (ha:zG d w x.a ka) (hb:zG d w x.b kb)
  (qw:0<=x.reg/\x.reg<4) (hvar:0<=x.var/\x.var<(mem.length:Int)) (hbl:buf.length<=1000000):Calls Tryz.prog 122 #[.pointer (some ⟨gr,0,none⟩),qK x ka kb] w λe w'=>
  qP v0 w B gr m dom mb mc (some (⟨pc, [r0,r1,r2,r3].set x.reg.toNat (yw [r0,r1,r2,r3] dom d x.a),buf⟩,mem,bad)) e w':=by
 have yh:=λW V (hV:xD v0 W B gr pc r0 r1 r2 r3 buf V m dom mem mb mc bad) (hW:Below w.heap.size w W)=>zaB hV hd1 hd2 d x.a ka (ha.below hW)
 obtain⟨aa,ac,rfl, -⟩:=ha.slice
 obtain⟨ba,bc,rfl, -⟩:=hb.slice
 obtain⟨ua,uc,rfl, -⟩:=zh.slice h.vI
 obtain⟨op,reg,v,a,b,yJ⟩:=x
 simp only [] at qw hvar ha hb yh ⊢
 obtain⟨reg,rfl⟩:∃k:Nat,reg=(k:Int):=⟨reg.toNat,by omega⟩
 obtain⟨v,rfl⟩:∃k:Nat,v=(k:Int):=⟨v.toNat,by omega⟩
 have hr4:reg<4:=by omega
 have uy:v<mem.length:=by omega
 have bA:(v:Int)<(mem.length:Int):=hvar.2
 have hrI:(reg:Int)<4:=qw.2
 try simp only [Int.toNat_natCast]
 clear ha hb
 unfold qK
 simp only []
 unfold qy at yh
 generalize hva:yw [r0,r1,r2,r3] dom d a=va at yh ⊢
 clear hva
 generalize a.kind=ak at yh ⊢
 generalize a.n=an at yh ⊢
 generalize a.op=ao at yh ⊢
 generalize a.kids.length=al at yh ⊢
 generalize b.kind=bk at ⊢
 generalize b.n=bn at ⊢
 generalize b.op=bo at ⊢
 generalize b.kids.length=bl at ⊢
 have HEA:=qh yh
 clear yh
 obtain⟨res,hres⟩:∃r:Option (zx × List Int × Bool),r=(some (⟨pc, [r0,r1,r2,r3].set reg (va),buf⟩,mem,bad)):=⟨_,rfl⟩
 rw [<-hres]
 have zQ:=qh hres
 clear hres
 obtain⟨un,hun⟩:∃n,n=buf.length:=⟨_,rfl⟩
 rw [<-hun] at h hbl
 have HUN:=qh hun
 have HR:=qh h
 have yR:=qh hB
 have HA:=qh ((Below.refl w.heap.size w).alloc (Nat.le_refl _) (.cells #[.int .i64 op, .int .i64 (reg:Int), .int .i64 (v:Int), .int .i64 ak, .int .i64 an, .int .u8 ao, .slice aa al ac, .int .i64 bk, .int .i64 bn, .int .u8 bo, .slice ba bl bc, .int .i64 yJ] 60))
 have HX:=qh (yj w (.cells #[.int .i64 op, .int .i64 (reg:Int), .int .i64 (v:Int), .int .i64 ak, .int .i64 an, .int .u8 ao, .slice aa al ac, .int .i64 bk, .int .i64 bn, .int .u8 bo, .slice ba bl bc, .int .i64 yJ] 60))
 clear h hun hB
 go_enter Tryz.func122,Tryz.ntmps122
 go_upto_region 1 with fail
 generalize World.alloc w _=W at HA HX ⊢
 obtain⟨gi,hgi⟩:∃g,g=w.heap.size:=⟨_,rfl⟩
 rw [<-hgi] at HX ⊢
 clear hgi
 have HRW:=qh (HR.out.below HA.out)
 have jF:Hid (Below B w W):=HA.out.mono yR.out
 have CC:Hid (∀x,Below W.heap.size W x->x.cell? ⟨gi,1,none⟩=some (.int .i64 (reg:Int))/\x.cell? ⟨gi,3,none⟩=some (.int .i64 ak)/\x.cell? ⟨gi,4,none⟩=some (.int .i64 an)/\x.cell? ⟨gi,5,none⟩=some (.int .u8 ao)/\x.cell? ⟨gi,6,none⟩=some (.slice aa al ac)):=λx hx=>⟨zk hx _ _ (ze HX.out 1),zk hx _ _ (ze HX.out 3),zk hx _ _ (ze HX.out 4),zk hx _ _ (ze HX.out 5),zk hx _ _ (ze HX.out 6)⟩
 refine wp_region_noPanic ?_
 refine yX (n0:=11) (S:=λx=>Below W.heap.size W x) (by kernel_rfl) ((Below.refl _ _).drew) (λhT=> ?_)
 refine zV 0 (λ_=>hT) ?_
 refine zV 1 (λ_=>hT) ?_
 refine jr [10,11] 2 CC.out hT ?_
 refine zV 3 (λ_=>hT) ?_
 refine zV 4 (λ_=>hT) ?_
 refine jr [6,10,11] 5 CC.out hT ?_
 refine zV 7 (λ_=>hT) ?_
 refine zV 8 (λ_=>hT) ?_
 refine zV 9 (λ_=>hT) ?_
 refine vO 6 rfl (λK hK=> ?_)
 go_simp
 refine(HEA.out W.drew _ (HRW.out.below hT) (zH HA.out hT)).mono ?_
 rintro e tw6 ⟨rfl,hb⟩
 have wY:Below W.heap.size W tw6:=zH hT hb
 refine hK.out _ _ (λ_ _=>wY) ?_
 clear hK K hb hT
 refine zV 10 (λ_=>wY) ?_
 refine vO 11 rfl (λK hK=> ?_)
 obtain⟨q0,q1⟩:=(HRW.out.below wY).zdK hr4
 go_simp
 refine hK.out _ _ (λh=>absurd rfl h) ?_
 clear hK K
 refine xE (by kernel_rfl) ?_ _
 refine NoPanic.normal ?_
 clear q0 q1
 have HR2:=qh ((HRW.out.below wY).zf1 reg hr4 va)
 have HB2:Hid (Below B w (tw6.setCell ⟨gr,1+reg,none⟩ (.int .i64 va))):=(jF.out.trans (wY.mono (Nat.le_trans yR.out HA.out.size))).setCell (p:=⟨gr,1+reg,none⟩) HRW.out.base _
 go_wp2_with fail
 go_ret
 rw [zQ.out]
 exact zdL HR2.out HB2.out
theorem zr7 {w:World} {B gr mb mc:Nat} {pc r0 r1 r2 r3 dom:Int} {buf:List zl} {bv:Value} {m:zy} {mem:List Int} {bad:Bool} (h:xD v0 w B gr pc r0 r1 r2 r3 buf bv m dom mem mb mc bad) (hB:B<=w.heap.size) (hd1:1<=dom) (hd2:dom<=1000) (d:Nat) (x:zS) (ka kb:Value) (ha:zG d w x.a ka) (hb:zG d w x.b kb)
  (qw:0<=x.reg/\x.reg<4) (hvar:0<=x.var/\x.var<(mem.length:Int)) (hbl:buf.length<=1000000):Calls Tryz.prog 126 #[.pointer (some ⟨gr,0,none⟩),qK x ka kb] w λe w'=>
  qP v0 w B gr m dom mb mc (if buf.length=0/\mem.getD x.var.toNat 0=0 then some (⟨pc, [r0,r1,r2,r3],buf⟩,mem.set x.var.toNat 1,bad) else none) e w':=by
 obtain⟨aa,ac,rfl, -⟩:=ha.slice
 obtain⟨ba,bc,rfl, -⟩:=hb.slice
 obtain⟨ua,uc,rfl, -⟩:=zh.slice h.vI
 obtain⟨op,reg,v,a,b,yJ⟩:=x
 simp only [] at qw hvar ha hb ⊢
 obtain⟨reg,rfl⟩:∃k:Nat,reg=(k:Int):=⟨reg.toNat,by omega⟩
 obtain⟨v,rfl⟩:∃k:Nat,v=(k:Int):=⟨v.toNat,by omega⟩
 have hr4:reg<4:=by omega
 have uy:v<mem.length:=by omega
 have bA:(v:Int)<(mem.length:Int):=hvar.2
 have hrI:(reg:Int)<4:=qw.2
 try simp only [Int.toNat_natCast]
 clear ha hb
 unfold qK
 simp only []
 generalize a.kind=ak at ⊢
 generalize a.n=an at ⊢
 generalize a.op=ao at ⊢
 generalize a.kids.length=al at ⊢
 generalize b.kind=bk at ⊢
 generalize b.n=bn at ⊢
 generalize b.op=bo at ⊢
 generalize b.kids.length=bl at ⊢
 obtain⟨res,hres⟩:∃r:Option (zx × List Int × Bool),r=(if buf.length=0/\mem.getD v 0=0 then some (⟨pc, [r0,r1,r2,r3],buf⟩,mem.set v 1,bad) else none):=⟨_,rfl⟩
 rw [<-hres]
 have zQ:=qh hres
 clear hres
 obtain⟨un,hun⟩:∃n,n=buf.length:=⟨_,rfl⟩
 rw [<-hun] at h hbl
 have HUN:=qh hun
 have HR:=qh h
 have yR:=qh hB
 have HA:=qh ((Below.refl w.heap.size w).alloc (Nat.le_refl _) (.cells #[.int .i64 op, .int .i64 (reg:Int), .int .i64 (v:Int), .int .i64 ak, .int .i64 an, .int .u8 ao, .slice aa al ac, .int .i64 bk, .int .i64 bn, .int .u8 bo, .slice ba bl bc, .int .i64 yJ] 60))
 have HX:=qh (yj w (.cells #[.int .i64 op, .int .i64 (reg:Int), .int .i64 (v:Int), .int .i64 ak, .int .i64 an, .int .u8 ao, .slice aa al ac, .int .i64 bk, .int .i64 bn, .int .u8 bo, .slice ba bl bc, .int .i64 yJ] 60))
 clear h hun hB
 go_enter Tryz.func126,Tryz.ntmps126
 go_upto_region 1 with fail
 generalize World.alloc w _=W at HA HX ⊢
 obtain⟨gi,hgi⟩:∃g,g=w.heap.size:=⟨_,rfl⟩
 rw [<-hgi] at HX ⊢
 clear hgi
 have HRW:=qh (HR.out.below HA.out)
 have jF:Hid (Below B w W):=HA.out.mono yR.out
 have CC:Hid (∀x,Below W.heap.size W x->x.cell? ⟨gi,2,none⟩=some (.int .i64 (v:Int))/\x.cell? ⟨gr,9,none⟩=some (.slice (some ⟨mb,0,none⟩) mem.length mc)/\x.cell? ⟨mb,v,none⟩=some (.int .i64 (mem.getD v 0))):=λx hx=>⟨zk hx _ _ (ze HX.out 2),zk hx _ _ (ze HRW.out.block 9),zk hx _ _ (HRW.out.uV uy).1⟩
 obtain⟨z,hz⟩:∃z,z=mem.getD v 0:=⟨_,rfl⟩
 rw [<-hz] at CC zQ
 clear hz
 by_cases hz0:z=0
 rotate_left
 ·have hz1:((z:Int)==0)=false:=by simp [hz0]
  have HZ0:=qh hz0
  clear hz0
  refine jf (S:=λx=>Below W.heap.size W x) ((Below.refl _ _).drew) (λhH=> ?_)
  refine zB 0 CC.out ?_
  refine zB 1 CC.out ?_
  refine zB 2 CC.out ?_
  refine zB 3 CC.out ?_
  refine zB 4 CC.out ?_
  refine zB 5 CC.out ?_
  refine zB 6 CC.out ?_
  refine zB 7 CC.out ?_
  refine zB 8 CC.out ?_
  refine zB 9 CC.out ?_
  refine xW ?_
  go_upto_region 2 with fail
  refine wp_region_noPanic ?_
  refine yX (n0:=7) (S:=λx=>Below W.heap.size W x) (by kernel_rfl) ((Below.refl _ _).drew.drew) (λhT=> ?_)
  refine zV 0 (λ_=>hT) ?_
  refine zV 1 (λ_=>hT) ?_
  refine zV 2 (λ_=>hT) ?_
  refine jr [6,7] 3 CC.out hT ?_
  refine zV 4 (λ_=>hT) ?_
  refine jr [6,7] 5 CC.out hT ?_
  refine zV 6 (λ_=>hT) ?_
  refine vO 7 rfl (λK hK=> ?_)
  obtain⟨q0,q1⟩:=(HRW.out.below (Below.refl _ _).drew.drew).uV uy
  go_simp
  refine hK.out _ _ (λh=>absurd rfl h) ?_
  clear hK K
  refine xE (by kernel_rfl) ?_ _
  refine NoPanic.normal ?_
  clear q0 q1
  have HR2:=qh ((HRW.out.below (Below.refl _ _).drew.drew).zdM v 1)
  have HB2:Hid (Below B w (W.drew.drew.setCell ⟨mb,v,none⟩ (.int .i64 1))):=jF.out.drew.drew.setCell (p:=⟨mb,v,none⟩) HRW.out.gW.1 _
  go_wp2_with fail
  go_ret
  rw [zQ.out,if_neg (λh=>HZ0.out h.2)]
  exact gH HB2.out
 have hz1:((z:Int)==0)=true:=by simp [hz0]
 have HZ0:=qh hz0
 clear hz0
 refine jf (S:=λx=>Below W.heap.size W x) ((Below.refl _ _).drew) (λhH=> ?_)
 refine zB 0 CC.out ?_
 refine zB 1 CC.out ?_
 refine zB 2 CC.out ?_
 refine zB 3 CC.out ?_
 refine zB 4 CC.out ?_
 refine zB 5 CC.out ?_
 refine zB 6 CC.out ?_
 refine zB 7 CC.out ?_
 refine zB 8 CC.out ?_
 refine zB 9 CC.out ?_
 refine xW ?_
 go_upto_region 2 with fail
 refine wp_region_noPanic ?_
 refine yX (n0:=7) (S:=λx=>Below W.heap.size W x) (by kernel_rfl) ((Below.refl _ _).drew.drew) (λhT=> ?_)
 refine zV 0 (λ_=>hT) ?_
 refine zV 1 (λ_=>hT) ?_
 refine zV 2 (λ_=>hT) ?_
 refine jr [6,7] 3 CC.out hT ?_
 refine zV 4 (λ_=>hT) ?_
 refine jr [6,7] 5 CC.out hT ?_
 refine zV 6 (λ_=>hT) ?_
 refine vO 7 rfl (λK hK=> ?_)
 obtain⟨q0,q1⟩:=(HRW.out.below (Below.refl _ _).drew.drew).uV uy
 go_simp
 refine hK.out _ _ (λh=>absurd rfl h) ?_
 clear hK K
 refine xE (by kernel_rfl) ?_ _
 refine NoPanic.normal ?_
 clear q0 q1
 have HR2:=qh ((HRW.out.below (Below.refl _ _).drew.drew).zdM v 1)
 have HB2:Hid (Below B w (W.drew.drew.setCell ⟨mb,v,none⟩ (.int .i64 1))):=jF.out.drew.drew.setCell (p:=⟨mb,v,none⟩) HRW.out.gW.1 _
 go_wp2_with fail
 refine(pQ HR2.out).mono ?_
 rintro e w3 ⟨rfl,rfl⟩
 by_cases hz:buf.length=0
 ·have HZ:=qh hz
  have hz1:decide (buf.length=0)=true:=decide_eq_true hz
  clear hz
  rw [hz1]
  go_wp2_with fail
  go_ret
  rw [zQ.out,if_pos ⟨HZ.out,HZ0.out⟩]
  exact j5 HR2.out HB2.out
 have HZ:=qh hz
 have hz1:decide (buf.length=0)=false:=decide_eq_false hz
 clear hz
 rw [hz1]
 go_wp2_with fail
 go_ret
 rw [zQ.out,if_neg (λh=>HZ.out h.1)]
 exact gH HB2.out
theorem zr8 {w:World} {B gr mb mc:Nat} {pc r0 r1 r2 r3 dom:Int} {buf:List zl} {bv:Value} {m:zy} {mem:List Int} {bad:Bool} (h:xD v0 w B gr pc r0 r1 r2 r3 buf bv m dom mem mb mc bad) (hB:B<=w.heap.size) (hd1:1<=dom) (hd2:dom<=1000) (d:Nat) (x:zS) (ka kb:Value) (ha:zG d w x.a ka) (hb:zG d w x.b kb)
  (qw:0<=x.reg/\x.reg<4) (hvar:0<=x.var/\x.var<(mem.length:Int)) (hbl:buf.length<=1000000):Calls Tryz.prog 120 #[.pointer (some ⟨gr,0,none⟩),qK x ka kb] w λe w'=>
  qP v0 w B gr m dom mb mc (some (⟨pc, [r0,r1,r2,r3].set x.reg.toNat ((gL buf x.var).getD (mem.getD x.var.toNat 0)),buf⟩,mem,bad)) e w':=by
 obtain⟨aa,ac,rfl, -⟩:=ha.slice
 obtain⟨ba,bc,rfl, -⟩:=hb.slice
 obtain⟨ua,uc,rfl, -⟩:=zh.slice h.vI
 obtain⟨op,reg,v,a,b,yJ⟩:=x
 simp only [] at qw hvar ha hb ⊢
 obtain⟨reg,rfl⟩:∃k:Nat,reg=(k:Int):=⟨reg.toNat,by omega⟩
 obtain⟨v,rfl⟩:∃k:Nat,v=(k:Int):=⟨v.toNat,by omega⟩
 have hr4:reg<4:=by omega
 have uy:v<mem.length:=by omega
 have bA:(v:Int)<(mem.length:Int):=hvar.2
 have hrI:(reg:Int)<4:=qw.2
 try simp only [Int.toNat_natCast]
 clear ha hb
 unfold qK
 simp only []
 generalize a.kind=ak at ⊢
 generalize a.n=an at ⊢
 generalize a.op=ao at ⊢
 generalize a.kids.length=al at ⊢
 generalize b.kind=bk at ⊢
 generalize b.n=bn at ⊢
 generalize b.op=bo at ⊢
 generalize b.kids.length=bl at ⊢
 obtain⟨res,hres⟩:∃r:Option (zx × List Int × Bool),r=(some (⟨pc, [r0,r1,r2,r3].set reg ((gL buf (v:Int)).getD (mem.getD v 0)),buf⟩,mem,bad)):=⟨_,rfl⟩
 rw [<-hres]
 have zQ:=qh hres
 clear hres
 obtain⟨un,hun⟩:∃n,n=buf.length:=⟨_,rfl⟩
 rw [<-hun] at h hbl
 have HUN:=qh hun
 have HR:=qh h
 have yR:=qh hB
 have HA:=qh ((Below.refl w.heap.size w).alloc (Nat.le_refl _) (.cells #[.int .i64 op, .int .i64 (reg:Int), .int .i64 (v:Int), .int .i64 ak, .int .i64 an, .int .u8 ao, .slice aa al ac, .int .i64 bk, .int .i64 bn, .int .u8 bo, .slice ba bl bc, .int .i64 yJ] 60))
 have HX:=qh (yj w (.cells #[.int .i64 op, .int .i64 (reg:Int), .int .i64 (v:Int), .int .i64 ak, .int .i64 an, .int .u8 ao, .slice aa al ac, .int .i64 bk, .int .i64 bn, .int .u8 bo, .slice ba bl bc, .int .i64 yJ] 60))
 clear h hun hB
 go_enter Tryz.func120,Tryz.ntmps120
 go_upto_region 1 with fail
 generalize World.alloc w _=W at HA HX ⊢
 obtain⟨gi,hgi⟩:∃g,g=w.heap.size:=⟨_,rfl⟩
 rw [<-hgi] at HX ⊢
 clear hgi
 have HRW:=qh (HR.out.below HA.out)
 have jF:Hid (Below B w W):=HA.out.mono yR.out
 have CC:Hid (∀x,Below W.heap.size W x->x.cell? ⟨gi,1,none⟩=some (.int .i64 (reg:Int))/\x.cell? ⟨gi,2,none⟩=some (.int .i64 (v:Int))/\x.cell? ⟨gr,5,none⟩=some (.slice ua un uc)/\x.cell? ⟨gr,9,none⟩=some (.slice (some ⟨mb,0,none⟩) mem.length mc)/\x.cell? ⟨mb,v,none⟩=some (.int .i64 (mem.getD v 0))):=λx hx=>⟨zk hx _ _ (ze HX.out 1),zk hx _ _ (ze HX.out 2),zk hx _ _ (ze HRW.out.block 5),zk hx _ _ (ze HRW.out.block 9),zk hx _ _ (HRW.out.uV uy).1⟩
 obtain⟨lk,hlk⟩:∃k,k=gL buf (v:Int):=⟨_,rfl⟩
 have zwA:Hid (∀x,Below W.heap.size W x->Calls Tryz.prog 155 #[.slice ua un uc, .int .i64 (v:Int)] x λe w'=>e= .returned (.tuple #[.int .i64 (lk.getD 0), .bool lk.isSome])/\Below x.heap.size x w'):=λx hx=>by rw [hlk];exact zr9 x _ buf (HRW.out.below hx).vI (by rw [<-HUN.out];exact hbl) v
 obtain⟨z,hz⟩:∃z,z=mem.getD v 0:=⟨_,rfl⟩
 rw [<-hz] at CC zQ
 rw [<-hlk] at zQ
 clear hz hlk
 cases lk with
 |some y=>
  refine jf (S:=λx=>Below W.heap.size W x) ((Below.refl _ _).drew) (λhH=> ?_)
  refine zB 0 CC.out ?_
  refine zB 1 CC.out ?_
  refine zB 2 CC.out ?_
  refine zB 3 CC.out ?_
  refine zB 4 CC.out ?_
  refine zB 5 CC.out ?_
  refine zB 6 CC.out ?_
  refine yC 7 rfl (λK hK=> ?_)
  go_simp
  refine(zwA.out W.drew hH).mono ?_
  rintro e zz6 ⟨rfl,hb⟩
  have zwB:Below W.heap.size W zz6:=zH hH hb
  refine hK.out _ _ zwB (λ_=> ?_)
  clear hK K hb hH
  refine zB 8 CC.out ?_
  refine zB 9 CC.out ?_
  refine zB 10 CC.out ?_
  refine zB 11 CC.out ?_
  refine zB 12 CC.out ?_
  refine xW ?_
  go_upto_region 4 with fail
  refine wp_region_noPanic ?_
  refine yX (n0:=8) (S:=λx=>Below W.heap.size W x) (by kernel_rfl) ((zH zwB (Below.refl _ _).drew)) (λqd=> ?_)
  refine zV 0 (λ_=>qd) ?_
  refine zV 1 (λ_=>qd) ?_
  refine jr [7,8] 2 CC.out qd ?_
  refine zV 3 (λ_=>qd) ?_
  refine zV 4 (λ_=>qd) ?_
  refine zV 5 (λ_=>qd) ?_
  refine zV 6 (λ_=>qd) ?_
  refine zV 7 (λ_=>qd) ?_
  refine vO 8 rfl (λK hK=> ?_)
  obtain⟨q0,q1⟩:=(HRW.out.below qd).zdK hr4
  go_simp
  refine hK.out _ _ (λh=>absurd rfl h) ?_
  clear hK K
  refine xE (by kernel_rfl) ?_ _
  refine NoPanic.normal ?_
  clear q0 q1
  have HR2:=qh ((HRW.out.below qd).zf1 reg hr4 y)
  have HB2:Hid (Below B w (zz6.drew.setCell ⟨gr,1+reg,none⟩ (.int .i64 y))):=(jF.out.trans (qd.mono (Nat.le_trans yR.out HA.out.size))).setCell (p:=⟨gr,1+reg,none⟩) HRW.out.base _
  go_wp2_with fail
  go_ret
  rw [zQ.out]
  exact zdL HR2.out HB2.out
 |none=>
 refine jf (S:=λx=>Below W.heap.size W x) ((Below.refl _ _).drew) (λhH=> ?_)
 refine zB 0 CC.out ?_
 refine zB 1 CC.out ?_
 refine zB 2 CC.out ?_
 refine zB 3 CC.out ?_
 refine zB 4 CC.out ?_
 refine zB 5 CC.out ?_
 refine zB 6 CC.out ?_
 refine yC 7 rfl (λK hK=> ?_)
 go_simp
 refine(zwA.out W.drew hH).mono ?_
 rintro e zz7 ⟨rfl,hb⟩
 have zp3:Below W.heap.size W zz7:=zH hH hb
 refine hK.out _ _ zp3 (λ_=> ?_)
 clear hK K hb hH
 refine zB 8 CC.out ?_
 refine zB 9 CC.out ?_
 refine zB 10 CC.out ?_
 refine zB 11 CC.out ?_
 refine zB 12 CC.out ?_
 refine xW ?_
 go_upto_region 3 with fail
 refine jf (S:=λx=>Below W.heap.size W x) ((zH zp3 (Below.refl _ _).drew)) (λhK3=> ?_)
 refine zB 0 CC.out ?_
 refine zB 1 CC.out ?_
 refine zB 2 CC.out ?_
 refine zB 3 CC.out ?_
 refine zB 4 CC.out ?_
 refine zB 5 CC.out ?_
 refine zB 6 CC.out ?_
 refine zB 7 CC.out ?_
 refine zB 8 CC.out ?_
 refine xW ?_
 go_upto_region 4 with fail
 refine wp_region_noPanic ?_
 refine yX (n0:=8) (S:=λx=>Below W.heap.size W x) (by kernel_rfl) ((zH zp3 (Below.refl _ _).drew.drew)) (λqd=> ?_)
 refine zV 0 (λ_=>qd) ?_
 refine zV 1 (λ_=>qd) ?_
 refine jr [7,8] 2 CC.out qd ?_
 refine zV 3 (λ_=>qd) ?_
 refine zV 4 (λ_=>qd) ?_
 refine zV 5 (λ_=>qd) ?_
 refine zV 6 (λ_=>qd) ?_
 refine zV 7 (λ_=>qd) ?_
 refine vO 8 rfl (λK hK=> ?_)
 obtain⟨q0,q1⟩:=(HRW.out.below qd).zdK hr4
 go_simp
 refine hK.out _ _ (λh=>absurd rfl h) ?_
 clear hK K
 refine xE (by kernel_rfl) ?_ _
 refine NoPanic.normal ?_
 clear q0 q1
 have HR2:=qh ((HRW.out.below qd).zf1 reg hr4 z)
 have HB2:Hid (Below B w (zz7.drew.drew.setCell ⟨gr,1+reg,none⟩ (.int .i64 z))):=(jF.out.trans (qd.mono (Nat.le_trans yR.out HA.out.size))).setCell (p:=⟨gr,1+reg,none⟩) HRW.out.base _
 go_wp2_with fail
 go_ret
 rw [zQ.out]
 exact zdL HR2.out HB2.out
