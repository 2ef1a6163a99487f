/- Steps. -/
import Derived.Test.YtnhahkiojbanfaaGreatDoorRqPWays
set_option linter.all false
namespace Go.Proofs.YtnhahkiojbanfaaGreatDoor
open Go.RowKit
set_option maxRecDepth 100000
set_option maxHeartbeats 16000000
variable {v0:Value}
theorem zqb {w:World} {B gr mb mc:Nat} {pc r0 r1 r2 r3 dom:Int} {buf:List zl} {bv:Value} {m:zu} {mem:List Int} {bad:Bool} (h:yx v0 w B gr pc r0 r1 r2 r3 buf bv m dom mem mb mc bad) (hB:B<=w.heap.size) (hd1:1<=dom) (hd2:dom<=1000) (d:Nat) (x:zC) (ka kb:Value) (ha:zw d w x.a ka) (hb:zw d w x.b kb)
  (yO:0<=x.reg/\x.reg<4) (hvar:0<=x.var/\x.var<(mem.length:Int)) (hbl:buf.length<=1000000):Calls Tryz.prog 122 #[.pointer (some ⟨gr,0,none⟩),xw x ka kb] w λe w'=>
  xG v0 w B gr m dom mb mc (some (⟨pc, [r0,r1,r2,r3].set x.reg.toNat (zW [r0,r1,r2,r3] dom d x.a),buf⟩,mem,bad)) e w':=by
 have zZ:=λW V (hV:yx v0 W B gr pc r0 r1 r2 r3 buf V m dom mem mb mc bad) (hW:Below w.heap.size w W)=>gW hV hd1 hd2 d x.a ka (ha.below hW)
 obtain⟨aa,ac,rfl, -⟩:=ha.slice
 obtain⟨ba,bc,rfl, -⟩:=hb.slice
 obtain⟨ua,uc,rfl, -⟩:=zh.slice h.qm
 obtain⟨op,reg,v,a,b,yt⟩:=x
 simp only [] at yO hvar ha hb zZ ⊢
 obtain⟨reg,rfl⟩:∃k:Nat,reg=(k:Int):=⟨reg.toNat,by omega⟩
 obtain⟨v,rfl⟩:∃k:Nat,v=(k:Int):=⟨v.toNat,by omega⟩
 have hr4:reg<4:=by omega
 have kW:v<mem.length:=by omega
 have hvI:(v:Int)<(mem.length:Int):=hvar.2
 have hrI:(reg:Int)<4:=yO.2
 try simp only [Int.toNat_natCast]
 clear ha hb
 unfold xw
 simp only []
 unfold yP at zZ
 generalize hva:zW [r0,r1,r2,r3] dom d a=va at zZ ⊢
 clear hva
 generalize a.kind=ak at zZ ⊢
 generalize a.n=an at zZ ⊢
 generalize a.op=ao at zZ ⊢
 generalize a.kids.length=al at zZ ⊢
 generalize b.kind=bk at ⊢
 generalize b.n=bn at ⊢
 generalize b.op=bo at ⊢
 generalize b.kids.length=bl at ⊢
 have HEA:=qh zZ
 clear zZ
 obtain⟨res,hres⟩:∃r:Option (zA × List Int × Bool),r=(some (⟨pc, [r0,r1,r2,r3].set reg (va),buf⟩,mem,bad)):=⟨_,rfl⟩
 rw [<-hres]
 have yK:=qh hres
 clear hres
 obtain⟨un,hun⟩:∃n,n=buf.length:=⟨_,rfl⟩
 rw [<-hun] at h hbl
 have HUN:=qh hun
 have HR:=qh h
 have yH:=qh hB
 have HA:=qh ((Below.refl w.heap.size w).alloc (Nat.le_refl _) (.cells #[.int .i64 op, .int .i64 (reg:Int), .int .i64 (v:Int), .int .i64 ak, .int .i64 an, .int .u8 ao, .slice aa al ac, .int .i64 bk, .int .i64 bn, .int .u8 bo, .slice ba bl bc, .int .i64 yt] 60))
 have HX:=qh (zS w (.cells #[.int .i64 op, .int .i64 (reg:Int), .int .i64 (v:Int), .int .i64 ak, .int .i64 an, .int .u8 ao, .slice aa al ac, .int .i64 bk, .int .i64 bn, .int .u8 bo, .slice ba bl bc, .int .i64 yt] 60))
 clear h hun hB
 go_enter Tryz.func122,Tryz.ntmps122
 go_upto_region 1 with fail
 generalize World.alloc w _=W at HA HX ⊢
 obtain⟨gi,hgi⟩:∃g,g=w.heap.size:=⟨_,rfl⟩
 rw [<-hgi] at HX ⊢
 clear hgi
 have HRW:=qh (HR.out.below HA.out)
 have qN:Hid (Below B w W):=HA.out.mono yH.out
 have CC:Hid (∀x,Below W.heap.size W x->x.cell? ⟨gi,1,none⟩=some (.int .i64 (reg:Int))/\x.cell? ⟨gi,3,none⟩=some (.int .i64 ak)/\x.cell? ⟨gi,4,none⟩=some (.int .i64 an)/\x.cell? ⟨gi,5,none⟩=some (.int .u8 ao)/\x.cell? ⟨gi,6,none⟩=some (.slice aa al ac)):=λx hx=>⟨zk hx _ _ (ze HX.out 1),zk hx _ _ (ze HX.out 3),zk hx _ _ (ze HX.out 4),zk hx _ _ (ze HX.out 5),zk hx _ _ (ze HX.out 6)⟩
 refine wp_region_noPanic ?_
 refine yh (n0:=11) (S:=λx=>Below W.heap.size W x) (by kernel_rfl) ((Below.refl _ _).drew) (λhT=> ?_)
 refine zJ 0 (λ_=>hT) ?_
 refine zJ 1 (λ_=>hT) ?_
 refine qP [10,11] 2 CC.out hT ?_
 refine zJ 3 (λ_=>hT) ?_
 refine zJ 4 (λ_=>hT) ?_
 refine qP [6,10,11] 5 CC.out hT ?_
 refine zJ 7 (λ_=>hT) ?_
 refine zJ 8 (λ_=>hT) ?_
 refine zJ 9 (λ_=>hT) ?_
 refine qx 6 rfl (λK hK=> ?_)
 go_simp
 refine(HEA.out W.drew _ (HRW.out.below hT) (zM HA.out hT)).mono ?_
 rintro e tw6 ⟨rfl,hb⟩
 have jy:Below W.heap.size W tw6:=zM hT hb
 refine hK.out _ _ (λ_ _=>jy) ?_
 clear hK K hb hT
 refine zJ 10 (λ_=>jy) ?_
 refine qx 11 rfl (λK hK=> ?_)
 obtain⟨q0,q1⟩:=(HRW.out.below jy).zbh hr4
 go_simp
 refine hK.out _ _ (λh=>absurd rfl h) ?_
 clear hK K
 refine yA (by kernel_rfl) ?_ _
 refine NoPanic.normal ?_
 clear q0 q1
 have HR2:=qh ((HRW.out.below jy).zcw reg hr4 va)
 have HB2:Hid (Below B w (tw6.setCell ⟨gr,1+reg,none⟩ (.int .i64 va))):=(qN.out.trans (jy.mono (Nat.le_trans yH.out HA.out.size))).setCell (p:=⟨gr,1+reg,none⟩) HRW.out.base _
 go_wp2_with fail
 go_ret
 rw [yK.out]
 exact zbg HR2.out HB2.out
theorem znR {w:World} {B gr mb mc:Nat} {pc r0 r1 r2 r3 dom:Int} {buf:List zl} {bv:Value} {m:zu} {mem:List Int} {bad:Bool} (h:yx v0 w B gr pc r0 r1 r2 r3 buf bv m dom mem mb mc bad) (hB:B<=w.heap.size) (hd1:1<=dom) (hd2:dom<=1000) (d:Nat) (x:zC) (ka kb:Value) (ha:zw d w x.a ka) (hb:zw d w x.b kb)
  (yO:0<=x.reg/\x.reg<4) (hvar:0<=x.var/\x.var<(mem.length:Int)) (hbl:buf.length<=1000000):Calls Tryz.prog 126 #[.pointer (some ⟨gr,0,none⟩),xw x ka kb] w λe w'=>
  xG v0 w B gr m dom mb mc (if buf.length=0/\mem.getD x.var.toNat 0=0 then some (⟨pc, [r0,r1,r2,r3],buf⟩,mem.set x.var.toNat 1,bad) else none) e w':=by
 obtain⟨aa,ac,rfl, -⟩:=ha.slice
 obtain⟨ba,bc,rfl, -⟩:=hb.slice
 obtain⟨ua,uc,rfl, -⟩:=zh.slice h.qm
 obtain⟨op,reg,v,a,b,yt⟩:=x
 simp only [] at yO hvar ha hb ⊢
 obtain⟨reg,rfl⟩:∃k:Nat,reg=(k:Int):=⟨reg.toNat,by omega⟩
 obtain⟨v,rfl⟩:∃k:Nat,v=(k:Int):=⟨v.toNat,by omega⟩
 have hr4:reg<4:=by omega
 have kW:v<mem.length:=by omega
 have hvI:(v:Int)<(mem.length:Int):=hvar.2
 have hrI:(reg:Int)<4:=yO.2
 try simp only [Int.toNat_natCast]
 clear ha hb
 unfold xw
 simp only []
 generalize a.kind=ak at ⊢
 generalize a.n=an at ⊢
 generalize a.op=ao at ⊢
 generalize a.kids.length=al at ⊢
 generalize b.kind=bk at ⊢
 generalize b.n=bn at ⊢
 generalize b.op=bo at ⊢
 generalize b.kids.length=bl at ⊢
 obtain⟨res,hres⟩:∃r:Option (zA × List Int × Bool),r=(if buf.length=0/\mem.getD v 0=0 then some (⟨pc, [r0,r1,r2,r3],buf⟩,mem.set v 1,bad) else none):=⟨_,rfl⟩
 rw [<-hres]
 have yK:=qh hres
 clear hres
 obtain⟨un,hun⟩:∃n,n=buf.length:=⟨_,rfl⟩
 rw [<-hun] at h hbl
 have HUN:=qh hun
 have HR:=qh h
 have yH:=qh hB
 have HA:=qh ((Below.refl w.heap.size w).alloc (Nat.le_refl _) (.cells #[.int .i64 op, .int .i64 (reg:Int), .int .i64 (v:Int), .int .i64 ak, .int .i64 an, .int .u8 ao, .slice aa al ac, .int .i64 bk, .int .i64 bn, .int .u8 bo, .slice ba bl bc, .int .i64 yt] 60))
 have HX:=qh (zS w (.cells #[.int .i64 op, .int .i64 (reg:Int), .int .i64 (v:Int), .int .i64 ak, .int .i64 an, .int .u8 ao, .slice aa al ac, .int .i64 bk, .int .i64 bn, .int .u8 bo, .slice ba bl bc, .int .i64 yt] 60))
 clear h hun hB
 go_enter Tryz.func126,Tryz.ntmps126
 go_upto_region 1 with fail
 generalize World.alloc w _=W at HA HX ⊢
 obtain⟨gi,hgi⟩:∃g,g=w.heap.size:=⟨_,rfl⟩
 rw [<-hgi] at HX ⊢
 clear hgi
 have HRW:=qh (HR.out.below HA.out)
 have qN:Hid (Below B w W):=HA.out.mono yH.out
 have CC:Hid (∀x,Below W.heap.size W x->x.cell? ⟨gi,2,none⟩=some (.int .i64 (v:Int))/\x.cell? ⟨gr,9,none⟩=some (.slice (some ⟨mb,0,none⟩) mem.length mc)/\x.cell? ⟨mb,v,none⟩=some (.int .i64 (mem.getD v 0))):=λx hx=>⟨zk hx _ _ (ze HX.out 2),zk hx _ _ (ze HRW.out.block 9),zk hx _ _ (HRW.out.kD kW).1⟩
 obtain⟨z,hz⟩:∃z,z=mem.getD v 0:=⟨_,rfl⟩
 rw [<-hz] at CC yK
 clear hz
 by_cases hz0:z=0
 rotate_left
 ·have hz1:((z:Int)==0)=false:=by simp [hz0]
  have HZ0:=qh hz0
  clear hz0
  refine gX (S:=λx=>Below W.heap.size W x) ((Below.refl _ _).drew) (λhH=> ?_)
  refine zB 0 CC.out ?_
  refine zB 1 CC.out ?_
  refine zB 2 CC.out ?_
  refine zB 3 CC.out ?_
  refine zB 4 CC.out ?_
  refine zB 5 CC.out ?_
  refine zB 6 CC.out ?_
  refine zB 7 CC.out ?_
  refine zB 8 CC.out ?_
  refine zB 9 CC.out ?_
  refine vN ?_
  go_upto_region 2 with fail
  refine wp_region_noPanic ?_
  refine yh (n0:=7) (S:=λx=>Below W.heap.size W x) (by kernel_rfl) ((Below.refl _ _).drew.drew) (λhT=> ?_)
  refine zJ 0 (λ_=>hT) ?_
  refine zJ 1 (λ_=>hT) ?_
  refine zJ 2 (λ_=>hT) ?_
  refine qP [6,7] 3 CC.out hT ?_
  refine zJ 4 (λ_=>hT) ?_
  refine qP [6,7] 5 CC.out hT ?_
  refine zJ 6 (λ_=>hT) ?_
  refine qx 7 rfl (λK hK=> ?_)
  obtain⟨q0,q1⟩:=(HRW.out.below (Below.refl _ _).drew.drew).kD kW
  go_simp
  refine hK.out _ _ (λh=>absurd rfl h) ?_
  clear hK K
  refine yA (by kernel_rfl) ?_ _
  refine NoPanic.normal ?_
  clear q0 q1
  have HR2:=qh ((HRW.out.below (Below.refl _ _).drew.drew).zaZ v 1)
  have HB2:Hid (Below B w (W.drew.drew.setCell ⟨mb,v,none⟩ (.int .i64 1))):=qN.out.drew.drew.setCell (p:=⟨mb,v,none⟩) HRW.out.jD.1 _
  go_wp2_with fail
  go_ret
  rw [yK.out,if_neg (λh=>HZ0.out h.2)]
  exact jA HB2.out
 have hz1:((z:Int)==0)=true:=by simp [hz0]
 have HZ0:=qh hz0
 clear hz0
 refine gX (S:=λx=>Below W.heap.size W x) ((Below.refl _ _).drew) (λhH=> ?_)
 refine zB 0 CC.out ?_
 refine zB 1 CC.out ?_
 refine zB 2 CC.out ?_
 refine zB 3 CC.out ?_
 refine zB 4 CC.out ?_
 refine zB 5 CC.out ?_
 refine zB 6 CC.out ?_
 refine zB 7 CC.out ?_
 refine zB 8 CC.out ?_
 refine zB 9 CC.out ?_
 refine vN ?_
 go_upto_region 2 with fail
 refine wp_region_noPanic ?_
 refine yh (n0:=7) (S:=λx=>Below W.heap.size W x) (by kernel_rfl) ((Below.refl _ _).drew.drew) (λhT=> ?_)
 refine zJ 0 (λ_=>hT) ?_
 refine zJ 1 (λ_=>hT) ?_
 refine zJ 2 (λ_=>hT) ?_
 refine qP [6,7] 3 CC.out hT ?_
 refine zJ 4 (λ_=>hT) ?_
 refine qP [6,7] 5 CC.out hT ?_
 refine zJ 6 (λ_=>hT) ?_
 refine qx 7 rfl (λK hK=> ?_)
 obtain⟨q0,q1⟩:=(HRW.out.below (Below.refl _ _).drew.drew).kD kW
 go_simp
 refine hK.out _ _ (λh=>absurd rfl h) ?_
 clear hK K
 refine yA (by kernel_rfl) ?_ _
 refine NoPanic.normal ?_
 clear q0 q1
 have HR2:=qh ((HRW.out.below (Below.refl _ _).drew.drew).zaZ v 1)
 have HB2:Hid (Below B w (W.drew.drew.setCell ⟨mb,v,none⟩ (.int .i64 1))):=qN.out.drew.drew.setCell (p:=⟨mb,v,none⟩) HRW.out.jD.1 _
 go_wp2_with fail
 refine(wG HR2.out).mono ?_
 rintro e w3 ⟨rfl,rfl⟩
 by_cases hz:buf.length=0
 ·have HZ:=qh hz
  have hz1:decide (buf.length=0)=true:=decide_eq_true hz
  clear hz
  rw [hz1]
  go_wp2_with fail
  go_ret
  rw [yK.out,if_pos ⟨HZ.out,HZ0.out⟩]
  exact qV HR2.out HB2.out
 have HZ:=qh hz
 have hz1:decide (buf.length=0)=false:=decide_eq_false hz
 clear hz
 rw [hz1]
 go_wp2_with fail
 go_ret
 rw [yK.out,if_neg (λh=>HZ.out h.1)]
 exact jA HB2.out
theorem znS {w:World} {B gr mb mc:Nat} {pc r0 r1 r2 r3 dom:Int} {buf:List zl} {bv:Value} {m:zu} {mem:List Int} {bad:Bool} (h:yx v0 w B gr pc r0 r1 r2 r3 buf bv m dom mem mb mc bad) (hB:B<=w.heap.size) (hd1:1<=dom) (hd2:dom<=1000) (d:Nat) (x:zC) (ka kb:Value) (ha:zw d w x.a ka) (hb:zw d w x.b kb)
  (yO:0<=x.reg/\x.reg<4) (hvar:0<=x.var/\x.var<(mem.length:Int)) (hbl:buf.length<=1000000):Calls Tryz.prog 120 #[.pointer (some ⟨gr,0,none⟩),xw x ka kb] w λe w'=>
  xG v0 w B gr m dom mb mc (some (⟨pc, [r0,r1,r2,r3].set x.reg.toNat ((wI buf x.var).getD (mem.getD x.var.toNat 0)),buf⟩,mem,bad)) e w':=by
 obtain⟨aa,ac,rfl, -⟩:=ha.slice
 obtain⟨ba,bc,rfl, -⟩:=hb.slice
 obtain⟨ua,uc,rfl, -⟩:=zh.slice h.qm
 obtain⟨op,reg,v,a,b,yt⟩:=x
 simp only [] at yO hvar ha hb ⊢
 obtain⟨reg,rfl⟩:∃k:Nat,reg=(k:Int):=⟨reg.toNat,by omega⟩
 obtain⟨v,rfl⟩:∃k:Nat,v=(k:Int):=⟨v.toNat,by omega⟩
 have hr4:reg<4:=by omega
 have kW:v<mem.length:=by omega
 have hvI:(v:Int)<(mem.length:Int):=hvar.2
 have hrI:(reg:Int)<4:=yO.2
 try simp only [Int.toNat_natCast]
 clear ha hb
 unfold xw
 simp only []
 generalize a.kind=ak at ⊢
 generalize a.n=an at ⊢
 generalize a.op=ao at ⊢
 generalize a.kids.length=al at ⊢
 generalize b.kind=bk at ⊢
 generalize b.n=bn at ⊢
 generalize b.op=bo at ⊢
 generalize b.kids.length=bl at ⊢
 obtain⟨res,hres⟩:∃r:Option (zA × List Int × Bool),r=(some (⟨pc, [r0,r1,r2,r3].set reg ((wI buf (v:Int)).getD (mem.getD v 0)),buf⟩,mem,bad)):=⟨_,rfl⟩
 rw [<-hres]
 have yK:=qh hres
 clear hres
 obtain⟨un,hun⟩:∃n,n=buf.length:=⟨_,rfl⟩
 rw [<-hun] at h hbl
 have HUN:=qh hun
 have HR:=qh h
 have yH:=qh hB
 have HA:=qh ((Below.refl w.heap.size w).alloc (Nat.le_refl _) (.cells #[.int .i64 op, .int .i64 (reg:Int), .int .i64 (v:Int), .int .i64 ak, .int .i64 an, .int .u8 ao, .slice aa al ac, .int .i64 bk, .int .i64 bn, .int .u8 bo, .slice ba bl bc, .int .i64 yt] 60))
 have HX:=qh (zS w (.cells #[.int .i64 op, .int .i64 (reg:Int), .int .i64 (v:Int), .int .i64 ak, .int .i64 an, .int .u8 ao, .slice aa al ac, .int .i64 bk, .int .i64 bn, .int .u8 bo, .slice ba bl bc, .int .i64 yt] 60))
 clear h hun hB
 go_enter Tryz.func120,Tryz.ntmps120
 go_upto_region 1 with fail
 generalize World.alloc w _=W at HA HX ⊢
 obtain⟨gi,hgi⟩:∃g,g=w.heap.size:=⟨_,rfl⟩
 rw [<-hgi] at HX ⊢
 clear hgi
 have HRW:=qh (HR.out.below HA.out)
 have qN:Hid (Below B w W):=HA.out.mono yH.out
 have CC:Hid (∀x,Below W.heap.size W x->x.cell? ⟨gi,1,none⟩=some (.int .i64 (reg:Int))/\x.cell? ⟨gi,2,none⟩=some (.int .i64 (v:Int))/\x.cell? ⟨gr,5,none⟩=some (.slice ua un uc)/\x.cell? ⟨gr,9,none⟩=some (.slice (some ⟨mb,0,none⟩) mem.length mc)/\x.cell? ⟨mb,v,none⟩=some (.int .i64 (mem.getD v 0))):=λx hx=>⟨zk hx _ _ (ze HX.out 1),zk hx _ _ (ze HX.out 2),zk hx _ _ (ze HRW.out.block 5),zk hx _ _ (ze HRW.out.block 9),zk hx _ _ (HRW.out.kD kW).1⟩
 obtain⟨lk,hlk⟩:∃k,k=wI buf (v:Int):=⟨_,rfl⟩
 have zr6:Hid (∀x,Below W.heap.size W x->Calls Tryz.prog 155 #[.slice ua un uc, .int .i64 (v:Int)] x λe w'=>e= .returned (.tuple #[.int .i64 (lk.getD 0), .bool lk.isSome])/\Below x.heap.size x w'):=λx hx=>by rw [hlk];exact znw x _ buf (HRW.out.below hx).qm (by rw [<-HUN.out];exact hbl) v
 obtain⟨z,hz⟩:∃z,z=mem.getD v 0:=⟨_,rfl⟩
 rw [<-hz] at CC yK
 rw [<-hlk] at yK
 clear hz hlk
 cases lk with
 |some y=>
  refine gX (S:=λx=>Below W.heap.size W x) ((Below.refl _ _).drew) (λhH=> ?_)
  refine zB 0 CC.out ?_
  refine zB 1 CC.out ?_
  refine zB 2 CC.out ?_
  refine zB 3 CC.out ?_
  refine zB 4 CC.out ?_
  refine zB 5 CC.out ?_
  refine zB 6 CC.out ?_
  refine yZ 7 rfl (λK hK=> ?_)
  go_simp
  refine(zr6.out W.drew hH).mono ?_
  rintro e zvh ⟨rfl,hb⟩
  have zr7:Below W.heap.size W zvh:=zM hH hb
  refine hK.out _ _ zr7 (λ_=> ?_)
  clear hK K hb hH
  refine zB 8 CC.out ?_
  refine zB 9 CC.out ?_
  refine zB 10 CC.out ?_
  refine zB 11 CC.out ?_
  refine zB 12 CC.out ?_
  refine vN ?_
  go_upto_region 4 with fail
  refine wp_region_noPanic ?_
  refine yh (n0:=8) (S:=λx=>Below W.heap.size W x) (by kernel_rfl) ((zM zr7 (Below.refl _ _).drew)) (λyI=> ?_)
  refine zJ 0 (λ_=>yI) ?_
  refine zJ 1 (λ_=>yI) ?_
  refine qP [7,8] 2 CC.out yI ?_
  refine zJ 3 (λ_=>yI) ?_
  refine zJ 4 (λ_=>yI) ?_
  refine zJ 5 (λ_=>yI) ?_
  refine zJ 6 (λ_=>yI) ?_
  refine zJ 7 (λ_=>yI) ?_
  refine qx 8 rfl (λK hK=> ?_)
  obtain⟨q0,q1⟩:=(HRW.out.below yI).zbh hr4
  go_simp
  refine hK.out _ _ (λh=>absurd rfl h) ?_
  clear hK K
  refine yA (by kernel_rfl) ?_ _
  refine NoPanic.normal ?_
  clear q0 q1
  have HR2:=qh ((HRW.out.below yI).zcw reg hr4 y)
  have HB2:Hid (Below B w (zvh.drew.setCell ⟨gr,1+reg,none⟩ (.int .i64 y))):=(qN.out.trans (yI.mono (Nat.le_trans yH.out HA.out.size))).setCell (p:=⟨gr,1+reg,none⟩) HRW.out.base _
  go_wp2_with fail
  go_ret
  rw [yK.out]
  exact zbg HR2.out HB2.out
 |none=>
 refine gX (S:=λx=>Below W.heap.size W x) ((Below.refl _ _).drew) (λhH=> ?_)
 refine zB 0 CC.out ?_
 refine zB 1 CC.out ?_
 refine zB 2 CC.out ?_
 refine zB 3 CC.out ?_
 refine zB 4 CC.out ?_
 refine zB 5 CC.out ?_
 refine zB 6 CC.out ?_
 refine yZ 7 rfl (λK hK=> ?_)
 go_simp
 refine(zr6.out W.drew hH).mono ?_
 rintro e zvi ⟨rfl,hb⟩
 have zlO:Below W.heap.size W zvi:=zM hH hb
 refine hK.out _ _ zlO (λ_=> ?_)
 clear hK K hb hH
 refine zB 8 CC.out ?_
 refine zB 9 CC.out ?_
 refine zB 10 CC.out ?_
 refine zB 11 CC.out ?_
 refine zB 12 CC.out ?_
 refine vN ?_
 go_upto_region 3 with fail
 refine gX (S:=λx=>Below W.heap.size W x) ((zM zlO (Below.refl _ _).drew)) (λhK3=> ?_)
 refine zB 0 CC.out ?_
 refine zB 1 CC.out ?_
 refine zB 2 CC.out ?_
 refine zB 3 CC.out ?_
 refine zB 4 CC.out ?_
 refine zB 5 CC.out ?_
 refine zB 6 CC.out ?_
 refine zB 7 CC.out ?_
 refine zB 8 CC.out ?_
 refine vN ?_
 go_upto_region 4 with fail
 refine wp_region_noPanic ?_
 refine yh (n0:=8) (S:=λx=>Below W.heap.size W x) (by kernel_rfl) ((zM zlO (Below.refl _ _).drew.drew)) (λyI=> ?_)
 refine zJ 0 (λ_=>yI) ?_
 refine zJ 1 (λ_=>yI) ?_
 refine qP [7,8] 2 CC.out yI ?_
 refine zJ 3 (λ_=>yI) ?_
 refine zJ 4 (λ_=>yI) ?_
 refine zJ 5 (λ_=>yI) ?_
 refine zJ 6 (λ_=>yI) ?_
 refine zJ 7 (λ_=>yI) ?_
 refine qx 8 rfl (λK hK=> ?_)
 obtain⟨q0,q1⟩:=(HRW.out.below yI).zbh hr4
 go_simp
 refine hK.out _ _ (λh=>absurd rfl h) ?_
 clear hK K
 refine yA (by kernel_rfl) ?_ _
 refine NoPanic.normal ?_
 clear q0 q1
 have HR2:=qh ((HRW.out.below yI).zcw reg hr4 z)
 have HB2:Hid (Below B w (zvi.drew.drew.setCell ⟨gr,1+reg,none⟩ (.int .i64 z))):=(qN.out.trans (yI.mono (Nat.le_trans yH.out HA.out.size))).setCell (p:=⟨gr,1+reg,none⟩) HRW.out.base _
 go_wp2_with fail
 go_ret
 rw [yK.out]
 exact zbg HR2.out HB2.out
