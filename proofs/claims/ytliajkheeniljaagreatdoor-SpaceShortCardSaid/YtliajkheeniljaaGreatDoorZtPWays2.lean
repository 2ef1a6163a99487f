/- Steps. -/
import Derived.Test.YtliajkheeniljaaGreatDoorZtTail
set_option linter.all false
namespace Go.Proofs.YtliajkheeniljaaGreatDoor
open Go.RowKit
set_option maxRecDepth 100000
set_option maxHeartbeats 16000000
variable {v0:Value}
theorem zuq {w:World} {B gr mb mc:Nat} {pc r0 r1 r2 r3 dom:Int} {buf:List zl} {bv:Value} {m:zC} {mem:List Int} {bad:Bool} (h:xD v0 w B gr pc r0 r1 r2 r3 buf bv m dom mem mb mc bad) (hB:B<=w.heap.size) (hd1:1<=dom) (hd2:dom<=1000) (d:Nat) (x:zW) (ka kb:Value) (ha:zG d w x.a ka) (hb:zG d w x.b kb)
  (qd:0<=x.reg/\x.reg<4) (hvar:0<=x.var/\x.var<(mem.length:Int)) (hbl:buf.length<=1000000):Calls Tryz.prog 127 #[.pointer (some ⟨gr,0,none⟩),qF x ka kb] w λe w'=>
  qM v0 w B gr m dom mb mc (some (⟨pc, [r0,r1,r2,r3].set x.reg.toNat (yw [r0,r1,r2,r3] dom d x.a),buf⟩,mem,bad)) e w':=by
 have yj:=λW V (hV:xD v0 W B gr pc r0 r1 r2 r3 buf V m dom mem mb mc bad) (hW:Below w.heap.size w W)=>za3 hV hd1 hd2 d x.a ka (ha.below hW)
 obtain⟨aa,ac,rfl, -⟩:=ha.slice
 obtain⟨ba,bc,rfl, -⟩:=hb.slice
 obtain⟨ua,uc,rfl, -⟩:=zh.slice h.vH
 obtain⟨op,reg,v,a,b,yH⟩:=x
 simp only [] at qd hvar ha hb yj ⊢
 obtain⟨reg,rfl⟩:∃k:Nat,reg=(k:Int):=⟨reg.toNat,by omega⟩
 obtain⟨v,rfl⟩:∃k:Nat,v=(k:Int):=⟨v.toNat,by omega⟩
 have hr4:reg<4:=by omega
 have gF:v<mem.length:=by omega
 have uP:(v:Int)<(mem.length:Int):=hvar.2
 have hrI:(reg:Int)<4:=qd.2
 try simp only [Int.toNat_natCast]
 clear ha hb
 unfold qF
 simp only []
 unfold qg at yj
 generalize hva:yw [r0,r1,r2,r3] dom d a=va at yj ⊢
 clear hva
 generalize a.kind=ak at yj ⊢
 generalize a.n=an at yj ⊢
 generalize a.op=ao at yj ⊢
 generalize a.kids.length=al at yj ⊢
 generalize b.kind=bk at ⊢
 generalize b.n=bn at ⊢
 generalize b.op=bo at ⊢
 generalize b.kids.length=bl at ⊢
 have HEA:=qh yj
 clear yj
 obtain⟨res,hres⟩:∃r:Option (zB × List Int × Bool),r=(some (⟨pc, [r0,r1,r2,r3].set reg (va),buf⟩,mem,bad)):=⟨_,rfl⟩
 rw [<-hres]
 have zP:=qh hres
 clear hres
 obtain⟨un,hun⟩:∃n,n=buf.length:=⟨_,rfl⟩
 rw [<-hun] at h hbl
 have HUN:=qh hun
 have HR:=qh h
 have yA:=qh hB
 have HA:=qh ((Below.refl w.heap.size w).alloc (Nat.le_refl _) (.cells #[.int .i64 op, .int .i64 (reg:Int), .int .i64 (v:Int), .int .i64 ak, .int .i64 an, .int .u8 ao, .slice aa al ac, .int .i64 bk, .int .i64 bn, .int .u8 bo, .slice ba bl bc, .int .i64 yH] 64))
 have HX:=qh (yh w (.cells #[.int .i64 op, .int .i64 (reg:Int), .int .i64 (v:Int), .int .i64 ak, .int .i64 an, .int .u8 ao, .slice aa al ac, .int .i64 bk, .int .i64 bn, .int .u8 bo, .slice ba bl bc, .int .i64 yH] 64))
 clear h hun hB
 go_enter Tryz.func127,Tryz.ntmps127
 go_upto_region 1 with fail
 generalize World.alloc w _=W at HA HX ⊢
 obtain⟨gi,hgi⟩:∃g,g=w.heap.size:=⟨_,rfl⟩
 rw [<-hgi] at HX ⊢
 clear hgi
 have HRW:=qh (HR.out.below HA.out)
 have jI:Hid (Below B w W):=HA.out.mono yA.out
 have CC:Hid (∀x,Below W.heap.size W x->x.cell? ⟨gi,1,none⟩=some (.int .i64 (reg:Int))/\x.cell? ⟨gi,3,none⟩=some (.int .i64 ak)/\x.cell? ⟨gi,4,none⟩=some (.int .i64 an)/\x.cell? ⟨gi,5,none⟩=some (.int .u8 ao)/\x.cell? ⟨gi,6,none⟩=some (.slice aa al ac)):=λx hx=>⟨zk hx _ _ (ze HX.out 1),zk hx _ _ (ze HX.out 3),zk hx _ _ (ze HX.out 4),zk hx _ _ (ze HX.out 5),zk hx _ _ (ze HX.out 6)⟩
 refine wp_region_noPanic ?_
 refine yV (n0:=11) (S:=λx=>Below W.heap.size W x) (by kernel_rfl) ((Below.refl _ _).drew) (λhT=> ?_)
 refine zU 0 (λ_=>hT) ?_
 refine zU 1 (λ_=>hT) ?_
 refine jw [10,11] 2 CC.out hT ?_
 refine zU 3 (λ_=>hT) ?_
 refine zU 4 (λ_=>hT) ?_
 refine jw [6,10,11] 5 CC.out hT ?_
 refine zU 7 (λ_=>hT) ?_
 refine zU 8 (λ_=>hT) ?_
 refine zU 9 (λ_=>hT) ?_
 refine vP 6 rfl (λK hK=> ?_)
 go_simp
 refine(HEA.out W.drew _ (HRW.out.below hT) (zF HA.out hT)).mono ?_
 rintro e tw6 ⟨rfl,hb⟩
 have wQ:Below W.heap.size W tw6:=zF hT hb
 refine hK.out _ _ (λ_ _=>wQ) ?_
 clear hK K hb hT
 refine zU 10 (λ_=>wQ) ?_
 refine vP 11 rfl (λK hK=> ?_)
 obtain⟨q0,q1⟩:=(HRW.out.below wQ).zdF hr4
 go_simp
 refine hK.out _ _ (λh=>absurd rfl h) ?_
 clear hK K
 refine xE (by kernel_rfl) ?_ _
 refine NoPanic.normal ?_
 clear q0 q1
 have HR2:=qh ((HRW.out.below wQ).zft reg hr4 va)
 have HB2:Hid (Below B w (tw6.setCell ⟨gr,1+reg,none⟩ (.int .i64 va))):=(jI.out.trans (wQ.mono (Nat.le_trans yA.out HA.out.size))).setCell (p:=⟨gr,1+reg,none⟩) HRW.out.base _
 go_wp2_with fail
 go_ret
 rw [zP.out]
 exact zdG HR2.out HB2.out
theorem zrz {w:World} {B gr mb mc:Nat} {pc r0 r1 r2 r3 dom:Int} {buf:List zl} {bv:Value} {m:zC} {mem:List Int} {bad:Bool} (h:xD v0 w B gr pc r0 r1 r2 r3 buf bv m dom mem mb mc bad) (hB:B<=w.heap.size) (hd1:1<=dom) (hd2:dom<=1000) (d:Nat) (x:zW) (ka kb:Value) (ha:zG d w x.a ka) (hb:zG d w x.b kb)
  (qd:0<=x.reg/\x.reg<4) (hvar:0<=x.var/\x.var<(mem.length:Int)) (hbl:buf.length<=1000000):Calls Tryz.prog 131 #[.pointer (some ⟨gr,0,none⟩),qF x ka kb] w λe w'=>
  qM v0 w B gr m dom mb mc (if buf.length=0/\mem.getD x.var.toNat 0=0 then some (⟨pc, [r0,r1,r2,r3],buf⟩,mem.set x.var.toNat 1,bad) else none) e w':=by
 obtain⟨aa,ac,rfl, -⟩:=ha.slice
 obtain⟨ba,bc,rfl, -⟩:=hb.slice
 obtain⟨ua,uc,rfl, -⟩:=zh.slice h.vH
 obtain⟨op,reg,v,a,b,yH⟩:=x
 simp only [] at qd hvar ha hb ⊢
 obtain⟨reg,rfl⟩:∃k:Nat,reg=(k:Int):=⟨reg.toNat,by omega⟩
 obtain⟨v,rfl⟩:∃k:Nat,v=(k:Int):=⟨v.toNat,by omega⟩
 have hr4:reg<4:=by omega
 have gF:v<mem.length:=by omega
 have uP:(v:Int)<(mem.length:Int):=hvar.2
 have hrI:(reg:Int)<4:=qd.2
 try simp only [Int.toNat_natCast]
 clear ha hb
 unfold qF
 simp only []
 generalize a.kind=ak at ⊢
 generalize a.n=an at ⊢
 generalize a.op=ao at ⊢
 generalize a.kids.length=al at ⊢
 generalize b.kind=bk at ⊢
 generalize b.n=bn at ⊢
 generalize b.op=bo at ⊢
 generalize b.kids.length=bl at ⊢
 obtain⟨res,hres⟩:∃r:Option (zB × List Int × Bool),r=(if buf.length=0/\mem.getD v 0=0 then some (⟨pc, [r0,r1,r2,r3],buf⟩,mem.set v 1,bad) else none):=⟨_,rfl⟩
 rw [<-hres]
 have zP:=qh hres
 clear hres
 obtain⟨un,hun⟩:∃n,n=buf.length:=⟨_,rfl⟩
 rw [<-hun] at h hbl
 have HUN:=qh hun
 have HR:=qh h
 have yA:=qh hB
 have HA:=qh ((Below.refl w.heap.size w).alloc (Nat.le_refl _) (.cells #[.int .i64 op, .int .i64 (reg:Int), .int .i64 (v:Int), .int .i64 ak, .int .i64 an, .int .u8 ao, .slice aa al ac, .int .i64 bk, .int .i64 bn, .int .u8 bo, .slice ba bl bc, .int .i64 yH] 64))
 have HX:=qh (yh w (.cells #[.int .i64 op, .int .i64 (reg:Int), .int .i64 (v:Int), .int .i64 ak, .int .i64 an, .int .u8 ao, .slice aa al ac, .int .i64 bk, .int .i64 bn, .int .u8 bo, .slice ba bl bc, .int .i64 yH] 64))
 clear h hun hB
 go_enter Tryz.func131,Tryz.ntmps131
 go_upto_region 1 with fail
 generalize World.alloc w _=W at HA HX ⊢
 obtain⟨gi,hgi⟩:∃g,g=w.heap.size:=⟨_,rfl⟩
 rw [<-hgi] at HX ⊢
 clear hgi
 have HRW:=qh (HR.out.below HA.out)
 have jI:Hid (Below B w W):=HA.out.mono yA.out
 have CC:Hid (∀x,Below W.heap.size W x->x.cell? ⟨gi,2,none⟩=some (.int .i64 (v:Int))/\x.cell? ⟨gr,9,none⟩=some (.slice (some ⟨mb,0,none⟩) mem.length mc)/\x.cell? ⟨mb,v,none⟩=some (.int .i64 (mem.getD v 0))):=λx hx=>⟨zk hx _ _ (ze HX.out 2),zk hx _ _ (ze HRW.out.block 9),zk hx _ _ (HRW.out.uG gF).1⟩
 obtain⟨z,hz⟩:∃z,z=mem.getD v 0:=⟨_,rfl⟩
 rw [<-hz] at CC zP
 clear hz
 by_cases hz0:z=0
 rotate_left
 ·have hz1:((z:Int)==0)=false:=by simp [hz0]
  have HZ0:=qh hz0
  clear hz0
  refine vg (S:=λx=>Below W.heap.size W x) ((Below.refl _ _).drew) (λhH=> ?_)
  refine zq 0 CC.out ?_
  refine zq 1 CC.out ?_
  refine zq 2 CC.out ?_
  refine zq 3 CC.out ?_
  refine zq 4 CC.out ?_
  refine zq 5 CC.out ?_
  refine zq 6 CC.out ?_
  refine zq 7 CC.out ?_
  refine zq 8 CC.out ?_
  refine zq 9 CC.out ?_
  refine xL ?_
  go_upto_region 2 with fail
  refine wp_region_noPanic ?_
  refine yV (n0:=7) (S:=λx=>Below W.heap.size W x) (by kernel_rfl) ((Below.refl _ _).drew.drew) (λhT=> ?_)
  refine zU 0 (λ_=>hT) ?_
  refine zU 1 (λ_=>hT) ?_
  refine zU 2 (λ_=>hT) ?_
  refine jw [6,7] 3 CC.out hT ?_
  refine zU 4 (λ_=>hT) ?_
  refine jw [6,7] 5 CC.out hT ?_
  refine zU 6 (λ_=>hT) ?_
  refine vP 7 rfl (λK hK=> ?_)
  obtain⟨q0,q1⟩:=(HRW.out.below (Below.refl _ _).drew.drew).uG gF
  go_simp
  refine hK.out _ _ (λh=>absurd rfl h) ?_
  clear hK K
  refine xE (by kernel_rfl) ?_ _
  refine NoPanic.normal ?_
  clear q0 q1
  have HR2:=qh ((HRW.out.below (Below.refl _ _).drew.drew).zdH v 1)
  have HB2:Hid (Below B w (W.drew.drew.setCell ⟨mb,v,none⟩ (.int .i64 1))):=jI.out.drew.drew.setCell (p:=⟨mb,v,none⟩) HRW.out.gG.1 _
  go_wp2_with fail
  go_ret
  rw [zP.out,if_neg (λh=>HZ0.out h.2)]
  exact wU HB2.out
 have hz1:((z:Int)==0)=true:=by simp [hz0]
 have HZ0:=qh hz0
 clear hz0
 refine vg (S:=λx=>Below W.heap.size W x) ((Below.refl _ _).drew) (λhH=> ?_)
 refine zq 0 CC.out ?_
 refine zq 1 CC.out ?_
 refine zq 2 CC.out ?_
 refine zq 3 CC.out ?_
 refine zq 4 CC.out ?_
 refine zq 5 CC.out ?_
 refine zq 6 CC.out ?_
 refine zq 7 CC.out ?_
 refine zq 8 CC.out ?_
 refine zq 9 CC.out ?_
 refine xL ?_
 go_upto_region 2 with fail
 refine wp_region_noPanic ?_
 refine yV (n0:=7) (S:=λx=>Below W.heap.size W x) (by kernel_rfl) ((Below.refl _ _).drew.drew) (λhT=> ?_)
 refine zU 0 (λ_=>hT) ?_
 refine zU 1 (λ_=>hT) ?_
 refine zU 2 (λ_=>hT) ?_
 refine jw [6,7] 3 CC.out hT ?_
 refine zU 4 (λ_=>hT) ?_
 refine jw [6,7] 5 CC.out hT ?_
 refine zU 6 (λ_=>hT) ?_
 refine vP 7 rfl (λK hK=> ?_)
 obtain⟨q0,q1⟩:=(HRW.out.below (Below.refl _ _).drew.drew).uG gF
 go_simp
 refine hK.out _ _ (λh=>absurd rfl h) ?_
 clear hK K
 refine xE (by kernel_rfl) ?_ _
 refine NoPanic.normal ?_
 clear q0 q1
 have HR2:=qh ((HRW.out.below (Below.refl _ _).drew.drew).zdH v 1)
 have HB2:Hid (Below B w (W.drew.drew.setCell ⟨mb,v,none⟩ (.int .i64 1))):=jI.out.drew.drew.setCell (p:=⟨mb,v,none⟩) HRW.out.gG.1 _
 go_wp2_with fail
 refine(bZ HR2.out).mono ?_
 rintro e w3 ⟨rfl,rfl⟩
 by_cases hz:buf.length=0
 ·have HZ:=qh hz
  have hz1:decide (buf.length=0)=true:=decide_eq_true hz
  clear hz
  rw [hz1]
  go_wp2_with fail
  go_ret
  rw [zP.out,if_pos ⟨HZ.out,HZ0.out⟩]
  exact jC HR2.out HB2.out
 have HZ:=qh hz
 have hz1:decide (buf.length=0)=false:=decide_eq_false hz
 clear hz
 rw [hz1]
 go_wp2_with fail
 go_ret
 rw [zP.out,if_neg (λh=>HZ.out h.1)]
 exact wU HB2.out
theorem zrx {w:World} {B gr mb mc:Nat} {pc r0 r1 r2 r3 dom:Int} {buf:List zl} {bv:Value} {m:zC} {mem:List Int} {bad:Bool} (h:xD v0 w B gr pc r0 r1 r2 r3 buf bv m dom mem mb mc bad) (hB:B<=w.heap.size) (hd1:1<=dom) (hd2:dom<=1000) (d:Nat) (x:zW) (ka kb:Value) (ha:zG d w x.a ka) (hb:zG d w x.b kb)
  (qd:0<=x.reg/\x.reg<4) (hvar:0<=x.var/\x.var<(mem.length:Int)) (hbl:buf.length<=1000000):Calls Tryz.prog 125 #[.pointer (some ⟨gr,0,none⟩),qF x ka kb] w λe w'=>
  qM v0 w B gr m dom mb mc (some (⟨pc, [r0,r1,r2,r3].set x.reg.toNat ((wX buf x.var).getD (mem.getD x.var.toNat 0)),buf⟩,mem,bad)) e w':=by
 obtain⟨aa,ac,rfl, -⟩:=ha.slice
 obtain⟨ba,bc,rfl, -⟩:=hb.slice
 obtain⟨ua,uc,rfl, -⟩:=zh.slice h.vH
 obtain⟨op,reg,v,a,b,yH⟩:=x
 simp only [] at qd hvar ha hb ⊢
 obtain⟨reg,rfl⟩:∃k:Nat,reg=(k:Int):=⟨reg.toNat,by omega⟩
 obtain⟨v,rfl⟩:∃k:Nat,v=(k:Int):=⟨v.toNat,by omega⟩
 have hr4:reg<4:=by omega
 have gF:v<mem.length:=by omega
 have uP:(v:Int)<(mem.length:Int):=hvar.2
 have hrI:(reg:Int)<4:=qd.2
 try simp only [Int.toNat_natCast]
 clear ha hb
 unfold qF
 simp only []
 generalize a.kind=ak at ⊢
 generalize a.n=an at ⊢
 generalize a.op=ao at ⊢
 generalize a.kids.length=al at ⊢
 generalize b.kind=bk at ⊢
 generalize b.n=bn at ⊢
 generalize b.op=bo at ⊢
 generalize b.kids.length=bl at ⊢
 obtain⟨res,hres⟩:∃r:Option (zB × List Int × Bool),r=(some (⟨pc, [r0,r1,r2,r3].set reg ((wX buf (v:Int)).getD (mem.getD v 0)),buf⟩,mem,bad)):=⟨_,rfl⟩
 rw [<-hres]
 have zP:=qh hres
 clear hres
 obtain⟨un,hun⟩:∃n,n=buf.length:=⟨_,rfl⟩
 rw [<-hun] at h hbl
 have HUN:=qh hun
 have HR:=qh h
 have yA:=qh hB
 have HA:=qh ((Below.refl w.heap.size w).alloc (Nat.le_refl _) (.cells #[.int .i64 op, .int .i64 (reg:Int), .int .i64 (v:Int), .int .i64 ak, .int .i64 an, .int .u8 ao, .slice aa al ac, .int .i64 bk, .int .i64 bn, .int .u8 bo, .slice ba bl bc, .int .i64 yH] 64))
 have HX:=qh (yh w (.cells #[.int .i64 op, .int .i64 (reg:Int), .int .i64 (v:Int), .int .i64 ak, .int .i64 an, .int .u8 ao, .slice aa al ac, .int .i64 bk, .int .i64 bn, .int .u8 bo, .slice ba bl bc, .int .i64 yH] 64))
 clear h hun hB
 go_enter Tryz.func125,Tryz.ntmps125
 go_upto_region 1 with fail
 generalize World.alloc w _=W at HA HX ⊢
 obtain⟨gi,hgi⟩:∃g,g=w.heap.size:=⟨_,rfl⟩
 rw [<-hgi] at HX ⊢
 clear hgi
 have HRW:=qh (HR.out.below HA.out)
 have jI:Hid (Below B w W):=HA.out.mono yA.out
 have CC:Hid (∀x,Below W.heap.size W x->x.cell? ⟨gi,1,none⟩=some (.int .i64 (reg:Int))/\x.cell? ⟨gi,2,none⟩=some (.int .i64 (v:Int))/\x.cell? ⟨gr,5,none⟩=some (.slice ua un uc)/\x.cell? ⟨gr,9,none⟩=some (.slice (some ⟨mb,0,none⟩) mem.length mc)/\x.cell? ⟨mb,v,none⟩=some (.int .i64 (mem.getD v 0))):=λx hx=>⟨zk hx _ _ (ze HX.out 1),zk hx _ _ (ze HX.out 2),zk hx _ _ (ze HRW.out.block 5),zk hx _ _ (ze HRW.out.block 9),zk hx _ _ (HRW.out.uG gF).1⟩
 obtain⟨lk,hlk⟩:∃k,k=wX buf (v:Int):=⟨_,rfl⟩
 have zxi:Hid (∀x,Below W.heap.size W x->Calls Tryz.prog 166 #[.slice ua un uc, .int .i64 (v:Int)] x λe w'=>e= .returned (.tuple #[.int .i64 (lk.getD 0), .bool lk.isSome])/\Below x.heap.size x w'):=λx hx=>by rw [hlk];exact zr5 x _ buf (HRW.out.below hx).vH (by rw [<-HUN.out];exact hbl) v
 obtain⟨z,hz⟩:∃z,z=mem.getD v 0:=⟨_,rfl⟩
 rw [<-hz] at CC zP
 rw [<-hlk] at zP
 clear hz hlk
 cases lk with
 |some y=>
  refine vg (S:=λx=>Below W.heap.size W x) ((Below.refl _ _).drew) (λhH=> ?_)
  refine zq 0 CC.out ?_
  refine zq 1 CC.out ?_
  refine zq 2 CC.out ?_
  refine zq 3 CC.out ?_
  refine zq 4 CC.out ?_
  refine zq 5 CC.out ?_
  refine zq 6 CC.out ?_
  refine yu 7 rfl (λK hK=> ?_)
  go_simp
  refine(zxi.out W.drew hH).mono ?_
  rintro e z18 ⟨rfl,hb⟩
  have zxj:Below W.heap.size W z18:=zF hH hb
  refine hK.out _ _ zxj (λ_=> ?_)
  clear hK K hb hH
  refine zq 8 CC.out ?_
  refine zq 9 CC.out ?_
  refine zq 10 CC.out ?_
  refine zq 11 CC.out ?_
  refine zq 12 CC.out ?_
  refine xL ?_
  go_upto_region 4 with fail
  refine wp_region_noPanic ?_
  refine yV (n0:=8) (S:=λx=>Below W.heap.size W x) (by kernel_rfl) ((zF zxj (Below.refl _ _).drew)) (λxY=> ?_)
  refine zU 0 (λ_=>xY) ?_
  refine zU 1 (λ_=>xY) ?_
  refine jw [7,8] 2 CC.out xY ?_
  refine zU 3 (λ_=>xY) ?_
  refine zU 4 (λ_=>xY) ?_
  refine zU 5 (λ_=>xY) ?_
  refine zU 6 (λ_=>xY) ?_
  refine zU 7 (λ_=>xY) ?_
  refine vP 8 rfl (λK hK=> ?_)
  obtain⟨q0,q1⟩:=(HRW.out.below xY).zdF hr4
  go_simp
  refine hK.out _ _ (λh=>absurd rfl h) ?_
  clear hK K
  refine xE (by kernel_rfl) ?_ _
  refine NoPanic.normal ?_
  clear q0 q1
  have HR2:=qh ((HRW.out.below xY).zft reg hr4 y)
  have HB2:Hid (Below B w (z18.drew.setCell ⟨gr,1+reg,none⟩ (.int .i64 y))):=(jI.out.trans (xY.mono (Nat.le_trans yA.out HA.out.size))).setCell (p:=⟨gr,1+reg,none⟩) HRW.out.base _
  go_wp2_with fail
  go_ret
  rw [zP.out]
  exact zdG HR2.out HB2.out
 |none=>
 refine vg (S:=λx=>Below W.heap.size W x) ((Below.refl _ _).drew) (λhH=> ?_)
 refine zq 0 CC.out ?_
 refine zq 1 CC.out ?_
 refine zq 2 CC.out ?_
 refine zq 3 CC.out ?_
 refine zq 4 CC.out ?_
 refine zq 5 CC.out ?_
 refine zq 6 CC.out ?_
 refine yu 7 rfl (λK hK=> ?_)
 go_simp
 refine(zxi.out W.drew hH).mono ?_
 rintro e z19 ⟨rfl,hb⟩
 have zpJ:Below W.heap.size W z19:=zF hH hb
 refine hK.out _ _ zpJ (λ_=> ?_)
 clear hK K hb hH
 refine zq 8 CC.out ?_
 refine zq 9 CC.out ?_
 refine zq 10 CC.out ?_
 refine zq 11 CC.out ?_
 refine zq 12 CC.out ?_
 refine xL ?_
 go_upto_region 3 with fail
 refine vg (S:=λx=>Below W.heap.size W x) ((zF zpJ (Below.refl _ _).drew)) (λhK3=> ?_)
 refine zq 0 CC.out ?_
 refine zq 1 CC.out ?_
 refine zq 2 CC.out ?_
 refine zq 3 CC.out ?_
 refine zq 4 CC.out ?_
 refine zq 5 CC.out ?_
 refine zq 6 CC.out ?_
 refine zq 7 CC.out ?_
 refine zq 8 CC.out ?_
 refine xL ?_
 go_upto_region 4 with fail
 refine wp_region_noPanic ?_
 refine yV (n0:=8) (S:=λx=>Below W.heap.size W x) (by kernel_rfl) ((zF zpJ (Below.refl _ _).drew.drew)) (λxY=> ?_)
 refine zU 0 (λ_=>xY) ?_
 refine zU 1 (λ_=>xY) ?_
 refine jw [7,8] 2 CC.out xY ?_
 refine zU 3 (λ_=>xY) ?_
 refine zU 4 (λ_=>xY) ?_
 refine zU 5 (λ_=>xY) ?_
 refine zU 6 (λ_=>xY) ?_
 refine zU 7 (λ_=>xY) ?_
 refine vP 8 rfl (λK hK=> ?_)
 obtain⟨q0,q1⟩:=(HRW.out.below xY).zdF hr4
 go_simp
 refine hK.out _ _ (λh=>absurd rfl h) ?_
 clear hK K
 refine xE (by kernel_rfl) ?_ _
 refine NoPanic.normal ?_
 clear q0 q1
 have HR2:=qh ((HRW.out.below xY).zft reg hr4 z)
 have HB2:Hid (Below B w (z19.drew.drew.setCell ⟨gr,1+reg,none⟩ (.int .i64 z))):=(jI.out.trans (xY.mono (Nat.le_trans yA.out HA.out.size))).setCell (p:=⟨gr,1+reg,none⟩) HRW.out.base _
 go_wp2_with fail
 go_ret
 rw [zP.out]
 exact zdG HR2.out HB2.out
