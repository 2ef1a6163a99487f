/- Steps. -/
import Derived.Test.YtliajkheeniljaaGreatDoorZtPWays2
set_option linter.all false
namespace Go.Proofs.YtliajkheeniljaaGreatDoor
open Go.RowKit
set_option maxRecDepth 100000
set_option maxHeartbeats 16000000
variable {v0:Value}
theorem zuo {w:World} {B gr mb mc:Nat} {pc r0 r1 r2 r3 dom:Int} {buf:List zl} {bv:Value} {m:zC} {mem:List Int} {bad:Bool} (h:xD v0 w B gr pc r0 r1 r2 r3 buf bv m dom mem mb mc bad) (hB:B<=w.heap.size) (hd1:1<=dom) (hd2:dom<=1000) (d:Nat) (x:zW) (ka kb:Value) (ha:zG d w x.a ka) (hb:zG d w x.b kb)
  (qd:0<=x.reg/\x.reg<4) (hvar:0<=x.var/\x.var<(mem.length:Int)) (hbl:buf.length<=1000000):Calls Tryz.prog 130 #[.pointer (some ⟨gr,0,none⟩),qF x ka kb] w λe w'=>
  qM v0 w B gr m dom mb mc (if mem.getD x.var.toNat 0=yw [r0,r1,r2,r3] dom d x.a then(if buf.length=0 then some (⟨pc, [r0,r1,r2,r3].set x.reg.toNat 1,buf⟩,mem.set x.var.toNat (yw [r0,r1,r2,r3] dom d x.b),bad) else none) else(if buf.length=0 then some (⟨pc, [r0,r1,r2,r3].set x.reg.toNat 0,buf⟩,mem,bad) else none)) e w':=by
 have yj:=λW V (hV:xD v0 W B gr pc r0 r1 r2 r3 buf V m dom mem mb mc bad) (hW:Below w.heap.size w W)=>za3 hV hd1 hd2 d x.a ka (ha.below hW)
 have uZ:=λW V (hV:xD v0 W B gr pc r0 r1 r2 r3 buf V m dom mem mb mc bad) (hW:Below w.heap.size w W)=>za3 hV hd1 hd2 d x.b kb (hb.below hW)
 obtain⟨aa,ac,rfl, -⟩:=ha.slice
 obtain⟨ba,bc,rfl, -⟩:=hb.slice
 obtain⟨ua,uc,rfl, -⟩:=zh.slice h.vH
 obtain⟨op,reg,v,a,b,yH⟩:=x
 simp only [] at qd hvar ha hb yj uZ ⊢
 obtain⟨reg,rfl⟩:∃k:Nat,reg=(k:Int):=⟨reg.toNat,by omega⟩
 obtain⟨v,rfl⟩:∃k:Nat,v=(k:Int):=⟨v.toNat,by omega⟩
 have hr4:reg<4:=by omega
 have gF:v<mem.length:=by omega
 have uP:(v:Int)<(mem.length:Int):=hvar.2
 have hrI:(reg:Int)<4:=qd.2
 try simp only [Int.toNat_natCast]
 clear ha hb
 unfold qF
 simp only []
 unfold qg at yj uZ
 generalize hva:yw [r0,r1,r2,r3] dom d a=va at yj ⊢
 clear hva
 generalize hvb:yw [r0,r1,r2,r3] dom d b=vb at uZ ⊢
 clear hvb
 generalize a.kind=ak at yj ⊢
 generalize a.n=an at yj ⊢
 generalize a.op=ao at yj ⊢
 generalize a.kids.length=al at yj ⊢
 generalize b.kind=bk at uZ ⊢
 generalize b.n=bn at uZ ⊢
 generalize b.op=bo at uZ ⊢
 generalize b.kids.length=bl at uZ ⊢
 have HEA:=qh yj
 clear yj
 have HEB:=qh uZ
 clear uZ
 obtain⟨res,hres⟩:∃r:Option (zB × List Int × Bool),r=(if mem.getD v 0=va then(if buf.length=0 then some (⟨pc, [r0,r1,r2,r3].set reg 1,buf⟩,mem.set v (vb),bad) else none) else(if buf.length=0 then some (⟨pc, [r0,r1,r2,r3].set reg 0,buf⟩,mem,bad) else none)):=⟨_,rfl⟩
 rw [<-hres]
 have zP:=qh hres
 clear hres
 obtain⟨un,hun⟩:∃n,n=buf.length:=⟨_,rfl⟩
 rw [<-hun] at h hbl
 have HUN:=qh hun
 have HR:=qh h
 have yA:=qh hB
 have HA:=qh ((Below.refl w.heap.size w).alloc (Nat.le_refl _) (.cells #[.int .i64 op, .int .i64 (reg:Int), .int .i64 (v:Int), .int .i64 ak, .int .i64 an, .int .u8 ao, .slice aa al ac, .int .i64 bk, .int .i64 bn, .int .u8 bo, .slice ba bl bc, .int .i64 yH] 64))
 have HX:=qh (yh w (.cells #[.int .i64 op, .int .i64 (reg:Int), .int .i64 (v:Int), .int .i64 ak, .int .i64 an, .int .u8 ao, .slice aa al ac, .int .i64 bk, .int .i64 bn, .int .u8 bo, .slice ba bl bc, .int .i64 yH] 64))
 clear h hun hB
 go_enter Tryz.func130,Tryz.ntmps130
 go_upto_region 1 with fail
 generalize World.alloc w _=W at HA HX ⊢
 obtain⟨gi,hgi⟩:∃g,g=w.heap.size:=⟨_,rfl⟩
 rw [<-hgi] at HX ⊢
 have HGI:=qh hgi
 clear hgi
 have HRW:=qh (HR.out.below HA.out)
 have jI:Hid (Below B w W):=HA.out.mono yA.out
 have CC:Hid (∀x,Below W.heap.size W x->x.cell? ⟨gi,1,none⟩=some (.int .i64 (reg:Int))/\x.cell? ⟨gi,2,none⟩=some (.int .i64 (v:Int))/\x.cell? ⟨gi,3,none⟩=some (.int .i64 ak)/\x.cell? ⟨gi,4,none⟩=some (.int .i64 an)/\x.cell? ⟨gi,5,none⟩=some (.int .u8 ao)/\x.cell? ⟨gi,6,none⟩=some (.slice aa al ac)/\x.cell? ⟨gi,7,none⟩=some (.int .i64 bk)/\x.cell? ⟨gi,8,none⟩=some (.int .i64 bn)/\x.cell? ⟨gi,9,none⟩=some (.int .u8 bo)/\x.cell? ⟨gi,10,none⟩=some (.slice ba bl bc)/\x.cell? ⟨gr,9,none⟩=some (.slice (some ⟨mb,0,none⟩) mem.length mc)/\x.cell? ⟨mb,v,none⟩=some (.int .i64 (mem.getD v 0))):=λx hx=>⟨zk hx _ _ (ze HX.out 1),zk hx _ _ (ze HX.out 2),zk hx _ _ (ze HX.out 3),zk hx _ _ (ze HX.out 4),zk hx _ _ (ze HX.out 5),zk hx _ _ (ze HX.out 6),zk hx _ _ (ze HX.out 7),zk hx _ _ (ze HX.out 8),zk hx _ _ (ze HX.out 9),zk hx _ _ (ze HX.out 10),zk hx _ _ (ze HRW.out.block 9),zk hx _ _ (HRW.out.uG gF).1⟩
 have HGM:=qh (show gi≠mb by have:=HR.out.gG.2;have:=HGI.out;omega)
 obtain⟨z,hz⟩:∃z,z=mem.getD v 0:=⟨_,rfl⟩
 rw [<-hz] at CC zP
 clear hz
 refine vg (S:=λx=>Below W.heap.size W x) ((Below.refl _ _).drew) (λhH=> ?_)
 refine zq 0 CC.out ?_
 refine zq 1 CC.out ?_
 refine zq 2 CC.out ?_
 refine zq 4 CC.out ?_
 refine zq 5 CC.out ?_
 refine zq 6 CC.out ?_
 refine yu 3 rfl (λK hK=> ?_)
 go_simp
 refine(HEA.out W.drew _ (HRW.out.below hH) (zF HA.out hH)).mono ?_
 rintro e hw3 ⟨rfl,hb⟩
 have zlm:Below W.heap.size W hw3:=zF hH hb
 refine hK.out _ _ zlm (λ_=> ?_)
 clear hK K hb hH
 refine yu 7 rfl (λK hK=> ?_)
 go_simp
 refine(HEB.out hw3 _ (HRW.out.below zlm) (zF HA.out zlm)).mono ?_
 rintro e hw7 ⟨rfl,hb⟩
 have pU:Below W.heap.size W hw7:=zF zlm hb
 refine hK.out _ _ pU (λ_=> ?_)
 clear hK K hb zlm
 refine zq 8 CC.out ?_
 refine zq 9 CC.out ?_
 refine zq 10 CC.out ?_
 refine xL ?_
 go_upto_region 2 with fail
 by_cases hz0:z=va
 rotate_left
 ·have hz1:((z:Int)==va)=false:=by simp [hz0]
  have HZ0:=qh hz0
  clear hz0
  refine vg (S:=λx=>Below W.heap.size W x) ((zF pU (Below.refl _ _).drew)) (λhK2=> ?_)
  refine zq 0 CC.out ?_
  refine zq 1 CC.out ?_
  refine zq 2 CC.out ?_
  refine zq 3 CC.out ?_
  refine zq 4 CC.out ?_
  refine zq 5 CC.out ?_
  refine zq 6 CC.out ?_
  refine zq 7 CC.out ?_
  refine zq 8 CC.out ?_
  refine zq 9 CC.out ?_
  refine xL ?_
  have HR2:=qh (HRW.out.below (zF pU (Below.refl _ _).drew))
  have HB2:Hid (Below B w hw7.drew):=jI.out.trans ((zF pU (Below.refl _ _).drew).mono (Nat.le_trans yA.out HA.out.size))
  have HS2:Hid (Since (λk=>k=mb) W hw7.drew):=xZ _ (zF pU (Below.refl _ _).drew)
  go_upto_region 4 with fail
  generalize World.drew _=W4 at HR2 HB2 HS2 ⊢
  have C4:Hid (∀x,Below W4.heap.size W4 x->x.cell? ⟨gi,1,none⟩=some (.int .i64 (reg:Int))):=λx hx=>zk hx _ _ ((HS2.out.cell (p:=⟨gi,1,none⟩) (zx HX.out) (λe=>HGM.out e)).trans (ze HX.out 1))
  refine wp_region_noPanic ?_
  refine yV (n0:=8) (S:=λx=>Below W4.heap.size W4 x) (by kernel_rfl) ((Below.refl _ _).drew) (λxY=> ?_)
  refine zU 0 (λ_=>xY) ?_
  refine zU 1 (λ_=>xY) ?_
  refine jw [7,8] 2 C4.out xY ?_
  refine zU 3 (λ_=>xY) ?_
  refine zU 4 (λ_=>xY) ?_
  refine zU 5 (λ_=>xY) ?_
  refine zU 6 (λ_=>xY) ?_
  refine zU 7 (λ_=>xY) ?_
  refine vP 8 rfl (λK hK=> ?_)
  obtain⟨q0,q1⟩:=(HR2.out.below xY).zdF hr4
  go_simp
  refine hK.out _ _ (λh=>absurd rfl h) ?_
  clear hK K
  refine xE (by kernel_rfl) ?_ _
  refine NoPanic.normal ?_
  clear q0 q1
  have HR3:=qh ((HR2.out.below xY).zft reg hr4 0)
  have HB3:Hid (Below B w (W4.drew.setCell ⟨gr,1+reg,none⟩ (.int .i64 0))):=HB2.out.drew.setCell (p:=⟨gr,1+reg,none⟩) HRW.out.base _
  go_wp2_with fail
  refine(bZ HR3.out).mono ?_
  rintro e w9 ⟨rfl,rfl⟩
  by_cases hz:buf.length=0
  ·have HZ:=qh hz
   have hz1:decide (buf.length=0)=true:=decide_eq_true hz
   clear hz
   rw [hz1]
   go_wp2_with fail
   go_ret
   rw [zP.out,if_neg HZ0.out,if_pos HZ.out]
   exact zdG HR3.out HB3.out
  have HZ:=qh hz
  have hz1:decide (buf.length=0)=false:=decide_eq_false hz
  clear hz
  rw [hz1]
  go_wp2_with fail
  go_ret
  rw [zP.out,if_neg HZ0.out,if_neg HZ.out]
  exact wU HB3.out
 have hz1:((z:Int)==va)=true:=by simp [hz0]
 have HZ0:=qh hz0
 clear hz0
 refine vg (S:=λx=>Below W.heap.size W x) ((zF pU (Below.refl _ _).drew)) (λhK2=> ?_)
 refine zq 0 CC.out ?_
 refine zq 1 CC.out ?_
 refine zq 2 CC.out ?_
 refine zq 3 CC.out ?_
 refine zq 4 CC.out ?_
 refine zq 5 CC.out ?_
 refine zq 6 CC.out ?_
 refine zq 7 CC.out ?_
 refine zq 8 CC.out ?_
 refine zq 9 CC.out ?_
 refine xL ?_
 go_upto_region 3 with fail
 refine wp_region_noPanic ?_
 refine yV (n0:=8) (S:=λx=>Below W.heap.size W x) (by kernel_rfl) ((zF pU (Below.refl _ _).drew.drew)) (λjl=> ?_)
 refine zU 0 (λ_=>jl) ?_
 refine zU 1 (λ_=>jl) ?_
 refine zU 2 (λ_=>jl) ?_
 refine jw [7,8,9] 3 CC.out jl ?_
 refine zU 4 (λ_=>jl) ?_
 refine jw [7,8,9] 5 CC.out jl ?_
 refine zU 6 (λ_=>jl) ?_
 refine zU 7 (λ_=>jl) ?_
 refine vP 8 rfl (λK hK=> ?_)
 obtain⟨q0,q1⟩:=(HRW.out.below jl).uG gF
 go_simp
 refine hK.out _ _ (λh=>absurd rfl h) ?_
 clear hK K
 refine zU 9 (λh=>absurd h (by decide+kernel)) ?_
 refine xE (by kernel_rfl) ?_ _
 refine NoPanic.normal ?_
 clear q0 q1
 have HR2:=qh ((HRW.out.below jl).zdH v vb)
 have HB2:Hid (Below B w (hw7.drew.drew.setCell ⟨mb,v,none⟩ (.int .i64 vb))):=(jI.out.trans (jl.mono (Nat.le_trans yA.out HA.out.size))).setCell (p:=⟨mb,v,none⟩) HRW.out.gG.1 _
 have HS2:Hid (Since (λk=>k=mb) W (hw7.drew.drew.setCell ⟨mb,v,none⟩ (.int .i64 vb))):=(xZ _ jl).trans (Since.setCell (F:=λk=>k=mb) (p:=⟨mb,v,none⟩) (Since.refl _ _) (.inl rfl) _) (λ_ h=> .inl h)
 go_upto_region 4 with fail
 have eW:hw7.drew.drew.setCell ⟨mb,v,none⟩ (.int .i64 vb)=(hw7.setCell ⟨mb,v,none⟩ (.int .i64 vb)).drew.drew:=rfl
 rw [eW] at HR2 HB2 HS2
 clear eW
 generalize (World.setCell hw7 ⟨mb,v,none⟩ (.int .i64 vb)).drew.drew=W4 at HR2 HB2 HS2 ⊢
 have C4:Hid (∀x,Below W4.heap.size W4 x->x.cell? ⟨gi,1,none⟩=some (.int .i64 (reg:Int))):=λx hx=>zk hx _ _ ((HS2.out.cell (p:=⟨gi,1,none⟩) (zx HX.out) (λe=>HGM.out e)).trans (ze HX.out 1))
 refine wp_region_noPanic ?_
 refine yV (n0:=8) (S:=λx=>Below W4.heap.size W4 x) (by kernel_rfl) ((Below.refl _ _).drew) (λxY=> ?_)
 refine zU 0 (λ_=>xY) ?_
 refine zU 1 (λ_=>xY) ?_
 refine jw [7,8] 2 C4.out xY ?_
 refine zU 3 (λ_=>xY) ?_
 refine zU 4 (λ_=>xY) ?_
 refine zU 5 (λ_=>xY) ?_
 refine zU 6 (λ_=>xY) ?_
 refine zU 7 (λ_=>xY) ?_
 refine vP 8 rfl (λK hK=> ?_)
 obtain⟨q0,q1⟩:=(HR2.out.below xY).zdF hr4
 go_simp
 refine hK.out _ _ (λh=>absurd rfl h) ?_
 clear hK K
 refine xE (by kernel_rfl) ?_ _
 refine NoPanic.normal ?_
 clear q0 q1
 have HR3:=qh ((HR2.out.below xY).zft reg hr4 1)
 have HB3:Hid (Below B w (W4.drew.setCell ⟨gr,1+reg,none⟩ (.int .i64 1))):=HB2.out.drew.setCell (p:=⟨gr,1+reg,none⟩) HRW.out.base _
 go_wp2_with fail
 refine(bZ HR3.out).mono ?_
 rintro e w9 ⟨rfl,rfl⟩
 by_cases hz:buf.length=0
 ·have HZ:=qh hz
  have hz1:decide (buf.length=0)=true:=decide_eq_true hz
  clear hz
  rw [hz1]
  go_wp2_with fail
  go_ret
  rw [zP.out,if_pos HZ0.out,if_pos HZ.out]
  exact zdG HR3.out HB3.out
 have HZ:=qh hz
 have hz1:decide (buf.length=0)=false:=decide_eq_false hz
 clear hz
 rw [hz1]
 go_wp2_with fail
 go_ret
 rw [zP.out,if_pos HZ0.out,if_neg HZ.out]
 exact wU HB3.out
end Go.Proofs.YtliajkheeniljaaGreatDoor
namespace Go.Proofs.YtliajkheeniljaaGreatDoor
open Go.RowKit
set_option maxRecDepth 100000
set_option maxHeartbeats 16000000
variable {v0:Value}
theorem zoP {w:World} {B gr mb mc:Nat} {pc r0 r1 r2 r3 dom:Int} {buf:List zl} {bv:Value} {m:zC} {mem:List Int} {bad:Bool} (h:xD v0 w B gr pc r0 r1 r2 r3 buf bv m dom mem mb mc bad) (hB:B<=w.heap.size) (hd1:1<=dom) (hd2:dom<=1000) (d:Nat) (x:zW) (ka kb:Value) (ha:zG d w x.a ka) (hb:zG d w x.b kb)
  (qd:0<=x.reg/\x.reg<4) (hvar:0<=x.var/\x.var<(mem.length:Int)) (hbl:buf.length<=1000000):Calls Tryz.prog 126 #[.pointer (some ⟨gr,0,none⟩),qF x ka kb] w λe w'=>
  qM v0 w B gr m dom mb mc (if m.model=0 then some (⟨pc, [r0,r1,r2,r3],buf⟩,mem.set x.var.toNat (yw [r0,r1,r2,r3] dom d x.a),bad) else if qD buf m ⟨x.var,yw [r0,r1,r2,r3] dom d x.a⟩=true then some (⟨pc, [r0,r1,r2,r3],j4 buf m ⟨x.var,yw [r0,r1,r2,r3] dom d x.a⟩⟩,mem,bad) else none) e w':=by
 have yj:=λW V (hV:xD v0 W B gr pc r0 r1 r2 r3 buf V m dom mem mb mc bad) (hW:Below w.heap.size w W)=>za3 hV hd1 hd2 d x.a ka (ha.below hW)
 obtain⟨aa,ac,rfl, -⟩:=ha.slice
 obtain⟨ba,bc,rfl, -⟩:=hb.slice
 obtain⟨ua,uc,rfl, -⟩:=zh.slice h.vH
 obtain⟨op,reg,v,a,b,yH⟩:=x
 simp only [] at qd hvar ha hb yj ⊢
 obtain⟨reg,rfl⟩:∃k:Nat,reg=(k:Int):=⟨reg.toNat,by omega⟩
 obtain⟨v,rfl⟩:∃k:Nat,v=(k:Int):=⟨v.toNat,by omega⟩
 have hr4:reg<4:=by omega
 have gF:v<mem.length:=by omega
 have uP:(v:Int)<(mem.length:Int):=hvar.2
 have hrI:(reg:Int)<4:=qd.2
 try simp only [Int.toNat_natCast]
 clear ha hb
 unfold qF
 simp only []
 unfold qg at yj
 generalize hva:yw [r0,r1,r2,r3] dom d a=va at yj ⊢
 clear hva
 generalize a.kind=ak at yj ⊢
 generalize a.n=an at yj ⊢
 generalize a.op=ao at yj ⊢
 generalize a.kids.length=al at yj ⊢
 generalize b.kind=bk at ⊢
 generalize b.n=bn at ⊢
 generalize b.op=bo at ⊢
 generalize b.kids.length=bl at ⊢
 have HEA:=qh yj
 clear yj
 obtain⟨res,hres⟩:∃r:Option (zB × List Int × Bool),r=(if m.model=0 then some (⟨pc, [r0,r1,r2,r3],buf⟩,mem.set v (va),bad) else if qD buf m ⟨(v:Int),va⟩=true then some (⟨pc, [r0,r1,r2,r3],j4 buf m ⟨(v:Int),va⟩⟩,mem,bad) else none):=⟨_,rfl⟩
 rw [<-hres]
 have zP:=qh hres
 clear hres
 obtain⟨un,hun⟩:∃n,n=buf.length:=⟨_,rfl⟩
 rw [<-hun] at h hbl
 have HUN:=qh hun
 have HR:=qh h
 have yA:=qh hB
 have HA:=qh ((Below.refl w.heap.size w).alloc (Nat.le_refl _) (.cells #[.int .i64 op, .int .i64 (reg:Int), .int .i64 (v:Int), .int .i64 ak, .int .i64 an, .int .u8 ao, .slice aa al ac, .int .i64 bk, .int .i64 bn, .int .u8 bo, .slice ba bl bc, .int .i64 yH] 64))
 have HX:=qh (yh w (.cells #[.int .i64 op, .int .i64 (reg:Int), .int .i64 (v:Int), .int .i64 ak, .int .i64 an, .int .u8 ao, .slice aa al ac, .int .i64 bk, .int .i64 bn, .int .u8 bo, .slice ba bl bc, .int .i64 yH] 64))
 clear h hun hB
 go_enter Tryz.func126,Tryz.ntmps126
 go_upto_region 1 with fail
 generalize World.alloc w _=W at HA HX ⊢
 obtain⟨gi,hgi⟩:∃g,g=w.heap.size:=⟨_,rfl⟩
 rw [<-hgi] at HX ⊢
 clear hgi
 have HRW:=qh (HR.out.below HA.out)
 have jI:Hid (Below B w W):=HA.out.mono yA.out
 have CC:Hid (∀x,Below W.heap.size W x->x.cell? ⟨gi,2,none⟩=some (.int .i64 (v:Int))/\x.cell? ⟨gi,3,none⟩=some (.int .i64 ak)/\x.cell? ⟨gi,4,none⟩=some (.int .i64 an)/\x.cell? ⟨gi,5,none⟩=some (.int .u8 ao)/\x.cell? ⟨gi,6,none⟩=some (.slice aa al ac)/\x.cell? ⟨gr,5,none⟩=some (.slice ua un uc)/\x.cell? ⟨gr,6,none⟩=some (.int .i64 m.model)/\x.cell? ⟨gr,7,none⟩=some (.int .i64 m.bound)/\x.cell? ⟨gr,9,none⟩=some (.slice (some ⟨mb,0,none⟩) mem.length mc)):=λx hx=>⟨zk hx _ _ (ze HX.out 2),zk hx _ _ (ze HX.out 3),zk hx _ _ (ze HX.out 4),zk hx _ _ (ze HX.out 5),zk hx _ _ (ze HX.out 6),zk hx _ _ (ze HRW.out.block 5),zk hx _ _ (ze HRW.out.block 6),zk hx _ _ (ze HRW.out.block 7),zk hx _ _ (ze HRW.out.block 9)⟩
 obtain⟨c0,c1,c2,c3,c4,c5,c6,c7,c8⟩:=CC.out W (Below.refl _ _)
 go_wp2_with fail
 refine(HEA.out W _ HRW.out HA.out).mono ?_
 rintro e w2 ⟨rfl,hb2⟩
 have HB2:=qh hb2
 have HR2:=qh (HRW.out.below hb2)
 have HBB:Hid (Below B w w2):=jI.out.trans (hb2.mono (Nat.le_trans yA.out HA.out.size))
 clear hb2 c0 c1 c2 c3 c4 c5 c6 c7 c8
 have C2:Hid (∀x,Below w2.heap.size w2 x->x.cell? ⟨gi,2,none⟩=some (.int .i64 (v:Int))/\x.cell? ⟨gr,5,none⟩=some (.slice ua un uc)/\x.cell? ⟨gr,6,none⟩=some (.int .i64 m.model)/\x.cell? ⟨gr,7,none⟩=some (.int .i64 m.bound)/\x.cell? ⟨gr,9,none⟩=some (.slice (some ⟨mb,0,none⟩) mem.length mc)):=λx hx=>⟨zk (zF HB2.out hx) _ _ (ze HX.out 2),zk hx _ _ (ze HR2.out.block 5),zk hx _ _ (ze HR2.out.block 6),zk hx _ _ (ze HR2.out.block 7),zk hx _ _ (ze HR2.out.block 9)⟩
 obtain⟨-, -,e6, -, -⟩:=C2.out w2 (Below.refl _ _)
 by_cases hm:m.model=0
 ·have hm1:((m.model:Int)==0)=true:=by simp [hm]
  have HM:=qh hm
  clear hm
  go_upto_region 3 with fail
  clear e6 hm1
  refine wp_region_noPanic ?_
  refine yV (n0:=8) (S:=λx=>Below w2.heap.size w2 x) (by kernel_rfl) ((Below.refl _ _).drew) (λhT=> ?_)
  refine zU 0 (λ_=>hT) ?_
  refine zU 1 (λ_=>hT) ?_
  refine zU 2 (λ_=>hT) ?_
  refine jw [7,8] 3 C2.out hT ?_
  refine zU 4 (λ_=>hT) ?_
  refine jw [7,8] 5 C2.out hT ?_
  refine zU 6 (λ_=>hT) ?_
  refine zU 7 (λ_=>hT) ?_
  refine vP 8 rfl (λK hK=> ?_)
  obtain⟨q0,q1⟩:=(HR2.out.below hT).uG gF
  go_simp
  refine hK.out _ _ (λh=>absurd rfl h) ?_
  clear hK K
  refine xE (by kernel_rfl) ?_ _
  refine NoPanic.normal ?_
  clear q0 q1
  have HR3:=qh ((HR2.out.below hT).zdH v va)
  have HB3:Hid (Below B w (w2.drew.setCell ⟨mb,v,none⟩ (.int .i64 va))):=HBB.out.drew.setCell (p:=⟨mb,v,none⟩) HR2.out.gG.1 _
  go_wp2_with fail
  go_ret
  rw [zP.out,if_pos HM.out]
  exact jC HR3.out HB3.out
 have hm1:((m.model:Int)==0)=false:=by simp [hm]
 have HM:=qh hm
 clear hm
 have jX:Hid (∀x,Below w2.heap.size w2 x->Calls Tryz.prog 85 #[.slice ua un uc, .agg #[.int .i64 m.model, .int .i64 m.bound], .agg #[.int .i64 (v:Int), .int .i64 va]] x λe w'=>(∃uz,e= .returned (.tuple #[uz, .bool (qD buf m ⟨(v:Int),va⟩)])/\zV w' uz (j4 buf m ⟨(v:Int),va⟩)/\(qD buf m ⟨(v:Int),va⟩=true->w'.ownsRow x.heap.size 50 2 uz (j4 buf m ⟨(v:Int),va⟩).length (zo zl.cells (j4 buf m ⟨(v:Int),va⟩))))/\Below x.heap.size x w'):=λx hx=>zlj x _ buf (HR2.out.below hx).vH (by rw [<-HUN.out];exact hbl) m ⟨(v:Int),va⟩
 obtain⟨pb,hpb⟩:∃l,l=j4 buf m ⟨(v:Int),va⟩:=⟨_,rfl⟩
 rw [<-hpb] at jX zP
 clear hpb
 go_upto_region 5 with fail
 clear e6 hm1
 cases hok:qD buf m ⟨(v:Int),va⟩ with
 |true=>
  rw [hok] at jX zP
  clear hok
  refine wp_region_noPanic ?_
  refine yV (n0:=21) (S:=λx=>Below w2.heap.size w2 x) (by kernel_rfl) ((Below.refl _ _).drew) (λhT=> ?_)
  refine zU 0 (λ_=>hT) ?_
  refine zU 1 (λ_=>hT) ?_
  refine zU 2 (λ_=>hT) ?_
  refine zU 3 (λ_=>hT) ?_
  refine zU 4 (λ_=>hT) ?_
  refine jw [14,15,16,17,18,19,20,21,22] 5 C2.out hT ?_
  refine zU 6 (λ_=>hT) ?_
  refine zU 7 (λ_=>hT) ?_
  refine zU 8 (λ_=>hT) ?_
  refine jw [14,15,16,17,18,19,20,21,22] 9 C2.out hT ?_
  refine zU 10 (λ_=>hT) ?_
  refine jw [13,14,15,16,17,18,19,20,21,22] 11 C2.out hT ?_
  refine zU 12 (λ_=>hT) ?_
  refine zU 13 (λ_=>hT) ?_
  refine vP 14 rfl (λK hK=> ?_)
  go_simp
  refine(jX.out w2.drew hT).mono ?_
  rintro e zel ⟨⟨uz,rfl,hbf,hrow⟩,hb⟩
  obtain⟨xa,xc,rfl, -⟩:=zh.slice hbf
  have jo:=qh hrow
  clear hbf hrow
  have gH:Below w2.heap.size w2 zel:=zF hT hb
  refine hK.out _ _ (λ_ _=>gH) ?_
  clear hK K hb hT
  refine zU 15 (λ_=>gH) ?_
  refine zU 16 (λ_=>gH) ?_
  refine zU 17 (λ_=>gH) ?_
  refine zU 18 (λ_=>gH) ?_
  refine zU 19 (λ_=>gH) ?_
  refine zU 20 (λ_=>gH) ?_
  refine vP 21 rfl (λK hK=> ?_)
  have HBK:=qh ((HR2.out.below gH).block)
  have q0:zel.cell? ⟨gr,5,none⟩=some (.slice ua un uc):=ze HBK.out 5
  have q1:zel.frozen? ⟨gr,5,none⟩=false:=zy HBK.out 5
  go_simp
  refine hK.out _ _ (λh=>absurd rfl h) ?_
  clear hK K
  refine zU 22 (λh=>absurd h (by decide+kernel)) ?_
  refine xE (by kernel_rfl) ?_ _
  refine NoPanic.normal ?_
  clear q0 q1
  have HB3:Hid (Below B w (zel.setCell ⟨gr,5,none⟩ (.slice xa pb.length xc))):=(HBB.out.trans (gH.mono (Nat.le_trans yA.out (Nat.le_trans HA.out.size HB2.out.size)))).setCell (p:=⟨gr,5,none⟩) HRW.out.base _
  have HR3:=qh ((HR2.out.below gH).zrv (V:=w2.drew) ⟨zx HR2.out.block,HR2.out.gG.2⟩ (jo.out rfl))
  go_wp2_with fail
  go_ret
  first|rw [zP.out,if_neg HM.out,if_pos rfl] |rw [zP.out,if_neg HM.out,if_pos trivial]
  exact jC HR3.out HB3.out
 |false=>
 rw [hok] at jX zP
 clear hok
 refine wp_region_noPanic ?_
 refine yV (n0:=21) (S:=λx=>Below w2.heap.size w2 x) (by kernel_rfl) ((Below.refl _ _).drew) (λhT=> ?_)
 refine zU 0 (λ_=>hT) ?_
 refine zU 1 (λ_=>hT) ?_
 refine zU 2 (λ_=>hT) ?_
 refine zU 3 (λ_=>hT) ?_
 refine zU 4 (λ_=>hT) ?_
 refine jw [14,15,16,17,18,19,20,21,22] 5 C2.out hT ?_
 refine zU 6 (λ_=>hT) ?_
 refine zU 7 (λ_=>hT) ?_
 refine zU 8 (λ_=>hT) ?_
 refine jw [14,15,16,17,18,19,20,21,22] 9 C2.out hT ?_
 refine zU 10 (λ_=>hT) ?_
 refine jw [13,14,15,16,17,18,19,20,21,22] 11 C2.out hT ?_
 refine zU 12 (λ_=>hT) ?_
 refine zU 13 (λ_=>hT) ?_
 refine vP 14 rfl (λK hK=> ?_)
 go_simp
 refine(jX.out w2.drew hT).mono ?_
 rintro e zcT ⟨⟨uz,rfl,hbf,hrow⟩,hb⟩
 obtain⟨xa,xc,rfl, -⟩:=zh.slice hbf
 have jo:=qh hrow
 clear hbf hrow
 have gH:Below w2.heap.size w2 zcT:=zF hT hb
 refine hK.out _ _ (λ_ _=>gH) ?_
 clear hK K hb hT
 refine zU 15 (λ_=>gH) ?_
 refine zU 16 (λ_=>gH) ?_
 refine zU 17 (λ_=>gH) ?_
 refine zU 18 (λ_=>gH) ?_
 refine zU 19 (λ_=>gH) ?_
 refine zU 20 (λ_=>gH) ?_
 refine vP 21 rfl (λK hK=> ?_)
 have HBK:=qh ((HR2.out.below gH).block)
 have q0:zcT.cell? ⟨gr,5,none⟩=some (.slice ua un uc):=ze HBK.out 5
 have q1:zcT.frozen? ⟨gr,5,none⟩=false:=zy HBK.out 5
 go_simp
 refine hK.out _ _ (λh=>absurd rfl h) ?_
 clear hK K
 refine zU 22 (λh=>absurd h (by decide+kernel)) ?_
 refine xE (by kernel_rfl) ?_ _
 refine NoPanic.normal ?_
 clear q0 q1
 have HB3:Hid (Below B w (zcT.setCell ⟨gr,5,none⟩ (.slice xa pb.length xc))):=(HBB.out.trans (gH.mono (Nat.le_trans yA.out (Nat.le_trans HA.out.size HB2.out.size)))).setCell (p:=⟨gr,5,none⟩) HRW.out.base _
 go_wp2_with fail
 go_ret
 rw [zP.out,if_neg HM.out,if_neg (λh=>by cases h)]
 exact wU HB3.out
end Go.Proofs.YtliajkheeniljaaGreatDoor
namespace Go.Proofs.YtliajkheeniljaaGreatDoor
open Go.RowKit
set_option maxRecDepth 100000
set_option maxHeartbeats 16000000
variable {v0:Value}
def wyL:List (Int × Value):= [(1, .func (.func 125) #[] #[]),(2, .func (.func 126) #[] #[]),(3, .func (.func 127) #[] #[]),(4, .func (.func 128) #[] #[]),(5, .func (.func 129) #[] #[]),(6, .func (.func 130) #[] #[]),(7, .func (.func 131) #[] #[]),(8, .func (.func 132) #[] #[]),(9, .func (.func 133) #[] #[]),(12, .func (.func 134) #[] #[]),(13, .func (.func 135) #[] #[])]
theorem zrw (w:World):Calls Tryz.prog 107 #[] w (zln wyL w):=by
 have hmm:= @run_makeMap Tryz.prog
 have h0:xK (w.alloc (.map #[] 0)) w.heap.size [] :=⟨#[],0,yh w _,rfl⟩
 have hB0:Below w.heap.size w (w.alloc (.map #[] 0)):=(Below.refl _ _).alloc (Nat.le_refl _) _
 go_enter Tryz.func107,Tryz.ntmps107
 go_wp2_with(refine vM _ rfl _ _ _ 169 rfl 3 168 .i64 Tryz.underlying169 Tryz.underlying3 w.heap.size _ rfl _ rfl _ rfl h0 ?_;clear h0;intro w1 h0 hs1 hz1;replace hB0:=hB0.trans (hs1.below hB0.size (λk hk=>by omega));clear hs1 hz1)
 go_ret
 exact⟨w.heap.size,rfl,h0,Nat.le_refl _,hB0⟩
def zoQ (k:Int):Prop:=k=1\/k=2\/k=3\/k=4\/k=5\/k=6\/k=7\/k=8\/k=9\/k=12\/k=13
theorem zup {w:World} {B gr mb mc:Nat} {pc r0 r1 r2 r3:Int} {buf:List zl} {bv:Value} {m:zC} {c:zH} {s:zi} (h:xD v0 w B gr (pc+1) r0 r1 r2 r3 buf bv m c.domain s.mem mb mc s.bad) (hB:B<=w.heap.size) (hd1:1<=c.domain) (hd2:c.domain<=1000) (d:Nat) (x:zW) (ka kb:Value) (ha:zG d w x.a ka) (hb:zG d w x.b kb)
  (qd:0<=x.reg/\x.reg<4) (hvar:0<=x.var/\x.var<(s.mem.length:Int)) (hbl:buf.length<=1000000) (hop:zoQ x.op):
  ∃f,vB wyL x.op=some (.func (.func f) #[] #[])/\(∀args W,(callFunc f args).run Tryz.prog W= .ok (.enter f args) W)/\
   Calls Tryz.prog f #[.pointer (some ⟨gr,0,none⟩),qF x ka kb] w λe w'=>qM v0 w B gr m c.domain mb mc (stepT c m s ⟨pc, [r0,r1,r2,r3],buf⟩ x d) e w':=by
 rcases hop with k|k|k|k|k|k|k|k|k|k|k
 ·exact⟨_,by rw [k];rfl,λ_ _=>rfl,by rw [bO k];exact zrx h hB hd1 hd2 d x ka kb ha hb qd hvar hbl⟩
 ·refine⟨_,by rw [k];rfl,λ_ _=>rfl, ?_⟩
  have hw:=zoP h hB hd1 hd2 d x ka kb ha hb qd hvar hbl
  by_cases hm:m.model=0
  ·rw [uR k hm];simp only [if_pos hm] at hw;exact hw
  simp only [if_neg hm] at hw
  cases hp:qD buf m ⟨x.var,yw [r0,r1,r2,r3] c.domain d x.a⟩ with
  |true=>rw [uS k hm hp];simp only [hp,if_true] at hw;exact hw
  |false=>rw [uT k hm hp];simp only [hp,Bool.false_eq_true,if_false] at hw;exact hw
 ·exact⟨_,by rw [k];rfl,λ_ _=>rfl,by rw [zbq k];exact zuq h hB hd1 hd2 d x ka kb ha hb qd hvar hbl⟩
 ·exact⟨_,by rw [k];rfl,λ_ _=>rfl,by rw [uE k];exact zoR h hB hd1 hd2 d x ka kb ha hb qd hvar hbl⟩
 ·exact⟨_,by rw [k];rfl,λ_ _=>rfl,by rw [gV k];exact zry h hB hd1 hd2 d x ka kb ha hb qd hvar hbl⟩
 ·refine⟨_,by rw [k];rfl,λ_ _=>rfl, ?_⟩
  have hw:=zuo h hB hd1 hd2 d x ka kb ha hb qd hvar hbl
  by_cases hv:s.mem.getD x.var.toNat 0=yw [r0,r1,r2,r3] c.domain d x.a
  ·rw [bP k hv];simp only [if_pos hv] at hw;exact hw
  rw [bQ k hv];simp only [if_neg hv] at hw;exact hw
 ·exact⟨_,by rw [k];rfl,λ_ _=>rfl,by rw [gW k];exact zrz h hB hd1 hd2 d x ka kb ha hb qd hvar hbl⟩
 ·exact⟨_,by rw [k];rfl,λ_ _=>rfl,by rw [gu k];exact zmT h hB hd1 hd2 d x ka kb ha hb qd hvar hbl⟩
 ·exact⟨_,by rw [k];rfl,λ_ _=>rfl,by rw [kT k];exact zmU h hB hd1 hd2 d x ka kb ha hb qd hvar hbl⟩
 ·refine⟨_,by rw [k];rfl,λ_ _=>rfl, ?_⟩
  have hw:=zmV h hB hd1 hd2 d x ka kb ha hb qd hvar hbl
  rw [gy k]
  by_cases hv:yw [r0,r1,r2,r3] c.domain d x.a=0
  ·simp only [if_pos hv] at hw ⊢;exact hw
  simp only [if_neg hv] at hw ⊢;exact hw
 exact⟨_,by rw [k];rfl,λ_ _=>rfl,by rw [za9 k];exact zr0 h hB hd1 hd2 d x ka kb ha hb qd hvar hbl⟩
