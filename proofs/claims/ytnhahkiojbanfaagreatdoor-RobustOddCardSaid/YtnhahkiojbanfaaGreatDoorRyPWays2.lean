/- Steps. -/
import Derived.Test.YtnhahkiojbanfaaGreatDoorRyTail
set_option linter.all false
namespace Go.Proofs.YtnhahkiojbanfaaGreatDoor
open Go.RowKit
set_option maxRecDepth 100000
set_option maxHeartbeats 16000000
variable {v0:Value}
theorem zus {w:World} {B gr mb mc:Nat} {pc r0 r1 r2 r3 dom:Int} {buf:List zl} {bv:Value} {m:zG} {mem:List Int} {bad:Bool} (h:xE v0 w B gr pc r0 r1 r2 r3 buf bv m dom mem mb mc bad) (hB:B<=w.heap.size) (hd1:1<=dom) (hd2:dom<=1000) (d:Nat) (x:zV) (ka kb:Value) (ha:zF d w x.a ka) (hb:zF d w x.b kb)
  (qd:0<=x.reg/\x.reg<4) (hvar:0<=x.var/\x.var<(mem.length:Int)) (hbl:buf.length<=1000000):Calls Tryz.prog 122 #[.pointer (some ⟨gr,0,none⟩),qH x ka kb] w λe w'=>
  qK v0 w B gr m dom mb mc (some (⟨pc, [r0,r1,r2,r3].set x.reg.toNat (yu [r0,r1,r2,r3] dom d x.a),buf⟩,mem,bad)) e w':=by
 have yg:=λW V (hV:xE v0 W B gr pc r0 r1 r2 r3 buf V m dom mem mb mc bad) (hW:Below w.heap.size w W)=>zaE hV hd1 hd2 d x.a ka (ha.below hW)
 obtain⟨aa,ac,rfl, -⟩:=ha.slice
 obtain⟨ba,bc,rfl, -⟩:=hb.slice
 obtain⟨ua,uc,rfl, -⟩:=zh.slice h.vB
 obtain⟨op,reg,v,a,b,yH⟩:=x
 simp only [] at qd hvar ha hb yg ⊢
 obtain⟨reg,rfl⟩:∃k:Nat,reg=(k:Int):=⟨reg.toNat,by omega⟩
 obtain⟨v,rfl⟩:∃k:Nat,v=(k:Int):=⟨v.toNat,by omega⟩
 have hr4:reg<4:=by omega
 have ug:v<mem.length:=by omega
 have uX:(v:Int)<(mem.length:Int):=hvar.2
 have hrI:(reg:Int)<4:=qd.2
 try simp only [Int.toNat_natCast]
 clear ha hb
 unfold qH
 simp only []
 unfold qg at yg
 generalize hva:yu [r0,r1,r2,r3] dom d a=va at yg ⊢
 clear hva
 generalize a.kind=ak at yg ⊢
 generalize a.n=an at yg ⊢
 generalize a.op=ao at yg ⊢
 generalize a.kids.length=al at yg ⊢
 generalize b.kind=bk at ⊢
 generalize b.n=bn at ⊢
 generalize b.op=bo at ⊢
 generalize b.kids.length=bl at ⊢
 have HEA:=qh yg
 clear yg
 obtain⟨res,hres⟩:∃r:Option (zy × List Int × Bool),r=(some (⟨pc, [r0,r1,r2,r3].set reg (va),buf⟩,mem,bad)):=⟨_,rfl⟩
 rw [<-hres]
 have zQ:=qh hres
 clear hres
 obtain⟨un,hun⟩:∃n,n=buf.length:=⟨_,rfl⟩
 rw [<-hun] at h hbl
 have HUN:=qh hun
 have HR:=qh h
 have yQ:=qh hB
 have HA:=qh ((Below.refl w.heap.size w).alloc (Nat.le_refl _) (.cells #[.int .i64 op, .int .i64 (reg:Int), .int .i64 (v:Int), .int .i64 ak, .int .i64 an, .int .u8 ao, .slice aa al ac, .int .i64 bk, .int .i64 bn, .int .u8 bo, .slice ba bl bc, .int .i64 yH] 60))
 have HX:=qh (yh w (.cells #[.int .i64 op, .int .i64 (reg:Int), .int .i64 (v:Int), .int .i64 ak, .int .i64 an, .int .u8 ao, .slice aa al ac, .int .i64 bk, .int .i64 bn, .int .u8 bo, .slice ba bl bc, .int .i64 yH] 60))
 clear h hun hB
 go_enter Tryz.func122,Tryz.ntmps122
 go_upto_region 1 with fail
 generalize World.alloc w _=W at HA HX ⊢
 obtain⟨gi,hgi⟩:∃g,g=w.heap.size:=⟨_,rfl⟩
 rw [<-hgi] at HX ⊢
 clear hgi
 have HRW:=qh (HR.out.below HA.out)
 have jF:Hid (Below B w W):=HA.out.mono yQ.out
 have CC:Hid (∀x,Below W.heap.size W x->x.cell? ⟨gi,1,none⟩=some (.int .i64 (reg:Int))/\x.cell? ⟨gi,3,none⟩=some (.int .i64 ak)/\x.cell? ⟨gi,4,none⟩=some (.int .i64 an)/\x.cell? ⟨gi,5,none⟩=some (.int .u8 ao)/\x.cell? ⟨gi,6,none⟩=some (.slice aa al ac)):=λx hx=>⟨zi hx _ _ (ze HX.out 1),zi hx _ _ (ze HX.out 3),zi hx _ _ (ze HX.out 4),zi hx _ _ (ze HX.out 5),zi hx _ _ (ze HX.out 6)⟩
 refine wp_region_noPanic ?_
 refine yY (n0:=11) (S:=λx=>Below W.heap.size W x) (by kernel_rfl) ((Below.refl _ _).drew) (λhT=> ?_)
 refine zU 0 (λ_=>hT) ?_
 refine zU 1 (λ_=>hT) ?_
 refine jr [10,11] 2 CC.out hT ?_
 refine zU 3 (λ_=>hT) ?_
 refine zU 4 (λ_=>hT) ?_
 refine jr [6,10,11] 5 CC.out hT ?_
 refine zU 7 (λ_=>hT) ?_
 refine zU 8 (λ_=>hT) ?_
 refine zU 9 (λ_=>hT) ?_
 refine vM 6 rfl (λK hK=> ?_)
 go_simp
 refine(HEA.out W.drew _ (HRW.out.below hT) (zD HA.out hT)).mono ?_
 rintro e tw6 ⟨rfl,hb⟩
 have wT:Below W.heap.size W tw6:=zD hT hb
 refine hK.out _ _ (λ_ _=>wT) ?_
 clear hK K hb hT
 refine zU 10 (λ_=>wT) ?_
 refine vM 11 rfl (λK hK=> ?_)
 obtain⟨q0,q1⟩:=(HRW.out.below wT).zdE hr4
 go_simp
 refine hK.out _ _ (λh=>absurd rfl h) ?_
 clear hK K
 refine xG (by kernel_rfl) ?_ _
 refine NoPanic.normal ?_
 clear q0 q1
 have HR2:=qh ((HRW.out.below wT).zf2 reg hr4 va)
 have HB2:Hid (Below B w (tw6.setCell ⟨gr,1+reg,none⟩ (.int .i64 va))):=(jF.out.trans (wT.mono (Nat.le_trans yQ.out HA.out.size))).setCell (p:=⟨gr,1+reg,none⟩) HRW.out.base _
 go_wp2_with fail
 go_ret
 rw [zQ.out]
 exact zdF HR2.out HB2.out
theorem zrJ {w:World} {B gr mb mc:Nat} {pc r0 r1 r2 r3 dom:Int} {buf:List zl} {bv:Value} {m:zG} {mem:List Int} {bad:Bool} (h:xE v0 w B gr pc r0 r1 r2 r3 buf bv m dom mem mb mc bad) (hB:B<=w.heap.size) (hd1:1<=dom) (hd2:dom<=1000) (d:Nat) (x:zV) (ka kb:Value) (ha:zF d w x.a ka) (hb:zF d w x.b kb)
  (qd:0<=x.reg/\x.reg<4) (hvar:0<=x.var/\x.var<(mem.length:Int)) (hbl:buf.length<=1000000):Calls Tryz.prog 126 #[.pointer (some ⟨gr,0,none⟩),qH x ka kb] w λe w'=>
  qK v0 w B gr m dom mb mc (if buf.length=0/\mem.getD x.var.toNat 0=0 then some (⟨pc, [r0,r1,r2,r3],buf⟩,mem.set x.var.toNat 1,bad) else none) e w':=by
 obtain⟨aa,ac,rfl, -⟩:=ha.slice
 obtain⟨ba,bc,rfl, -⟩:=hb.slice
 obtain⟨ua,uc,rfl, -⟩:=zh.slice h.vB
 obtain⟨op,reg,v,a,b,yH⟩:=x
 simp only [] at qd hvar ha hb ⊢
 obtain⟨reg,rfl⟩:∃k:Nat,reg=(k:Int):=⟨reg.toNat,by omega⟩
 obtain⟨v,rfl⟩:∃k:Nat,v=(k:Int):=⟨v.toNat,by omega⟩
 have hr4:reg<4:=by omega
 have ug:v<mem.length:=by omega
 have uX:(v:Int)<(mem.length:Int):=hvar.2
 have hrI:(reg:Int)<4:=qd.2
 try simp only [Int.toNat_natCast]
 clear ha hb
 unfold qH
 simp only []
 generalize a.kind=ak at ⊢
 generalize a.n=an at ⊢
 generalize a.op=ao at ⊢
 generalize a.kids.length=al at ⊢
 generalize b.kind=bk at ⊢
 generalize b.n=bn at ⊢
 generalize b.op=bo at ⊢
 generalize b.kids.length=bl at ⊢
 obtain⟨res,hres⟩:∃r:Option (zy × List Int × Bool),r=(if buf.length=0/\mem.getD v 0=0 then some (⟨pc, [r0,r1,r2,r3],buf⟩,mem.set v 1,bad) else none):=⟨_,rfl⟩
 rw [<-hres]
 have zQ:=qh hres
 clear hres
 obtain⟨un,hun⟩:∃n,n=buf.length:=⟨_,rfl⟩
 rw [<-hun] at h hbl
 have HUN:=qh hun
 have HR:=qh h
 have yQ:=qh hB
 have HA:=qh ((Below.refl w.heap.size w).alloc (Nat.le_refl _) (.cells #[.int .i64 op, .int .i64 (reg:Int), .int .i64 (v:Int), .int .i64 ak, .int .i64 an, .int .u8 ao, .slice aa al ac, .int .i64 bk, .int .i64 bn, .int .u8 bo, .slice ba bl bc, .int .i64 yH] 60))
 have HX:=qh (yh w (.cells #[.int .i64 op, .int .i64 (reg:Int), .int .i64 (v:Int), .int .i64 ak, .int .i64 an, .int .u8 ao, .slice aa al ac, .int .i64 bk, .int .i64 bn, .int .u8 bo, .slice ba bl bc, .int .i64 yH] 60))
 clear h hun hB
 go_enter Tryz.func126,Tryz.ntmps126
 go_upto_region 1 with fail
 generalize World.alloc w _=W at HA HX ⊢
 obtain⟨gi,hgi⟩:∃g,g=w.heap.size:=⟨_,rfl⟩
 rw [<-hgi] at HX ⊢
 clear hgi
 have HRW:=qh (HR.out.below HA.out)
 have jF:Hid (Below B w W):=HA.out.mono yQ.out
 have CC:Hid (∀x,Below W.heap.size W x->x.cell? ⟨gi,2,none⟩=some (.int .i64 (v:Int))/\x.cell? ⟨gr,9,none⟩=some (.slice (some ⟨mb,0,none⟩) mem.length mc)/\x.cell? ⟨mb,v,none⟩=some (.int .i64 (mem.getD v 0))):=λx hx=>⟨zi hx _ _ (ze HX.out 2),zi hx _ _ (ze HRW.out.block 9),zi hx _ _ (HRW.out.uQ ug).1⟩
 obtain⟨z,hz⟩:∃z,z=mem.getD v 0:=⟨_,rfl⟩
 rw [<-hz] at CC zQ
 clear hz
 by_cases hz0:z=0
 rotate_left
 ·have hz1:((z:Int)==0)=false:=by simp [hz0]
  have HZ0:=qh hz0
  clear hz0
  refine vD (S:=λx=>Below W.heap.size W x) ((Below.refl _ _).drew) (λhH=> ?_)
  refine zw 0 CC.out ?_
  refine zw 1 CC.out ?_
  refine zw 2 CC.out ?_
  refine zw 3 CC.out ?_
  refine zw 4 CC.out ?_
  refine zw 5 CC.out ?_
  refine zw 6 CC.out ?_
  refine zw 7 CC.out ?_
  refine zw 8 CC.out ?_
  refine zw 9 CC.out ?_
  refine xP ?_
  go_upto_region 2 with fail
  refine wp_region_noPanic ?_
  refine yY (n0:=7) (S:=λx=>Below W.heap.size W x) (by kernel_rfl) ((Below.refl _ _).drew.drew) (λhT=> ?_)
  refine zU 0 (λ_=>hT) ?_
  refine zU 1 (λ_=>hT) ?_
  refine zU 2 (λ_=>hT) ?_
  refine jr [6,7] 3 CC.out hT ?_
  refine zU 4 (λ_=>hT) ?_
  refine jr [6,7] 5 CC.out hT ?_
  refine zU 6 (λ_=>hT) ?_
  refine vM 7 rfl (λK hK=> ?_)
  obtain⟨q0,q1⟩:=(HRW.out.below (Below.refl _ _).drew.drew).uQ ug
  go_simp
  refine hK.out _ _ (λh=>absurd rfl h) ?_
  clear hK K
  refine xG (by kernel_rfl) ?_ _
  refine NoPanic.normal ?_
  clear q0 q1
  have HR2:=qh ((HRW.out.below (Below.refl _ _).drew.drew).zd4 v 1)
  have HB2:Hid (Below B w (W.drew.drew.setCell ⟨mb,v,none⟩ (.int .i64 1))):=jF.out.drew.drew.setCell (p:=⟨mb,v,none⟩) HRW.out.gN.1 _
  go_wp2_with fail
  go_ret
  rw [zQ.out,if_neg (λh=>HZ0.out h.2)]
  exact gu HB2.out
 have hz1:((z:Int)==0)=true:=by simp [hz0]
 have HZ0:=qh hz0
 clear hz0
 refine vD (S:=λx=>Below W.heap.size W x) ((Below.refl _ _).drew) (λhH=> ?_)
 refine zw 0 CC.out ?_
 refine zw 1 CC.out ?_
 refine zw 2 CC.out ?_
 refine zw 3 CC.out ?_
 refine zw 4 CC.out ?_
 refine zw 5 CC.out ?_
 refine zw 6 CC.out ?_
 refine zw 7 CC.out ?_
 refine zw 8 CC.out ?_
 refine zw 9 CC.out ?_
 refine xP ?_
 go_upto_region 2 with fail
 refine wp_region_noPanic ?_
 refine yY (n0:=7) (S:=λx=>Below W.heap.size W x) (by kernel_rfl) ((Below.refl _ _).drew.drew) (λhT=> ?_)
 refine zU 0 (λ_=>hT) ?_
 refine zU 1 (λ_=>hT) ?_
 refine zU 2 (λ_=>hT) ?_
 refine jr [6,7] 3 CC.out hT ?_
 refine zU 4 (λ_=>hT) ?_
 refine jr [6,7] 5 CC.out hT ?_
 refine zU 6 (λ_=>hT) ?_
 refine vM 7 rfl (λK hK=> ?_)
 obtain⟨q0,q1⟩:=(HRW.out.below (Below.refl _ _).drew.drew).uQ ug
 go_simp
 refine hK.out _ _ (λh=>absurd rfl h) ?_
 clear hK K
 refine xG (by kernel_rfl) ?_ _
 refine NoPanic.normal ?_
 clear q0 q1
 have HR2:=qh ((HRW.out.below (Below.refl _ _).drew.drew).zd4 v 1)
 have HB2:Hid (Below B w (W.drew.drew.setCell ⟨mb,v,none⟩ (.int .i64 1))):=jF.out.drew.drew.setCell (p:=⟨mb,v,none⟩) HRW.out.gN.1 _
 go_wp2_with fail
 refine(pV HR2.out).mono ?_
 rintro e w3 ⟨rfl,rfl⟩
 by_cases hz:buf.length=0
 ·have HZ:=qh hz
  have hz1:decide (buf.length=0)=true:=decide_eq_true hz
  clear hz
  rw [hz1]
  go_wp2_with fail
  go_ret
  rw [zQ.out,if_pos ⟨HZ.out,HZ0.out⟩]
  exact j5 HR2.out HB2.out
 have HZ:=qh hz
 have hz1:decide (buf.length=0)=false:=decide_eq_false hz
 clear hz
 rw [hz1]
 go_wp2_with fail
 go_ret
 rw [zQ.out,if_neg (λh=>HZ.out h.1)]
 exact gu HB2.out
theorem zrK {w:World} {B gr mb mc:Nat} {pc r0 r1 r2 r3 dom:Int} {buf:List zl} {bv:Value} {m:zG} {mem:List Int} {bad:Bool} (h:xE v0 w B gr pc r0 r1 r2 r3 buf bv m dom mem mb mc bad) (hB:B<=w.heap.size) (hd1:1<=dom) (hd2:dom<=1000) (d:Nat) (x:zV) (ka kb:Value) (ha:zF d w x.a ka) (hb:zF d w x.b kb)
  (qd:0<=x.reg/\x.reg<4) (hvar:0<=x.var/\x.var<(mem.length:Int)) (hbl:buf.length<=1000000):Calls Tryz.prog 120 #[.pointer (some ⟨gr,0,none⟩),qH x ka kb] w λe w'=>
  qK v0 w B gr m dom mb mc (some (⟨pc, [r0,r1,r2,r3].set x.reg.toNat ((gG buf x.var).getD (mem.getD x.var.toNat 0)),buf⟩,mem,bad)) e w':=by
 obtain⟨aa,ac,rfl, -⟩:=ha.slice
 obtain⟨ba,bc,rfl, -⟩:=hb.slice
 obtain⟨ua,uc,rfl, -⟩:=zh.slice h.vB
 obtain⟨op,reg,v,a,b,yH⟩:=x
 simp only [] at qd hvar ha hb ⊢
 obtain⟨reg,rfl⟩:∃k:Nat,reg=(k:Int):=⟨reg.toNat,by omega⟩
 obtain⟨v,rfl⟩:∃k:Nat,v=(k:Int):=⟨v.toNat,by omega⟩
 have hr4:reg<4:=by omega
 have ug:v<mem.length:=by omega
 have uX:(v:Int)<(mem.length:Int):=hvar.2
 have hrI:(reg:Int)<4:=qd.2
 try simp only [Int.toNat_natCast]
 clear ha hb
 unfold qH
 simp only []
 generalize a.kind=ak at ⊢
 generalize a.n=an at ⊢
 generalize a.op=ao at ⊢
 generalize a.kids.length=al at ⊢
 generalize b.kind=bk at ⊢
 generalize b.n=bn at ⊢
 generalize b.op=bo at ⊢
 generalize b.kids.length=bl at ⊢
 obtain⟨res,hres⟩:∃r:Option (zy × List Int × Bool),r=(some (⟨pc, [r0,r1,r2,r3].set reg ((gG buf (v:Int)).getD (mem.getD v 0)),buf⟩,mem,bad)):=⟨_,rfl⟩
 rw [<-hres]
 have zQ:=qh hres
 clear hres
 obtain⟨un,hun⟩:∃n,n=buf.length:=⟨_,rfl⟩
 rw [<-hun] at h hbl
 have HUN:=qh hun
 have HR:=qh h
 have yQ:=qh hB
 have HA:=qh ((Below.refl w.heap.size w).alloc (Nat.le_refl _) (.cells #[.int .i64 op, .int .i64 (reg:Int), .int .i64 (v:Int), .int .i64 ak, .int .i64 an, .int .u8 ao, .slice aa al ac, .int .i64 bk, .int .i64 bn, .int .u8 bo, .slice ba bl bc, .int .i64 yH] 60))
 have HX:=qh (yh w (.cells #[.int .i64 op, .int .i64 (reg:Int), .int .i64 (v:Int), .int .i64 ak, .int .i64 an, .int .u8 ao, .slice aa al ac, .int .i64 bk, .int .i64 bn, .int .u8 bo, .slice ba bl bc, .int .i64 yH] 60))
 clear h hun hB
 go_enter Tryz.func120,Tryz.ntmps120
 go_upto_region 1 with fail
 generalize World.alloc w _=W at HA HX ⊢
 obtain⟨gi,hgi⟩:∃g,g=w.heap.size:=⟨_,rfl⟩
 rw [<-hgi] at HX ⊢
 clear hgi
 have HRW:=qh (HR.out.below HA.out)
 have jF:Hid (Below B w W):=HA.out.mono yQ.out
 have CC:Hid (∀x,Below W.heap.size W x->x.cell? ⟨gi,1,none⟩=some (.int .i64 (reg:Int))/\x.cell? ⟨gi,2,none⟩=some (.int .i64 (v:Int))/\x.cell? ⟨gr,5,none⟩=some (.slice ua un uc)/\x.cell? ⟨gr,9,none⟩=some (.slice (some ⟨mb,0,none⟩) mem.length mc)/\x.cell? ⟨mb,v,none⟩=some (.int .i64 (mem.getD v 0))):=λx hx=>⟨zi hx _ _ (ze HX.out 1),zi hx _ _ (ze HX.out 2),zi hx _ _ (ze HRW.out.block 5),zi hx _ _ (ze HRW.out.block 9),zi hx _ _ (HRW.out.uQ ug).1⟩
 obtain⟨lk,hlk⟩:∃k,k=gG buf (v:Int):=⟨_,rfl⟩
 have zwP:Hid (∀x,Below W.heap.size W x->Calls Tryz.prog 155 #[.slice ua un uc, .int .i64 (v:Int)] x λe w'=>e= .returned (.tuple #[.int .i64 (lk.getD 0), .bool lk.isSome])/\Below x.heap.size x w'):=λx hx=>by rw [hlk];exact zrL x _ buf (HRW.out.below hx).vB (by rw [<-HUN.out];exact hbl) v
 obtain⟨z,hz⟩:∃z,z=mem.getD v 0:=⟨_,rfl⟩
 rw [<-hz] at CC zQ
 rw [<-hlk] at zQ
 clear hz hlk
 cases lk with
 |some y=>
  refine vD (S:=λx=>Below W.heap.size W x) ((Below.refl _ _).drew) (λhH=> ?_)
  refine zw 0 CC.out ?_
  refine zw 1 CC.out ?_
  refine zw 2 CC.out ?_
  refine zw 3 CC.out ?_
  refine zw 4 CC.out ?_
  refine zw 5 CC.out ?_
  refine zw 6 CC.out ?_
  refine yj 7 rfl (λK hK=> ?_)
  go_simp
  refine(zwP.out W.drew hH).mono ?_
  rintro e zzH ⟨rfl,hb⟩
  have zwQ:Below W.heap.size W zzH:=zD hH hb
  refine hK.out _ _ zwQ (λ_=> ?_)
  clear hK K hb hH
  refine zw 8 CC.out ?_
  refine zw 9 CC.out ?_
  refine zw 10 CC.out ?_
  refine zw 11 CC.out ?_
  refine zw 12 CC.out ?_
  refine xP ?_
  go_upto_region 4 with fail
  refine wp_region_noPanic ?_
  refine yY (n0:=8) (S:=λx=>Below W.heap.size W x) (by kernel_rfl) ((zD zwQ (Below.refl _ _).drew)) (λxY=> ?_)
  refine zU 0 (λ_=>xY) ?_
  refine zU 1 (λ_=>xY) ?_
  refine jr [7,8] 2 CC.out xY ?_
  refine zU 3 (λ_=>xY) ?_
  refine zU 4 (λ_=>xY) ?_
  refine zU 5 (λ_=>xY) ?_
  refine zU 6 (λ_=>xY) ?_
  refine zU 7 (λ_=>xY) ?_
  refine vM 8 rfl (λK hK=> ?_)
  obtain⟨q0,q1⟩:=(HRW.out.below xY).zdE hr4
  go_simp
  refine hK.out _ _ (λh=>absurd rfl h) ?_
  clear hK K
  refine xG (by kernel_rfl) ?_ _
  refine NoPanic.normal ?_
  clear q0 q1
  have HR2:=qh ((HRW.out.below xY).zf2 reg hr4 y)
  have HB2:Hid (Below B w (zzH.drew.setCell ⟨gr,1+reg,none⟩ (.int .i64 y))):=(jF.out.trans (xY.mono (Nat.le_trans yQ.out HA.out.size))).setCell (p:=⟨gr,1+reg,none⟩) HRW.out.base _
  go_wp2_with fail
  go_ret
  rw [zQ.out]
  exact zdF HR2.out HB2.out
 |none=>
 refine vD (S:=λx=>Below W.heap.size W x) ((Below.refl _ _).drew) (λhH=> ?_)
 refine zw 0 CC.out ?_
 refine zw 1 CC.out ?_
 refine zw 2 CC.out ?_
 refine zw 3 CC.out ?_
 refine zw 4 CC.out ?_
 refine zw 5 CC.out ?_
 refine zw 6 CC.out ?_
 refine yj 7 rfl (λK hK=> ?_)
 go_simp
 refine(zwP.out W.drew hH).mono ?_
 rintro e zzI ⟨rfl,hb⟩
 have zp7:Below W.heap.size W zzI:=zD hH hb
 refine hK.out _ _ zp7 (λ_=> ?_)
 clear hK K hb hH
 refine zw 8 CC.out ?_
 refine zw 9 CC.out ?_
 refine zw 10 CC.out ?_
 refine zw 11 CC.out ?_
 refine zw 12 CC.out ?_
 refine xP ?_
 go_upto_region 3 with fail
 refine vD (S:=λx=>Below W.heap.size W x) ((zD zp7 (Below.refl _ _).drew)) (λhK3=> ?_)
 refine zw 0 CC.out ?_
 refine zw 1 CC.out ?_
 refine zw 2 CC.out ?_
 refine zw 3 CC.out ?_
 refine zw 4 CC.out ?_
 refine zw 5 CC.out ?_
 refine zw 6 CC.out ?_
 refine zw 7 CC.out ?_
 refine zw 8 CC.out ?_
 refine xP ?_
 go_upto_region 4 with fail
 refine wp_region_noPanic ?_
 refine yY (n0:=8) (S:=λx=>Below W.heap.size W x) (by kernel_rfl) ((zD zp7 (Below.refl _ _).drew.drew)) (λxY=> ?_)
 refine zU 0 (λ_=>xY) ?_
 refine zU 1 (λ_=>xY) ?_
 refine jr [7,8] 2 CC.out xY ?_
 refine zU 3 (λ_=>xY) ?_
 refine zU 4 (λ_=>xY) ?_
 refine zU 5 (λ_=>xY) ?_
 refine zU 6 (λ_=>xY) ?_
 refine zU 7 (λ_=>xY) ?_
 refine vM 8 rfl (λK hK=> ?_)
 obtain⟨q0,q1⟩:=(HRW.out.below xY).zdE hr4
 go_simp
 refine hK.out _ _ (λh=>absurd rfl h) ?_
 clear hK K
 refine xG (by kernel_rfl) ?_ _
 refine NoPanic.normal ?_
 clear q0 q1
 have HR2:=qh ((HRW.out.below xY).zf2 reg hr4 z)
 have HB2:Hid (Below B w (zzI.drew.drew.setCell ⟨gr,1+reg,none⟩ (.int .i64 z))):=(jF.out.trans (xY.mono (Nat.le_trans yQ.out HA.out.size))).setCell (p:=⟨gr,1+reg,none⟩) HRW.out.base _
 go_wp2_with fail
 go_ret
 rw [zQ.out]
 exact zdF HR2.out HB2.out
