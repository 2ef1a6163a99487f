/- Steps. -/
import Derived.Test.YtnhahkiojbanfaaGreatDoorRyPWays2
set_option linter.all false
namespace Go.Proofs.YtnhahkiojbanfaaGreatDoor
open Go.RowKit
set_option maxRecDepth 100000
set_option maxHeartbeats 16000000
variable {v0:Value}
theorem zuE {w:World} {B gr mb mc:Nat} {pc r0 r1 r2 r3 dom:Int} {buf:List zl} {bv:Value} {m:zG} {mem:List Int} {bad:Bool} (h:xE v0 w B gr pc r0 r1 r2 r3 buf bv m dom mem mb mc bad) (hB:B<=w.heap.size) (hd1:1<=dom) (hd2:dom<=1000) (d:Nat) (x:zV) (ka kb:Value) (ha:zF d w x.a ka) (hb:zF d w x.b kb)
  (qd:0<=x.reg/\x.reg<4) (hvar:0<=x.var/\x.var<(mem.length:Int)) (hbl:buf.length<=1000000):Calls Tryz.prog 125 #[.pointer (some ⟨gr,0,none⟩),qH x ka kb] w λe w'=>
  qK v0 w B gr m dom mb mc (if mem.getD x.var.toNat 0=yu [r0,r1,r2,r3] dom d x.a then(if buf.length=0 then some (⟨pc, [r0,r1,r2,r3].set x.reg.toNat 1,buf⟩,mem.set x.var.toNat (yu [r0,r1,r2,r3] dom d x.b),bad) else none) else(if buf.length=0 then some (⟨pc, [r0,r1,r2,r3].set x.reg.toNat 0,buf⟩,mem,bad) else none)) e w':=by
 have yg:=λW V (hV:xE v0 W B gr pc r0 r1 r2 r3 buf V m dom mem mb mc bad) (hW:Below w.heap.size w W)=>zaE hV hd1 hd2 d x.a ka (ha.below hW)
 have heb:=λW V (hV:xE v0 W B gr pc r0 r1 r2 r3 buf V m dom mem mb mc bad) (hW:Below w.heap.size w W)=>zaE hV hd1 hd2 d x.b kb (hb.below hW)
 obtain⟨aa,ac,rfl, -⟩:=ha.slice
 obtain⟨ba,bc,rfl, -⟩:=hb.slice
 obtain⟨ua,uc,rfl, -⟩:=zh.slice h.vB
 obtain⟨op,reg,v,a,b,yH⟩:=x
 simp only [] at qd hvar ha hb yg heb ⊢
 obtain⟨reg,rfl⟩:∃k:Nat,reg=(k:Int):=⟨reg.toNat,by omega⟩
 obtain⟨v,rfl⟩:∃k:Nat,v=(k:Int):=⟨v.toNat,by omega⟩
 have hr4:reg<4:=by omega
 have ug:v<mem.length:=by omega
 have uX:(v:Int)<(mem.length:Int):=hvar.2
 have hrI:(reg:Int)<4:=qd.2
 try simp only [Int.toNat_natCast]
 clear ha hb
 unfold qH
 simp only []
 unfold qg at yg heb
 generalize hva:yu [r0,r1,r2,r3] dom d a=va at yg ⊢
 clear hva
 generalize hvb:yu [r0,r1,r2,r3] dom d b=vb at heb ⊢
 clear hvb
 generalize a.kind=ak at yg ⊢
 generalize a.n=an at yg ⊢
 generalize a.op=ao at yg ⊢
 generalize a.kids.length=al at yg ⊢
 generalize b.kind=bk at heb ⊢
 generalize b.n=bn at heb ⊢
 generalize b.op=bo at heb ⊢
 generalize b.kids.length=bl at heb ⊢
 have HEA:=qh yg
 clear yg
 have HEB:=qh heb
 clear heb
 obtain⟨res,hres⟩:∃r:Option (zy × List Int × Bool),r=(if mem.getD v 0=va then(if buf.length=0 then some (⟨pc, [r0,r1,r2,r3].set reg 1,buf⟩,mem.set v (vb),bad) else none) else(if buf.length=0 then some (⟨pc, [r0,r1,r2,r3].set reg 0,buf⟩,mem,bad) else none)):=⟨_,rfl⟩
 rw [<-hres]
 have zQ:=qh hres
 clear hres
 obtain⟨un,hun⟩:∃n,n=buf.length:=⟨_,rfl⟩
 rw [<-hun] at h hbl
 have HUN:=qh hun
 have HR:=qh h
 have yQ:=qh hB
 have HA:=qh ((Below.refl w.heap.size w).alloc (Nat.le_refl _) (.cells #[.int .i64 op, .int .i64 (reg:Int), .int .i64 (v:Int), .int .i64 ak, .int .i64 an, .int .u8 ao, .slice aa al ac, .int .i64 bk, .int .i64 bn, .int .u8 bo, .slice ba bl bc, .int .i64 yH] 60))
 have HX:=qh (yh w (.cells #[.int .i64 op, .int .i64 (reg:Int), .int .i64 (v:Int), .int .i64 ak, .int .i64 an, .int .u8 ao, .slice aa al ac, .int .i64 bk, .int .i64 bn, .int .u8 bo, .slice ba bl bc, .int .i64 yH] 60))
 clear h hun hB
 go_enter Tryz.func125,Tryz.ntmps125
 go_upto_region 1 with fail
 generalize World.alloc w _=W at HA HX ⊢
 obtain⟨gi,hgi⟩:∃g,g=w.heap.size:=⟨_,rfl⟩
 rw [<-hgi] at HX ⊢
 have HGI:=qh hgi
 clear hgi
 have HRW:=qh (HR.out.below HA.out)
 have jF:Hid (Below B w W):=HA.out.mono yQ.out
 have CC:Hid (∀x,Below W.heap.size W x->x.cell? ⟨gi,1,none⟩=some (.int .i64 (reg:Int))/\x.cell? ⟨gi,2,none⟩=some (.int .i64 (v:Int))/\x.cell? ⟨gi,3,none⟩=some (.int .i64 ak)/\x.cell? ⟨gi,4,none⟩=some (.int .i64 an)/\x.cell? ⟨gi,5,none⟩=some (.int .u8 ao)/\x.cell? ⟨gi,6,none⟩=some (.slice aa al ac)/\x.cell? ⟨gi,7,none⟩=some (.int .i64 bk)/\x.cell? ⟨gi,8,none⟩=some (.int .i64 bn)/\x.cell? ⟨gi,9,none⟩=some (.int .u8 bo)/\x.cell? ⟨gi,10,none⟩=some (.slice ba bl bc)/\x.cell? ⟨gr,9,none⟩=some (.slice (some ⟨mb,0,none⟩) mem.length mc)/\x.cell? ⟨mb,v,none⟩=some (.int .i64 (mem.getD v 0))):=λx hx=>⟨zi hx _ _ (ze HX.out 1),zi hx _ _ (ze HX.out 2),zi hx _ _ (ze HX.out 3),zi hx _ _ (ze HX.out 4),zi hx _ _ (ze HX.out 5),zi hx _ _ (ze HX.out 6),zi hx _ _ (ze HX.out 7),zi hx _ _ (ze HX.out 8),zi hx _ _ (ze HX.out 9),zi hx _ _ (ze HX.out 10),zi hx _ _ (ze HRW.out.block 9),zi hx _ _ (HRW.out.uQ ug).1⟩
 have HGM:=qh (show gi≠mb by have:=HR.out.gN.2;have:=HGI.out;omega)
 obtain⟨z,hz⟩:∃z,z=mem.getD v 0:=⟨_,rfl⟩
 rw [<-hz] at CC zQ
 clear hz
 refine vD (S:=λx=>Below W.heap.size W x) ((Below.refl _ _).drew) (λhH=> ?_)
 refine zw 0 CC.out ?_
 refine zw 1 CC.out ?_
 refine zw 2 CC.out ?_
 refine zw 4 CC.out ?_
 refine zw 5 CC.out ?_
 refine zw 6 CC.out ?_
 refine yj 3 rfl (λK hK=> ?_)
 go_simp
 refine(HEA.out W.drew _ (HRW.out.below hH) (zD HA.out hH)).mono ?_
 rintro e hw3 ⟨rfl,hb⟩
 have zml:Below W.heap.size W hw3:=zD hH hb
 refine hK.out _ _ zml (λ_=> ?_)
 clear hK K hb hH
 refine yj 7 rfl (λK hK=> ?_)
 go_simp
 refine(HEB.out hw3 _ (HRW.out.below zml) (zD HA.out zml)).mono ?_
 rintro e hw7 ⟨rfl,hb⟩
 have wu:Below W.heap.size W hw7:=zD zml hb
 refine hK.out _ _ wu (λ_=> ?_)
 clear hK K hb zml
 refine zw 8 CC.out ?_
 refine zw 9 CC.out ?_
 refine zw 10 CC.out ?_
 refine xP ?_
 go_upto_region 2 with fail
 by_cases hz0:z=va
 rotate_left
 ·have hz1:((z:Int)==va)=false:=by simp [hz0]
  have HZ0:=qh hz0
  clear hz0
  refine vD (S:=λx=>Below W.heap.size W x) ((zD wu (Below.refl _ _).drew)) (λhK2=> ?_)
  refine zw 0 CC.out ?_
  refine zw 1 CC.out ?_
  refine zw 2 CC.out ?_
  refine zw 3 CC.out ?_
  refine zw 4 CC.out ?_
  refine zw 5 CC.out ?_
  refine zw 6 CC.out ?_
  refine zw 7 CC.out ?_
  refine zw 8 CC.out ?_
  refine zw 9 CC.out ?_
  refine xP ?_
  have HR2:=qh (HRW.out.below (zD wu (Below.refl _ _).drew))
  have HB2:Hid (Below B w hw7.drew):=jF.out.trans ((zD wu (Below.refl _ _).drew).mono (Nat.le_trans yQ.out HA.out.size))
  have HS2:Hid (Since (λk=>k=mb) W hw7.drew):=qF _ (zD wu (Below.refl _ _).drew)
  go_upto_region 4 with fail
  generalize World.drew _=W4 at HR2 HB2 HS2 ⊢
  have C4:Hid (∀x,Below W4.heap.size W4 x->x.cell? ⟨gi,1,none⟩=some (.int .i64 (reg:Int))):=λx hx=>zi hx _ _ ((HS2.out.cell (p:=⟨gi,1,none⟩) (zx HX.out) (λe=>HGM.out e)).trans (ze HX.out 1))
  refine wp_region_noPanic ?_
  refine yY (n0:=8) (S:=λx=>Below W4.heap.size W4 x) (by kernel_rfl) ((Below.refl _ _).drew) (λxY=> ?_)
  refine zU 0 (λ_=>xY) ?_
  refine zU 1 (λ_=>xY) ?_
  refine jr [7,8] 2 C4.out xY ?_
  refine zU 3 (λ_=>xY) ?_
  refine zU 4 (λ_=>xY) ?_
  refine zU 5 (λ_=>xY) ?_
  refine zU 6 (λ_=>xY) ?_
  refine zU 7 (λ_=>xY) ?_
  refine vM 8 rfl (λK hK=> ?_)
  obtain⟨q0,q1⟩:=(HR2.out.below xY).zdE hr4
  go_simp
  refine hK.out _ _ (λh=>absurd rfl h) ?_
  clear hK K
  refine xG (by kernel_rfl) ?_ _
  refine NoPanic.normal ?_
  clear q0 q1
  have HR3:=qh ((HR2.out.below xY).zf2 reg hr4 0)
  have HB3:Hid (Below B w (W4.drew.setCell ⟨gr,1+reg,none⟩ (.int .i64 0))):=HB2.out.drew.setCell (p:=⟨gr,1+reg,none⟩) HRW.out.base _
  go_wp2_with fail
  refine(pV HR3.out).mono ?_
  rintro e w9 ⟨rfl,rfl⟩
  by_cases hz:buf.length=0
  ·have HZ:=qh hz
   have hz1:decide (buf.length=0)=true:=decide_eq_true hz
   clear hz
   rw [hz1]
   go_wp2_with fail
   go_ret
   rw [zQ.out,if_neg HZ0.out,if_pos HZ.out]
   exact zdF HR3.out HB3.out
  have HZ:=qh hz
  have hz1:decide (buf.length=0)=false:=decide_eq_false hz
  clear hz
  rw [hz1]
  go_wp2_with fail
  go_ret
  rw [zQ.out,if_neg HZ0.out,if_neg HZ.out]
  exact gu HB3.out
 have hz1:((z:Int)==va)=true:=by simp [hz0]
 have HZ0:=qh hz0
 clear hz0
 refine vD (S:=λx=>Below W.heap.size W x) ((zD wu (Below.refl _ _).drew)) (λhK2=> ?_)
 refine zw 0 CC.out ?_
 refine zw 1 CC.out ?_
 refine zw 2 CC.out ?_
 refine zw 3 CC.out ?_
 refine zw 4 CC.out ?_
 refine zw 5 CC.out ?_
 refine zw 6 CC.out ?_
 refine zw 7 CC.out ?_
 refine zw 8 CC.out ?_
 refine zw 9 CC.out ?_
 refine xP ?_
 go_upto_region 3 with fail
 refine wp_region_noPanic ?_
 refine yY (n0:=8) (S:=λx=>Below W.heap.size W x) (by kernel_rfl) ((zD wu (Below.refl _ _).drew.drew)) (λje=> ?_)
 refine zU 0 (λ_=>je) ?_
 refine zU 1 (λ_=>je) ?_
 refine zU 2 (λ_=>je) ?_
 refine jr [7,8,9] 3 CC.out je ?_
 refine zU 4 (λ_=>je) ?_
 refine jr [7,8,9] 5 CC.out je ?_
 refine zU 6 (λ_=>je) ?_
 refine zU 7 (λ_=>je) ?_
 refine vM 8 rfl (λK hK=> ?_)
 obtain⟨q0,q1⟩:=(HRW.out.below je).uQ ug
 go_simp
 refine hK.out _ _ (λh=>absurd rfl h) ?_
 clear hK K
 refine zU 9 (λh=>absurd h (by decide+kernel)) ?_
 refine xG (by kernel_rfl) ?_ _
 refine NoPanic.normal ?_
 clear q0 q1
 have HR2:=qh ((HRW.out.below je).zd4 v vb)
 have HB2:Hid (Below B w (hw7.drew.drew.setCell ⟨mb,v,none⟩ (.int .i64 vb))):=(jF.out.trans (je.mono (Nat.le_trans yQ.out HA.out.size))).setCell (p:=⟨mb,v,none⟩) HRW.out.gN.1 _
 have HS2:Hid (Since (λk=>k=mb) W (hw7.drew.drew.setCell ⟨mb,v,none⟩ (.int .i64 vb))):=(qF _ je).trans (Since.setCell (F:=λk=>k=mb) (p:=⟨mb,v,none⟩) (Since.refl _ _) (.inl rfl) _) (λ_ h=> .inl h)
 go_upto_region 4 with fail
 have eW:hw7.drew.drew.setCell ⟨mb,v,none⟩ (.int .i64 vb)=(hw7.setCell ⟨mb,v,none⟩ (.int .i64 vb)).drew.drew:=rfl
 rw [eW] at HR2 HB2 HS2
 clear eW
 generalize (World.setCell hw7 ⟨mb,v,none⟩ (.int .i64 vb)).drew.drew=W4 at HR2 HB2 HS2 ⊢
 have C4:Hid (∀x,Below W4.heap.size W4 x->x.cell? ⟨gi,1,none⟩=some (.int .i64 (reg:Int))):=λx hx=>zi hx _ _ ((HS2.out.cell (p:=⟨gi,1,none⟩) (zx HX.out) (λe=>HGM.out e)).trans (ze HX.out 1))
 refine wp_region_noPanic ?_
 refine yY (n0:=8) (S:=λx=>Below W4.heap.size W4 x) (by kernel_rfl) ((Below.refl _ _).drew) (λxY=> ?_)
 refine zU 0 (λ_=>xY) ?_
 refine zU 1 (λ_=>xY) ?_
 refine jr [7,8] 2 C4.out xY ?_
 refine zU 3 (λ_=>xY) ?_
 refine zU 4 (λ_=>xY) ?_
 refine zU 5 (λ_=>xY) ?_
 refine zU 6 (λ_=>xY) ?_
 refine zU 7 (λ_=>xY) ?_
 refine vM 8 rfl (λK hK=> ?_)
 obtain⟨q0,q1⟩:=(HR2.out.below xY).zdE hr4
 go_simp
 refine hK.out _ _ (λh=>absurd rfl h) ?_
 clear hK K
 refine xG (by kernel_rfl) ?_ _
 refine NoPanic.normal ?_
 clear q0 q1
 have HR3:=qh ((HR2.out.below xY).zf2 reg hr4 1)
 have HB3:Hid (Below B w (W4.drew.setCell ⟨gr,1+reg,none⟩ (.int .i64 1))):=HB2.out.drew.setCell (p:=⟨gr,1+reg,none⟩) HRW.out.base _
 go_wp2_with fail
 refine(pV HR3.out).mono ?_
 rintro e w9 ⟨rfl,rfl⟩
 by_cases hz:buf.length=0
 ·have HZ:=qh hz
  have hz1:decide (buf.length=0)=true:=decide_eq_true hz
  clear hz
  rw [hz1]
  go_wp2_with fail
  go_ret
  rw [zQ.out,if_pos HZ0.out,if_pos HZ.out]
  exact zdF HR3.out HB3.out
 have HZ:=qh hz
 have hz1:decide (buf.length=0)=false:=decide_eq_false hz
 clear hz
 rw [hz1]
 go_wp2_with fail
 go_ret
 rw [zQ.out,if_pos HZ0.out,if_neg HZ.out]
 exact gu HB3.out
end Go.Proofs.YtnhahkiojbanfaaGreatDoor
namespace Go.Proofs.YtnhahkiojbanfaaGreatDoor
open Go.RowKit
set_option maxRecDepth 100000
set_option maxHeartbeats 16000000
variable {v0:Value}
theorem zpO {w:World} {B gr mb mc:Nat} {pc r0 r1 r2 r3 dom:Int} {buf:List zl} {bv:Value} {m:zG} {mem:List Int} {bad:Bool} (h:xE v0 w B gr pc r0 r1 r2 r3 buf bv m dom mem mb mc bad) (hB:B<=w.heap.size) (hd1:1<=dom) (hd2:dom<=1000) (d:Nat) (x:zV) (ka kb:Value) (ha:zF d w x.a ka) (hb:zF d w x.b kb)
  (qd:0<=x.reg/\x.reg<4) (hvar:0<=x.var/\x.var<(mem.length:Int)) (hbl:buf.length<=1000000):Calls Tryz.prog 121 #[.pointer (some ⟨gr,0,none⟩),qH x ka kb] w λe w'=>
  qK v0 w B gr m dom mb mc (if m.model=0 then some (⟨pc, [r0,r1,r2,r3],buf⟩,mem.set x.var.toNat (yu [r0,r1,r2,r3] dom d x.a),bad) else if qR buf m ⟨x.var,yu [r0,r1,r2,r3] dom d x.a⟩=true then some (⟨pc, [r0,r1,r2,r3],jJ buf m ⟨x.var,yu [r0,r1,r2,r3] dom d x.a⟩⟩,mem,bad) else none) e w':=by
 have yg:=λW V (hV:xE v0 W B gr pc r0 r1 r2 r3 buf V m dom mem mb mc bad) (hW:Below w.heap.size w W)=>zaE hV hd1 hd2 d x.a ka (ha.below hW)
 obtain⟨aa,ac,rfl, -⟩:=ha.slice
 obtain⟨ba,bc,rfl, -⟩:=hb.slice
 obtain⟨ua,uc,rfl, -⟩:=zh.slice h.vB
 obtain⟨op,reg,v,a,b,yH⟩:=x
 simp only [] at qd hvar ha hb yg ⊢
 obtain⟨reg,rfl⟩:∃k:Nat,reg=(k:Int):=⟨reg.toNat,by omega⟩
 obtain⟨v,rfl⟩:∃k:Nat,v=(k:Int):=⟨v.toNat,by omega⟩
 have hr4:reg<4:=by omega
 have ug:v<mem.length:=by omega
 have uX:(v:Int)<(mem.length:Int):=hvar.2
 have hrI:(reg:Int)<4:=qd.2
 try simp only [Int.toNat_natCast]
 clear ha hb
 unfold qH
 simp only []
 unfold qg at yg
 generalize hva:yu [r0,r1,r2,r3] dom d a=va at yg ⊢
 clear hva
 generalize a.kind=ak at yg ⊢
 generalize a.n=an at yg ⊢
 generalize a.op=ao at yg ⊢
 generalize a.kids.length=al at yg ⊢
 generalize b.kind=bk at ⊢
 generalize b.n=bn at ⊢
 generalize b.op=bo at ⊢
 generalize b.kids.length=bl at ⊢
 have HEA:=qh yg
 clear yg
 obtain⟨res,hres⟩:∃r:Option (zy × List Int × Bool),r=(if m.model=0 then some (⟨pc, [r0,r1,r2,r3],buf⟩,mem.set v (va),bad) else if qR buf m ⟨(v:Int),va⟩=true then some (⟨pc, [r0,r1,r2,r3],jJ buf m ⟨(v:Int),va⟩⟩,mem,bad) else none):=⟨_,rfl⟩
 rw [<-hres]
 have zQ:=qh hres
 clear hres
 obtain⟨un,hun⟩:∃n,n=buf.length:=⟨_,rfl⟩
 rw [<-hun] at h hbl
 have HUN:=qh hun
 have HR:=qh h
 have yQ:=qh hB
 have HA:=qh ((Below.refl w.heap.size w).alloc (Nat.le_refl _) (.cells #[.int .i64 op, .int .i64 (reg:Int), .int .i64 (v:Int), .int .i64 ak, .int .i64 an, .int .u8 ao, .slice aa al ac, .int .i64 bk, .int .i64 bn, .int .u8 bo, .slice ba bl bc, .int .i64 yH] 60))
 have HX:=qh (yh w (.cells #[.int .i64 op, .int .i64 (reg:Int), .int .i64 (v:Int), .int .i64 ak, .int .i64 an, .int .u8 ao, .slice aa al ac, .int .i64 bk, .int .i64 bn, .int .u8 bo, .slice ba bl bc, .int .i64 yH] 60))
 clear h hun hB
 go_enter Tryz.func121,Tryz.ntmps121
 go_upto_region 1 with fail
 generalize World.alloc w _=W at HA HX ⊢
 obtain⟨gi,hgi⟩:∃g,g=w.heap.size:=⟨_,rfl⟩
 rw [<-hgi] at HX ⊢
 clear hgi
 have HRW:=qh (HR.out.below HA.out)
 have jF:Hid (Below B w W):=HA.out.mono yQ.out
 have CC:Hid (∀x,Below W.heap.size W x->x.cell? ⟨gi,2,none⟩=some (.int .i64 (v:Int))/\x.cell? ⟨gi,3,none⟩=some (.int .i64 ak)/\x.cell? ⟨gi,4,none⟩=some (.int .i64 an)/\x.cell? ⟨gi,5,none⟩=some (.int .u8 ao)/\x.cell? ⟨gi,6,none⟩=some (.slice aa al ac)/\x.cell? ⟨gr,5,none⟩=some (.slice ua un uc)/\x.cell? ⟨gr,6,none⟩=some (.int .i64 m.model)/\x.cell? ⟨gr,7,none⟩=some (.int .i64 m.bound)/\x.cell? ⟨gr,9,none⟩=some (.slice (some ⟨mb,0,none⟩) mem.length mc)):=λx hx=>⟨zi hx _ _ (ze HX.out 2),zi hx _ _ (ze HX.out 3),zi hx _ _ (ze HX.out 4),zi hx _ _ (ze HX.out 5),zi hx _ _ (ze HX.out 6),zi hx _ _ (ze HRW.out.block 5),zi hx _ _ (ze HRW.out.block 6),zi hx _ _ (ze HRW.out.block 7),zi hx _ _ (ze HRW.out.block 9)⟩
 obtain⟨c0,c1,c2,c3,c4,c5,c6,c7,c8⟩:=CC.out W (Below.refl _ _)
 go_wp2_with fail
 refine(HEA.out W _ HRW.out HA.out).mono ?_
 rintro e w2 ⟨rfl,hb2⟩
 have HB2:=qh hb2
 have HR2:=qh (HRW.out.below hb2)
 have HBB:Hid (Below B w w2):=jF.out.trans (hb2.mono (Nat.le_trans yQ.out HA.out.size))
 clear hb2 c0 c1 c2 c3 c4 c5 c6 c7 c8
 have C2:Hid (∀x,Below w2.heap.size w2 x->x.cell? ⟨gi,2,none⟩=some (.int .i64 (v:Int))/\x.cell? ⟨gr,5,none⟩=some (.slice ua un uc)/\x.cell? ⟨gr,6,none⟩=some (.int .i64 m.model)/\x.cell? ⟨gr,7,none⟩=some (.int .i64 m.bound)/\x.cell? ⟨gr,9,none⟩=some (.slice (some ⟨mb,0,none⟩) mem.length mc)):=λx hx=>⟨zi (zD HB2.out hx) _ _ (ze HX.out 2),zi hx _ _ (ze HR2.out.block 5),zi hx _ _ (ze HR2.out.block 6),zi hx _ _ (ze HR2.out.block 7),zi hx _ _ (ze HR2.out.block 9)⟩
 obtain⟨-, -,e6, -, -⟩:=C2.out w2 (Below.refl _ _)
 by_cases hm:m.model=0
 ·have hm1:((m.model:Int)==0)=true:=by simp [hm]
  have HM:=qh hm
  clear hm
  go_upto_region 3 with fail
  clear e6 hm1
  refine wp_region_noPanic ?_
  refine yY (n0:=8) (S:=λx=>Below w2.heap.size w2 x) (by kernel_rfl) ((Below.refl _ _).drew) (λhT=> ?_)
  refine zU 0 (λ_=>hT) ?_
  refine zU 1 (λ_=>hT) ?_
  refine zU 2 (λ_=>hT) ?_
  refine jr [7,8] 3 C2.out hT ?_
  refine zU 4 (λ_=>hT) ?_
  refine jr [7,8] 5 C2.out hT ?_
  refine zU 6 (λ_=>hT) ?_
  refine zU 7 (λ_=>hT) ?_
  refine vM 8 rfl (λK hK=> ?_)
  obtain⟨q0,q1⟩:=(HR2.out.below hT).uQ ug
  go_simp
  refine hK.out _ _ (λh=>absurd rfl h) ?_
  clear hK K
  refine xG (by kernel_rfl) ?_ _
  refine NoPanic.normal ?_
  clear q0 q1
  have HR3:=qh ((HR2.out.below hT).zd4 v va)
  have HB3:Hid (Below B w (w2.drew.setCell ⟨mb,v,none⟩ (.int .i64 va))):=HBB.out.drew.setCell (p:=⟨mb,v,none⟩) HR2.out.gN.1 _
  go_wp2_with fail
  go_ret
  rw [zQ.out,if_pos HM.out]
  exact j5 HR3.out HB3.out
 have hm1:((m.model:Int)==0)=false:=by simp [hm]
 have HM:=qh hm
 clear hm
 have kI:Hid (∀x,Below w2.heap.size w2 x->Calls Tryz.prog 157 #[.slice ua un uc, .agg #[.int .i64 m.model, .int .i64 m.bound], .agg #[.int .i64 (v:Int), .int .i64 va]] x λe w'=>(∃bv',e= .returned (.tuple #[bv', .bool (qR buf m ⟨(v:Int),va⟩)])/\zY w' bv' (jJ buf m ⟨(v:Int),va⟩)/\(qR buf m ⟨(v:Int),va⟩=true->w'.ownsRow x.heap.size 110 2 bv' (jJ buf m ⟨(v:Int),va⟩).length (zo zl.cells (jJ buf m ⟨(v:Int),va⟩))))/\Below x.heap.size x w'):=λx hx=>zuF x _ buf (HR2.out.below hx).vB (by rw [<-HUN.out];exact hbl) m ⟨(v:Int),va⟩
 obtain⟨pb,hpb⟩:∃l,l=jJ buf m ⟨(v:Int),va⟩:=⟨_,rfl⟩
 rw [<-hpb] at kI zQ
 clear hpb
 go_upto_region 5 with fail
 clear e6 hm1
 cases hok:qR buf m ⟨(v:Int),va⟩ with
 |true=>
  rw [hok] at kI zQ
  clear hok
  refine wp_region_noPanic ?_
  refine yY (n0:=21) (S:=λx=>Below w2.heap.size w2 x) (by kernel_rfl) ((Below.refl _ _).drew) (λhT=> ?_)
  refine zU 0 (λ_=>hT) ?_
  refine zU 1 (λ_=>hT) ?_
  refine zU 2 (λ_=>hT) ?_
  refine zU 3 (λ_=>hT) ?_
  refine zU 4 (λ_=>hT) ?_
  refine jr [14,15,16,17,18,19,20,21,22] 5 C2.out hT ?_
  refine zU 6 (λ_=>hT) ?_
  refine zU 7 (λ_=>hT) ?_
  refine zU 8 (λ_=>hT) ?_
  refine jr [14,15,16,17,18,19,20,21,22] 9 C2.out hT ?_
  refine zU 10 (λ_=>hT) ?_
  refine jr [13,14,15,16,17,18,19,20,21,22] 11 C2.out hT ?_
  refine zU 12 (λ_=>hT) ?_
  refine zU 13 (λ_=>hT) ?_
  refine vM 14 rfl (λK hK=> ?_)
  go_simp
  refine(kI.out w2.drew hT).mono ?_
  rintro e zes ⟨⟨bv',rfl,hbf,hrow⟩,hb⟩
  obtain⟨xa,xc,rfl, -⟩:=zh.slice hbf
  have qW:=qh hrow
  clear hbf hrow
  have gU:Below w2.heap.size w2 zes:=zD hT hb
  refine hK.out _ _ (λ_ _=>gU) ?_
  clear hK K hb hT
  refine zU 15 (λ_=>gU) ?_
  refine zU 16 (λ_=>gU) ?_
  refine zU 17 (λ_=>gU) ?_
  refine zU 18 (λ_=>gU) ?_
  refine zU 19 (λ_=>gU) ?_
  refine zU 20 (λ_=>gU) ?_
  refine vM 21 rfl (λK hK=> ?_)
  have kD:=qh ((HR2.out.below gU).block)
  have q0:zes.cell? ⟨gr,5,none⟩=some (.slice ua un uc):=ze kD.out 5
  have q1:zes.frozen? ⟨gr,5,none⟩=false:=zA kD.out 5
  go_simp
  refine hK.out _ _ (λh=>absurd rfl h) ?_
  clear hK K
  refine zU 22 (λh=>absurd h (by decide+kernel)) ?_
  refine xG (by kernel_rfl) ?_ _
  refine NoPanic.normal ?_
  clear q0 q1
  have HB3:Hid (Below B w (zes.setCell ⟨gr,5,none⟩ (.slice xa pb.length xc))):=(HBB.out.trans (gU.mono (Nat.le_trans yQ.out (Nat.le_trans HA.out.size HB2.out.size)))).setCell (p:=⟨gr,5,none⟩) HRW.out.base _
  have HR3:=qh ((HR2.out.below gU).zrc (V:=w2.drew) ⟨zx HR2.out.block,HR2.out.gN.2⟩ (qW.out rfl))
  go_wp2_with fail
  go_ret
  first|rw [zQ.out,if_neg HM.out,if_pos rfl] |rw [zQ.out,if_neg HM.out,if_pos trivial]
  exact j5 HR3.out HB3.out
 |false=>
 rw [hok] at kI zQ
 clear hok
 refine wp_region_noPanic ?_
 refine yY (n0:=21) (S:=λx=>Below w2.heap.size w2 x) (by kernel_rfl) ((Below.refl _ _).drew) (λhT=> ?_)
 refine zU 0 (λ_=>hT) ?_
 refine zU 1 (λ_=>hT) ?_
 refine zU 2 (λ_=>hT) ?_
 refine zU 3 (λ_=>hT) ?_
 refine zU 4 (λ_=>hT) ?_
 refine jr [14,15,16,17,18,19,20,21,22] 5 C2.out hT ?_
 refine zU 6 (λ_=>hT) ?_
 refine zU 7 (λ_=>hT) ?_
 refine zU 8 (λ_=>hT) ?_
 refine jr [14,15,16,17,18,19,20,21,22] 9 C2.out hT ?_
 refine zU 10 (λ_=>hT) ?_
 refine jr [13,14,15,16,17,18,19,20,21,22] 11 C2.out hT ?_
 refine zU 12 (λ_=>hT) ?_
 refine zU 13 (λ_=>hT) ?_
 refine vM 14 rfl (λK hK=> ?_)
 go_simp
 refine(kI.out w2.drew hT).mono ?_
 rintro e zcX ⟨⟨bv',rfl,hbf,hrow⟩,hb⟩
 obtain⟨xa,xc,rfl, -⟩:=zh.slice hbf
 have qW:=qh hrow
 clear hbf hrow
 have gU:Below w2.heap.size w2 zcX:=zD hT hb
 refine hK.out _ _ (λ_ _=>gU) ?_
 clear hK K hb hT
 refine zU 15 (λ_=>gU) ?_
 refine zU 16 (λ_=>gU) ?_
 refine zU 17 (λ_=>gU) ?_
 refine zU 18 (λ_=>gU) ?_
 refine zU 19 (λ_=>gU) ?_
 refine zU 20 (λ_=>gU) ?_
 refine vM 21 rfl (λK hK=> ?_)
 have kD:=qh ((HR2.out.below gU).block)
 have q0:zcX.cell? ⟨gr,5,none⟩=some (.slice ua un uc):=ze kD.out 5
 have q1:zcX.frozen? ⟨gr,5,none⟩=false:=zA kD.out 5
 go_simp
 refine hK.out _ _ (λh=>absurd rfl h) ?_
 clear hK K
 refine zU 22 (λh=>absurd h (by decide+kernel)) ?_
 refine xG (by kernel_rfl) ?_ _
 refine NoPanic.normal ?_
 clear q0 q1
 have HB3:Hid (Below B w (zcX.setCell ⟨gr,5,none⟩ (.slice xa pb.length xc))):=(HBB.out.trans (gU.mono (Nat.le_trans yQ.out (Nat.le_trans HA.out.size HB2.out.size)))).setCell (p:=⟨gr,5,none⟩) HRW.out.base _
 go_wp2_with fail
 go_ret
 rw [zQ.out,if_neg HM.out,if_neg (λh=>by cases h)]
 exact gu HB3.out
end Go.Proofs.YtnhahkiojbanfaaGreatDoor
namespace Go.Proofs.YtnhahkiojbanfaaGreatDoor
open Go.RowKit
set_option maxRecDepth 100000
set_option maxHeartbeats 16000000
variable {v0:Value}
def wyL:List (Int × Value):= [(1, .func (.func 120) #[] #[]),(2, .func (.func 121) #[] #[]),(3, .func (.func 122) #[] #[]),(4, .func (.func 123) #[] #[]),(5, .func (.func 124) #[] #[]),(6, .func (.func 125) #[] #[]),(7, .func (.func 126) #[] #[]),(8, .func (.func 127) #[] #[]),(9, .func (.func 128) #[] #[]),(12, .func (.func 129) #[] #[]),(13, .func (.func 130) #[] #[])]
theorem zra (w:World):Calls Tryz.prog 99 #[] w (zmm wyL w):=by
 have hmm:= @run_makeMap Tryz.prog
 have h0:xL (w.alloc (.map #[] 0)) w.heap.size [] :=⟨#[],0,yh w _,rfl⟩
 have hB0:Below w.heap.size w (w.alloc (.map #[] 0)):=(Below.refl _ _).alloc (Nat.le_refl _) _
 go_enter Tryz.func99,Tryz.ntmps99
 go_wp2_with(refine vI _ rfl _ _ _ 171 rfl 3 170 .i64 Tryz.underlying171 Tryz.underlying3 w.heap.size _ rfl _ rfl _ rfl h0 ?_;clear h0;intro w1 h0 hs1 hz1;replace hB0:=hB0.trans (hs1.below hB0.size (λk hk=>by omega));clear hs1 hz1)
 go_ret
 exact⟨w.heap.size,rfl,h0,Nat.le_refl _,hB0⟩
def zoZ (k:Int):Prop:=k=1\/k=2\/k=3\/k=4\/k=5\/k=6\/k=7\/k=8\/k=9\/k=12\/k=13
theorem ztU {w:World} {B gr mb mc:Nat} {pc r0 r1 r2 r3:Int} {buf:List zl} {bv:Value} {m:zG} {c:zI} {s:zk} (h:xE v0 w B gr (pc+1) r0 r1 r2 r3 buf bv m c.domain s.mem mb mc s.bad) (hB:B<=w.heap.size) (hd1:1<=c.domain) (hd2:c.domain<=1000) (d:Nat) (x:zV) (ka kb:Value) (ha:zF d w x.a ka) (hb:zF d w x.b kb)
  (qd:0<=x.reg/\x.reg<4) (hvar:0<=x.var/\x.var<(s.mem.length:Int)) (hbl:buf.length<=1000000) (hop:zoZ x.op):
  ∃f,vk wyL x.op=some (.func (.func f) #[] #[])/\(∀args W,(callFunc f args).run Tryz.prog W= .ok (.enter f args) W)/\
   Calls Tryz.prog f #[.pointer (some ⟨gr,0,none⟩),qH x ka kb] w λe w'=>qK v0 w B gr m c.domain mb mc (stepT c m s ⟨pc, [r0,r1,r2,r3],buf⟩ x d) e w':=by
 rcases hop with k|k|k|k|k|k|k|k|k|k|k
 ·exact⟨_,by rw [k];rfl,λ_ _=>rfl,by rw [pF k];exact zrK h hB hd1 hd2 d x ka kb ha hb qd hvar hbl⟩
 ·refine⟨_,by rw [k];rfl,λ_ _=>rfl, ?_⟩
  have hw:=zpO h hB hd1 hd2 d x ka kb ha hb qd hvar hbl
  by_cases hm:m.model=0
  ·rw [bF k hm];simp only [if_pos hm] at hw;exact hw
  simp only [if_neg hm] at hw
  cases hp:qR buf m ⟨x.var,yu [r0,r1,r2,r3] c.domain d x.a⟩ with
  |true=>rw [bG k hm hp];simp only [hp,if_true] at hw;exact hw
  |false=>rw [bH k hm hp];simp only [hp,Bool.false_eq_true,if_false] at hw;exact hw
 ·exact⟨_,by rw [k];rfl,λ_ _=>rfl,by rw [zbz k];exact zus h hB hd1 hd2 d x ka kb ha hb qd hvar hbl⟩
 ·exact⟨_,by rw [k];rfl,λ_ _=>rfl,by rw [uO k];exact zpM h hB hd1 hd2 d x ka kb ha hb qd hvar hbl⟩
 ·exact⟨_,by rw [k];rfl,λ_ _=>rfl,by rw [uq k];exact zsg h hB hd1 hd2 d x ka kb ha hb qd hvar hbl⟩
 ·refine⟨_,by rw [k];rfl,λ_ _=>rfl, ?_⟩
  have hw:=zuE h hB hd1 hd2 d x ka kb ha hb qd hvar hbl
  by_cases hv:s.mem.getD x.var.toNat 0=yu [r0,r1,r2,r3] c.domain d x.a
  ·rw [pG k hv];simp only [if_pos hv] at hw;exact hw
  rw [pI k hv];simp only [if_neg hv] at hw;exact hw
 ·exact⟨_,by rw [k];rfl,λ_ _=>rfl,by rw [uw k];exact zrJ h hB hd1 hd2 d x ka kb ha hb qd hvar hbl⟩
 ·exact⟨_,by rw [k];rfl,λ_ _=>rfl,by rw [gI k];exact zn5 h hB hd1 hd2 d x ka kb ha hb qd hvar hbl⟩
 ·exact⟨_,by rw [k];rfl,λ_ _=>rfl,by rw [kZ k];exact zn4 h hB hd1 hd2 d x ka kb ha hb qd hvar hbl⟩
 ·refine⟨_,by rw [k];rfl,λ_ _=>rfl, ?_⟩
  have hw:=zn3 h hB hd1 hd2 d x ka kb ha hb qd hvar hbl
  rw [gJ k]
  by_cases hv:yu [r0,r1,r2,r3] c.domain d x.a=0
  ·simp only [if_pos hv] at hw ⊢;exact hw
  simp only [if_neg hv] at hw ⊢;exact hw
 exact⟨_,by rw [k];rfl,λ_ _=>rfl,by rw [zaN k];exact zsf h hB hd1 hd2 d x ka kb ha hb qd hvar hbl⟩
