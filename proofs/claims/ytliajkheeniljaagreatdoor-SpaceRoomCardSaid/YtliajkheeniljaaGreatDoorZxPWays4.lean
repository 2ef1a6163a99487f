/- Steps. -/
import Derived.Test.YtliajkheeniljaaGreatDoorZxPWays2
set_option linter.all false
namespace Go.Proofs.YtliajkheeniljaaGreatDoor
open Go.RowKit
set_option maxRecDepth 100000
set_option maxHeartbeats 16000000
variable {v0:Value}
theorem zvR {w:World} {B gr mb mc:Nat} {pc r0 r1 r2 r3 dom:Int} {buf:List zo} {bv:Value} {m:zA} {mem:List Int} {bad:Bool} (h:xG v0 w B gr pc r0 r1 r2 r3 buf bv m dom mem mb mc bad) (hB:B<=w.heap.size) (hd1:1<=dom) (hd2:dom<=1000) (d:Nat) (x:zS) (ka kb:Value) (ha:zG d w x.a ka) (hb:zG d w x.b kb)
  (xY:0<=x.reg/\x.reg<4) (hvar:0<=x.var/\x.var<(mem.length:Int)) (hbl:buf.length<=1000000):Calls Tryz.prog 130 #[.pointer (some ⟨gr,0,none⟩),qH x ka kb] w λe w'=>
  qO v0 w B gr m dom mb mc (if mem.getD x.var.toNat 0=yh [r0,r1,r2,r3] dom d x.a then(if buf.length=0 then some (⟨pc, [r0,r1,r2,r3].set x.reg.toNat 1,buf⟩,mem.set x.var.toNat (yh [r0,r1,r2,r3] dom d x.b),bad) else none) else(if buf.length=0 then some (⟨pc, [r0,r1,r2,r3].set x.reg.toNat 0,buf⟩,mem,bad) else none)) e w':=by
 have zZ:=λW V (hV:xG v0 W B gr pc r0 r1 r2 r3 buf V m dom mem mb mc bad) (hW:Below w.heap.size w W)=>za4 hV hd1 hd2 d x.a ka (ha.below hW)
 have heb:=λW V (hV:xG v0 W B gr pc r0 r1 r2 r3 buf V m dom mem mb mc bad) (hW:Below w.heap.size w W)=>za4 hV hd1 hd2 d x.b kb (hb.below hW)
 obtain⟨aa,ac,rfl, -⟩:=ha.slice
 obtain⟨ba,bc,rfl, -⟩:=hb.slice
 obtain⟨ua,uc,rfl, -⟩:=zh.slice h.vG
 obtain⟨op,reg,v,a,b,yJ⟩:=x
 simp only [] at xY hvar ha hb zZ heb ⊢
 obtain⟨reg,rfl⟩:∃k:Nat,reg=(k:Int):=⟨reg.toNat,by omega⟩
 obtain⟨v,rfl⟩:∃k:Nat,v=(k:Int):=⟨v.toNat,by omega⟩
 have hr4:reg<4:=by omega
 have gy:v<mem.length:=by omega
 have uO:(v:Int)<(mem.length:Int):=hvar.2
 have hrI:(reg:Int)<4:=xY.2
 try simp only [Int.toNat_natCast]
 clear ha hb
 unfold qH
 simp only []
 unfold xZ at zZ heb
 generalize hva:yh [r0,r1,r2,r3] dom d a=va at zZ ⊢
 clear hva
 generalize hvb:yh [r0,r1,r2,r3] dom d b=vb at heb ⊢
 clear hvb
 generalize a.kind=ak at zZ ⊢
 generalize a.n=an at zZ ⊢
 generalize a.op=ao at zZ ⊢
 generalize a.kids.length=al at zZ ⊢
 generalize b.kind=bk at heb ⊢
 generalize b.n=bn at heb ⊢
 generalize b.op=bo at heb ⊢
 generalize b.kids.length=bl at heb ⊢
 have HEA:=qh zZ
 clear zZ
 have HEB:=qh heb
 clear heb
 obtain⟨res,hres⟩:∃r:Option (zy × List Int × Bool),r=(if mem.getD v 0=va then(if buf.length=0 then some (⟨pc, [r0,r1,r2,r3].set reg 1,buf⟩,mem.set v (vb),bad) else none) else(if buf.length=0 then some (⟨pc, [r0,r1,r2,r3].set reg 0,buf⟩,mem,bad) else none)):=⟨_,rfl⟩
 rw [<-hres]
 have zQ:=qh hres
 clear hres
 obtain⟨un,hun⟩:∃n,n=buf.length:=⟨_,rfl⟩
 rw [<-hun] at h hbl
 have HUN:=qh hun
 have HR:=qh h
 have yj:=qh hB
 have HA:=qh ((Below.refl w.heap.size w).alloc (Nat.le_refl _) (.cells #[.int .i64 op, .int .i64 (reg:Int), .int .i64 (v:Int), .int .i64 ak, .int .i64 an, .int .u8 ao, .slice aa al ac, .int .i64 bk, .int .i64 bn, .int .u8 bo, .slice ba bl bc, .int .i64 yJ] 64))
 have HX:=qh (yt w (.cells #[.int .i64 op, .int .i64 (reg:Int), .int .i64 (v:Int), .int .i64 ak, .int .i64 an, .int .u8 ao, .slice aa al ac, .int .i64 bk, .int .i64 bn, .int .u8 bo, .slice ba bl bc, .int .i64 yJ] 64))
 clear h hun hB
 go_enter Tryz.func130,Tryz.ntmps130
 go_upto_region 1 with fail
 generalize World.alloc w _=W at HA HX ⊢
 obtain⟨gi,hgi⟩:∃g,g=w.heap.size:=⟨_,rfl⟩
 rw [<-hgi] at HX ⊢
 have HGI:=qh hgi
 clear hgi
 have HRW:=qh (HR.out.below HA.out)
 have jG:Hid (Below B w W):=HA.out.mono yj.out
 have CC:Hid (∀x,Below W.heap.size W x->x.cell? ⟨gi,1,none⟩=some (.int .i64 (reg:Int))/\x.cell? ⟨gi,2,none⟩=some (.int .i64 (v:Int))/\x.cell? ⟨gi,3,none⟩=some (.int .i64 ak)/\x.cell? ⟨gi,4,none⟩=some (.int .i64 an)/\x.cell? ⟨gi,5,none⟩=some (.int .u8 ao)/\x.cell? ⟨gi,6,none⟩=some (.slice aa al ac)/\x.cell? ⟨gi,7,none⟩=some (.int .i64 bk)/\x.cell? ⟨gi,8,none⟩=some (.int .i64 bn)/\x.cell? ⟨gi,9,none⟩=some (.int .u8 bo)/\x.cell? ⟨gi,10,none⟩=some (.slice ba bl bc)/\x.cell? ⟨gr,9,none⟩=some (.slice (some ⟨mb,0,none⟩) mem.length mc)/\x.cell? ⟨mb,v,none⟩=some (.int .i64 (mem.getD v 0))):=λx hx=>⟨zi hx _ _ (ze HX.out 1),zi hx _ _ (ze HX.out 2),zi hx _ _ (ze HX.out 3),zi hx _ _ (ze HX.out 4),zi hx _ _ (ze HX.out 5),zi hx _ _ (ze HX.out 6),zi hx _ _ (ze HX.out 7),zi hx _ _ (ze HX.out 8),zi hx _ _ (ze HX.out 9),zi hx _ _ (ze HX.out 10),zi hx _ _ (ze HRW.out.block 9),zi hx _ _ (HRW.out.uK gy).1⟩
 have HGM:=qh (show gi≠mb by have:=HR.out.wZ.2;have:=HGI.out;omega)
 obtain⟨z,hz⟩:∃z,z=mem.getD v 0:=⟨_,rfl⟩
 rw [<-hz] at CC zQ
 clear hz
 refine qM (S:=λx=>Below W.heap.size W x) ((Below.refl _ _).drew) (λhH=> ?_)
 refine zl 0 CC.out ?_
 refine zl 1 CC.out ?_
 refine zl 2 CC.out ?_
 refine zl 4 CC.out ?_
 refine zl 5 CC.out ?_
 refine zl 6 CC.out ?_
 refine yx 3 rfl (λK hK=> ?_)
 go_simp
 refine(HEA.out W.drew _ (HRW.out.below hH) (zB HA.out hH)).mono ?_
 rintro e hw3 ⟨rfl,hb⟩
 have zmM:Below W.heap.size W hw3:=zB hH hb
 refine hK.out _ _ zmM (λ_=> ?_)
 clear hK K hb hH
 refine yx 7 rfl (λK hK=> ?_)
 go_simp
 refine(HEB.out hw3 _ (HRW.out.below zmM) (zB HA.out zmM)).mono ?_
 rintro e hw7 ⟨rfl,hb⟩
 have pY:Below W.heap.size W hw7:=zB zmM hb
 refine hK.out _ _ pY (λ_=> ?_)
 clear hK K hb zmM
 refine zl 8 CC.out ?_
 refine zl 9 CC.out ?_
 refine zl 10 CC.out ?_
 refine xE ?_
 go_upto_region 2 with fail
 by_cases hz0:z=va
 rotate_left
 ·have hz1:((z:Int)==va)=false:=by simp [hz0]
  have HZ0:=qh hz0
  clear hz0
  refine qM (S:=λx=>Below W.heap.size W x) ((zB pY (Below.refl _ _).drew)) (λhK2=> ?_)
  refine zl 0 CC.out ?_
  refine zl 1 CC.out ?_
  refine zl 2 CC.out ?_
  refine zl 3 CC.out ?_
  refine zl 4 CC.out ?_
  refine zl 5 CC.out ?_
  refine zl 6 CC.out ?_
  refine zl 7 CC.out ?_
  refine zl 8 CC.out ?_
  refine zl 9 CC.out ?_
  refine xE ?_
  have HR2:=qh (HRW.out.below (zB pY (Below.refl _ _).drew))
  have HB2:Hid (Below B w hw7.drew):=jG.out.trans ((zB pY (Below.refl _ _).drew).mono (Nat.le_trans yj.out HA.out.size))
  have HS2:Hid (Since (λk=>k=mb) W hw7.drew):=qY _ (zB pY (Below.refl _ _).drew)
  go_upto_region 4 with fail
  generalize World.drew _=W4 at HR2 HB2 HS2 ⊢
  have C4:Hid (∀x,Below W4.heap.size W4 x->x.cell? ⟨gi,1,none⟩=some (.int .i64 (reg:Int))):=λx hx=>zi hx _ _ ((HS2.out.cell (p:=⟨gi,1,none⟩) (zx HX.out) (λe=>HGM.out e)).trans (ze HX.out 1))
  refine wp_region_noPanic ?_
  refine yT (n0:=8) (S:=λx=>Below W4.heap.size W4 x) (by kernel_rfl) ((Below.refl _ _).drew) (λxW=> ?_)
  refine zU 0 (λ_=>xW) ?_
  refine zU 1 (λ_=>xW) ?_
  refine jq [7,8] 2 C4.out xW ?_
  refine zU 3 (λ_=>xW) ?_
  refine zU 4 (λ_=>xW) ?_
  refine zU 5 (λ_=>xW) ?_
  refine zU 6 (λ_=>xW) ?_
  refine zU 7 (λ_=>xW) ?_
  refine vQ 8 rfl (λK hK=> ?_)
  obtain⟨q0,q1⟩:=(HR2.out.below xW).zdw hr4
  go_simp
  refine hK.out _ _ (λh=>absurd rfl h) ?_
  clear hK K
  refine xH (by kernel_rfl) ?_ _
  refine NoPanic.normal ?_
  clear q0 q1
  have HR3:=qh ((HR2.out.below xW).zf4 reg hr4 0)
  have HB3:Hid (Below B w (W4.drew.setCell ⟨gr,1+reg,none⟩ (.int .i64 0))):=HB2.out.drew.setCell (p:=⟨gr,1+reg,none⟩) HRW.out.base _
  go_wp2_with fail
  refine(pq HR3.out).mono ?_
  rintro e w9 ⟨rfl,rfl⟩
  by_cases hz:buf.length=0
  ·have HZ:=qh hz
   have hz1:decide (buf.length=0)=true:=decide_eq_true hz
   clear hz
   rw [hz1]
   go_wp2_with fail
   go_ret
   rw [zQ.out,if_neg HZ0.out,if_pos HZ.out]
   exact zdv HR3.out HB3.out
  have HZ:=qh hz
  have hz1:decide (buf.length=0)=false:=decide_eq_false hz
  clear hz
  rw [hz1]
  go_wp2_with fail
  go_ret
  rw [zQ.out,if_neg HZ0.out,if_neg HZ.out]
  exact wR HB3.out
 have hz1:((z:Int)==va)=true:=by simp [hz0]
 have HZ0:=qh hz0
 clear hz0
 refine qM (S:=λx=>Below W.heap.size W x) ((zB pY (Below.refl _ _).drew)) (λhK2=> ?_)
 refine zl 0 CC.out ?_
 refine zl 1 CC.out ?_
 refine zl 2 CC.out ?_
 refine zl 3 CC.out ?_
 refine zl 4 CC.out ?_
 refine zl 5 CC.out ?_
 refine zl 6 CC.out ?_
 refine zl 7 CC.out ?_
 refine zl 8 CC.out ?_
 refine zl 9 CC.out ?_
 refine xE ?_
 go_upto_region 3 with fail
 refine wp_region_noPanic ?_
 refine yT (n0:=8) (S:=λx=>Below W.heap.size W x) (by kernel_rfl) ((zB pY (Below.refl _ _).drew.drew)) (λjf=> ?_)
 refine zU 0 (λ_=>jf) ?_
 refine zU 1 (λ_=>jf) ?_
 refine zU 2 (λ_=>jf) ?_
 refine jq [7,8,9] 3 CC.out jf ?_
 refine zU 4 (λ_=>jf) ?_
 refine jq [7,8,9] 5 CC.out jf ?_
 refine zU 6 (λ_=>jf) ?_
 refine zU 7 (λ_=>jf) ?_
 refine vQ 8 rfl (λK hK=> ?_)
 obtain⟨q0,q1⟩:=(HRW.out.below jf).uK gy
 go_simp
 refine hK.out _ _ (λh=>absurd rfl h) ?_
 clear hK K
 refine zU 9 (λh=>absurd h (by decide+kernel)) ?_
 refine xH (by kernel_rfl) ?_ _
 refine NoPanic.normal ?_
 clear q0 q1
 have HR2:=qh ((HRW.out.below jf).zdz v vb)
 have HB2:Hid (Below B w (hw7.drew.drew.setCell ⟨mb,v,none⟩ (.int .i64 vb))):=(jG.out.trans (jf.mono (Nat.le_trans yj.out HA.out.size))).setCell (p:=⟨mb,v,none⟩) HRW.out.wZ.1 _
 have HS2:Hid (Since (λk=>k=mb) W (hw7.drew.drew.setCell ⟨mb,v,none⟩ (.int .i64 vb))):=(qY _ jf).trans (Since.setCell (F:=λk=>k=mb) (p:=⟨mb,v,none⟩) (Since.refl _ _) (.inl rfl) _) (λ_ h=> .inl h)
 go_upto_region 4 with fail
 have eW:hw7.drew.drew.setCell ⟨mb,v,none⟩ (.int .i64 vb)=(hw7.setCell ⟨mb,v,none⟩ (.int .i64 vb)).drew.drew:=rfl
 rw [eW] at HR2 HB2 HS2
 clear eW
 generalize (World.setCell hw7 ⟨mb,v,none⟩ (.int .i64 vb)).drew.drew=W4 at HR2 HB2 HS2 ⊢
 have C4:Hid (∀x,Below W4.heap.size W4 x->x.cell? ⟨gi,1,none⟩=some (.int .i64 (reg:Int))):=λx hx=>zi hx _ _ ((HS2.out.cell (p:=⟨gi,1,none⟩) (zx HX.out) (λe=>HGM.out e)).trans (ze HX.out 1))
 refine wp_region_noPanic ?_
 refine yT (n0:=8) (S:=λx=>Below W4.heap.size W4 x) (by kernel_rfl) ((Below.refl _ _).drew) (λxW=> ?_)
 refine zU 0 (λ_=>xW) ?_
 refine zU 1 (λ_=>xW) ?_
 refine jq [7,8] 2 C4.out xW ?_
 refine zU 3 (λ_=>xW) ?_
 refine zU 4 (λ_=>xW) ?_
 refine zU 5 (λ_=>xW) ?_
 refine zU 6 (λ_=>xW) ?_
 refine zU 7 (λ_=>xW) ?_
 refine vQ 8 rfl (λK hK=> ?_)
 obtain⟨q0,q1⟩:=(HR2.out.below xW).zdw hr4
 go_simp
 refine hK.out _ _ (λh=>absurd rfl h) ?_
 clear hK K
 refine xH (by kernel_rfl) ?_ _
 refine NoPanic.normal ?_
 clear q0 q1
 have HR3:=qh ((HR2.out.below xW).zf4 reg hr4 1)
 have HB3:Hid (Below B w (W4.drew.setCell ⟨gr,1+reg,none⟩ (.int .i64 1))):=HB2.out.drew.setCell (p:=⟨gr,1+reg,none⟩) HRW.out.base _
 go_wp2_with fail
 refine(pq HR3.out).mono ?_
 rintro e w9 ⟨rfl,rfl⟩
 by_cases hz:buf.length=0
 ·have HZ:=qh hz
  have hz1:decide (buf.length=0)=true:=decide_eq_true hz
  clear hz
  rw [hz1]
  go_wp2_with fail
  go_ret
  rw [zQ.out,if_pos HZ0.out,if_pos HZ.out]
  exact zdv HR3.out HB3.out
 have HZ:=qh hz
 have hz1:decide (buf.length=0)=false:=decide_eq_false hz
 clear hz
 rw [hz1]
 go_wp2_with fail
 go_ret
 rw [zQ.out,if_pos HZ0.out,if_neg HZ.out]
 exact wR HB3.out
end Go.Proofs.YtliajkheeniljaaGreatDoor
namespace Go.Proofs.YtliajkheeniljaaGreatDoor
open Go.RowKit
set_option maxRecDepth 100000
set_option maxHeartbeats 16000000
variable {v0:Value}
theorem zqo {w:World} {B gr mb mc:Nat} {pc r0 r1 r2 r3 dom:Int} {buf:List zo} {bv:Value} {m:zA} {mem:List Int} {bad:Bool} (h:xG v0 w B gr pc r0 r1 r2 r3 buf bv m dom mem mb mc bad) (hB:B<=w.heap.size) (hd1:1<=dom) (hd2:dom<=1000) (d:Nat) (x:zS) (ka kb:Value) (ha:zG d w x.a ka) (hb:zG d w x.b kb)
  (xY:0<=x.reg/\x.reg<4) (hvar:0<=x.var/\x.var<(mem.length:Int)) (hbl:buf.length<=1000000):Calls Tryz.prog 126 #[.pointer (some ⟨gr,0,none⟩),qH x ka kb] w λe w'=>
  qO v0 w B gr m dom mb mc (if m.model=0 then some (⟨pc, [r0,r1,r2,r3],buf⟩,mem.set x.var.toNat (yh [r0,r1,r2,r3] dom d x.a),bad) else if qo buf m ⟨x.var,yh [r0,r1,r2,r3] dom d x.a⟩=true then some (⟨pc, [r0,r1,r2,r3],jl buf m ⟨x.var,yh [r0,r1,r2,r3] dom d x.a⟩⟩,mem,bad) else none) e w':=by
 have zZ:=λW V (hV:xG v0 W B gr pc r0 r1 r2 r3 buf V m dom mem mb mc bad) (hW:Below w.heap.size w W)=>za4 hV hd1 hd2 d x.a ka (ha.below hW)
 obtain⟨aa,ac,rfl, -⟩:=ha.slice
 obtain⟨ba,bc,rfl, -⟩:=hb.slice
 obtain⟨ua,uc,rfl, -⟩:=zh.slice h.vG
 obtain⟨op,reg,v,a,b,yJ⟩:=x
 simp only [] at xY hvar ha hb zZ ⊢
 obtain⟨reg,rfl⟩:∃k:Nat,reg=(k:Int):=⟨reg.toNat,by omega⟩
 obtain⟨v,rfl⟩:∃k:Nat,v=(k:Int):=⟨v.toNat,by omega⟩
 have hr4:reg<4:=by omega
 have gy:v<mem.length:=by omega
 have uO:(v:Int)<(mem.length:Int):=hvar.2
 have hrI:(reg:Int)<4:=xY.2
 try simp only [Int.toNat_natCast]
 clear ha hb
 unfold qH
 simp only []
 unfold xZ at zZ
 generalize hva:yh [r0,r1,r2,r3] dom d a=va at zZ ⊢
 clear hva
 generalize a.kind=ak at zZ ⊢
 generalize a.n=an at zZ ⊢
 generalize a.op=ao at zZ ⊢
 generalize a.kids.length=al at zZ ⊢
 generalize b.kind=bk at ⊢
 generalize b.n=bn at ⊢
 generalize b.op=bo at ⊢
 generalize b.kids.length=bl at ⊢
 have HEA:=qh zZ
 clear zZ
 obtain⟨res,hres⟩:∃r:Option (zy × List Int × Bool),r=(if m.model=0 then some (⟨pc, [r0,r1,r2,r3],buf⟩,mem.set v (va),bad) else if qo buf m ⟨(v:Int),va⟩=true then some (⟨pc, [r0,r1,r2,r3],jl buf m ⟨(v:Int),va⟩⟩,mem,bad) else none):=⟨_,rfl⟩
 rw [<-hres]
 have zQ:=qh hres
 clear hres
 obtain⟨un,hun⟩:∃n,n=buf.length:=⟨_,rfl⟩
 rw [<-hun] at h hbl
 have HUN:=qh hun
 have HR:=qh h
 have yj:=qh hB
 have HA:=qh ((Below.refl w.heap.size w).alloc (Nat.le_refl _) (.cells #[.int .i64 op, .int .i64 (reg:Int), .int .i64 (v:Int), .int .i64 ak, .int .i64 an, .int .u8 ao, .slice aa al ac, .int .i64 bk, .int .i64 bn, .int .u8 bo, .slice ba bl bc, .int .i64 yJ] 64))
 have HX:=qh (yt w (.cells #[.int .i64 op, .int .i64 (reg:Int), .int .i64 (v:Int), .int .i64 ak, .int .i64 an, .int .u8 ao, .slice aa al ac, .int .i64 bk, .int .i64 bn, .int .u8 bo, .slice ba bl bc, .int .i64 yJ] 64))
 clear h hun hB
 go_enter Tryz.func126,Tryz.ntmps126
 go_upto_region 1 with fail
 generalize World.alloc w _=W at HA HX ⊢
 obtain⟨gi,hgi⟩:∃g,g=w.heap.size:=⟨_,rfl⟩
 rw [<-hgi] at HX ⊢
 clear hgi
 have HRW:=qh (HR.out.below HA.out)
 have jG:Hid (Below B w W):=HA.out.mono yj.out
 have CC:Hid (∀x,Below W.heap.size W x->x.cell? ⟨gi,2,none⟩=some (.int .i64 (v:Int))/\x.cell? ⟨gi,3,none⟩=some (.int .i64 ak)/\x.cell? ⟨gi,4,none⟩=some (.int .i64 an)/\x.cell? ⟨gi,5,none⟩=some (.int .u8 ao)/\x.cell? ⟨gi,6,none⟩=some (.slice aa al ac)/\x.cell? ⟨gr,5,none⟩=some (.slice ua un uc)/\x.cell? ⟨gr,6,none⟩=some (.int .i64 m.model)/\x.cell? ⟨gr,7,none⟩=some (.int .i64 m.bound)/\x.cell? ⟨gr,9,none⟩=some (.slice (some ⟨mb,0,none⟩) mem.length mc)):=λx hx=>⟨zi hx _ _ (ze HX.out 2),zi hx _ _ (ze HX.out 3),zi hx _ _ (ze HX.out 4),zi hx _ _ (ze HX.out 5),zi hx _ _ (ze HX.out 6),zi hx _ _ (ze HRW.out.block 5),zi hx _ _ (ze HRW.out.block 6),zi hx _ _ (ze HRW.out.block 7),zi hx _ _ (ze HRW.out.block 9)⟩
 obtain⟨c0,c1,c2,c3,c4,c5,c6,c7,c8⟩:=CC.out W (Below.refl _ _)
 go_wp2_with fail
 refine(HEA.out W _ HRW.out HA.out).mono ?_
 rintro e w2 ⟨rfl,hb2⟩
 have HB2:=qh hb2
 have HR2:=qh (HRW.out.below hb2)
 have HBB:Hid (Below B w w2):=jG.out.trans (hb2.mono (Nat.le_trans yj.out HA.out.size))
 clear hb2 c0 c1 c2 c3 c4 c5 c6 c7 c8
 have C2:Hid (∀x,Below w2.heap.size w2 x->x.cell? ⟨gi,2,none⟩=some (.int .i64 (v:Int))/\x.cell? ⟨gr,5,none⟩=some (.slice ua un uc)/\x.cell? ⟨gr,6,none⟩=some (.int .i64 m.model)/\x.cell? ⟨gr,7,none⟩=some (.int .i64 m.bound)/\x.cell? ⟨gr,9,none⟩=some (.slice (some ⟨mb,0,none⟩) mem.length mc)):=λx hx=>⟨zi (zB HB2.out hx) _ _ (ze HX.out 2),zi hx _ _ (ze HR2.out.block 5),zi hx _ _ (ze HR2.out.block 6),zi hx _ _ (ze HR2.out.block 7),zi hx _ _ (ze HR2.out.block 9)⟩
 obtain⟨-, -,e6, -, -⟩:=C2.out w2 (Below.refl _ _)
 by_cases hm:m.model=0
 ·have hm1:((m.model:Int)==0)=true:=by simp [hm]
  have HM:=qh hm
  clear hm
  go_upto_region 3 with fail
  clear e6 hm1
  refine wp_region_noPanic ?_
  refine yT (n0:=8) (S:=λx=>Below w2.heap.size w2 x) (by kernel_rfl) ((Below.refl _ _).drew) (λhT=> ?_)
  refine zU 0 (λ_=>hT) ?_
  refine zU 1 (λ_=>hT) ?_
  refine zU 2 (λ_=>hT) ?_
  refine jq [7,8] 3 C2.out hT ?_
  refine zU 4 (λ_=>hT) ?_
  refine jq [7,8] 5 C2.out hT ?_
  refine zU 6 (λ_=>hT) ?_
  refine zU 7 (λ_=>hT) ?_
  refine vQ 8 rfl (λK hK=> ?_)
  obtain⟨q0,q1⟩:=(HR2.out.below hT).uK gy
  go_simp
  refine hK.out _ _ (λh=>absurd rfl h) ?_
  clear hK K
  refine xH (by kernel_rfl) ?_ _
  refine NoPanic.normal ?_
  clear q0 q1
  have HR3:=qh ((HR2.out.below hT).zdz v va)
  have HB3:Hid (Below B w (w2.drew.setCell ⟨mb,v,none⟩ (.int .i64 va))):=HBB.out.drew.setCell (p:=⟨mb,v,none⟩) HR2.out.wZ.1 _
  go_wp2_with fail
  go_ret
  rw [zQ.out,if_pos HM.out]
  exact j6 HR3.out HB3.out
 have hm1:((m.model:Int)==0)=false:=by simp [hm]
 have HM:=qh hm
 clear hm
 have kR:Hid (∀x,Below w2.heap.size w2 x->Calls Tryz.prog 85 #[.slice ua un uc, .agg #[.int .i64 m.model, .int .i64 m.bound], .agg #[.int .i64 (v:Int), .int .i64 va]] x λe w'=>(∃uG,e= .returned (.tuple #[uG, .bool (qo buf m ⟨(v:Int),va⟩)])/\zV w' uG (jl buf m ⟨(v:Int),va⟩)/\(qo buf m ⟨(v:Int),va⟩=true->w'.ownsRow x.heap.size 50 2 uG (jl buf m ⟨(v:Int),va⟩).length (zq zo.cells (jl buf m ⟨(v:Int),va⟩))))/\Below x.heap.size x w'):=λx hx=>zl0 x _ buf (HR2.out.below hx).vG (by rw [<-HUN.out];exact hbl) m ⟨(v:Int),va⟩
 obtain⟨pb,hpb⟩:∃l,l=jl buf m ⟨(v:Int),va⟩:=⟨_,rfl⟩
 rw [<-hpb] at kR zQ
 clear hpb
 go_upto_region 5 with fail
 clear e6 hm1
 cases hok:qo buf m ⟨(v:Int),va⟩ with
 |true=>
  rw [hok] at kR zQ
  clear hok
  refine wp_region_noPanic ?_
  refine yT (n0:=21) (S:=λx=>Below w2.heap.size w2 x) (by kernel_rfl) ((Below.refl _ _).drew) (λhT=> ?_)
  refine zU 0 (λ_=>hT) ?_
  refine zU 1 (λ_=>hT) ?_
  refine zU 2 (λ_=>hT) ?_
  refine zU 3 (λ_=>hT) ?_
  refine zU 4 (λ_=>hT) ?_
  refine jq [14,15,16,17,18,19,20,21,22] 5 C2.out hT ?_
  refine zU 6 (λ_=>hT) ?_
  refine zU 7 (λ_=>hT) ?_
  refine zU 8 (λ_=>hT) ?_
  refine jq [14,15,16,17,18,19,20,21,22] 9 C2.out hT ?_
  refine zU 10 (λ_=>hT) ?_
  refine jq [13,14,15,16,17,18,19,20,21,22] 11 C2.out hT ?_
  refine zU 12 (λ_=>hT) ?_
  refine zU 13 (λ_=>hT) ?_
  refine vQ 14 rfl (λK hK=> ?_)
  go_simp
  refine(kR.out w2.drew hT).mono ?_
  rintro e zeB ⟨⟨uG,rfl,hbf,hrow⟩,hb⟩
  obtain⟨xa,xc,rfl, -⟩:=zh.slice hbf
  have jA:=qh hrow
  clear hbf hrow
  have gN:Below w2.heap.size w2 zeB:=zB hT hb
  refine hK.out _ _ (λ_ _=>gN) ?_
  clear hK K hb hT
  refine zU 15 (λ_=>gN) ?_
  refine zU 16 (λ_=>gN) ?_
  refine zU 17 (λ_=>gN) ?_
  refine zU 18 (λ_=>gN) ?_
  refine zU 19 (λ_=>gN) ?_
  refine zU 20 (λ_=>gN) ?_
  refine vQ 21 rfl (λK hK=> ?_)
  have bC:=qh ((HR2.out.below gN).block)
  have q0:zeB.cell? ⟨gr,5,none⟩=some (.slice ua un uc):=ze bC.out 5
  have q1:zeB.frozen? ⟨gr,5,none⟩=false:=zD bC.out 5
  go_simp
  refine hK.out _ _ (λh=>absurd rfl h) ?_
  clear hK K
  refine zU 22 (λh=>absurd h (by decide+kernel)) ?_
  refine xH (by kernel_rfl) ?_ _
  refine NoPanic.normal ?_
  clear q0 q1
  have HB3:Hid (Below B w (zeB.setCell ⟨gr,5,none⟩ (.slice xa pb.length xc))):=(HBB.out.trans (gN.mono (Nat.le_trans yj.out (Nat.le_trans HA.out.size HB2.out.size)))).setCell (p:=⟨gr,5,none⟩) HRW.out.base _
  have HR3:=qh ((HR2.out.below gN).zqC (V:=w2.drew) ⟨zx HR2.out.block,HR2.out.wZ.2⟩ (jA.out rfl))
  go_wp2_with fail
  go_ret
  first|rw [zQ.out,if_neg HM.out,if_pos rfl] |rw [zQ.out,if_neg HM.out,if_pos trivial]
  exact j6 HR3.out HB3.out
 |false=>
 rw [hok] at kR zQ
 clear hok
 refine wp_region_noPanic ?_
 refine yT (n0:=21) (S:=λx=>Below w2.heap.size w2 x) (by kernel_rfl) ((Below.refl _ _).drew) (λhT=> ?_)
 refine zU 0 (λ_=>hT) ?_
 refine zU 1 (λ_=>hT) ?_
 refine zU 2 (λ_=>hT) ?_
 refine zU 3 (λ_=>hT) ?_
 refine zU 4 (λ_=>hT) ?_
 refine jq [14,15,16,17,18,19,20,21,22] 5 C2.out hT ?_
 refine zU 6 (λ_=>hT) ?_
 refine zU 7 (λ_=>hT) ?_
 refine zU 8 (λ_=>hT) ?_
 refine jq [14,15,16,17,18,19,20,21,22] 9 C2.out hT ?_
 refine zU 10 (λ_=>hT) ?_
 refine jq [13,14,15,16,17,18,19,20,21,22] 11 C2.out hT ?_
 refine zU 12 (λ_=>hT) ?_
 refine zU 13 (λ_=>hT) ?_
 refine vQ 14 rfl (λK hK=> ?_)
 go_simp
 refine(kR.out w2.drew hT).mono ?_
 rintro e zde ⟨⟨uG,rfl,hbf,hrow⟩,hb⟩
 obtain⟨xa,xc,rfl, -⟩:=zh.slice hbf
 have jA:=qh hrow
 clear hbf hrow
 have gN:Below w2.heap.size w2 zde:=zB hT hb
 refine hK.out _ _ (λ_ _=>gN) ?_
 clear hK K hb hT
 refine zU 15 (λ_=>gN) ?_
 refine zU 16 (λ_=>gN) ?_
 refine zU 17 (λ_=>gN) ?_
 refine zU 18 (λ_=>gN) ?_
 refine zU 19 (λ_=>gN) ?_
 refine zU 20 (λ_=>gN) ?_
 refine vQ 21 rfl (λK hK=> ?_)
 have bC:=qh ((HR2.out.below gN).block)
 have q0:zde.cell? ⟨gr,5,none⟩=some (.slice ua un uc):=ze bC.out 5
 have q1:zde.frozen? ⟨gr,5,none⟩=false:=zD bC.out 5
 go_simp
 refine hK.out _ _ (λh=>absurd rfl h) ?_
 clear hK K
 refine zU 22 (λh=>absurd h (by decide+kernel)) ?_
 refine xH (by kernel_rfl) ?_ _
 refine NoPanic.normal ?_
 clear q0 q1
 have HB3:Hid (Below B w (zde.setCell ⟨gr,5,none⟩ (.slice xa pb.length xc))):=(HBB.out.trans (gN.mono (Nat.le_trans yj.out (Nat.le_trans HA.out.size HB2.out.size)))).setCell (p:=⟨gr,5,none⟩) HRW.out.base _
 go_wp2_with fail
 go_ret
 rw [zQ.out,if_neg HM.out,if_neg (λh=>by cases h)]
 exact wR HB3.out
end Go.Proofs.YtliajkheeniljaaGreatDoor
namespace Go.Proofs.YtliajkheeniljaaGreatDoor
open Go.RowKit
set_option maxRecDepth 100000
set_option maxHeartbeats 16000000
variable {v0:Value}
def wyL:List (Int × Value):= [(1, .func (.func 125) #[] #[]),(2, .func (.func 126) #[] #[]),(3, .func (.func 127) #[] #[]),(4, .func (.func 128) #[] #[]),(5, .func (.func 129) #[] #[]),(6, .func (.func 130) #[] #[]),(7, .func (.func 131) #[] #[]),(8, .func (.func 132) #[] #[]),(9, .func (.func 133) #[] #[]),(12, .func (.func 134) #[] #[]),(13, .func (.func 135) #[] #[])]
theorem zqA (w:World):Calls Tryz.prog 107 #[] w (zlx wyL w):=by
 have hmm:= @run_makeMap Tryz.prog
 have h0:xL (w.alloc (.map #[] 0)) w.heap.size [] :=⟨#[],0,yt w _,rfl⟩
 have hB0:Below w.heap.size w (w.alloc (.map #[] 0)):=(Below.refl _ _).alloc (Nat.le_refl _) _
 go_enter Tryz.func107,Tryz.ntmps107
 go_wp2_with(refine vO _ rfl _ _ _ 169 rfl 3 168 .i64 Tryz.underlying169 Tryz.underlying3 w.heap.size _ rfl _ rfl _ rfl h0 ?_;clear h0;intro w1 h0 hs1 hz1;replace hB0:=hB0.trans (hs1.below hB0.size (λk hk=>by omega));clear hs1 hz1)
 go_ret
 exact⟨w.heap.size,rfl,h0,Nat.le_refl _,hB0⟩
def zo1 (k:Int):Prop:=k=1\/k=2\/k=3\/k=4\/k=5\/k=6\/k=7\/k=8\/k=9\/k=12\/k=13
theorem ztu {w:World} {B gr mb mc:Nat} {pc r0 r1 r2 r3:Int} {buf:List zo} {bv:Value} {m:zA} {c:zF} {s:zk} (h:xG v0 w B gr (pc+1) r0 r1 r2 r3 buf bv m c.domain s.mem mb mc s.bad) (hB:B<=w.heap.size) (hd1:1<=c.domain) (hd2:c.domain<=1000) (d:Nat) (x:zS) (ka kb:Value) (ha:zG d w x.a ka) (hb:zG d w x.b kb)
  (xY:0<=x.reg/\x.reg<4) (hvar:0<=x.var/\x.var<(s.mem.length:Int)) (hbl:buf.length<=1000000) (hop:zo1 x.op):
  ∃f,vC wyL x.op=some (.func (.func f) #[] #[])/\(∀args W,(callFunc f args).run Tryz.prog W= .ok (.enter f args) W)/\
   Calls Tryz.prog f #[.pointer (some ⟨gr,0,none⟩),qH x ka kb] w λe w'=>qO v0 w B gr m c.domain mb mc (stepT c m s ⟨pc, [r0,r1,r2,r3],buf⟩ x d) e w':=by
 rcases hop with k|k|k|k|k|k|k|k|k|k|k
 ·exact⟨_,by rw [k];rfl,λ_ _=>rfl,by rw [uo k];exact zrV h hB hd1 hd2 d x ka kb ha hb xY hvar hbl⟩
 ·refine⟨_,by rw [k];rfl,λ_ _=>rfl, ?_⟩
  have hw:=zqo h hB hd1 hd2 d x ka kb ha hb xY hvar hbl
  by_cases hm:m.model=0
  ·rw [jC k hm];simp only [if_pos hm] at hw;exact hw
  simp only [if_neg hm] at hw
  cases hp:qo buf m ⟨x.var,yh [r0,r1,r2,r3] c.domain d x.a⟩ with
  |true=>rw [gJ k hm hp];simp only [hp,if_true] at hw;exact hw
  |false=>rw [bK k hm hp];simp only [hp,Bool.false_eq_true,if_false] at hw;exact hw
 ·exact⟨_,by rw [k];rfl,λ_ _=>rfl,by rw [za8 k];exact zuD h hB hd1 hd2 d x ka kb ha hb xY hvar hbl⟩
 ·exact⟨_,by rw [k];rfl,λ_ _=>rfl,by rw [wV k];exact zo6 h hB hd1 hd2 d x ka kb ha hb xY hvar hbl⟩
 ·exact⟨_,by rw [k];rfl,λ_ _=>rfl,by rw [wL k];exact zqz h hB hd1 hd2 d x ka kb ha hb xY hvar hbl⟩
 ·refine⟨_,by rw [k];rfl,λ_ _=>rfl, ?_⟩
  have hw:=zvR h hB hd1 hd2 d x ka kb ha hb xY hvar hbl
  by_cases hv:s.mem.getD x.var.toNat 0=yh [r0,r1,r2,r3] c.domain d x.a
  ·rw [uq k hv];simp only [if_pos hv] at hw;exact hw
  rw [uw k hv];simp only [if_neg hv] at hw;exact hw
 ·exact⟨_,by rw [k];rfl,λ_ _=>rfl,by rw [wM k];exact zrU h hB hd1 hd2 d x ka kb ha hb xY hvar hbl⟩
 ·exact⟨_,by rw [k];rfl,λ_ _=>rfl,by rw [wh k];exact zmS h hB hd1 hd2 d x ka kb ha hb xY hvar hbl⟩
 ·exact⟨_,by rw [k];rfl,λ_ _=>rfl,by rw [jR k];exact zmR h hB hd1 hd2 d x ka kb ha hb xY hvar hbl⟩
 ·refine⟨_,by rw [k];rfl,λ_ _=>rfl, ?_⟩
  have hw:=zmQ h hB hd1 hd2 d x ka kb ha hb xY hvar hbl
  rw [wu k]
  by_cases hv:yh [r0,r1,r2,r3] c.domain d x.a=0
  ·simp only [if_pos hv] at hw ⊢;exact hw
  simp only [if_neg hv] at hw ⊢;exact hw
 exact⟨_,by rw [k];rfl,λ_ _=>rfl,by rw [pG k];exact zqy h hB hd1 hd2 d x ka kb ha hb xY hvar hbl⟩
