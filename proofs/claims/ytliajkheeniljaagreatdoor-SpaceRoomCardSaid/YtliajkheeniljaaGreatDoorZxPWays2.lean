/- Steps. -/
import Derived.Test.YtliajkheeniljaaGreatDoorZxTail
set_option linter.all false
namespace Go.Proofs.YtliajkheeniljaaGreatDoor
open Go.RowKit
set_option maxRecDepth 100000
set_option maxHeartbeats 16000000
variable {v0:Value}
theorem zuD {w:World} {B gr mb mc:Nat} {pc r0 r1 r2 r3 dom:Int} {buf:List zo} {bv:Value} {m:zA} {mem:List Int} {bad:Bool} (h:xG v0 w B gr pc r0 r1 r2 r3 buf bv m dom mem mb mc bad) (hB:B<=w.heap.size) (hd1:1<=dom) (hd2:dom<=1000) (d:Nat) (x:zS) (ka kb:Value) (ha:zG d w x.a ka) (hb:zG d w x.b kb)
  (xY:0<=x.reg/\x.reg<4) (hvar:0<=x.var/\x.var<(mem.length:Int)) (hbl:buf.length<=1000000):Calls Tryz.prog 127 #[.pointer (some ⟨gr,0,none⟩),qH x ka kb] w λe w'=>
  qO v0 w B gr m dom mb mc (some (⟨pc, [r0,r1,r2,r3].set x.reg.toNat (yh [r0,r1,r2,r3] dom d x.a),buf⟩,mem,bad)) e w':=by
 have zZ:=λW V (hV:xG v0 W B gr pc r0 r1 r2 r3 buf V m dom mem mb mc bad) (hW:Below w.heap.size w W)=>za4 hV hd1 hd2 d x.a ka (ha.below hW)
 obtain⟨aa,ac,rfl, -⟩:=ha.slice
 obtain⟨ba,bc,rfl, -⟩:=hb.slice
 obtain⟨ua,uc,rfl, -⟩:=zh.slice h.vG
 obtain⟨op,reg,v,a,b,yJ⟩:=x
 simp only [] at xY hvar ha hb zZ ⊢
 obtain⟨reg,rfl⟩:∃k:Nat,reg=(k:Int):=⟨reg.toNat,by omega⟩
 obtain⟨v,rfl⟩:∃k:Nat,v=(k:Int):=⟨v.toNat,by omega⟩
 have hr4:reg<4:=by omega
 have gy:v<mem.length:=by omega
 have uO:(v:Int)<(mem.length:Int):=hvar.2
 have hrI:(reg:Int)<4:=xY.2
 try simp only [Int.toNat_natCast]
 clear ha hb
 unfold qH
 simp only []
 unfold xZ at zZ
 generalize hva:yh [r0,r1,r2,r3] dom d a=va at zZ ⊢
 clear hva
 generalize a.kind=ak at zZ ⊢
 generalize a.n=an at zZ ⊢
 generalize a.op=ao at zZ ⊢
 generalize a.kids.length=al at zZ ⊢
 generalize b.kind=bk at ⊢
 generalize b.n=bn at ⊢
 generalize b.op=bo at ⊢
 generalize b.kids.length=bl at ⊢
 have HEA:=qh zZ
 clear zZ
 obtain⟨res,hres⟩:∃r:Option (zy × List Int × Bool),r=(some (⟨pc, [r0,r1,r2,r3].set reg (va),buf⟩,mem,bad)):=⟨_,rfl⟩
 rw [<-hres]
 have zQ:=qh hres
 clear hres
 obtain⟨un,hun⟩:∃n,n=buf.length:=⟨_,rfl⟩
 rw [<-hun] at h hbl
 have HUN:=qh hun
 have HR:=qh h
 have yj:=qh hB
 have HA:=qh ((Below.refl w.heap.size w).alloc (Nat.le_refl _) (.cells #[.int .i64 op, .int .i64 (reg:Int), .int .i64 (v:Int), .int .i64 ak, .int .i64 an, .int .u8 ao, .slice aa al ac, .int .i64 bk, .int .i64 bn, .int .u8 bo, .slice ba bl bc, .int .i64 yJ] 64))
 have HX:=qh (yt w (.cells #[.int .i64 op, .int .i64 (reg:Int), .int .i64 (v:Int), .int .i64 ak, .int .i64 an, .int .u8 ao, .slice aa al ac, .int .i64 bk, .int .i64 bn, .int .u8 bo, .slice ba bl bc, .int .i64 yJ] 64))
 clear h hun hB
 go_enter Tryz.func127,Tryz.ntmps127
 go_upto_region 1 with fail
 generalize World.alloc w _=W at HA HX ⊢
 obtain⟨gi,hgi⟩:∃g,g=w.heap.size:=⟨_,rfl⟩
 rw [<-hgi] at HX ⊢
 clear hgi
 have HRW:=qh (HR.out.below HA.out)
 have jG:Hid (Below B w W):=HA.out.mono yj.out
 have CC:Hid (∀x,Below W.heap.size W x->x.cell? ⟨gi,1,none⟩=some (.int .i64 (reg:Int))/\x.cell? ⟨gi,3,none⟩=some (.int .i64 ak)/\x.cell? ⟨gi,4,none⟩=some (.int .i64 an)/\x.cell? ⟨gi,5,none⟩=some (.int .u8 ao)/\x.cell? ⟨gi,6,none⟩=some (.slice aa al ac)):=λx hx=>⟨zi hx _ _ (ze HX.out 1),zi hx _ _ (ze HX.out 3),zi hx _ _ (ze HX.out 4),zi hx _ _ (ze HX.out 5),zi hx _ _ (ze HX.out 6)⟩
 refine wp_region_noPanic ?_
 refine yT (n0:=11) (S:=λx=>Below W.heap.size W x) (by kernel_rfl) ((Below.refl _ _).drew) (λhT=> ?_)
 refine zU 0 (λ_=>hT) ?_
 refine zU 1 (λ_=>hT) ?_
 refine jq [10,11] 2 CC.out hT ?_
 refine zU 3 (λ_=>hT) ?_
 refine zU 4 (λ_=>hT) ?_
 refine jq [6,10,11] 5 CC.out hT ?_
 refine zU 7 (λ_=>hT) ?_
 refine zU 8 (λ_=>hT) ?_
 refine zU 9 (λ_=>hT) ?_
 refine vQ 6 rfl (λK hK=> ?_)
 go_simp
 refine(HEA.out W.drew _ (HRW.out.below hT) (zB HA.out hT)).mono ?_
 rintro e tw6 ⟨rfl,hb⟩
 have wI:Below W.heap.size W tw6:=zB hT hb
 refine hK.out _ _ (λ_ _=>wI) ?_
 clear hK K hb hT
 refine zU 10 (λ_=>wI) ?_
 refine vQ 11 rfl (λK hK=> ?_)
 obtain⟨q0,q1⟩:=(HRW.out.below wI).zdw hr4
 go_simp
 refine hK.out _ _ (λh=>absurd rfl h) ?_
 clear hK K
 refine xH (by kernel_rfl) ?_ _
 refine NoPanic.normal ?_
 clear q0 q1
 have HR2:=qh ((HRW.out.below wI).zf4 reg hr4 va)
 have HB2:Hid (Below B w (tw6.setCell ⟨gr,1+reg,none⟩ (.int .i64 va))):=(jG.out.trans (wI.mono (Nat.le_trans yj.out HA.out.size))).setCell (p:=⟨gr,1+reg,none⟩) HRW.out.base _
 go_wp2_with fail
 go_ret
 rw [zQ.out]
 exact zdv HR2.out HB2.out
theorem zrU {w:World} {B gr mb mc:Nat} {pc r0 r1 r2 r3 dom:Int} {buf:List zo} {bv:Value} {m:zA} {mem:List Int} {bad:Bool} (h:xG v0 w B gr pc r0 r1 r2 r3 buf bv m dom mem mb mc bad) (hB:B<=w.heap.size) (hd1:1<=dom) (hd2:dom<=1000) (d:Nat) (x:zS) (ka kb:Value) (ha:zG d w x.a ka) (hb:zG d w x.b kb)
  (xY:0<=x.reg/\x.reg<4) (hvar:0<=x.var/\x.var<(mem.length:Int)) (hbl:buf.length<=1000000):Calls Tryz.prog 131 #[.pointer (some ⟨gr,0,none⟩),qH x ka kb] w λe w'=>
  qO v0 w B gr m dom mb mc (if buf.length=0/\mem.getD x.var.toNat 0=0 then some (⟨pc, [r0,r1,r2,r3],buf⟩,mem.set x.var.toNat 1,bad) else none) e w':=by
 obtain⟨aa,ac,rfl, -⟩:=ha.slice
 obtain⟨ba,bc,rfl, -⟩:=hb.slice
 obtain⟨ua,uc,rfl, -⟩:=zh.slice h.vG
 obtain⟨op,reg,v,a,b,yJ⟩:=x
 simp only [] at xY hvar ha hb ⊢
 obtain⟨reg,rfl⟩:∃k:Nat,reg=(k:Int):=⟨reg.toNat,by omega⟩
 obtain⟨v,rfl⟩:∃k:Nat,v=(k:Int):=⟨v.toNat,by omega⟩
 have hr4:reg<4:=by omega
 have gy:v<mem.length:=by omega
 have uO:(v:Int)<(mem.length:Int):=hvar.2
 have hrI:(reg:Int)<4:=xY.2
 try simp only [Int.toNat_natCast]
 clear ha hb
 unfold qH
 simp only []
 generalize a.kind=ak at ⊢
 generalize a.n=an at ⊢
 generalize a.op=ao at ⊢
 generalize a.kids.length=al at ⊢
 generalize b.kind=bk at ⊢
 generalize b.n=bn at ⊢
 generalize b.op=bo at ⊢
 generalize b.kids.length=bl at ⊢
 obtain⟨res,hres⟩:∃r:Option (zy × List Int × Bool),r=(if buf.length=0/\mem.getD v 0=0 then some (⟨pc, [r0,r1,r2,r3],buf⟩,mem.set v 1,bad) else none):=⟨_,rfl⟩
 rw [<-hres]
 have zQ:=qh hres
 clear hres
 obtain⟨un,hun⟩:∃n,n=buf.length:=⟨_,rfl⟩
 rw [<-hun] at h hbl
 have HUN:=qh hun
 have HR:=qh h
 have yj:=qh hB
 have HA:=qh ((Below.refl w.heap.size w).alloc (Nat.le_refl _) (.cells #[.int .i64 op, .int .i64 (reg:Int), .int .i64 (v:Int), .int .i64 ak, .int .i64 an, .int .u8 ao, .slice aa al ac, .int .i64 bk, .int .i64 bn, .int .u8 bo, .slice ba bl bc, .int .i64 yJ] 64))
 have HX:=qh (yt w (.cells #[.int .i64 op, .int .i64 (reg:Int), .int .i64 (v:Int), .int .i64 ak, .int .i64 an, .int .u8 ao, .slice aa al ac, .int .i64 bk, .int .i64 bn, .int .u8 bo, .slice ba bl bc, .int .i64 yJ] 64))
 clear h hun hB
 go_enter Tryz.func131,Tryz.ntmps131
 go_upto_region 1 with fail
 generalize World.alloc w _=W at HA HX ⊢
 obtain⟨gi,hgi⟩:∃g,g=w.heap.size:=⟨_,rfl⟩
 rw [<-hgi] at HX ⊢
 clear hgi
 have HRW:=qh (HR.out.below HA.out)
 have jG:Hid (Below B w W):=HA.out.mono yj.out
 have CC:Hid (∀x,Below W.heap.size W x->x.cell? ⟨gi,2,none⟩=some (.int .i64 (v:Int))/\x.cell? ⟨gr,9,none⟩=some (.slice (some ⟨mb,0,none⟩) mem.length mc)/\x.cell? ⟨mb,v,none⟩=some (.int .i64 (mem.getD v 0))):=λx hx=>⟨zi hx _ _ (ze HX.out 2),zi hx _ _ (ze HRW.out.block 9),zi hx _ _ (HRW.out.uK gy).1⟩
 obtain⟨z,hz⟩:∃z,z=mem.getD v 0:=⟨_,rfl⟩
 rw [<-hz] at CC zQ
 clear hz
 by_cases hz0:z=0
 rotate_left
 ·have hz1:((z:Int)==0)=false:=by simp [hz0]
  have HZ0:=qh hz0
  clear hz0
  refine qM (S:=λx=>Below W.heap.size W x) ((Below.refl _ _).drew) (λhH=> ?_)
  refine zl 0 CC.out ?_
  refine zl 1 CC.out ?_
  refine zl 2 CC.out ?_
  refine zl 3 CC.out ?_
  refine zl 4 CC.out ?_
  refine zl 5 CC.out ?_
  refine zl 6 CC.out ?_
  refine zl 7 CC.out ?_
  refine zl 8 CC.out ?_
  refine zl 9 CC.out ?_
  refine xE ?_
  go_upto_region 2 with fail
  refine wp_region_noPanic ?_
  refine yT (n0:=7) (S:=λx=>Below W.heap.size W x) (by kernel_rfl) ((Below.refl _ _).drew.drew) (λhT=> ?_)
  refine zU 0 (λ_=>hT) ?_
  refine zU 1 (λ_=>hT) ?_
  refine zU 2 (λ_=>hT) ?_
  refine jq [6,7] 3 CC.out hT ?_
  refine zU 4 (λ_=>hT) ?_
  refine jq [6,7] 5 CC.out hT ?_
  refine zU 6 (λ_=>hT) ?_
  refine vQ 7 rfl (λK hK=> ?_)
  obtain⟨q0,q1⟩:=(HRW.out.below (Below.refl _ _).drew.drew).uK gy
  go_simp
  refine hK.out _ _ (λh=>absurd rfl h) ?_
  clear hK K
  refine xH (by kernel_rfl) ?_ _
  refine NoPanic.normal ?_
  clear q0 q1
  have HR2:=qh ((HRW.out.below (Below.refl _ _).drew.drew).zdz v 1)
  have HB2:Hid (Below B w (W.drew.drew.setCell ⟨mb,v,none⟩ (.int .i64 1))):=jG.out.drew.drew.setCell (p:=⟨mb,v,none⟩) HRW.out.wZ.1 _
  go_wp2_with fail
  go_ret
  rw [zQ.out,if_neg (λh=>HZ0.out h.2)]
  exact wR HB2.out
 have hz1:((z:Int)==0)=true:=by simp [hz0]
 have HZ0:=qh hz0
 clear hz0
 refine qM (S:=λx=>Below W.heap.size W x) ((Below.refl _ _).drew) (λhH=> ?_)
 refine zl 0 CC.out ?_
 refine zl 1 CC.out ?_
 refine zl 2 CC.out ?_
 refine zl 3 CC.out ?_
 refine zl 4 CC.out ?_
 refine zl 5 CC.out ?_
 refine zl 6 CC.out ?_
 refine zl 7 CC.out ?_
 refine zl 8 CC.out ?_
 refine zl 9 CC.out ?_
 refine xE ?_
 go_upto_region 2 with fail
 refine wp_region_noPanic ?_
 refine yT (n0:=7) (S:=λx=>Below W.heap.size W x) (by kernel_rfl) ((Below.refl _ _).drew.drew) (λhT=> ?_)
 refine zU 0 (λ_=>hT) ?_
 refine zU 1 (λ_=>hT) ?_
 refine zU 2 (λ_=>hT) ?_
 refine jq [6,7] 3 CC.out hT ?_
 refine zU 4 (λ_=>hT) ?_
 refine jq [6,7] 5 CC.out hT ?_
 refine zU 6 (λ_=>hT) ?_
 refine vQ 7 rfl (λK hK=> ?_)
 obtain⟨q0,q1⟩:=(HRW.out.below (Below.refl _ _).drew.drew).uK gy
 go_simp
 refine hK.out _ _ (λh=>absurd rfl h) ?_
 clear hK K
 refine xH (by kernel_rfl) ?_ _
 refine NoPanic.normal ?_
 clear q0 q1
 have HR2:=qh ((HRW.out.below (Below.refl _ _).drew.drew).zdz v 1)
 have HB2:Hid (Below B w (W.drew.drew.setCell ⟨mb,v,none⟩ (.int .i64 1))):=jG.out.drew.drew.setCell (p:=⟨mb,v,none⟩) HRW.out.wZ.1 _
 go_wp2_with fail
 refine(pq HR2.out).mono ?_
 rintro e w3 ⟨rfl,rfl⟩
 by_cases hz:buf.length=0
 ·have HZ:=qh hz
  have hz1:decide (buf.length=0)=true:=decide_eq_true hz
  clear hz
  rw [hz1]
  go_wp2_with fail
  go_ret
  rw [zQ.out,if_pos ⟨HZ.out,HZ0.out⟩]
  exact j6 HR2.out HB2.out
 have HZ:=qh hz
 have hz1:decide (buf.length=0)=false:=decide_eq_false hz
 clear hz
 rw [hz1]
 go_wp2_with fail
 go_ret
 rw [zQ.out,if_neg (λh=>HZ.out h.1)]
 exact wR HB2.out
theorem zrV {w:World} {B gr mb mc:Nat} {pc r0 r1 r2 r3 dom:Int} {buf:List zo} {bv:Value} {m:zA} {mem:List Int} {bad:Bool} (h:xG v0 w B gr pc r0 r1 r2 r3 buf bv m dom mem mb mc bad) (hB:B<=w.heap.size) (hd1:1<=dom) (hd2:dom<=1000) (d:Nat) (x:zS) (ka kb:Value) (ha:zG d w x.a ka) (hb:zG d w x.b kb)
  (xY:0<=x.reg/\x.reg<4) (hvar:0<=x.var/\x.var<(mem.length:Int)) (hbl:buf.length<=1000000):Calls Tryz.prog 125 #[.pointer (some ⟨gr,0,none⟩),qH x ka kb] w λe w'=>
  qO v0 w B gr m dom mb mc (some (⟨pc, [r0,r1,r2,r3].set x.reg.toNat ((wY buf x.var).getD (mem.getD x.var.toNat 0)),buf⟩,mem,bad)) e w':=by
 obtain⟨aa,ac,rfl, -⟩:=ha.slice
 obtain⟨ba,bc,rfl, -⟩:=hb.slice
 obtain⟨ua,uc,rfl, -⟩:=zh.slice h.vG
 obtain⟨op,reg,v,a,b,yJ⟩:=x
 simp only [] at xY hvar ha hb ⊢
 obtain⟨reg,rfl⟩:∃k:Nat,reg=(k:Int):=⟨reg.toNat,by omega⟩
 obtain⟨v,rfl⟩:∃k:Nat,v=(k:Int):=⟨v.toNat,by omega⟩
 have hr4:reg<4:=by omega
 have gy:v<mem.length:=by omega
 have uO:(v:Int)<(mem.length:Int):=hvar.2
 have hrI:(reg:Int)<4:=xY.2
 try simp only [Int.toNat_natCast]
 clear ha hb
 unfold qH
 simp only []
 generalize a.kind=ak at ⊢
 generalize a.n=an at ⊢
 generalize a.op=ao at ⊢
 generalize a.kids.length=al at ⊢
 generalize b.kind=bk at ⊢
 generalize b.n=bn at ⊢
 generalize b.op=bo at ⊢
 generalize b.kids.length=bl at ⊢
 obtain⟨res,hres⟩:∃r:Option (zy × List Int × Bool),r=(some (⟨pc, [r0,r1,r2,r3].set reg ((wY buf (v:Int)).getD (mem.getD v 0)),buf⟩,mem,bad)):=⟨_,rfl⟩
 rw [<-hres]
 have zQ:=qh hres
 clear hres
 obtain⟨un,hun⟩:∃n,n=buf.length:=⟨_,rfl⟩
 rw [<-hun] at h hbl
 have HUN:=qh hun
 have HR:=qh h
 have yj:=qh hB
 have HA:=qh ((Below.refl w.heap.size w).alloc (Nat.le_refl _) (.cells #[.int .i64 op, .int .i64 (reg:Int), .int .i64 (v:Int), .int .i64 ak, .int .i64 an, .int .u8 ao, .slice aa al ac, .int .i64 bk, .int .i64 bn, .int .u8 bo, .slice ba bl bc, .int .i64 yJ] 64))
 have HX:=qh (yt w (.cells #[.int .i64 op, .int .i64 (reg:Int), .int .i64 (v:Int), .int .i64 ak, .int .i64 an, .int .u8 ao, .slice aa al ac, .int .i64 bk, .int .i64 bn, .int .u8 bo, .slice ba bl bc, .int .i64 yJ] 64))
 clear h hun hB
 go_enter Tryz.func125,Tryz.ntmps125
 go_upto_region 1 with fail
 generalize World.alloc w _=W at HA HX ⊢
 obtain⟨gi,hgi⟩:∃g,g=w.heap.size:=⟨_,rfl⟩
 rw [<-hgi] at HX ⊢
 clear hgi
 have HRW:=qh (HR.out.below HA.out)
 have jG:Hid (Below B w W):=HA.out.mono yj.out
 have CC:Hid (∀x,Below W.heap.size W x->x.cell? ⟨gi,1,none⟩=some (.int .i64 (reg:Int))/\x.cell? ⟨gi,2,none⟩=some (.int .i64 (v:Int))/\x.cell? ⟨gr,5,none⟩=some (.slice ua un uc)/\x.cell? ⟨gr,9,none⟩=some (.slice (some ⟨mb,0,none⟩) mem.length mc)/\x.cell? ⟨mb,v,none⟩=some (.int .i64 (mem.getD v 0))):=λx hx=>⟨zi hx _ _ (ze HX.out 1),zi hx _ _ (ze HX.out 2),zi hx _ _ (ze HRW.out.block 5),zi hx _ _ (ze HRW.out.block 9),zi hx _ _ (HRW.out.uK gy).1⟩
 obtain⟨lk,hlk⟩:∃k,k=wY buf (v:Int):=⟨_,rfl⟩
 have zwE:Hid (∀x,Below W.heap.size W x->Calls Tryz.prog 166 #[.slice ua un uc, .int .i64 (v:Int)] x λe w'=>e= .returned (.tuple #[.int .i64 (lk.getD 0), .bool lk.isSome])/\Below x.heap.size x w'):=λx hx=>by rw [hlk];exact zrp x _ buf (HRW.out.below hx).vG (by rw [<-HUN.out];exact hbl) v
 obtain⟨z,hz⟩:∃z,z=mem.getD v 0:=⟨_,rfl⟩
 rw [<-hz] at CC zQ
 rw [<-hlk] at zQ
 clear hz hlk
 cases lk with
 |some y=>
  refine qM (S:=λx=>Below W.heap.size W x) ((Below.refl _ _).drew) (λhH=> ?_)
  refine zl 0 CC.out ?_
  refine zl 1 CC.out ?_
  refine zl 2 CC.out ?_
  refine zl 3 CC.out ?_
  refine zl 4 CC.out ?_
  refine zl 5 CC.out ?_
  refine zl 6 CC.out ?_
  refine yx 7 rfl (λK hK=> ?_)
  go_simp
  refine(zwE.out W.drew hH).mono ?_
  rintro e zzT ⟨rfl,hb⟩
  have zwF:Below W.heap.size W zzT:=zB hH hb
  refine hK.out _ _ zwF (λ_=> ?_)
  clear hK K hb hH
  refine zl 8 CC.out ?_
  refine zl 9 CC.out ?_
  refine zl 10 CC.out ?_
  refine zl 11 CC.out ?_
  refine zl 12 CC.out ?_
  refine xE ?_
  go_upto_region 4 with fail
  refine wp_region_noPanic ?_
  refine yT (n0:=8) (S:=λx=>Below W.heap.size W x) (by kernel_rfl) ((zB zwF (Below.refl _ _).drew)) (λxW=> ?_)
  refine zU 0 (λ_=>xW) ?_
  refine zU 1 (λ_=>xW) ?_
  refine jq [7,8] 2 CC.out xW ?_
  refine zU 3 (λ_=>xW) ?_
  refine zU 4 (λ_=>xW) ?_
  refine zU 5 (λ_=>xW) ?_
  refine zU 6 (λ_=>xW) ?_
  refine zU 7 (λ_=>xW) ?_
  refine vQ 8 rfl (λK hK=> ?_)
  obtain⟨q0,q1⟩:=(HRW.out.below xW).zdw hr4
  go_simp
  refine hK.out _ _ (λh=>absurd rfl h) ?_
  clear hK K
  refine xH (by kernel_rfl) ?_ _
  refine NoPanic.normal ?_
  clear q0 q1
  have HR2:=qh ((HRW.out.below xW).zf4 reg hr4 y)
  have HB2:Hid (Below B w (zzT.drew.setCell ⟨gr,1+reg,none⟩ (.int .i64 y))):=(jG.out.trans (xW.mono (Nat.le_trans yj.out HA.out.size))).setCell (p:=⟨gr,1+reg,none⟩) HRW.out.base _
  go_wp2_with fail
  go_ret
  rw [zQ.out]
  exact zdv HR2.out HB2.out
 |none=>
 refine qM (S:=λx=>Below W.heap.size W x) ((Below.refl _ _).drew) (λhH=> ?_)
 refine zl 0 CC.out ?_
 refine zl 1 CC.out ?_
 refine zl 2 CC.out ?_
 refine zl 3 CC.out ?_
 refine zl 4 CC.out ?_
 refine zl 5 CC.out ?_
 refine zl 6 CC.out ?_
 refine yx 7 rfl (λK hK=> ?_)
 go_simp
 refine(zwE.out W.drew hH).mono ?_
 rintro e zzU ⟨rfl,hb⟩
 have zpB:Below W.heap.size W zzU:=zB hH hb
 refine hK.out _ _ zpB (λ_=> ?_)
 clear hK K hb hH
 refine zl 8 CC.out ?_
 refine zl 9 CC.out ?_
 refine zl 10 CC.out ?_
 refine zl 11 CC.out ?_
 refine zl 12 CC.out ?_
 refine xE ?_
 go_upto_region 3 with fail
 refine qM (S:=λx=>Below W.heap.size W x) ((zB zpB (Below.refl _ _).drew)) (λhK3=> ?_)
 refine zl 0 CC.out ?_
 refine zl 1 CC.out ?_
 refine zl 2 CC.out ?_
 refine zl 3 CC.out ?_
 refine zl 4 CC.out ?_
 refine zl 5 CC.out ?_
 refine zl 6 CC.out ?_
 refine zl 7 CC.out ?_
 refine zl 8 CC.out ?_
 refine xE ?_
 go_upto_region 4 with fail
 refine wp_region_noPanic ?_
 refine yT (n0:=8) (S:=λx=>Below W.heap.size W x) (by kernel_rfl) ((zB zpB (Below.refl _ _).drew.drew)) (λxW=> ?_)
 refine zU 0 (λ_=>xW) ?_
 refine zU 1 (λ_=>xW) ?_
 refine jq [7,8] 2 CC.out xW ?_
 refine zU 3 (λ_=>xW) ?_
 refine zU 4 (λ_=>xW) ?_
 refine zU 5 (λ_=>xW) ?_
 refine zU 6 (λ_=>xW) ?_
 refine zU 7 (λ_=>xW) ?_
 refine vQ 8 rfl (λK hK=> ?_)
 obtain⟨q0,q1⟩:=(HRW.out.below xW).zdw hr4
 go_simp
 refine hK.out _ _ (λh=>absurd rfl h) ?_
 clear hK K
 refine xH (by kernel_rfl) ?_ _
 refine NoPanic.normal ?_
 clear q0 q1
 have HR2:=qh ((HRW.out.below xW).zf4 reg hr4 z)
 have HB2:Hid (Below B w (zzU.drew.drew.setCell ⟨gr,1+reg,none⟩ (.int .i64 z))):=(jG.out.trans (xW.mono (Nat.le_trans yj.out HA.out.size))).setCell (p:=⟨gr,1+reg,none⟩) HRW.out.base _
 go_wp2_with fail
 go_ret
 rw [zQ.out]
 exact zdv HR2.out HB2.out
