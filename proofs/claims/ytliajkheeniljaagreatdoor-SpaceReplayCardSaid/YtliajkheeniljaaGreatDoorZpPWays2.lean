/- Steps. -/
import Derived.Test.YtliajkheeniljaaGreatDoorZpTail
set_option linter.all false
namespace Go.Proofs.YtliajkheeniljaaGreatDoor
open Go.RowKit
set_option maxRecDepth 100000
set_option maxHeartbeats 16000000
variable {v0:Value}
theorem zsR {w:World} {B gr mb mc:Nat} {pc r0 r1 r2 r3 dom:Int} {buf:List zk} {bv:Value} {m:zF} {mem:List Int} {bad:Bool} (h:xB v0 w B gr pc r0 r1 r2 r3 buf bv m dom mem mb mc bad) (hB:B<=w.heap.size) (hd1:1<=dom) (hd2:dom<=1000) (d:Nat) (x:zW) (ka kb:Value) (ha:zC d w x.a ka) (hb:zC d w x.b kb)
  (xX:0<=x.reg/\x.reg<4) (hvar:0<=x.var/\x.var<(mem.length:Int)) (hbl:buf.length<=1000000):Calls Tryz.prog 127 #[.pointer (some ⟨gr,0,none⟩),qA x ka kb] w λe w'=>
  qH v0 w B gr m dom mb mc (some (⟨pc, [r0,r1,r2,r3].set x.reg.toNat (yw [r0,r1,r2,r3] dom d x.a),buf⟩,mem,bad)) e w':=by
 have yh:=λW V (hV:xB v0 W B gr pc r0 r1 r2 r3 buf V m dom mem mb mc bad) (hW:Below w.heap.size w W)=>zaq hV hd1 hd2 d x.a ka (ha.below hW)
 obtain⟨aa,ac,rfl, -⟩:=ha.slice
 obtain⟨ba,bc,rfl, -⟩:=hb.slice
 obtain⟨ua,uc,rfl, -⟩:=zh.slice h.vD
 obtain⟨op,reg,v,a,b,yG⟩:=x
 simp only [] at xX hvar ha hb yh ⊢
 obtain⟨reg,rfl⟩:∃k:Nat,reg=(k:Int):=⟨reg.toNat,by omega⟩
 obtain⟨v,rfl⟩:∃k:Nat,v=(k:Int):=⟨v.toNat,by omega⟩
 have hr4:reg<4:=by omega
 have gJ:v<mem.length:=by omega
 have uH:(v:Int)<(mem.length:Int):=hvar.2
 have hrI:(reg:Int)<4:=xX.2
 try simp only [Int.toNat_natCast]
 clear ha hb
 unfold qA
 simp only []
 unfold xY at yh
 generalize hva:yw [r0,r1,r2,r3] dom d a=va at yh ⊢
 clear hva
 generalize a.kind=ak at yh ⊢
 generalize a.n=an at yh ⊢
 generalize a.op=ao at yh ⊢
 generalize a.kids.length=al at yh ⊢
 generalize b.kind=bk at ⊢
 generalize b.n=bn at ⊢
 generalize b.op=bo at ⊢
 generalize b.kids.length=bl at ⊢
 have HEA:=qh yh
 clear yh
 obtain⟨res,hres⟩:∃r:Option (zA × List Int × Bool),r=(some (⟨pc, [r0,r1,r2,r3].set reg (va),buf⟩,mem,bad)):=⟨_,rfl⟩
 rw [<-hres]
 have zP:=qh hres
 clear hres
 obtain⟨un,hun⟩:∃n,n=buf.length:=⟨_,rfl⟩
 rw [<-hun] at h hbl
 have HUN:=qh hun
 have HR:=qh h
 have yx:=qh hB
 have HA:=qh ((Below.refl w.heap.size w).alloc (Nat.le_refl _) (.cells #[.int .i64 op, .int .i64 (reg:Int), .int .i64 (v:Int), .int .i64 ak, .int .i64 an, .int .u8 ao, .slice aa al ac, .int .i64 bk, .int .i64 bn, .int .u8 bo, .slice ba bl bc, .int .i64 yG] 64))
 have HX:=qh (yj w (.cells #[.int .i64 op, .int .i64 (reg:Int), .int .i64 (v:Int), .int .i64 ak, .int .i64 an, .int .u8 ao, .slice aa al ac, .int .i64 bk, .int .i64 bn, .int .u8 bo, .slice ba bl bc, .int .i64 yG] 64))
 clear h hun hB
 go_enter Tryz.func127,Tryz.ntmps127
 go_upto_region 1 with fail
 generalize World.alloc w _=W at HA HX ⊢
 obtain⟨gi,hgi⟩:∃g,g=w.heap.size:=⟨_,rfl⟩
 rw [<-hgi] at HX ⊢
 clear hgi
 have HRW:=qh (HR.out.below HA.out)
 have jE:Hid (Below B w W):=HA.out.mono yx.out
 have CC:Hid (∀x,Below W.heap.size W x->x.cell? ⟨gi,1,none⟩=some (.int .i64 (reg:Int))/\x.cell? ⟨gi,3,none⟩=some (.int .i64 ak)/\x.cell? ⟨gi,4,none⟩=some (.int .i64 an)/\x.cell? ⟨gi,5,none⟩=some (.int .u8 ao)/\x.cell? ⟨gi,6,none⟩=some (.slice aa al ac)):=λx hx=>⟨zi hx _ _ (ze HX.out 1),zi hx _ _ (ze HX.out 3),zi hx _ _ (ze HX.out 4),zi hx _ _ (ze HX.out 5),zi hx _ _ (ze HX.out 6)⟩
 refine wp_region_noPanic ?_
 refine yL (n0:=11) (S:=λx=>Below W.heap.size W x) (by kernel_rfl) ((Below.refl _ _).drew) (λhT=> ?_)
 refine zO 0 (λ_=>hT) ?_
 refine zO 1 (λ_=>hT) ?_
 refine vL [10,11] 2 CC.out hT ?_
 refine zO 3 (λ_=>hT) ?_
 refine zO 4 (λ_=>hT) ?_
 refine vL [6,10,11] 5 CC.out hT ?_
 refine zO 7 (λ_=>hT) ?_
 refine zO 8 (λ_=>hT) ?_
 refine zO 9 (λ_=>hT) ?_
 refine qW 6 rfl (λK hK=> ?_)
 go_simp
 refine(HEA.out W.drew _ (HRW.out.below hT) (zG HA.out hT)).mono ?_
 rintro e tw6 ⟨rfl,hb⟩
 have wJ:Below W.heap.size W tw6:=zG hT hb
 refine hK.out _ _ (λ_ _=>wJ) ?_
 clear hK K hb hT
 refine zO 10 (λ_=>wJ) ?_
 refine qW 11 rfl (λK hK=> ?_)
 obtain⟨q0,q1⟩:=(HRW.out.below wJ).zdi hr4
 go_simp
 refine hK.out _ _ (λh=>absurd rfl h) ?_
 clear hK K
 refine xg (by kernel_rfl) ?_ _
 refine NoPanic.normal ?_
 clear q0 q1
 have HR2:=qh ((HRW.out.below wJ).zeL reg hr4 va)
 have HB2:Hid (Below B w (tw6.setCell ⟨gr,1+reg,none⟩ (.int .i64 va))):=(jE.out.trans (wJ.mono (Nat.le_trans yx.out HA.out.size))).setCell (p:=⟨gr,1+reg,none⟩) HRW.out.base _
 go_wp2_with fail
 go_ret
 rw [zP.out]
 exact zdj HR2.out HB2.out
theorem zpU {w:World} {B gr mb mc:Nat} {pc r0 r1 r2 r3 dom:Int} {buf:List zk} {bv:Value} {m:zF} {mem:List Int} {bad:Bool} (h:xB v0 w B gr pc r0 r1 r2 r3 buf bv m dom mem mb mc bad) (hB:B<=w.heap.size) (hd1:1<=dom) (hd2:dom<=1000) (d:Nat) (x:zW) (ka kb:Value) (ha:zC d w x.a ka) (hb:zC d w x.b kb)
  (xX:0<=x.reg/\x.reg<4) (hvar:0<=x.var/\x.var<(mem.length:Int)) (hbl:buf.length<=1000000):Calls Tryz.prog 131 #[.pointer (some ⟨gr,0,none⟩),qA x ka kb] w λe w'=>
  qH v0 w B gr m dom mb mc (if buf.length=0/\mem.getD x.var.toNat 0=0 then some (⟨pc, [r0,r1,r2,r3],buf⟩,mem.set x.var.toNat 1,bad) else none) e w':=by
 obtain⟨aa,ac,rfl, -⟩:=ha.slice
 obtain⟨ba,bc,rfl, -⟩:=hb.slice
 obtain⟨ua,uc,rfl, -⟩:=zh.slice h.vD
 obtain⟨op,reg,v,a,b,yG⟩:=x
 simp only [] at xX hvar ha hb ⊢
 obtain⟨reg,rfl⟩:∃k:Nat,reg=(k:Int):=⟨reg.toNat,by omega⟩
 obtain⟨v,rfl⟩:∃k:Nat,v=(k:Int):=⟨v.toNat,by omega⟩
 have hr4:reg<4:=by omega
 have gJ:v<mem.length:=by omega
 have uH:(v:Int)<(mem.length:Int):=hvar.2
 have hrI:(reg:Int)<4:=xX.2
 try simp only [Int.toNat_natCast]
 clear ha hb
 unfold qA
 simp only []
 generalize a.kind=ak at ⊢
 generalize a.n=an at ⊢
 generalize a.op=ao at ⊢
 generalize a.kids.length=al at ⊢
 generalize b.kind=bk at ⊢
 generalize b.n=bn at ⊢
 generalize b.op=bo at ⊢
 generalize b.kids.length=bl at ⊢
 obtain⟨res,hres⟩:∃r:Option (zA × List Int × Bool),r=(if buf.length=0/\mem.getD v 0=0 then some (⟨pc, [r0,r1,r2,r3],buf⟩,mem.set v 1,bad) else none):=⟨_,rfl⟩
 rw [<-hres]
 have zP:=qh hres
 clear hres
 obtain⟨un,hun⟩:∃n,n=buf.length:=⟨_,rfl⟩
 rw [<-hun] at h hbl
 have HUN:=qh hun
 have HR:=qh h
 have yx:=qh hB
 have HA:=qh ((Below.refl w.heap.size w).alloc (Nat.le_refl _) (.cells #[.int .i64 op, .int .i64 (reg:Int), .int .i64 (v:Int), .int .i64 ak, .int .i64 an, .int .u8 ao, .slice aa al ac, .int .i64 bk, .int .i64 bn, .int .u8 bo, .slice ba bl bc, .int .i64 yG] 64))
 have HX:=qh (yj w (.cells #[.int .i64 op, .int .i64 (reg:Int), .int .i64 (v:Int), .int .i64 ak, .int .i64 an, .int .u8 ao, .slice aa al ac, .int .i64 bk, .int .i64 bn, .int .u8 bo, .slice ba bl bc, .int .i64 yG] 64))
 clear h hun hB
 go_enter Tryz.func131,Tryz.ntmps131
 go_upto_region 1 with fail
 generalize World.alloc w _=W at HA HX ⊢
 obtain⟨gi,hgi⟩:∃g,g=w.heap.size:=⟨_,rfl⟩
 rw [<-hgi] at HX ⊢
 clear hgi
 have HRW:=qh (HR.out.below HA.out)
 have jE:Hid (Below B w W):=HA.out.mono yx.out
 have CC:Hid (∀x,Below W.heap.size W x->x.cell? ⟨gi,2,none⟩=some (.int .i64 (v:Int))/\x.cell? ⟨gr,9,none⟩=some (.slice (some ⟨mb,0,none⟩) mem.length mc)/\x.cell? ⟨mb,v,none⟩=some (.int .i64 (mem.getD v 0))):=λx hx=>⟨zi hx _ _ (ze HX.out 2),zi hx _ _ (ze HRW.out.block 9),zi hx _ _ (HRW.out.uy gJ).1⟩
 obtain⟨z,hz⟩:∃z,z=mem.getD v 0:=⟨_,rfl⟩
 rw [<-hz] at CC zP
 clear hz
 by_cases hz0:z=0
 rotate_left
 ·have hz1:((z:Int)==0)=false:=by simp [hz0]
  have HZ0:=qh hz0
  clear hz0
  refine vV (S:=λx=>Below W.heap.size W x) ((Below.refl _ _).drew) (λhH=> ?_)
  refine zu 0 CC.out ?_
  refine zu 1 CC.out ?_
  refine zu 2 CC.out ?_
  refine zu 3 CC.out ?_
  refine zu 4 CC.out ?_
  refine zu 5 CC.out ?_
  refine zu 6 CC.out ?_
  refine zu 7 CC.out ?_
  refine zu 8 CC.out ?_
  refine zu 9 CC.out ?_
  refine xQ ?_
  go_upto_region 2 with fail
  refine wp_region_noPanic ?_
  refine yL (n0:=7) (S:=λx=>Below W.heap.size W x) (by kernel_rfl) ((Below.refl _ _).drew.drew) (λhT=> ?_)
  refine zO 0 (λ_=>hT) ?_
  refine zO 1 (λ_=>hT) ?_
  refine zO 2 (λ_=>hT) ?_
  refine vL [6,7] 3 CC.out hT ?_
  refine zO 4 (λ_=>hT) ?_
  refine vL [6,7] 5 CC.out hT ?_
  refine zO 6 (λ_=>hT) ?_
  refine qW 7 rfl (λK hK=> ?_)
  obtain⟨q0,q1⟩:=(HRW.out.below (Below.refl _ _).drew.drew).uy gJ
  go_simp
  refine hK.out _ _ (λh=>absurd rfl h) ?_
  clear hK K
  refine xg (by kernel_rfl) ?_ _
  refine NoPanic.normal ?_
  clear q0 q1
  have HR2:=qh ((HRW.out.below (Below.refl _ _).drew.drew).zdk v 1)
  have HB2:Hid (Below B w (W.drew.drew.setCell ⟨mb,v,none⟩ (.int .i64 1))):=jE.out.drew.drew.setCell (p:=⟨mb,v,none⟩) HRW.out.gy.1 _
  go_wp2_with fail
  go_ret
  rw [zP.out,if_neg (λh=>HZ0.out h.2)]
  exact wP HB2.out
 have hz1:((z:Int)==0)=true:=by simp [hz0]
 have HZ0:=qh hz0
 clear hz0
 refine vV (S:=λx=>Below W.heap.size W x) ((Below.refl _ _).drew) (λhH=> ?_)
 refine zu 0 CC.out ?_
 refine zu 1 CC.out ?_
 refine zu 2 CC.out ?_
 refine zu 3 CC.out ?_
 refine zu 4 CC.out ?_
 refine zu 5 CC.out ?_
 refine zu 6 CC.out ?_
 refine zu 7 CC.out ?_
 refine zu 8 CC.out ?_
 refine zu 9 CC.out ?_
 refine xQ ?_
 go_upto_region 2 with fail
 refine wp_region_noPanic ?_
 refine yL (n0:=7) (S:=λx=>Below W.heap.size W x) (by kernel_rfl) ((Below.refl _ _).drew.drew) (λhT=> ?_)
 refine zO 0 (λ_=>hT) ?_
 refine zO 1 (λ_=>hT) ?_
 refine zO 2 (λ_=>hT) ?_
 refine vL [6,7] 3 CC.out hT ?_
 refine zO 4 (λ_=>hT) ?_
 refine vL [6,7] 5 CC.out hT ?_
 refine zO 6 (λ_=>hT) ?_
 refine qW 7 rfl (λK hK=> ?_)
 obtain⟨q0,q1⟩:=(HRW.out.below (Below.refl _ _).drew.drew).uy gJ
 go_simp
 refine hK.out _ _ (λh=>absurd rfl h) ?_
 clear hK K
 refine xg (by kernel_rfl) ?_ _
 refine NoPanic.normal ?_
 clear q0 q1
 have HR2:=qh ((HRW.out.below (Below.refl _ _).drew.drew).zdk v 1)
 have HB2:Hid (Below B w (W.drew.drew.setCell ⟨mb,v,none⟩ (.int .i64 1))):=jE.out.drew.drew.setCell (p:=⟨mb,v,none⟩) HRW.out.gy.1 _
 go_wp2_with fail
 refine(bK HR2.out).mono ?_
 rintro e w3 ⟨rfl,rfl⟩
 by_cases hz:buf.length=0
 ·have HZ:=qh hz
  have hz1:decide (buf.length=0)=true:=decide_eq_true hz
  clear hz
  rw [hz1]
  go_wp2_with fail
  go_ret
  rw [zP.out,if_pos ⟨HZ.out,HZ0.out⟩]
  exact j4 HR2.out HB2.out
 have HZ:=qh hz
 have hz1:decide (buf.length=0)=false:=decide_eq_false hz
 clear hz
 rw [hz1]
 go_wp2_with fail
 go_ret
 rw [zP.out,if_neg (λh=>HZ.out h.1)]
 exact wP HB2.out
theorem zpS {w:World} {B gr mb mc:Nat} {pc r0 r1 r2 r3 dom:Int} {buf:List zk} {bv:Value} {m:zF} {mem:List Int} {bad:Bool} (h:xB v0 w B gr pc r0 r1 r2 r3 buf bv m dom mem mb mc bad) (hB:B<=w.heap.size) (hd1:1<=dom) (hd2:dom<=1000) (d:Nat) (x:zW) (ka kb:Value) (ha:zC d w x.a ka) (hb:zC d w x.b kb)
  (xX:0<=x.reg/\x.reg<4) (hvar:0<=x.var/\x.var<(mem.length:Int)) (hbl:buf.length<=1000000):Calls Tryz.prog 125 #[.pointer (some ⟨gr,0,none⟩),qA x ka kb] w λe w'=>
  qH v0 w B gr m dom mb mc (some (⟨pc, [r0,r1,r2,r3].set x.reg.toNat ((wT buf x.var).getD (mem.getD x.var.toNat 0)),buf⟩,mem,bad)) e w':=by
 obtain⟨aa,ac,rfl, -⟩:=ha.slice
 obtain⟨ba,bc,rfl, -⟩:=hb.slice
 obtain⟨ua,uc,rfl, -⟩:=zh.slice h.vD
 obtain⟨op,reg,v,a,b,yG⟩:=x
 simp only [] at xX hvar ha hb ⊢
 obtain⟨reg,rfl⟩:∃k:Nat,reg=(k:Int):=⟨reg.toNat,by omega⟩
 obtain⟨v,rfl⟩:∃k:Nat,v=(k:Int):=⟨v.toNat,by omega⟩
 have hr4:reg<4:=by omega
 have gJ:v<mem.length:=by omega
 have uH:(v:Int)<(mem.length:Int):=hvar.2
 have hrI:(reg:Int)<4:=xX.2
 try simp only [Int.toNat_natCast]
 clear ha hb
 unfold qA
 simp only []
 generalize a.kind=ak at ⊢
 generalize a.n=an at ⊢
 generalize a.op=ao at ⊢
 generalize a.kids.length=al at ⊢
 generalize b.kind=bk at ⊢
 generalize b.n=bn at ⊢
 generalize b.op=bo at ⊢
 generalize b.kids.length=bl at ⊢
 obtain⟨res,hres⟩:∃r:Option (zA × List Int × Bool),r=(some (⟨pc, [r0,r1,r2,r3].set reg ((wT buf (v:Int)).getD (mem.getD v 0)),buf⟩,mem,bad)):=⟨_,rfl⟩
 rw [<-hres]
 have zP:=qh hres
 clear hres
 obtain⟨un,hun⟩:∃n,n=buf.length:=⟨_,rfl⟩
 rw [<-hun] at h hbl
 have HUN:=qh hun
 have HR:=qh h
 have yx:=qh hB
 have HA:=qh ((Below.refl w.heap.size w).alloc (Nat.le_refl _) (.cells #[.int .i64 op, .int .i64 (reg:Int), .int .i64 (v:Int), .int .i64 ak, .int .i64 an, .int .u8 ao, .slice aa al ac, .int .i64 bk, .int .i64 bn, .int .u8 bo, .slice ba bl bc, .int .i64 yG] 64))
 have HX:=qh (yj w (.cells #[.int .i64 op, .int .i64 (reg:Int), .int .i64 (v:Int), .int .i64 ak, .int .i64 an, .int .u8 ao, .slice aa al ac, .int .i64 bk, .int .i64 bn, .int .u8 bo, .slice ba bl bc, .int .i64 yG] 64))
 clear h hun hB
 go_enter Tryz.func125,Tryz.ntmps125
 go_upto_region 1 with fail
 generalize World.alloc w _=W at HA HX ⊢
 obtain⟨gi,hgi⟩:∃g,g=w.heap.size:=⟨_,rfl⟩
 rw [<-hgi] at HX ⊢
 clear hgi
 have HRW:=qh (HR.out.below HA.out)
 have jE:Hid (Below B w W):=HA.out.mono yx.out
 have CC:Hid (∀x,Below W.heap.size W x->x.cell? ⟨gi,1,none⟩=some (.int .i64 (reg:Int))/\x.cell? ⟨gi,2,none⟩=some (.int .i64 (v:Int))/\x.cell? ⟨gr,5,none⟩=some (.slice ua un uc)/\x.cell? ⟨gr,9,none⟩=some (.slice (some ⟨mb,0,none⟩) mem.length mc)/\x.cell? ⟨mb,v,none⟩=some (.int .i64 (mem.getD v 0))):=λx hx=>⟨zi hx _ _ (ze HX.out 1),zi hx _ _ (ze HX.out 2),zi hx _ _ (ze HRW.out.block 5),zi hx _ _ (ze HRW.out.block 9),zi hx _ _ (HRW.out.uy gJ).1⟩
 obtain⟨lk,hlk⟩:∃k,k=wT buf (v:Int):=⟨_,rfl⟩
 have zwp:Hid (∀x,Below W.heap.size W x->Calls Tryz.prog 166 #[.slice ua un uc, .int .i64 (v:Int)] x λe w'=>e= .returned (.tuple #[.int .i64 (lk.getD 0), .bool lk.isSome])/\Below x.heap.size x w'):=λx hx=>by rw [hlk];exact zqg x _ buf (HRW.out.below hx).vD (by rw [<-HUN.out];exact hbl) v
 obtain⟨z,hz⟩:∃z,z=mem.getD v 0:=⟨_,rfl⟩
 rw [<-hz] at CC zP
 rw [<-hlk] at zP
 clear hz hlk
 cases lk with
 |some y=>
  refine vV (S:=λx=>Below W.heap.size W x) ((Below.refl _ _).drew) (λhH=> ?_)
  refine zu 0 CC.out ?_
  refine zu 1 CC.out ?_
  refine zu 2 CC.out ?_
  refine zu 3 CC.out ?_
  refine zu 4 CC.out ?_
  refine zu 5 CC.out ?_
  refine zu 6 CC.out ?_
  refine yA 7 rfl (λK hK=> ?_)
  go_simp
  refine(zwp.out W.drew hH).mono ?_
  rintro e z0j ⟨rfl,hb⟩
  have zwq:Below W.heap.size W z0j:=zG hH hb
  refine hK.out _ _ zwq (λ_=> ?_)
  clear hK K hb hH
  refine zu 8 CC.out ?_
  refine zu 9 CC.out ?_
  refine zu 10 CC.out ?_
  refine zu 11 CC.out ?_
  refine zu 12 CC.out ?_
  refine xQ ?_
  go_upto_region 4 with fail
  refine wp_region_noPanic ?_
  refine yL (n0:=8) (S:=λx=>Below W.heap.size W x) (by kernel_rfl) ((zG zwq (Below.refl _ _).drew)) (λxU=> ?_)
  refine zO 0 (λ_=>xU) ?_
  refine zO 1 (λ_=>xU) ?_
  refine vL [7,8] 2 CC.out xU ?_
  refine zO 3 (λ_=>xU) ?_
  refine zO 4 (λ_=>xU) ?_
  refine zO 5 (λ_=>xU) ?_
  refine zO 6 (λ_=>xU) ?_
  refine zO 7 (λ_=>xU) ?_
  refine qW 8 rfl (λK hK=> ?_)
  obtain⟨q0,q1⟩:=(HRW.out.below xU).zdi hr4
  go_simp
  refine hK.out _ _ (λh=>absurd rfl h) ?_
  clear hK K
  refine xg (by kernel_rfl) ?_ _
  refine NoPanic.normal ?_
  clear q0 q1
  have HR2:=qh ((HRW.out.below xU).zeL reg hr4 y)
  have HB2:Hid (Below B w (z0j.drew.setCell ⟨gr,1+reg,none⟩ (.int .i64 y))):=(jE.out.trans (xU.mono (Nat.le_trans yx.out HA.out.size))).setCell (p:=⟨gr,1+reg,none⟩) HRW.out.base _
  go_wp2_with fail
  go_ret
  rw [zP.out]
  exact zdj HR2.out HB2.out
 |none=>
 refine vV (S:=λx=>Below W.heap.size W x) ((Below.refl _ _).drew) (λhH=> ?_)
 refine zu 0 CC.out ?_
 refine zu 1 CC.out ?_
 refine zu 2 CC.out ?_
 refine zu 3 CC.out ?_
 refine zu 4 CC.out ?_
 refine zu 5 CC.out ?_
 refine zu 6 CC.out ?_
 refine yA 7 rfl (λK hK=> ?_)
 go_simp
 refine(zwp.out W.drew hH).mono ?_
 rintro e z0k ⟨rfl,hb⟩
 have zpn:Below W.heap.size W z0k:=zG hH hb
 refine hK.out _ _ zpn (λ_=> ?_)
 clear hK K hb hH
 refine zu 8 CC.out ?_
 refine zu 9 CC.out ?_
 refine zu 10 CC.out ?_
 refine zu 11 CC.out ?_
 refine zu 12 CC.out ?_
 refine xQ ?_
 go_upto_region 3 with fail
 refine vV (S:=λx=>Below W.heap.size W x) ((zG zpn (Below.refl _ _).drew)) (λhK3=> ?_)
 refine zu 0 CC.out ?_
 refine zu 1 CC.out ?_
 refine zu 2 CC.out ?_
 refine zu 3 CC.out ?_
 refine zu 4 CC.out ?_
 refine zu 5 CC.out ?_
 refine zu 6 CC.out ?_
 refine zu 7 CC.out ?_
 refine zu 8 CC.out ?_
 refine xQ ?_
 go_upto_region 4 with fail
 refine wp_region_noPanic ?_
 refine yL (n0:=8) (S:=λx=>Below W.heap.size W x) (by kernel_rfl) ((zG zpn (Below.refl _ _).drew.drew)) (λxU=> ?_)
 refine zO 0 (λ_=>xU) ?_
 refine zO 1 (λ_=>xU) ?_
 refine vL [7,8] 2 CC.out xU ?_
 refine zO 3 (λ_=>xU) ?_
 refine zO 4 (λ_=>xU) ?_
 refine zO 5 (λ_=>xU) ?_
 refine zO 6 (λ_=>xU) ?_
 refine zO 7 (λ_=>xU) ?_
 refine qW 8 rfl (λK hK=> ?_)
 obtain⟨q0,q1⟩:=(HRW.out.below xU).zdi hr4
 go_simp
 refine hK.out _ _ (λh=>absurd rfl h) ?_
 clear hK K
 refine xg (by kernel_rfl) ?_ _
 refine NoPanic.normal ?_
 clear q0 q1
 have HR2:=qh ((HRW.out.below xU).zeL reg hr4 z)
 have HB2:Hid (Below B w (z0k.drew.drew.setCell ⟨gr,1+reg,none⟩ (.int .i64 z))):=(jE.out.trans (xU.mono (Nat.le_trans yx.out HA.out.size))).setCell (p:=⟨gr,1+reg,none⟩) HRW.out.base _
 go_wp2_with fail
 go_ret
 rw [zP.out]
 exact zdj HR2.out HB2.out
