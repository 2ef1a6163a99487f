/- What a thread's instructions do: the program's methods: the walks. -/
import Derived.Test.YtliajkheeniljaaGreatDoorZsPWays
import Derived.Test.YtliajkheeniljaaGreatDoorZsShort
set_option linter.all false
namespace Go.Proofs.YtliajkheeniljaaGreatDoor
open Go.RowKit
set_option maxRecDepth 100000
set_option maxHeartbeats 16000000
variable {v0:Value}
theorem zrw {w:World} {B gr mb mc:Nat} {pc r0 r1 r2 r3 dom:Int} {buf:List zm} {bv:Value} {m:zK} {mem:List Int} {bad:Bool} (h:xq v0 w B gr pc r0 r1 r2 r3 buf bv m dom mem mb mc bad) (hB:B<=w.heap.size) (hd1:1<=dom) (hd2:dom<=1000) (d:Nat) (x:zW) (ka kb:Value) (ha:zC d w x.a ka) (hb:zC d w x.b kb)
  (xO:0<=x.reg/\x.reg<4) (hvar:0<=x.var/\x.var<(mem.length:Int)) (hbl:buf.length<=1000000):Calls Tryz.prog 130 #[.pointer (some ⟨gr,0,none⟩),xU x ka kb] w fun e w'=>
  xZ v0 w B gr m dom mb mc (if mem.getD x.var.toNat 0=yw [r0,r1,r2,r3] dom d x.a then(if buf.length=0 then some (⟨pc, [r0,r1,r2,r3].set x.reg.toNat 1,buf⟩,mem.set x.var.toNat (yw [r0,r1,r2,r3] dom d x.b),bad) else none) else(if buf.length=0 then some (⟨pc, [r0,r1,r2,r3].set x.reg.toNat 0,buf⟩,mem,bad) else none)) e w':=by
 have yx:=fun W V (hV:xq v0 W B gr pc r0 r1 r2 r3 buf V m dom mem mb mc bad) (hW:Below w.heap.size w W)=>bq hV hd1 hd2 d x.a ka (ha.below hW)
 have bA:=fun W V (hV:xq v0 W B gr pc r0 r1 r2 r3 buf V m dom mem mb mc bad) (hW:Below w.heap.size w W)=>bq hV hd1 hd2 d x.b kb (hb.below hW)
 obtain⟨aa,ac,rfl, -⟩:=ha.slice
 obtain⟨ba,bc,rfl, -⟩:=hb.slice
 obtain⟨ua,uc,rfl, -⟩:=zk.slice h.qF
 obtain⟨op,reg,v,a,b,yB⟩:=x
 simp only [] at xO hvar ha hb yx bA ⊢
 obtain⟨reg,rfl⟩:∃k:Nat,reg=(k:Int):=⟨reg.toNat,by omega⟩
 obtain⟨v,rfl⟩:∃k:Nat,v=(k:Int):=⟨v.toNat,by omega⟩
 have hr4:reg<4:=by omega
 have kF:v<mem.length:=by omega
 have wL:(v:Int)<(mem.length:Int):=hvar.2
 have hrI:(reg:Int)<4:=xO.2
 try simp only [Int.toNat_natCast]
 clear ha hb
 unfold xU
 simp only []
 unfold xP at yx bA
 generalize hva:yw [r0,r1,r2,r3] dom d a=va at yx ⊢
 clear hva
 generalize hvb:yw [r0,r1,r2,r3] dom d b=vb at bA ⊢
 clear hvb
 generalize a.kind=ak at yx ⊢
 generalize a.n=an at yx ⊢
 generalize a.op=ao at yx ⊢
 generalize a.kids.length=al at yx ⊢
 generalize b.kind=bk at bA ⊢
 generalize b.n=bn at bA ⊢
 generalize b.op=bo at bA ⊢
 generalize b.kids.length=bl at bA ⊢
 have HEA:=qh yx
 clear yx
 have HEB:=qh bA
 clear bA
 obtain⟨res,hres⟩:∃r:Option (zx × List Int × Bool),r=(if mem.getD v 0=va then(if buf.length=0 then some (⟨pc, [r0,r1,r2,r3].set reg 1,buf⟩,mem.set v (vb),bad) else none) else(if buf.length=0 then some (⟨pc, [r0,r1,r2,r3].set reg 0,buf⟩,mem,bad) else none)):=⟨_,rfl⟩
 rw [<-hres]
 have zL:=qh hres
 clear hres
 obtain⟨un,hun⟩:∃n,n=buf.length:=⟨_,rfl⟩
 rw [<-hun] at h hbl
 have HUN:=qh hun
 have HR:=qh h
 have yu:=qh hB
 have HA:=qh ((Below.refl w.heap.size w).alloc (Nat.le_refl _) (.cells #[.int .i64 op, .int .i64 (reg:Int), .int .i64 (v:Int), .int .i64 ak, .int .i64 an, .int .u8 ao, .slice aa al ac, .int .i64 bk, .int .i64 bn, .int .u8 bo, .slice ba bl bc, .int .i64 yB] 64))
 have HX:=qh (yD w (.cells #[.int .i64 op, .int .i64 (reg:Int), .int .i64 (v:Int), .int .i64 ak, .int .i64 an, .int .u8 ao, .slice aa al ac, .int .i64 bk, .int .i64 bn, .int .u8 bo, .slice ba bl bc, .int .i64 yB] 64))
 clear h hun hB
 go_enter Tryz.func130,Tryz.ntmps130
 go_upto_region 1 with fail
 generalize World.alloc w _=W at HA HX ⊢
 obtain⟨gi,hgi⟩:∃g,g=w.heap.size:=⟨_,rfl⟩
 rw [<-hgi] at HX ⊢
 have HGI:=qh hgi
 clear hgi
 have HRW:=qh (HR.out.below HA.out)
 have vQ:Hid (Below B w W):=HA.out.mono yu.out
 have CC:Hid (∀x,Below W.heap.size W x->x.cell? ⟨gi,1,none⟩=some (.int .i64 (reg:Int))/\x.cell? ⟨gi,2,none⟩=some (.int .i64 (v:Int))/\x.cell? ⟨gi,3,none⟩=some (.int .i64 ak)/\x.cell? ⟨gi,4,none⟩=some (.int .i64 an)/\x.cell? ⟨gi,5,none⟩=some (.int .u8 ao)/\x.cell? ⟨gi,6,none⟩=some (.slice aa al ac)/\x.cell? ⟨gi,7,none⟩=some (.int .i64 bk)/\x.cell? ⟨gi,8,none⟩=some (.int .i64 bn)/\x.cell? ⟨gi,9,none⟩=some (.int .u8 bo)/\x.cell? ⟨gi,10,none⟩=some (.slice ba bl bc)/\x.cell? ⟨gr,9,none⟩=some (.slice (some ⟨mb,0,none⟩) mem.length mc)/\x.cell? ⟨mb,v,none⟩=some (.int .i64 (mem.getD v 0))):=fun x hx=>⟨zl hx _ _ (zi HX.out 1),zl hx _ _ (zi HX.out 2),zl hx _ _ (zi HX.out 3),zl hx _ _ (zi HX.out 4),zl hx _ _ (zi HX.out 5),zl hx _ _ (zi HX.out 6),zl hx _ _ (zi HX.out 7),zl hx _ _ (zi HX.out 8),zl hx _ _ (zi HX.out 9),zl hx _ _ (zi HX.out 10),zl hx _ _ (zi HRW.out.block 9),zl hx _ _ (HRW.out.wD kF).1⟩
 have HGM:=qh (show gi≠mb by have:=HR.out.kC.2;have:=HGI.out;omega)
 obtain⟨z,hz⟩:∃z,z=mem.getD v 0:=⟨_,rfl⟩
 rw [<-hz] at CC zL
 clear hz
 refine wp_region_noPanic ?_
 refine wp_region_held_drew (S:=fun x=>Below W.heap.size W x) (by kernel_rfl) ((Below.refl _ _).drew) (fun hH=> ?_)
 refine zo 0 8 ?vh1 rfl ?uH ?_
 case uH=>(intro x h;have e:=CC.out x h;go_simp<;>rfl)
 simp only [Act.put,za,ze,zh]
 refine zo 1 9 ?vh2 rfl ?uI ?_
 case uI=>(intro x h;have e:=CC.out x h;go_simp<;>rfl)
 simp only [Act.put,za,ze,zh]
 refine zo 2 10 ?vh3 rfl ?uJ ?_
 case uJ=>(intro x h;have e:=CC.out x h;go_simp<;>rfl)
 simp only [Act.put,za,ze,zh]
 refine zo 4 12 ?vh4 rfl ?uK ?_
 case uK=>(intro x h;have e:=CC.out x h;go_simp<;>rfl)
 simp only [Act.put,za,ze,zh]
 refine zo 5 13 ?vh5 rfl ?uL ?_
 case uL=>(intro x h;have e:=CC.out x h;go_simp<;>rfl)
 simp only [Act.put,za,ze,zh]
 refine zo 6 14 ?vh6 rfl ?uM ?_
 case uM=>(intro x h;have e:=CC.out x h;go_simp<;>rfl)
 simp only [Act.put,za,ze,zh]
 refine zY 3 rfl (fun K hK=> ?_)
 go_simp
 refine(HEA.out W.drew _ (HRW.out.below hH) (zF HA.out hH)).mono ?_
 rintro e hw3 ⟨rfl,hb⟩
 have zbR:Below W.heap.size W hw3:=zF hH hb
 refine hK.out _ _ zbR (fun _=> ?_)
 clear hK K hb hH
 refine zY 7 rfl (fun K hK=> ?_)
 go_simp
 refine(HEB.out hw3 _ (HRW.out.below zbR) (zF HA.out zbR)).mono ?_
 rintro e hw7 ⟨rfl,hb⟩
 have uR:Below W.heap.size W hw7:=zF zbR hb
 refine hK.out _ _ uR (fun _=> ?_)
 clear hK K hb zbR
 refine zo 8 5 ?vh7 rfl ?uN ?_
 case uN=>(intro x h;have e:=CC.out x h;go_simp<;>rfl)
 simp only [Act.put,za,ze,zh]
 refine zo 9 6 ?vh8 rfl ?uO ?_
 case uO=>(intro x h;have e:=CC.out x h;go_simp<;>rfl)
 simp only [Act.put,za,ze,zh]
 refine zo 10 7 ?vh9 rfl ?zaa ?_
 case zaa=>(intro x h;have e:=CC.out x h;go_simp<;>rfl)
 simp only [Act.put,za,ze,zh]
 refine wpAnyH_done (by kernel_rfl) ?_ _
 refine NoPanic.normal ?_
 go_upto_region 2 with fail
 by_cases hz0:z=va
 rotate_left
 ·have hz1:((z:Int)==va)=false:=by simp [hz0]
  have HZ0:=qh hz0
  clear hz0
  refine wp_region_noPanic ?_
  refine wp_region_held_drew (S:=fun x=>Below W.heap.size W x) (by kernel_rfl) ((zF uR (Below.refl _ _).drew)) (fun hK2=> ?_)
  refine zo 0 16 ?zA1 rfl ?zm9 ?_
  case zm9=>(intro x h;have e:=CC.out x h;go_simp<;>rfl)
  simp only [Act.put,za,ze,zh]
  refine zo 1 17 ?zA2 rfl ?zmA ?_
  case zmA=>(intro x h;have e:=CC.out x h;go_simp<;>rfl)
  simp only [Act.put,za,ze,zh]
  refine zo 2 18 ?zA3 rfl ?zmB ?_
  case zmB=>(intro x h;have e:=CC.out x h;go_simp<;>rfl)
  simp only [Act.put,za,ze,zh]
  refine zo 3 19 ?zA4 rfl ?zmC ?_
  case zmC=>(intro x h;have e:=CC.out x h;go_simp<;>rfl)
  simp only [Act.put,za,ze,zh]
  refine zo 4 20 ?zA5 rfl ?zmD ?_
  case zmD=>(intro x h;have e:=CC.out x h;go_simp<;>rfl)
  simp only [Act.put,za,ze,zh]
  refine zo 5 21 ?zA6 rfl ?zmE ?_
  case zmE=>(intro x h;have e:=CC.out x h;go_simp<;>rfl)
  simp only [Act.put,za,ze,zh]
  refine zo 6 22 ?zA7 rfl ?zmF ?_
  case zmF=>(intro x h;have e:=CC.out x h;go_simp<;>rfl)
  simp only [Act.put,za,ze,zh]
  refine zo 7 23 ?zA8 rfl ?zmG ?_
  case zmG=>(intro x h;have e:=CC.out x h;go_simp<;>rfl)
  simp only [Act.put,za,ze,zh]
  refine zo 8 24 ?zA9 rfl ?zmH ?_
  case zmH=>(intro x h;have e:=CC.out x h;go_simp<;>rfl)
  simp only [Act.put,za,ze,zh]
  refine zo 9 25 ?zGx rfl ?zyy ?_
  case zyy=>(intro x h;have e:=CC.out x h;go_simp<;>rfl)
  simp only [Act.put,za,ze,zh]
  refine wpAnyH_done (by kernel_rfl) ?_ _
  refine NoPanic.normal ?_
  have HR2:=qh (HRW.out.below (zF uR (Below.refl _ _).drew))
  have HB2:Hid (Below B w hw7.drew):=vQ.out.trans ((zF uR (Below.refl _ _).drew).mono (Nat.le_trans yu.out HA.out.size))
  have HS2:Hid (Since (fun k=>k=mb) W hw7.drew):=kQ _ (zF uR (Below.refl _ _).drew)
  go_upto_region 4 with fail
  generalize World.drew _=W4 at HR2 HB2 HS2 ⊢
  have C4:Hid (∀x,Below W4.heap.size W4 x->x.cell? ⟨gi,1,none⟩=some (.int .i64 (reg:Int))):=fun x hx=>zl hx _ _ ((HS2.out.cell (p:=⟨gi,1,none⟩) (zw HX.out) (fun e=>HGM.out e)).trans (zi HX.out 1))
  refine wp_region_noPanic ?_
  refine yT (n0:=8) (S:=fun x=>Below W4.heap.size W4 x) (by kernel_rfl) ((Below.refl _ _).drew) (fun qB=> ?_)
  refine zO 0 34 ?zI6 rfl ?z2U (fun _=>qB) ?_
  case z2U=>(intro _ _;go_simp<;>rfl)
  simp only [Act.put,za,ze,zh]
  refine zO 1 35 ?zI7 rfl ?z2V (fun _=>qB) ?_
  case z2V=>(intro _ _;go_simp<;>rfl)
  simp only [Act.put,za,ze,zh]
  refine vD [7,8] 2 36 ?zI8 rfl ?z2W qB ?_
  case z2W=>(intro x h;have e0:=C4.out x h;go_simp<;>rfl)
  simp only [Act.put,za,ze,zh]
  refine zO 3 37 ?zI9 rfl ?z2X (fun _=>qB) ?_
  case z2X=>(intro _ _;go_simp<;>rfl)
  simp only [Act.put,za,ze,zh]
  refine zO 4 38 ?zIA rfl ?z2Y (fun _=>qB) ?_
  case z2Y=>(intro _ _;go_simp<;>rfl)
  simp only [Act.put,za,ze,zh]
  refine zO 5 39 ?zIB rfl ?z2Z (fun _=>qB) ?_
  case z2Z=>(intro _ _;go_simp<;>rfl)
  simp only [Act.put,za,ze,zh]
  refine zO 6 40 ?zIC rfl ?z3a (fun _=>qB) ?_
  case z3a=>(intro _ _;go_simp<;>rfl)
  simp only [Act.put,za,ze,zh]
  refine zO 7 41 ?zID rfl ?z3b (fun _=>qB) ?_
  case z3b=>(intro _ _;go_simp<;>rfl)
  simp only [Act.put,za,ze,zh]
  refine jB 8 rfl (fun K hK=> ?_)
  obtain⟨q0,q1⟩:=(HR2.out.below qB).zco hr4
  go_simp
  refine hK.out _ _ (fun h=>absurd rfl h) ?_
  clear hK K
  refine xM (by kernel_rfl) ?_ _
  refine NoPanic.normal ?_
  clear q0 q1
  have HR3:=qh ((HR2.out.below qB).zdH reg hr4 0)
  have HB3:Hid (Below B w (W4.drew.setCell ⟨gr,1+reg,none⟩ (.int .i64 0))):=HB2.out.drew.setCell (p:=⟨gr,1+reg,none⟩) HRW.out.base _
  go_wp2_with fail
  refine(gU HR3.out).mono ?_
  rintro e w9 ⟨rfl,rfl⟩
  by_cases hz:buf.length=0
  ·have HZ:=qh hz
   have hz1:decide (buf.length=0)=true:=decide_eq_true hz
   clear hz
   rw [hz1]
   go_wp2_with fail
   go_ret
   rw [zL.out,if_neg HZ0.out,if_pos HZ.out]
   exact zcp HR3.out HB3.out
  ·have HZ:=qh hz
   have hz1:decide (buf.length=0)=false:=decide_eq_false hz
   clear hz
   rw [hz1]
   go_wp2_with fail
   go_ret
   rw [zL.out,if_neg HZ0.out,if_neg HZ.out]
   exact jU HB3.out
 have hz1:((z:Int)==va)=true:=by simp [hz0]
 have HZ0:=qh hz0
 clear hz0
 refine wp_region_noPanic ?_
 refine wp_region_held_drew (S:=fun x=>Below W.heap.size W x) (by kernel_rfl) ((zF uR (Below.refl _ _).drew)) (fun hK2=> ?_)
 refine zo 0 16 ?zIE rfl ?z3c ?_
 case z3c=>(intro x h;have e:=CC.out x h;go_simp<;>rfl)
 simp only [Act.put,za,ze,zh]
 refine zo 1 17 ?zIF rfl ?z3d ?_
 case z3d=>(intro x h;have e:=CC.out x h;go_simp<;>rfl)
 simp only [Act.put,za,ze,zh]
 refine zo 2 18 ?zIG rfl ?z3e ?_
 case z3e=>(intro x h;have e:=CC.out x h;go_simp<;>rfl)
 simp only [Act.put,za,ze,zh]
 refine zo 3 19 ?zIH rfl ?z3f ?_
 case z3f=>(intro x h;have e:=CC.out x h;go_simp<;>rfl)
 simp only [Act.put,za,ze,zh]
 refine zo 4 20 ?zII rfl ?z3g ?_
 case z3g=>(intro x h;have e:=CC.out x h;go_simp<;>rfl)
 simp only [Act.put,za,ze,zh]
 refine zo 5 21 ?zIJ rfl ?z3h ?_
 case z3h=>(intro x h;have e:=CC.out x h;go_simp<;>rfl)
 simp only [Act.put,za,ze,zh]
 refine zo 6 22 ?zIK rfl ?z3i ?_
 case z3i=>(intro x h;have e:=CC.out x h;go_simp<;>rfl)
 simp only [Act.put,za,ze,zh]
 refine zo 7 23 ?zIL rfl ?z3j ?_
 case z3j=>(intro x h;have e:=CC.out x h;go_simp<;>rfl)
 simp only [Act.put,za,ze,zh]
 refine zo 8 24 ?zIM rfl ?z3k ?_
 case z3k=>(intro x h;have e:=CC.out x h;go_simp<;>rfl)
 simp only [Act.put,za,ze,zh]
 refine zo 9 25 ?zGy rfl ?zyz ?_
 case zyz=>(intro x h;have e:=CC.out x h;go_simp<;>rfl)
 simp only [Act.put,za,ze,zh]
 refine wpAnyH_done (by kernel_rfl) ?_ _
 refine NoPanic.normal ?_
 go_upto_region 3 with fail
 refine wp_region_noPanic ?_
 refine yT (n0:=8) (S:=fun x=>Below W.heap.size W x) (by kernel_rfl) ((zF uR (Below.refl _ _).drew.drew)) (fun hT3=> ?_)
 refine zO 0 26 ?zxW rfl ?zfP (fun _=>hT3) ?_
 case zfP=>(intro _ _;go_simp<;>rfl)
 simp only [Act.put,za,ze,zh]
 refine zO 1 27 ?zxX rfl ?zfQ (fun _=>hT3) ?_
 case zfQ=>(intro _ _;go_simp<;>rfl)
 simp only [Act.put,za,ze,zh]
 refine zO 2 28 ?zxY rfl ?zfR (fun _=>hT3) ?_
 case zfR=>(intro _ _;go_simp<;>rfl)
 simp only [Act.put,za,ze,zh]
 refine vD [7,8,9] 3 29 ?zxZ rfl ?zfS hT3 ?_
 case zfS=>(intro x h;have e:=CC.out x h;go_simp<;>rfl)
 simp only [Act.put,za,ze,zh]
 refine zO 4 30 ?zya rfl ?zfT (fun _=>hT3) ?_
 case zfT=>(intro _ _;go_simp<;>rfl)
 simp only [Act.put,za,ze,zh]
 refine vD [7,8,9] 5 31 ?zyb rfl ?zfU hT3 ?_
 case zfU=>(intro x h;have e:=CC.out x h;go_simp<;>rfl)
 simp only [Act.put,za,ze,zh]
 refine zO 6 32 ?zyc rfl ?zfV (fun _=>hT3) ?_
 case zfV=>(intro _ _;go_simp<;>rfl)
 simp only [Act.put,za,ze,zh]
 refine zO 7 33 ?zA0 rfl ?zm7 (fun _=>hT3) ?_
 case zm7=>(intro _ _;go_simp<;>rfl)
 simp only [Act.put,za,ze,zh]
 refine jB 8 rfl (fun K hK=> ?_)
 obtain⟨q0,q1⟩:=(HRW.out.below hT3).wD kF
 go_simp
 refine hK.out _ _ (fun h=>absurd rfl h) ?_
 clear hK K
 refine zO 9 7 ?zIN rfl ?z3l (fun h=>absurd h (by decide+kernel)) ?_
 case z3l=>(intro _ _;go_simp<;>rfl)
 simp only [Act.put,za,ze,zh]
 refine xM (by kernel_rfl) ?_ _
 refine NoPanic.normal ?_
 clear q0 q1
 have HR2:=qh ((HRW.out.below hT3).zcg v vb)
 have HB2:Hid (Below B w (hw7.drew.drew.setCell ⟨mb,v,none⟩ (.int .i64 vb))):=(vQ.out.trans (hT3.mono (Nat.le_trans yu.out HA.out.size))).setCell (p:=⟨mb,v,none⟩) HRW.out.kC.1 _
 have HS2:Hid (Since (fun k=>k=mb) W (hw7.drew.drew.setCell ⟨mb,v,none⟩ (.int .i64 vb))):=(kQ _ hT3).trans (Since.setCell (F:=fun k=>k=mb) (p:=⟨mb,v,none⟩) (Since.refl _ _) (.inl rfl) _) (fun _ h=> .inl h)
 go_upto_region 4 with fail
 have eW:hw7.drew.drew.setCell ⟨mb,v,none⟩ (.int .i64 vb)=(hw7.setCell ⟨mb,v,none⟩ (.int .i64 vb)).drew.drew:=rfl
 rw [eW] at HR2 HB2 HS2
 clear eW
 generalize (World.setCell hw7 ⟨mb,v,none⟩ (.int .i64 vb)).drew.drew=W4 at HR2 HB2 HS2 ⊢
 have C4:Hid (∀x,Below W4.heap.size W4 x->x.cell? ⟨gi,1,none⟩=some (.int .i64 (reg:Int))):=fun x hx=>zl hx _ _ ((HS2.out.cell (p:=⟨gi,1,none⟩) (zw HX.out) (fun e=>HGM.out e)).trans (zi HX.out 1))
 refine wp_region_noPanic ?_
 refine yT (n0:=8) (S:=fun x=>Below W4.heap.size W4 x) (by kernel_rfl) ((Below.refl _ _).drew) (fun qB=> ?_)
 refine zO 0 34 ?zIO rfl ?z3m (fun _=>qB) ?_
 case z3m=>(intro _ _;go_simp<;>rfl)
 simp only [Act.put,za,ze,zh]
 refine zO 1 35 ?zIP rfl ?z3n (fun _=>qB) ?_
 case z3n=>(intro _ _;go_simp<;>rfl)
 simp only [Act.put,za,ze,zh]
 refine vD [7,8] 2 36 ?zIQ rfl ?z3o qB ?_
 case z3o=>(intro x h;have e0:=C4.out x h;go_simp<;>rfl)
 simp only [Act.put,za,ze,zh]
 refine zO 3 37 ?zIR rfl ?z3p (fun _=>qB) ?_
 case z3p=>(intro _ _;go_simp<;>rfl)
 simp only [Act.put,za,ze,zh]
 refine zO 4 38 ?zIS rfl ?z3q (fun _=>qB) ?_
 case z3q=>(intro _ _;go_simp<;>rfl)
 simp only [Act.put,za,ze,zh]
 refine zO 5 39 ?zIT rfl ?z3r (fun _=>qB) ?_
 case z3r=>(intro _ _;go_simp<;>rfl)
 simp only [Act.put,za,ze,zh]
 refine zO 6 40 ?zIU rfl ?z3s (fun _=>qB) ?_
 case z3s=>(intro _ _;go_simp<;>rfl)
 simp only [Act.put,za,ze,zh]
 refine zO 7 41 ?zIV rfl ?z3t (fun _=>qB) ?_
 case z3t=>(intro _ _;go_simp<;>rfl)
 simp only [Act.put,za,ze,zh]
 refine jB 8 rfl (fun K hK=> ?_)
 obtain⟨q0,q1⟩:=(HR2.out.below qB).zco hr4
 go_simp
 refine hK.out _ _ (fun h=>absurd rfl h) ?_
 clear hK K
 refine xM (by kernel_rfl) ?_ _
 refine NoPanic.normal ?_
 clear q0 q1
 have HR3:=qh ((HR2.out.below qB).zdH reg hr4 1)
 have HB3:Hid (Below B w (W4.drew.setCell ⟨gr,1+reg,none⟩ (.int .i64 1))):=HB2.out.drew.setCell (p:=⟨gr,1+reg,none⟩) HRW.out.base _
 go_wp2_with fail
 refine(gU HR3.out).mono ?_
 rintro e w9 ⟨rfl,rfl⟩
 by_cases hz:buf.length=0
 ·have HZ:=qh hz
  have hz1:decide (buf.length=0)=true:=decide_eq_true hz
  clear hz
  rw [hz1]
  go_wp2_with fail
  go_ret
  rw [zL.out,if_pos HZ0.out,if_pos HZ.out]
  exact zcp HR3.out HB3.out
 ·have HZ:=qh hz
  have hz1:decide (buf.length=0)=false:=decide_eq_false hz
  clear hz
  rw [hz1]
  go_wp2_with fail
  go_ret
  rw [zL.out,if_pos HZ0.out,if_neg HZ.out]
  exact jU HB3.out
end Go.Proofs.YtliajkheeniljaaGreatDoor
