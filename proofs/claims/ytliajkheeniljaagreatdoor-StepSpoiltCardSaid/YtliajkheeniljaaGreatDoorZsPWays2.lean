/- What a thread's instructions do: the program's methods: the walks. -/
import Derived.Test.YtliajkheeniljaaGreatDoorZsPWays
import Derived.Test.YtliajkheeniljaaGreatDoorZsStepQ
import Derived.Test.YtliajkheeniljaaGreatDoorZsShort
set_option linter.all false
namespace Go.Proofs.YtliajkheeniljaaGreatDoor
open Go.RowKit
set_option maxRecDepth 100000
set_option maxHeartbeats 16000000
variable {v0:Value}
theorem zrv {w:World} {B gr mb mc:Nat} {pc r0 r1 r2 r3 dom:Int} {buf:List zm} {bv:Value} {m:zK} {mem:List Int} {bad:Bool} (h:xq v0 w B gr pc r0 r1 r2 r3 buf bv m dom mem mb mc bad) (hB:B<=w.heap.size) (hd1:1<=dom) (hd2:dom<=1000) (d:Nat) (x:zW) (ka kb:Value) (ha:zC d w x.a ka) (hb:zC d w x.b kb)
  (xO:0<=x.reg/\x.reg<4) (hvar:0<=x.var/\x.var<(mem.length:Int)) (hbl:buf.length<=1000000):Calls Tryz.prog 127 #[.pointer (some ⟨gr,0,none⟩),xU x ka kb] w fun e w'=>
  xZ v0 w B gr m dom mb mc (some (⟨pc, [r0,r1,r2,r3].set x.reg.toNat (yw [r0,r1,r2,r3] dom d x.a),buf⟩,mem,bad)) e w':=by
 have yx:=fun W V (hV:xq v0 W B gr pc r0 r1 r2 r3 buf V m dom mem mb mc bad) (hW:Below w.heap.size w W)=>bq hV hd1 hd2 d x.a ka (ha.below hW)
 obtain⟨aa,ac,rfl, -⟩:=ha.slice
 obtain⟨ba,bc,rfl, -⟩:=hb.slice
 obtain⟨ua,uc,rfl, -⟩:=zk.slice h.qF
 obtain⟨op,reg,v,a,b,yB⟩:=x
 simp only [] at xO hvar ha hb yx ⊢
 obtain⟨reg,rfl⟩:∃k:Nat,reg=(k:Int):=⟨reg.toNat,by omega⟩
 obtain⟨v,rfl⟩:∃k:Nat,v=(k:Int):=⟨v.toNat,by omega⟩
 have hr4:reg<4:=by omega
 have kF:v<mem.length:=by omega
 have wL:(v:Int)<(mem.length:Int):=hvar.2
 have hrI:(reg:Int)<4:=xO.2
 try simp only [Int.toNat_natCast]
 clear ha hb
 unfold xU
 simp only []
 unfold xP at yx
 generalize hva:yw [r0,r1,r2,r3] dom d a=va at yx ⊢
 clear hva
 generalize a.kind=ak at yx ⊢
 generalize a.n=an at yx ⊢
 generalize a.op=ao at yx ⊢
 generalize a.kids.length=al at yx ⊢
 generalize b.kind=bk at ⊢
 generalize b.n=bn at ⊢
 generalize b.op=bo at ⊢
 generalize b.kids.length=bl at ⊢
 have HEA:=qh yx
 clear yx
 obtain⟨res,hres⟩:∃r:Option (zx × List Int × Bool),r=(some (⟨pc, [r0,r1,r2,r3].set reg (va),buf⟩,mem,bad)):=⟨_,rfl⟩
 rw [<-hres]
 have zL:=qh hres
 clear hres
 obtain⟨un,hun⟩:∃n,n=buf.length:=⟨_,rfl⟩
 rw [<-hun] at h hbl
 have HUN:=qh hun
 have HR:=qh h
 have yu:=qh hB
 have HA:=qh ((Below.refl w.heap.size w).alloc (Nat.le_refl _) (.cells #[.int .i64 op, .int .i64 (reg:Int), .int .i64 (v:Int), .int .i64 ak, .int .i64 an, .int .u8 ao, .slice aa al ac, .int .i64 bk, .int .i64 bn, .int .u8 bo, .slice ba bl bc, .int .i64 yB] 64))
 have HX:=qh (yD w (.cells #[.int .i64 op, .int .i64 (reg:Int), .int .i64 (v:Int), .int .i64 ak, .int .i64 an, .int .u8 ao, .slice aa al ac, .int .i64 bk, .int .i64 bn, .int .u8 bo, .slice ba bl bc, .int .i64 yB] 64))
 clear h hun hB
 go_enter Tryz.func127,Tryz.ntmps127
 go_upto_region 1 with fail
 generalize World.alloc w _=W at HA HX ⊢
 obtain⟨gi,hgi⟩:∃g,g=w.heap.size:=⟨_,rfl⟩
 rw [<-hgi] at HX ⊢
 clear hgi
 have HRW:=qh (HR.out.below HA.out)
 have vQ:Hid (Below B w W):=HA.out.mono yu.out
 have CC:Hid (∀x,Below W.heap.size W x->x.cell? ⟨gi,1,none⟩=some (.int .i64 (reg:Int))/\x.cell? ⟨gi,3,none⟩=some (.int .i64 ak)/\x.cell? ⟨gi,4,none⟩=some (.int .i64 an)/\x.cell? ⟨gi,5,none⟩=some (.int .u8 ao)/\x.cell? ⟨gi,6,none⟩=some (.slice aa al ac)):=fun x hx=>⟨zl hx _ _ (zi HX.out 1),zl hx _ _ (zi HX.out 3),zl hx _ _ (zi HX.out 4),zl hx _ _ (zi HX.out 5),zl hx _ _ (zi HX.out 6)⟩
 refine wp_region_noPanic ?_
 refine yT (n0:=11) (S:=fun x=>Below W.heap.size W x) (by kernel_rfl) ((Below.refl _ _).drew) (fun hT=> ?_)
 refine zO 0 5 ?vt1 rfl ?ziB (fun _=>hT) ?_
 case ziB=>(intro _ _;go_simp<;>rfl)
 simp only [Act.put,za,ze,zh]
 refine zO 1 6 ?vt2 rfl ?ziC (fun _=>hT) ?_
 case ziC=>(intro _ _;go_simp<;>rfl)
 simp only [Act.put,za,ze,zh]
 refine vD [10,11] 2 7 ?vt3 rfl ?ziD hT ?_
 case ziD=>(intro x h;have e:=CC.out x h;go_simp<;>rfl)
 simp only [Act.put,za,ze,zh]
 refine zO 3 8 ?vt4 rfl ?ziE (fun _=>hT) ?_
 case ziE=>(intro _ _;go_simp<;>rfl)
 simp only [Act.put,za,ze,zh]
 refine zO 4 9 ?vt5 rfl ?ziF (fun _=>hT) ?_
 case ziF=>(intro _ _;go_simp<;>rfl)
 simp only [Act.put,za,ze,zh]
 refine vD [6,10,11] 5 10 ?vt6 rfl ?zrA hT ?_
 case zrA=>(intro x h;have e:=CC.out x h;go_simp<;>rfl)
 simp only [Act.put,za,ze,zh]
 refine zO 7 12 ?vt7 rfl ?zrB (fun _=>hT) ?_
 case zrB=>(intro _ _;go_simp<;>rfl)
 simp only [Act.put,za,ze,zh]
 refine zO 8 13 ?vt8 rfl ?z9Z (fun _=>hT) ?_
 case z9Z=>(intro _ _;go_simp<;>rfl)
 simp only [Act.put,za,ze,zh]
 refine zO 9 14 ?vt9 rfl ?zAa (fun _=>hT) ?_
 case zAa=>(intro _ _;go_simp<;>rfl)
 simp only [Act.put,za,ze,zh]
 refine jB 6 rfl (fun K hK=> ?_)
 go_simp
 refine(HEA.out W.drew _ (HRW.out.below hT) (zF HA.out hT)).mono ?_
 rintro e tw6 ⟨rfl,hb⟩
 have hT6:Below W.heap.size W tw6:=zF hT hb
 refine hK.out _ _ (fun _ _=>hT6) ?_
 clear hK K hb hT
 refine zO 10 15 ?zIs rfl ?z2H (fun _=>hT6) ?_
 case z2H=>(intro _ _;go_simp<;>rfl)
 simp only [Act.put,za,ze,zh]
 refine jB 11 rfl (fun K hK=> ?_)
 obtain⟨q0,q1⟩:=(HRW.out.below hT6).zco hr4
 go_simp
 refine hK.out _ _ (fun h=>absurd rfl h) ?_
 clear hK K
 refine xM (by kernel_rfl) ?_ _
 refine NoPanic.normal ?_
 clear q0 q1
 have HR2:=qh ((HRW.out.below hT6).zdH reg hr4 va)
 have HB2:Hid (Below B w (tw6.setCell ⟨gr,1+reg,none⟩ (.int .i64 va))):=(vQ.out.trans (hT6.mono (Nat.le_trans yu.out HA.out.size))).setCell (p:=⟨gr,1+reg,none⟩) HRW.out.base _
 go_wp2_with fail
 go_ret
 rw [zL.out]
 exact zcp HR2.out HB2.out
theorem zoQ {w:World} {B gr mb mc:Nat} {pc r0 r1 r2 r3 dom:Int} {buf:List zm} {bv:Value} {m:zK} {mem:List Int} {bad:Bool} (h:xq v0 w B gr pc r0 r1 r2 r3 buf bv m dom mem mb mc bad) (hB:B<=w.heap.size) (hd1:1<=dom) (hd2:dom<=1000) (d:Nat) (x:zW) (ka kb:Value) (ha:zC d w x.a ka) (hb:zC d w x.b kb)
  (xO:0<=x.reg/\x.reg<4) (hvar:0<=x.var/\x.var<(mem.length:Int)) (hbl:buf.length<=1000000):Calls Tryz.prog 131 #[.pointer (some ⟨gr,0,none⟩),xU x ka kb] w fun e w'=>
  xZ v0 w B gr m dom mb mc (if buf.length=0/\mem.getD x.var.toNat 0=0 then some (⟨pc, [r0,r1,r2,r3],buf⟩,mem.set x.var.toNat 1,bad) else none) e w':=by
 obtain⟨aa,ac,rfl, -⟩:=ha.slice
 obtain⟨ba,bc,rfl, -⟩:=hb.slice
 obtain⟨ua,uc,rfl, -⟩:=zk.slice h.qF
 obtain⟨op,reg,v,a,b,yB⟩:=x
 simp only [] at xO hvar ha hb ⊢
 obtain⟨reg,rfl⟩:∃k:Nat,reg=(k:Int):=⟨reg.toNat,by omega⟩
 obtain⟨v,rfl⟩:∃k:Nat,v=(k:Int):=⟨v.toNat,by omega⟩
 have hr4:reg<4:=by omega
 have kF:v<mem.length:=by omega
 have wL:(v:Int)<(mem.length:Int):=hvar.2
 have hrI:(reg:Int)<4:=xO.2
 try simp only [Int.toNat_natCast]
 clear ha hb
 unfold xU
 simp only []
 generalize a.kind=ak at ⊢
 generalize a.n=an at ⊢
 generalize a.op=ao at ⊢
 generalize a.kids.length=al at ⊢
 generalize b.kind=bk at ⊢
 generalize b.n=bn at ⊢
 generalize b.op=bo at ⊢
 generalize b.kids.length=bl at ⊢
 obtain⟨res,hres⟩:∃r:Option (zx × List Int × Bool),r=(if buf.length=0/\mem.getD v 0=0 then some (⟨pc, [r0,r1,r2,r3],buf⟩,mem.set v 1,bad) else none):=⟨_,rfl⟩
 rw [<-hres]
 have zL:=qh hres
 clear hres
 obtain⟨un,hun⟩:∃n,n=buf.length:=⟨_,rfl⟩
 rw [<-hun] at h hbl
 have HUN:=qh hun
 have HR:=qh h
 have yu:=qh hB
 have HA:=qh ((Below.refl w.heap.size w).alloc (Nat.le_refl _) (.cells #[.int .i64 op, .int .i64 (reg:Int), .int .i64 (v:Int), .int .i64 ak, .int .i64 an, .int .u8 ao, .slice aa al ac, .int .i64 bk, .int .i64 bn, .int .u8 bo, .slice ba bl bc, .int .i64 yB] 64))
 have HX:=qh (yD w (.cells #[.int .i64 op, .int .i64 (reg:Int), .int .i64 (v:Int), .int .i64 ak, .int .i64 an, .int .u8 ao, .slice aa al ac, .int .i64 bk, .int .i64 bn, .int .u8 bo, .slice ba bl bc, .int .i64 yB] 64))
 clear h hun hB
 go_enter Tryz.func131,Tryz.ntmps131
 go_upto_region 1 with fail
 generalize World.alloc w _=W at HA HX ⊢
 obtain⟨gi,hgi⟩:∃g,g=w.heap.size:=⟨_,rfl⟩
 rw [<-hgi] at HX ⊢
 clear hgi
 have HRW:=qh (HR.out.below HA.out)
 have vQ:Hid (Below B w W):=HA.out.mono yu.out
 have CC:Hid (∀x,Below W.heap.size W x->x.cell? ⟨gi,2,none⟩=some (.int .i64 (v:Int))/\x.cell? ⟨gr,9,none⟩=some (.slice (some ⟨mb,0,none⟩) mem.length mc)/\x.cell? ⟨mb,v,none⟩=some (.int .i64 (mem.getD v 0))):=fun x hx=>⟨zl hx _ _ (zi HX.out 2),zl hx _ _ (zi HRW.out.block 9),zl hx _ _ (HRW.out.wD kF).1⟩
 obtain⟨z,hz⟩:∃z,z=mem.getD v 0:=⟨_,rfl⟩
 rw [<-hz] at CC zL
 clear hz
 by_cases hz0:z=0
 rotate_left
 ·have hz1:((z:Int)==0)=false:=by simp [hz0]
  have HZ0:=qh hz0
  clear hz0
  refine wp_region_noPanic ?_
  refine wp_region_held_drew (S:=fun x=>Below W.heap.size W x) (by kernel_rfl) ((Below.refl _ _).drew) (fun hH=> ?_)
  refine zo 0 6 ?zAb rfl ?zmi ?_
  case zmi=>(intro x h;have e:=CC.out x h;go_simp<;>rfl)
  simp only [Act.put,za,ze,zh]
  refine zo 1 7 ?zAc rfl ?zmj ?_
  case zmj=>(intro x h;have e:=CC.out x h;go_simp<;>rfl)
  simp only [Act.put,za,ze,zh]
  refine zo 2 8 ?zAd rfl ?zmk ?_
  case zmk=>(intro x h;have e:=CC.out x h;go_simp<;>rfl)
  simp only [Act.put,za,ze,zh]
  refine zo 3 9 ?zAe rfl ?zml ?_
  case zml=>(intro x h;have e:=CC.out x h;go_simp<;>rfl)
  simp only [Act.put,za,ze,zh]
  refine zo 4 10 ?zAf rfl ?zmm ?_
  case zmm=>(intro x h;have e:=CC.out x h;go_simp<;>rfl)
  simp only [Act.put,za,ze,zh]
  refine zo 5 11 ?zAg rfl ?zmn ?_
  case zmn=>(intro x h;have e:=CC.out x h;go_simp<;>rfl)
  simp only [Act.put,za,ze,zh]
  refine zo 6 12 ?zAh rfl ?zmo ?_
  case zmo=>(intro x h;have e:=CC.out x h;go_simp<;>rfl)
  simp only [Act.put,za,ze,zh]
  refine zo 7 13 ?zAi rfl ?zmp ?_
  case zmp=>(intro x h;have e:=CC.out x h;go_simp<;>rfl)
  simp only [Act.put,za,ze,zh]
  refine zo 8 14 ?zAj rfl ?zmq ?_
  case zmq=>(intro x h;have e:=CC.out x h;go_simp<;>rfl)
  simp only [Act.put,za,ze,zh]
  refine zo 9 5 ?z2I rfl ?zjh ?_
  case zjh=>(intro x h;have e:=CC.out x h;go_simp<;>rfl)
  simp only [Act.put,za,ze,zh]
  refine wpAnyH_done (by kernel_rfl) ?_ _
  refine NoPanic.normal ?_
  go_upto_region 2 with fail
  refine wp_region_noPanic ?_
  refine yT (n0:=7) (S:=fun x=>Below W.heap.size W x) (by kernel_rfl) ((Below.refl _ _).drew.drew) (fun hT=> ?_)
  refine zO 0 15 ?zAk rfl ?zmr (fun _=>hT) ?_
  case zmr=>(intro _ _;go_simp<;>rfl)
  simp only [Act.put,za,ze,zh]
  refine zO 1 16 ?zAl rfl ?zms (fun _=>hT) ?_
  case zms=>(intro _ _;go_simp<;>rfl)
  simp only [Act.put,za,ze,zh]
  refine zO 2 17 ?zAm rfl ?zmt (fun _=>hT) ?_
  case zmt=>(intro _ _;go_simp<;>rfl)
  simp only [Act.put,za,ze,zh]
  refine vD [6,7] 3 18 ?zAn rfl ?zmu hT ?_
  case zmu=>(intro x h;have e:=CC.out x h;go_simp<;>rfl)
  simp only [Act.put,za,ze,zh]
  refine zO 4 19 ?zAo rfl ?zmv (fun _=>hT) ?_
  case zmv=>(intro _ _;go_simp<;>rfl)
  simp only [Act.put,za,ze,zh]
  refine vD [6,7] 5 20 ?zAp rfl ?zmw hT ?_
  case zmw=>(intro x h;have e:=CC.out x h;go_simp<;>rfl)
  simp only [Act.put,za,ze,zh]
  refine zO 6 21 ?zAq rfl ?zmx (fun _=>hT) ?_
  case zmx=>(intro _ _;go_simp<;>rfl)
  simp only [Act.put,za,ze,zh]
  refine jB 7 rfl (fun K hK=> ?_)
  obtain⟨q0,q1⟩:=(HRW.out.below (Below.refl _ _).drew.drew).wD kF
  go_simp
  refine hK.out _ _ (fun h=>absurd rfl h) ?_
  clear hK K
  refine xM (by kernel_rfl) ?_ _
  refine NoPanic.normal ?_
  clear q0 q1
  have HR2:=qh ((HRW.out.below (Below.refl _ _).drew.drew).zcg v 1)
  have HB2:Hid (Below B w (W.drew.drew.setCell ⟨mb,v,none⟩ (.int .i64 1))):=vQ.out.drew.drew.setCell (p:=⟨mb,v,none⟩) HRW.out.kC.1 _
  go_wp2_with fail
  go_ret
  rw [zL.out,if_neg (fun h=>HZ0.out h.2)]
  exact jU HB2.out
 have hz1:((z:Int)==0)=true:=by simp [hz0]
 have HZ0:=qh hz0
 clear hz0
 refine wp_region_noPanic ?_
 refine wp_region_held_drew (S:=fun x=>Below W.heap.size W x) (by kernel_rfl) ((Below.refl _ _).drew) (fun hH=> ?_)
 refine zo 0 6 ?zAr rfl ?zmy ?_
 case zmy=>(intro x h;have e:=CC.out x h;go_simp<;>rfl)
 simp only [Act.put,za,ze,zh]
 refine zo 1 7 ?zAs rfl ?zmz ?_
 case zmz=>(intro x h;have e:=CC.out x h;go_simp<;>rfl)
 simp only [Act.put,za,ze,zh]
 refine zo 2 8 ?zAt rfl ?zm0 ?_
 case zm0=>(intro x h;have e:=CC.out x h;go_simp<;>rfl)
 simp only [Act.put,za,ze,zh]
 refine zo 3 9 ?zAu rfl ?zm1 ?_
 case zm1=>(intro x h;have e:=CC.out x h;go_simp<;>rfl)
 simp only [Act.put,za,ze,zh]
 refine zo 4 10 ?zAv rfl ?zm2 ?_
 case zm2=>(intro x h;have e:=CC.out x h;go_simp<;>rfl)
 simp only [Act.put,za,ze,zh]
 refine zo 5 11 ?zAw rfl ?zm3 ?_
 case zm3=>(intro x h;have e:=CC.out x h;go_simp<;>rfl)
 simp only [Act.put,za,ze,zh]
 refine zo 6 12 ?zAx rfl ?zm4 ?_
 case zm4=>(intro x h;have e:=CC.out x h;go_simp<;>rfl)
 simp only [Act.put,za,ze,zh]
 refine zo 7 13 ?zAy rfl ?zm5 ?_
 case zm5=>(intro x h;have e:=CC.out x h;go_simp<;>rfl)
 simp only [Act.put,za,ze,zh]
 refine zo 8 14 ?zAz rfl ?zm6 ?_
 case zm6=>(intro x h;have e:=CC.out x h;go_simp<;>rfl)
 simp only [Act.put,za,ze,zh]
 refine zo 9 5 ?z2J rfl ?zji ?_
 case zji=>(intro x h;have e:=CC.out x h;go_simp<;>rfl)
 simp only [Act.put,za,ze,zh]
 refine wpAnyH_done (by kernel_rfl) ?_ _
 refine NoPanic.normal ?_
 go_upto_region 2 with fail
 refine wp_region_noPanic ?_
 refine yT (n0:=7) (S:=fun x=>Below W.heap.size W x) (by kernel_rfl) ((Below.refl _ _).drew.drew) (fun hT=> ?_)
 refine zO 0 15 ?zxW rfl ?zfP (fun _=>hT) ?_
 case zfP=>(intro _ _;go_simp<;>rfl)
 simp only [Act.put,za,ze,zh]
 refine zO 1 16 ?zxX rfl ?zfQ (fun _=>hT) ?_
 case zfQ=>(intro _ _;go_simp<;>rfl)
 simp only [Act.put,za,ze,zh]
 refine zO 2 17 ?zxY rfl ?zfR (fun _=>hT) ?_
 case zfR=>(intro _ _;go_simp<;>rfl)
 simp only [Act.put,za,ze,zh]
 refine vD [6,7] 3 18 ?zxZ rfl ?zfS hT ?_
 case zfS=>(intro x h;have e:=CC.out x h;go_simp<;>rfl)
 simp only [Act.put,za,ze,zh]
 refine zO 4 19 ?zya rfl ?zfT (fun _=>hT) ?_
 case zfT=>(intro _ _;go_simp<;>rfl)
 simp only [Act.put,za,ze,zh]
 refine vD [6,7] 5 20 ?zyb rfl ?zfU hT ?_
 case zfU=>(intro x h;have e:=CC.out x h;go_simp<;>rfl)
 simp only [Act.put,za,ze,zh]
 refine zO 6 21 ?zyc rfl ?zfV (fun _=>hT) ?_
 case zfV=>(intro _ _;go_simp<;>rfl)
 simp only [Act.put,za,ze,zh]
 refine jB 7 rfl (fun K hK=> ?_)
 obtain⟨q0,q1⟩:=(HRW.out.below (Below.refl _ _).drew.drew).wD kF
 go_simp
 refine hK.out _ _ (fun h=>absurd rfl h) ?_
 clear hK K
 refine xM (by kernel_rfl) ?_ _
 refine NoPanic.normal ?_
 clear q0 q1
 have HR2:=qh ((HRW.out.below (Below.refl _ _).drew.drew).zcg v 1)
 have HB2:Hid (Below B w (W.drew.drew.setCell ⟨mb,v,none⟩ (.int .i64 1))):=vQ.out.drew.drew.setCell (p:=⟨mb,v,none⟩) HRW.out.kC.1 _
 go_wp2_with fail
 refine(gU HR2.out).mono ?_
 rintro e w3 ⟨rfl,rfl⟩
 by_cases hz:buf.length=0
 ·have HZ:=qh hz
  have hz1:decide (buf.length=0)=true:=decide_eq_true hz
  clear hz
  rw [hz1]
  go_wp2_with fail
  go_ret
  rw [zL.out,if_pos ⟨HZ.out,HZ0.out⟩]
  exact vP HR2.out HB2.out
 ·have HZ:=qh hz
  have hz1:decide (buf.length=0)=false:=decide_eq_false hz
  clear hz
  rw [hz1]
  go_wp2_with fail
  go_ret
  rw [zL.out,if_neg (fun h=>HZ.out h.1)]
  exact jU HB2.out
theorem zoO {w:World} {B gr mb mc:Nat} {pc r0 r1 r2 r3 dom:Int} {buf:List zm} {bv:Value} {m:zK} {mem:List Int} {bad:Bool} (h:xq v0 w B gr pc r0 r1 r2 r3 buf bv m dom mem mb mc bad) (hB:B<=w.heap.size) (hd1:1<=dom) (hd2:dom<=1000) (d:Nat) (x:zW) (ka kb:Value) (ha:zC d w x.a ka) (hb:zC d w x.b kb)
  (xO:0<=x.reg/\x.reg<4) (hvar:0<=x.var/\x.var<(mem.length:Int)) (hbl:buf.length<=1000000):Calls Tryz.prog 125 #[.pointer (some ⟨gr,0,none⟩),xU x ka kb] w fun e w'=>
  xZ v0 w B gr m dom mb mc (some (⟨pc, [r0,r1,r2,r3].set x.reg.toNat ((kR buf x.var).getD (mem.getD x.var.toNat 0)),buf⟩,mem,bad)) e w':=by
 obtain⟨aa,ac,rfl, -⟩:=ha.slice
 obtain⟨ba,bc,rfl, -⟩:=hb.slice
 obtain⟨ua,uc,rfl, -⟩:=zk.slice h.qF
 obtain⟨op,reg,v,a,b,yB⟩:=x
 simp only [] at xO hvar ha hb ⊢
 obtain⟨reg,rfl⟩:∃k:Nat,reg=(k:Int):=⟨reg.toNat,by omega⟩
 obtain⟨v,rfl⟩:∃k:Nat,v=(k:Int):=⟨v.toNat,by omega⟩
 have hr4:reg<4:=by omega
 have kF:v<mem.length:=by omega
 have wL:(v:Int)<(mem.length:Int):=hvar.2
 have hrI:(reg:Int)<4:=xO.2
 try simp only [Int.toNat_natCast]
 clear ha hb
 unfold xU
 simp only []
 generalize a.kind=ak at ⊢
 generalize a.n=an at ⊢
 generalize a.op=ao at ⊢
 generalize a.kids.length=al at ⊢
 generalize b.kind=bk at ⊢
 generalize b.n=bn at ⊢
 generalize b.op=bo at ⊢
 generalize b.kids.length=bl at ⊢
 obtain⟨res,hres⟩:∃r:Option (zx × List Int × Bool),r=(some (⟨pc, [r0,r1,r2,r3].set reg ((kR buf (v:Int)).getD (mem.getD v 0)),buf⟩,mem,bad)):=⟨_,rfl⟩
 rw [<-hres]
 have zL:=qh hres
 clear hres
 obtain⟨un,hun⟩:∃n,n=buf.length:=⟨_,rfl⟩
 rw [<-hun] at h hbl
 have HUN:=qh hun
 have HR:=qh h
 have yu:=qh hB
 have HA:=qh ((Below.refl w.heap.size w).alloc (Nat.le_refl _) (.cells #[.int .i64 op, .int .i64 (reg:Int), .int .i64 (v:Int), .int .i64 ak, .int .i64 an, .int .u8 ao, .slice aa al ac, .int .i64 bk, .int .i64 bn, .int .u8 bo, .slice ba bl bc, .int .i64 yB] 64))
 have HX:=qh (yD w (.cells #[.int .i64 op, .int .i64 (reg:Int), .int .i64 (v:Int), .int .i64 ak, .int .i64 an, .int .u8 ao, .slice aa al ac, .int .i64 bk, .int .i64 bn, .int .u8 bo, .slice ba bl bc, .int .i64 yB] 64))
 clear h hun hB
 go_enter Tryz.func125,Tryz.ntmps125
 go_upto_region 1 with fail
 generalize World.alloc w _=W at HA HX ⊢
 obtain⟨gi,hgi⟩:∃g,g=w.heap.size:=⟨_,rfl⟩
 rw [<-hgi] at HX ⊢
 clear hgi
 have HRW:=qh (HR.out.below HA.out)
 have vQ:Hid (Below B w W):=HA.out.mono yu.out
 have CC:Hid (∀x,Below W.heap.size W x->x.cell? ⟨gi,1,none⟩=some (.int .i64 (reg:Int))/\x.cell? ⟨gi,2,none⟩=some (.int .i64 (v:Int))/\x.cell? ⟨gr,5,none⟩=some (.slice ua un uc)/\x.cell? ⟨gr,9,none⟩=some (.slice (some ⟨mb,0,none⟩) mem.length mc)/\x.cell? ⟨mb,v,none⟩=some (.int .i64 (mem.getD v 0))):=fun x hx=>⟨zl hx _ _ (zi HX.out 1),zl hx _ _ (zi HX.out 2),zl hx _ _ (zi HRW.out.block 5),zl hx _ _ (zi HRW.out.block 9),zl hx _ _ (HRW.out.wD kF).1⟩
 obtain⟨lk,hlk⟩:∃k,k=kR buf (v:Int):=⟨_,rfl⟩
 have ztS:Hid (∀x,Below W.heap.size W x->Calls Tryz.prog 166 #[.slice ua un uc, .int .i64 (v:Int)] x fun e w'=>e= .returned (.tuple #[.int .i64 (lk.getD 0), .bool lk.isSome])/\Below x.heap.size x w'):=fun x hx=>by rw [hlk];exact zpc x _ buf (HRW.out.below hx).qF (by rw [<-HUN.out];exact hbl) v
 obtain⟨z,hz⟩:∃z,z=mem.getD v 0:=⟨_,rfl⟩
 rw [<-hz] at CC zL
 rw [<-hlk] at zL
 clear hz hlk
 cases lk with
 |some y=>
  refine wp_region_noPanic ?_
  refine wp_region_held_drew (S:=fun x=>Below W.heap.size W x) (by kernel_rfl) ((Below.refl _ _).drew) (fun hH=> ?_)
  refine zo 0 8 ?zAr rfl ?zmy ?_
  case zmy=>(intro x h;have e:=CC.out x h;go_simp<;>rfl)
  simp only [Act.put,za,ze,zh]
  refine zo 1 9 ?zAs rfl ?zmz ?_
  case zmz=>(intro x h;have e:=CC.out x h;go_simp<;>rfl)
  simp only [Act.put,za,ze,zh]
  refine zo 2 10 ?zAt rfl ?zm0 ?_
  case zm0=>(intro x h;have e:=CC.out x h;go_simp<;>rfl)
  simp only [Act.put,za,ze,zh]
  refine zo 3 11 ?zAu rfl ?zm1 ?_
  case zm1=>(intro x h;have e:=CC.out x h;go_simp<;>rfl)
  simp only [Act.put,za,ze,zh]
  refine zo 4 12 ?zAv rfl ?zm2 ?_
  case zm2=>(intro x h;have e:=CC.out x h;go_simp<;>rfl)
  simp only [Act.put,za,ze,zh]
  refine zo 5 13 ?zAw rfl ?zm3 ?_
  case zm3=>(intro x h;have e:=CC.out x h;go_simp<;>rfl)
  simp only [Act.put,za,ze,zh]
  refine zo 6 14 ?zAx rfl ?zm4 ?_
  case zm4=>(intro x h;have e:=CC.out x h;go_simp<;>rfl)
  simp only [Act.put,za,ze,zh]
  refine zY 7 rfl (fun K hK=> ?_)
  go_simp
  refine(ztS.out W.drew hH).mono ?_
  rintro e zyd ⟨rfl,hb⟩
  have ztT:Below W.heap.size W zyd:=zF hH hb
  refine hK.out _ _ ztT (fun _=> ?_)
  clear hK K hb hH
  refine zo 8 7 ?zAy rfl ?zm5 ?_
  case zm5=>(intro x h;have e:=CC.out x h;go_simp<;>rfl)
  simp only [Act.put,za,ze,zh]
  refine zo 9 16 ?zAz rfl ?zm6 ?_
  case zm6=>(intro x h;have e:=CC.out x h;go_simp<;>rfl)
  simp only [Act.put,za,ze,zh]
  refine zo 10 17 ?z2J rfl ?zji ?_
  case zji=>(intro x h;have e:=CC.out x h;go_simp<;>rfl)
  simp only [Act.put,za,ze,zh]
  refine zo 11 5 ?zGt rfl ?zye ?_
  case zye=>(intro x h;have e:=CC.out x h;go_simp<;>rfl)
  simp only [Act.put,za,ze,zh]
  refine zo 12 6 ?zGu rfl ?zyf ?_
  case zyf=>(intro x h;have e:=CC.out x h;go_simp<;>rfl)
  simp only [Act.put,za,ze,zh]
  refine wpAnyH_done (by kernel_rfl) ?_ _
  refine NoPanic.normal ?_
  go_upto_region 4 with fail
  refine wp_region_noPanic ?_
  refine yT (n0:=8) (S:=fun x=>Below W.heap.size W x) (by kernel_rfl) ((zF ztT (Below.refl _ _).drew)) (fun qB=> ?_)
  refine zO 0 28 ?zxW rfl ?zfP (fun _=>qB) ?_
  case zfP=>(intro _ _;go_simp<;>rfl)
  simp only [Act.put,za,ze,zh]
  refine zO 1 29 ?zxX rfl ?zfQ (fun _=>qB) ?_
  case zfQ=>(intro _ _;go_simp<;>rfl)
  simp only [Act.put,za,ze,zh]
  refine vD [7,8] 2 30 ?zxY rfl ?zfR qB ?_
  case zfR=>(intro x h;have e:=CC.out x h;go_simp<;>rfl)
  simp only [Act.put,za,ze,zh]
  refine zO 3 31 ?zxZ rfl ?zfS (fun _=>qB) ?_
  case zfS=>(intro _ _;go_simp<;>rfl)
  simp only [Act.put,za,ze,zh]
  refine zO 4 32 ?zya rfl ?zfT (fun _=>qB) ?_
  case zfT=>(intro _ _;go_simp<;>rfl)
  simp only [Act.put,za,ze,zh]
  refine zO 5 33 ?zyb rfl ?zfU (fun _=>qB) ?_
  case zfU=>(intro _ _;go_simp<;>rfl)
  simp only [Act.put,za,ze,zh]
  refine zO 6 34 ?zyc rfl ?zfV (fun _=>qB) ?_
  case zfV=>(intro _ _;go_simp<;>rfl)
  simp only [Act.put,za,ze,zh]
  refine zO 7 35 ?zA0 rfl ?zm7 (fun _=>qB) ?_
  case zm7=>(intro _ _;go_simp<;>rfl)
  simp only [Act.put,za,ze,zh]
  refine jB 8 rfl (fun K hK=> ?_)
  obtain⟨q0,q1⟩:=(HRW.out.below qB).zco hr4
  go_simp
  refine hK.out _ _ (fun h=>absurd rfl h) ?_
  clear hK K
  refine xM (by kernel_rfl) ?_ _
  refine NoPanic.normal ?_
  clear q0 q1
  have HR2:=qh ((HRW.out.below qB).zdH reg hr4 y)
  have HB2:Hid (Below B w (zyd.drew.setCell ⟨gr,1+reg,none⟩ (.int .i64 y))):=(vQ.out.trans (qB.mono (Nat.le_trans yu.out HA.out.size))).setCell (p:=⟨gr,1+reg,none⟩) HRW.out.base _
  go_wp2_with fail
  go_ret
  rw [zL.out]
  exact zcp HR2.out HB2.out
 |none=>
  refine wp_region_noPanic ?_
  refine wp_region_held_drew (S:=fun x=>Below W.heap.size W x) (by kernel_rfl) ((Below.refl _ _).drew) (fun hH=> ?_)
  refine zo 0 8 ?zAb rfl ?zmi ?_
  case zmi=>(intro x h;have e:=CC.out x h;go_simp<;>rfl)
  simp only [Act.put,za,ze,zh]
  refine zo 1 9 ?zAc rfl ?zmj ?_
  case zmj=>(intro x h;have e:=CC.out x h;go_simp<;>rfl)
  simp only [Act.put,za,ze,zh]
  refine zo 2 10 ?zAd rfl ?zmk ?_
  case zmk=>(intro x h;have e:=CC.out x h;go_simp<;>rfl)
  simp only [Act.put,za,ze,zh]
  refine zo 3 11 ?zAe rfl ?zml ?_
  case zml=>(intro x h;have e:=CC.out x h;go_simp<;>rfl)
  simp only [Act.put,za,ze,zh]
  refine zo 4 12 ?zAf rfl ?zmm ?_
  case zmm=>(intro x h;have e:=CC.out x h;go_simp<;>rfl)
  simp only [Act.put,za,ze,zh]
  refine zo 5 13 ?zAg rfl ?zmn ?_
  case zmn=>(intro x h;have e:=CC.out x h;go_simp<;>rfl)
  simp only [Act.put,za,ze,zh]
  refine zo 6 14 ?zAh rfl ?zmo ?_
  case zmo=>(intro x h;have e:=CC.out x h;go_simp<;>rfl)
  simp only [Act.put,za,ze,zh]
  refine zY 7 rfl (fun K hK=> ?_)
  go_simp
  refine(ztS.out W.drew hH).mono ?_
  rintro e zyg ⟨rfl,hb⟩
  have zm8:Below W.heap.size W zyg:=zF hH hb
  refine hK.out _ _ zm8 (fun _=> ?_)
  clear hK K hb hH
  refine zo 8 7 ?zAi rfl ?zmp ?_
  case zmp=>(intro x h;have e:=CC.out x h;go_simp<;>rfl)
  simp only [Act.put,za,ze,zh]
  refine zo 9 16 ?zAj rfl ?zmq ?_
  case zmq=>(intro x h;have e:=CC.out x h;go_simp<;>rfl)
  simp only [Act.put,za,ze,zh]
  refine zo 10 17 ?z2I rfl ?zjh ?_
  case zjh=>(intro x h;have e:=CC.out x h;go_simp<;>rfl)
  simp only [Act.put,za,ze,zh]
  refine zo 11 5 ?zGv rfl ?zyh ?_
  case zyh=>(intro x h;have e:=CC.out x h;go_simp<;>rfl)
  simp only [Act.put,za,ze,zh]
  refine zo 12 6 ?zGw rfl ?zyi ?_
  case zyi=>(intro x h;have e:=CC.out x h;go_simp<;>rfl)
  simp only [Act.put,za,ze,zh]
  refine wpAnyH_done (by kernel_rfl) ?_ _
  refine NoPanic.normal ?_
  go_upto_region 3 with fail
  refine wp_region_noPanic ?_
  refine wp_region_held_drew (S:=fun x=>Below W.heap.size W x) (by kernel_rfl) ((zF zm8 (Below.refl _ _).drew)) (fun hK3=> ?_)
  refine zo 0 20 ?zA1 rfl ?zm9 ?_
  case zm9=>(intro x h;have e:=CC.out x h;go_simp<;>rfl)
  simp only [Act.put,za,ze,zh]
  refine zo 1 21 ?zA2 rfl ?zmA ?_
  case zmA=>(intro x h;have e:=CC.out x h;go_simp<;>rfl)
  simp only [Act.put,za,ze,zh]
  refine zo 2 22 ?zA3 rfl ?zmB ?_
  case zmB=>(intro x h;have e:=CC.out x h;go_simp<;>rfl)
  simp only [Act.put,za,ze,zh]
  refine zo 3 23 ?zA4 rfl ?zmC ?_
  case zmC=>(intro x h;have e:=CC.out x h;go_simp<;>rfl)
  simp only [Act.put,za,ze,zh]
  refine zo 4 24 ?zA5 rfl ?zmD ?_
  case zmD=>(intro x h;have e:=CC.out x h;go_simp<;>rfl)
  simp only [Act.put,za,ze,zh]
  refine zo 5 25 ?zA6 rfl ?zmE ?_
  case zmE=>(intro x h;have e:=CC.out x h;go_simp<;>rfl)
  simp only [Act.put,za,ze,zh]
  refine zo 6 26 ?zA7 rfl ?zmF ?_
  case zmF=>(intro x h;have e:=CC.out x h;go_simp<;>rfl)
  simp only [Act.put,za,ze,zh]
  refine zo 7 27 ?zA8 rfl ?zmG ?_
  case zmG=>(intro x h;have e:=CC.out x h;go_simp<;>rfl)
  simp only [Act.put,za,ze,zh]
  refine zo 8 5 ?zA9 rfl ?zmH ?_
  case zmH=>(intro x h;have e:=CC.out x h;go_simp<;>rfl)
  simp only [Act.put,za,ze,zh]
  refine wpAnyH_done (by kernel_rfl) ?_ _
  refine NoPanic.normal ?_
  go_upto_region 4 with fail
  refine wp_region_noPanic ?_
  refine yT (n0:=8) (S:=fun x=>Below W.heap.size W x) (by kernel_rfl) ((zF zm8 (Below.refl _ _).drew.drew)) (fun qB=> ?_)
  refine zO 0 28 ?zAk rfl ?zmr (fun _=>qB) ?_
  case zmr=>(intro _ _;go_simp<;>rfl)
  simp only [Act.put,za,ze,zh]
  refine zO 1 29 ?zAl rfl ?zms (fun _=>qB) ?_
  case zms=>(intro _ _;go_simp<;>rfl)
  simp only [Act.put,za,ze,zh]
  refine vD [7,8] 2 30 ?zAm rfl ?zmt qB ?_
  case zmt=>(intro x h;have e:=CC.out x h;go_simp<;>rfl)
  simp only [Act.put,za,ze,zh]
  refine zO 3 31 ?zAn rfl ?zmu (fun _=>qB) ?_
  case zmu=>(intro _ _;go_simp<;>rfl)
  simp only [Act.put,za,ze,zh]
  refine zO 4 32 ?zAo rfl ?zmv (fun _=>qB) ?_
  case zmv=>(intro _ _;go_simp<;>rfl)
  simp only [Act.put,za,ze,zh]
  refine zO 5 33 ?zAp rfl ?zmw (fun _=>qB) ?_
  case zmw=>(intro _ _;go_simp<;>rfl)
  simp only [Act.put,za,ze,zh]
  refine zO 6 34 ?zAq rfl ?zmx (fun _=>qB) ?_
  case zmx=>(intro _ _;go_simp<;>rfl)
  simp only [Act.put,za,ze,zh]
  refine zO 7 35 ?zIt rfl ?z2K (fun _=>qB) ?_
  case z2K=>(intro _ _;go_simp<;>rfl)
  simp only [Act.put,za,ze,zh]
  refine jB 8 rfl (fun K hK=> ?_)
  obtain⟨q0,q1⟩:=(HRW.out.below qB).zco hr4
  go_simp
  refine hK.out _ _ (fun h=>absurd rfl h) ?_
  clear hK K
  refine xM (by kernel_rfl) ?_ _
  refine NoPanic.normal ?_
  clear q0 q1
  have HR2:=qh ((HRW.out.below qB).zdH reg hr4 z)
  have HB2:Hid (Below B w (zyg.drew.drew.setCell ⟨gr,1+reg,none⟩ (.int .i64 z))):=(vQ.out.trans (qB.mono (Nat.le_trans yu.out HA.out.size))).setCell (p:=⟨gr,1+reg,none⟩) HRW.out.base _
  go_wp2_with fail
  go_ret
  rw [zL.out]
  exact zcp HR2.out HB2.out
end Go.Proofs.YtliajkheeniljaaGreatDoor
