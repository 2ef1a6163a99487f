/- What a thread's instructions do: the program's methods: the walks. -/
import Derived.Test.YtliajkheeniljaaGreatDoorZaPLook
import Derived.Test.YtliajkheeniljaaGreatDoorZaPWays
import Derived.Test.YtliajkheeniljaaGreatDoorZaShort
set_option linter.all false
namespace Go.Proofs.YtliajkheeniljaaGreatDoor
open Go.RowKit
set_option maxRecDepth 100000
set_option maxHeartbeats 16000000
variable {v0:Value}
theorem zo0 {w:World} {B gr mb mc:Nat} {pc r0 r1 r2 r3 dom:Int} {buf:List zn} {bv:Value} {m:zM} {mem:List Int} {bad:Bool} (h:yL v0 w B gr pc r0 r1 r2 r3 buf bv m dom mem mb mc bad) (hB:B<=w.heap.size) (hd1:1<=dom) (hd2:dom<=1000) (d:Nat) (x:yB) (ka kb:Value) (ha:zF d w x.a ka) (hb:zF d w x.b kb)
  (xg:0<=x.reg/\x.reg<4) (hvar:0<=x.var/\x.var<(mem.length:Int)) (hbl:buf.length<=1000000):Calls Tryz.prog 127 #[.pointer (some ⟨gr,0,none⟩),xI x ka kb] w fun e w'=>
  xL v0 w B gr m dom mb mc (some (⟨pc, [r0,r1,r2,r3].set x.reg.toNat (zZ [r0,r1,r2,r3] dom d x.a),buf⟩,mem,bad)) e w':=by
 have yw:=fun W V (hV:yL v0 W B gr pc r0 r1 r2 r3 buf V m dom mem mb mc bad) (hW:Below w.heap.size w W)=>wP hV hd1 hd2 d x.a ka (ha.below hW)
 obtain⟨aa,ac,rfl, -⟩:=ha.slice
 obtain⟨ba,bc,rfl, -⟩:=hb.slice
 obtain⟨ua,uc,rfl, -⟩:=zl.slice h.xW
 obtain⟨op,reg,v,a,b,yC⟩:=x
 simp only [] at xg hvar ha hb yw ⊢
 obtain⟨reg,rfl⟩:∃k:Nat,reg=(k:Int):=⟨reg.toNat,by omega⟩
 obtain⟨v,rfl⟩:∃k:Nat,v=(k:Int):=⟨v.toNat,by omega⟩
 have hr4:reg<4:=by omega
 have jy:v<mem.length:=by omega
 have jU:(v:Int)<(mem.length:Int):=hvar.2
 have hrI:(reg:Int)<4:=xg.2
 try simp only [Int.toNat_natCast]
 clear ha hb
 unfold xI
 simp only []
 unfold yV at yw
 generalize hva:zZ [r0,r1,r2,r3] dom d a=va at yw ⊢
 clear hva
 generalize a.kind=ak at yw ⊢
 generalize a.n=an at yw ⊢
 generalize a.op=ao at yw ⊢
 generalize a.kids.length=al at yw ⊢
 generalize b.kind=bk at ⊢
 generalize b.n=bn at ⊢
 generalize b.op=bo at ⊢
 generalize b.kids.length=bl at ⊢
 have HEA:=qh yw
 clear yw
 obtain⟨res,hres⟩:∃r:Option (zw × List Int × Bool),r=(some (⟨pc, [r0,r1,r2,r3].set reg (va),buf⟩,mem,bad)):=⟨_,rfl⟩
 rw [<-hres]
 have zD:=qh hres
 clear hres
 obtain⟨un,hun⟩:∃n,n=buf.length:=⟨_,rfl⟩
 rw [<-hun] at h hbl
 have HUN:=qh hun
 have HR:=qh h
 have yu:=qh hB
 have HA:=qh ((Below.refl w.heap.size w).alloc (Nat.le_refl _) (.cells #[.int .i64 op, .int .i64 (reg:Int), .int .i64 (v:Int), .int .i64 ak, .int .i64 an, .int .u8 ao, .slice aa al ac, .int .i64 bk, .int .i64 bn, .int .u8 bo, .slice ba bl bc, .int .i64 yC] 64))
 have HX:=qh (yK w (.cells #[.int .i64 op, .int .i64 (reg:Int), .int .i64 (v:Int), .int .i64 ak, .int .i64 an, .int .u8 ao, .slice aa al ac, .int .i64 bk, .int .i64 bn, .int .u8 bo, .slice ba bl bc, .int .i64 yC] 64))
 clear h hun hB
 go_enter Tryz.func127,Tryz.ntmps127
 go_upto_region 1 with fail
 generalize World.alloc w _=W at HA HX ⊢
 obtain⟨gi,hgi⟩:∃g,g=w.heap.size:=⟨_,rfl⟩
 rw [<-hgi] at HX ⊢
 clear hgi
 have HRW:=qh (HR.out.below HA.out)
 have qQ:Hid (Below B w W):=HA.out.mono yu.out
 have CC:Hid (∀x,Below W.heap.size W x->x.cell? ⟨gi,1,none⟩=some (.int .i64 (reg:Int))/\x.cell? ⟨gi,3,none⟩=some (.int .i64 ak)/\x.cell? ⟨gi,4,none⟩=some (.int .i64 an)/\x.cell? ⟨gi,5,none⟩=some (.int .u8 ao)/\x.cell? ⟨gi,6,none⟩=some (.slice aa al ac)):=fun x hx=>⟨zm hx _ _ (zh HX.out 1),zm hx _ _ (zh HX.out 3),zm hx _ _ (zh HX.out 4),zm hx _ _ (zh HX.out 5),zm hx _ _ (zh HX.out 6)⟩
 refine wp_region_noPanic ?_
 refine yP (n0:=11) (S:=fun x=>Below W.heap.size W x) (by kernel_rfl) ((Below.refl _ _).drew) (fun hT=> ?_)
 refine zO 0 5 ?vt1 rfl ?zfC (fun _=>hT) ?_
 case zfC=>(intro _ _;go_simp<;>rfl)
 simp only [Act.put,za,ze,zf]
 refine zO 1 6 ?vt2 rfl ?zfD (fun _=>hT) ?_
 case zfD=>(intro _ _;go_simp<;>rfl)
 simp only [Act.put,za,ze,zf]
 refine qZ [10,11] 2 7 ?vt3 rfl ?zfE hT ?_
 case zfE=>(intro x h;have e:=CC.out x h;go_simp<;>rfl)
 simp only [Act.put,za,ze,zf]
 refine zO 3 8 ?vt4 rfl ?zfF (fun _=>hT) ?_
 case zfF=>(intro _ _;go_simp<;>rfl)
 simp only [Act.put,za,ze,zf]
 refine zO 4 9 ?vt5 rfl ?zfG (fun _=>hT) ?_
 case zfG=>(intro _ _;go_simp<;>rfl)
 simp only [Act.put,za,ze,zf]
 refine qZ [6,10,11] 5 10 ?vt6 rfl ?zno hT ?_
 case zno=>(intro x h;have e:=CC.out x h;go_simp<;>rfl)
 simp only [Act.put,za,ze,zf]
 refine zO 7 12 ?vt7 rfl ?znp (fun _=>hT) ?_
 case znp=>(intro _ _;go_simp<;>rfl)
 simp only [Act.put,za,ze,zf]
 refine zO 8 13 ?vt8 rfl ?z4F (fun _=>hT) ?_
 case z4F=>(intro _ _;go_simp<;>rfl)
 simp only [Act.put,za,ze,zf]
 refine zO 9 14 ?vt9 rfl ?z4G (fun _=>hT) ?_
 case z4G=>(intro _ _;go_simp<;>rfl)
 simp only [Act.put,za,ze,zf]
 refine jV 6 rfl (fun K hK=> ?_)
 go_simp
 refine(HEA.out W.drew _ (HRW.out.below hT) (zB HA.out hT)).mono ?_
 rintro e tw6 ⟨rfl,hb⟩
 have hT6:Below W.heap.size W tw6:=zB hT hb
 refine hK.out _ _ (fun _ _=>hT6) ?_
 clear hK K hb hT
 refine zO 10 15 ?zDG rfl ?zzl (fun _=>hT6) ?_
 case zzl=>(intro _ _;go_simp<;>rfl)
 simp only [Act.put,za,ze,zf]
 refine jV 11 rfl (fun K hK=> ?_)
 obtain⟨q0,q1⟩:=(HRW.out.below hT6).za6 hr4
 go_simp
 refine hK.out _ _ (fun h=>absurd rfl h) ?_
 clear hK K
 refine xE (by kernel_rfl) ?_ _
 refine NoPanic.normal ?_
 clear q0 q1
 have HR2:=qh ((HRW.out.below hT6).zck reg hr4 va)
 have HB2:Hid (Below B w (tw6.setCell ⟨gr,1+reg,none⟩ (.int .i64 va))):=(qQ.out.trans (hT6.mono (Nat.le_trans yu.out HA.out.size))).setCell (p:=⟨gr,1+reg,none⟩) HRW.out.base _
 go_wp2_with fail
 go_ret
 rw [zD.out]
 exact za5 HR2.out HB2.out
theorem zmb {w:World} {B gr mb mc:Nat} {pc r0 r1 r2 r3 dom:Int} {buf:List zn} {bv:Value} {m:zM} {mem:List Int} {bad:Bool} (h:yL v0 w B gr pc r0 r1 r2 r3 buf bv m dom mem mb mc bad) (hB:B<=w.heap.size) (hd1:1<=dom) (hd2:dom<=1000) (d:Nat) (x:yB) (ka kb:Value) (ha:zF d w x.a ka) (hb:zF d w x.b kb)
  (xg:0<=x.reg/\x.reg<4) (hvar:0<=x.var/\x.var<(mem.length:Int)) (hbl:buf.length<=1000000):Calls Tryz.prog 131 #[.pointer (some ⟨gr,0,none⟩),xI x ka kb] w fun e w'=>
  xL v0 w B gr m dom mb mc (if buf.length=0/\mem.getD x.var.toNat 0=0 then some (⟨pc, [r0,r1,r2,r3],buf⟩,mem.set x.var.toNat 1,bad) else none) e w':=by
 obtain⟨aa,ac,rfl, -⟩:=ha.slice
 obtain⟨ba,bc,rfl, -⟩:=hb.slice
 obtain⟨ua,uc,rfl, -⟩:=zl.slice h.xW
 obtain⟨op,reg,v,a,b,yC⟩:=x
 simp only [] at xg hvar ha hb ⊢
 obtain⟨reg,rfl⟩:∃k:Nat,reg=(k:Int):=⟨reg.toNat,by omega⟩
 obtain⟨v,rfl⟩:∃k:Nat,v=(k:Int):=⟨v.toNat,by omega⟩
 have hr4:reg<4:=by omega
 have jy:v<mem.length:=by omega
 have jU:(v:Int)<(mem.length:Int):=hvar.2
 have hrI:(reg:Int)<4:=xg.2
 try simp only [Int.toNat_natCast]
 clear ha hb
 unfold xI
 simp only []
 generalize a.kind=ak at ⊢
 generalize a.n=an at ⊢
 generalize a.op=ao at ⊢
 generalize a.kids.length=al at ⊢
 generalize b.kind=bk at ⊢
 generalize b.n=bn at ⊢
 generalize b.op=bo at ⊢
 generalize b.kids.length=bl at ⊢
 obtain⟨res,hres⟩:∃r:Option (zw × List Int × Bool),r=(if buf.length=0/\mem.getD v 0=0 then some (⟨pc, [r0,r1,r2,r3],buf⟩,mem.set v 1,bad) else none):=⟨_,rfl⟩
 rw [<-hres]
 have zD:=qh hres
 clear hres
 obtain⟨un,hun⟩:∃n,n=buf.length:=⟨_,rfl⟩
 rw [<-hun] at h hbl
 have HUN:=qh hun
 have HR:=qh h
 have yu:=qh hB
 have HA:=qh ((Below.refl w.heap.size w).alloc (Nat.le_refl _) (.cells #[.int .i64 op, .int .i64 (reg:Int), .int .i64 (v:Int), .int .i64 ak, .int .i64 an, .int .u8 ao, .slice aa al ac, .int .i64 bk, .int .i64 bn, .int .u8 bo, .slice ba bl bc, .int .i64 yC] 64))
 have HX:=qh (yK w (.cells #[.int .i64 op, .int .i64 (reg:Int), .int .i64 (v:Int), .int .i64 ak, .int .i64 an, .int .u8 ao, .slice aa al ac, .int .i64 bk, .int .i64 bn, .int .u8 bo, .slice ba bl bc, .int .i64 yC] 64))
 clear h hun hB
 go_enter Tryz.func131,Tryz.ntmps131
 go_upto_region 1 with fail
 generalize World.alloc w _=W at HA HX ⊢
 obtain⟨gi,hgi⟩:∃g,g=w.heap.size:=⟨_,rfl⟩
 rw [<-hgi] at HX ⊢
 clear hgi
 have HRW:=qh (HR.out.below HA.out)
 have qQ:Hid (Below B w W):=HA.out.mono yu.out
 have CC:Hid (∀x,Below W.heap.size W x->x.cell? ⟨gi,2,none⟩=some (.int .i64 (v:Int))/\x.cell? ⟨gr,9,none⟩=some (.slice (some ⟨mb,0,none⟩) mem.length mc)/\x.cell? ⟨mb,v,none⟩=some (.int .i64 (mem.getD v 0))):=fun x hx=>⟨zm hx _ _ (zh HX.out 2),zm hx _ _ (zh HRW.out.block 9),zm hx _ _ (HRW.out.jQ jy).1⟩
 obtain⟨z,hz⟩:∃z,z=mem.getD v 0:=⟨_,rfl⟩
 rw [<-hz] at CC zD
 clear hz
 by_cases hz0:z=0
 rotate_left
 ·have hz1:((z:Int)==0)=false:=by simp [hz0]
  have HZ0:=qh hz0
  clear hz0
  refine wp_region_noPanic ?_
  refine wp_region_held_drew (S:=fun x=>Below W.heap.size W x) (by kernel_rfl) ((Below.refl _ _).drew) (fun hH=> ?_)
  refine zo 0 6 ?z4H rfl ?zjQ ?_
  case zjQ=>(intro x h;have e:=CC.out x h;go_simp<;>rfl)
  simp only [Act.put,za,ze,zf]
  refine zo 1 7 ?z4I rfl ?zjR ?_
  case zjR=>(intro x h;have e:=CC.out x h;go_simp<;>rfl)
  simp only [Act.put,za,ze,zf]
  refine zo 2 8 ?z4J rfl ?zjS ?_
  case zjS=>(intro x h;have e:=CC.out x h;go_simp<;>rfl)
  simp only [Act.put,za,ze,zf]
  refine zo 3 9 ?z4K rfl ?zjT ?_
  case zjT=>(intro x h;have e:=CC.out x h;go_simp<;>rfl)
  simp only [Act.put,za,ze,zf]
  refine zo 4 10 ?z4L rfl ?zjU ?_
  case zjU=>(intro x h;have e:=CC.out x h;go_simp<;>rfl)
  simp only [Act.put,za,ze,zf]
  refine zo 5 11 ?z4M rfl ?zjV ?_
  case zjV=>(intro x h;have e:=CC.out x h;go_simp<;>rfl)
  simp only [Act.put,za,ze,zf]
  refine zo 6 12 ?z4N rfl ?zjW ?_
  case zjW=>(intro x h;have e:=CC.out x h;go_simp<;>rfl)
  simp only [Act.put,za,ze,zf]
  refine zo 7 13 ?z4O rfl ?zjX ?_
  case zjX=>(intro x h;have e:=CC.out x h;go_simp<;>rfl)
  simp only [Act.put,za,ze,zf]
  refine zo 8 14 ?z4P rfl ?zjY ?_
  case zjY=>(intro x h;have e:=CC.out x h;go_simp<;>rfl)
  simp only [Act.put,za,ze,zf]
  refine zo 9 5 ?zzm rfl ?zgY ?_
  case zgY=>(intro x h;have e:=CC.out x h;go_simp<;>rfl)
  simp only [Act.put,za,ze,zf]
  refine wpAnyH_done (by kernel_rfl) ?_ _
  refine NoPanic.normal ?_
  go_upto_region 2 with fail
  refine wp_region_noPanic ?_
  refine yP (n0:=7) (S:=fun x=>Below W.heap.size W x) (by kernel_rfl) ((Below.refl _ _).drew.drew) (fun hT=> ?_)
  refine zO 0 15 ?z4Q rfl ?zjZ (fun _=>hT) ?_
  case zjZ=>(intro _ _;go_simp<;>rfl)
  simp only [Act.put,za,ze,zf]
  refine zO 1 16 ?z4R rfl ?zka (fun _=>hT) ?_
  case zka=>(intro _ _;go_simp<;>rfl)
  simp only [Act.put,za,ze,zf]
  refine zO 2 17 ?z4S rfl ?zkb (fun _=>hT) ?_
  case zkb=>(intro _ _;go_simp<;>rfl)
  simp only [Act.put,za,ze,zf]
  refine qZ [6,7] 3 18 ?z4T rfl ?zkc hT ?_
  case zkc=>(intro x h;have e:=CC.out x h;go_simp<;>rfl)
  simp only [Act.put,za,ze,zf]
  refine zO 4 19 ?z4U rfl ?zkd (fun _=>hT) ?_
  case zkd=>(intro _ _;go_simp<;>rfl)
  simp only [Act.put,za,ze,zf]
  refine qZ [6,7] 5 20 ?z4V rfl ?zke hT ?_
  case zke=>(intro x h;have e:=CC.out x h;go_simp<;>rfl)
  simp only [Act.put,za,ze,zf]
  refine zO 6 21 ?z4W rfl ?zkf (fun _=>hT) ?_
  case zkf=>(intro _ _;go_simp<;>rfl)
  simp only [Act.put,za,ze,zf]
  refine jV 7 rfl (fun K hK=> ?_)
  obtain⟨q0,q1⟩:=(HRW.out.below (Below.refl _ _).drew.drew).jQ jy
  go_simp
  refine hK.out _ _ (fun h=>absurd rfl h) ?_
  clear hK K
  refine xE (by kernel_rfl) ?_ _
  refine NoPanic.normal ?_
  clear q0 q1
  have HR2:=qh ((HRW.out.below (Below.refl _ _).drew.drew).za8 v 1)
  have HB2:Hid (Below B w (W.drew.drew.setCell ⟨mb,v,none⟩ (.int .i64 1))):=qQ.out.drew.drew.setCell (p:=⟨mb,v,none⟩) HRW.out.jg.1 _
  go_wp2_with fail
  go_ret
  rw [zD.out,if_neg (fun h=>HZ0.out h.2)]
  exact jd HB2.out
 have hz1:((z:Int)==0)=true:=by simp [hz0]
 have HZ0:=qh hz0
 clear hz0
 refine wp_region_noPanic ?_
 refine wp_region_held_drew (S:=fun x=>Below W.heap.size W x) (by kernel_rfl) ((Below.refl _ _).drew) (fun hH=> ?_)
 refine zo 0 6 ?z4X rfl ?zkg ?_
 case zkg=>(intro x h;have e:=CC.out x h;go_simp<;>rfl)
 simp only [Act.put,za,ze,zf]
 refine zo 1 7 ?z4Y rfl ?zkh ?_
 case zkh=>(intro x h;have e:=CC.out x h;go_simp<;>rfl)
 simp only [Act.put,za,ze,zf]
 refine zo 2 8 ?z4Z rfl ?zki ?_
 case zki=>(intro x h;have e:=CC.out x h;go_simp<;>rfl)
 simp only [Act.put,za,ze,zf]
 refine zo 3 9 ?z5a rfl ?zkj ?_
 case zkj=>(intro x h;have e:=CC.out x h;go_simp<;>rfl)
 simp only [Act.put,za,ze,zf]
 refine zo 4 10 ?z5b rfl ?zkk ?_
 case zkk=>(intro x h;have e:=CC.out x h;go_simp<;>rfl)
 simp only [Act.put,za,ze,zf]
 refine zo 5 11 ?z5c rfl ?zkl ?_
 case zkl=>(intro x h;have e:=CC.out x h;go_simp<;>rfl)
 simp only [Act.put,za,ze,zf]
 refine zo 6 12 ?z5d rfl ?zkm ?_
 case zkm=>(intro x h;have e:=CC.out x h;go_simp<;>rfl)
 simp only [Act.put,za,ze,zf]
 refine zo 7 13 ?z5e rfl ?zko ?_
 case zko=>(intro x h;have e:=CC.out x h;go_simp<;>rfl)
 simp only [Act.put,za,ze,zf]
 refine zo 8 14 ?z5f rfl ?zkp ?_
 case zkp=>(intro x h;have e:=CC.out x h;go_simp<;>rfl)
 simp only [Act.put,za,ze,zf]
 refine zo 9 5 ?zzn rfl ?zgZ ?_
 case zgZ=>(intro x h;have e:=CC.out x h;go_simp<;>rfl)
 simp only [Act.put,za,ze,zf]
 refine wpAnyH_done (by kernel_rfl) ?_ _
 refine NoPanic.normal ?_
 go_upto_region 2 with fail
 refine wp_region_noPanic ?_
 refine yP (n0:=7) (S:=fun x=>Below W.heap.size W x) (by kernel_rfl) ((Below.refl _ _).drew.drew) (fun hT=> ?_)
 refine zO 0 15 ?zwl rfl ?zeh (fun _=>hT) ?_
 case zeh=>(intro _ _;go_simp<;>rfl)
 simp only [Act.put,za,ze,zf]
 refine zO 1 16 ?zwm rfl ?zei (fun _=>hT) ?_
 case zei=>(intro _ _;go_simp<;>rfl)
 simp only [Act.put,za,ze,zf]
 refine zO 2 17 ?zwn rfl ?zej (fun _=>hT) ?_
 case zej=>(intro _ _;go_simp<;>rfl)
 simp only [Act.put,za,ze,zf]
 refine qZ [6,7] 3 18 ?zwo rfl ?zek hT ?_
 case zek=>(intro x h;have e:=CC.out x h;go_simp<;>rfl)
 simp only [Act.put,za,ze,zf]
 refine zO 4 19 ?zwp rfl ?zel (fun _=>hT) ?_
 case zel=>(intro _ _;go_simp<;>rfl)
 simp only [Act.put,za,ze,zf]
 refine qZ [6,7] 5 20 ?zwq rfl ?zem hT ?_
 case zem=>(intro x h;have e:=CC.out x h;go_simp<;>rfl)
 simp only [Act.put,za,ze,zf]
 refine zO 6 21 ?zwr rfl ?zen (fun _=>hT) ?_
 case zen=>(intro _ _;go_simp<;>rfl)
 simp only [Act.put,za,ze,zf]
 refine jV 7 rfl (fun K hK=> ?_)
 obtain⟨q0,q1⟩:=(HRW.out.below (Below.refl _ _).drew.drew).jQ jy
 go_simp
 refine hK.out _ _ (fun h=>absurd rfl h) ?_
 clear hK K
 refine xE (by kernel_rfl) ?_ _
 refine NoPanic.normal ?_
 clear q0 q1
 have HR2:=qh ((HRW.out.below (Below.refl _ _).drew.drew).za8 v 1)
 have HB2:Hid (Below B w (W.drew.drew.setCell ⟨mb,v,none⟩ (.int .i64 1))):=qQ.out.drew.drew.setCell (p:=⟨mb,v,none⟩) HRW.out.jg.1 _
 go_wp2_with fail
 refine(kU HR2.out).mono ?_
 rintro e w3 ⟨rfl,rfl⟩
 by_cases hz:buf.length=0
 ·have HZ:=qh hz
  have hz1:decide (buf.length=0)=true:=decide_eq_true hz
  clear hz
  rw [hz1]
  go_wp2_with fail
  go_ret
  rw [zD.out,if_pos ⟨HZ.out,HZ0.out⟩]
  exact qJ HR2.out HB2.out
 ·have HZ:=qh hz
  have hz1:decide (buf.length=0)=false:=decide_eq_false hz
  clear hz
  rw [hz1]
  go_wp2_with fail
  go_ret
  rw [zD.out,if_neg (fun h=>HZ.out h.1)]
  exact jd HB2.out
theorem zma {w:World} {B gr mb mc:Nat} {pc r0 r1 r2 r3 dom:Int} {buf:List zn} {bv:Value} {m:zM} {mem:List Int} {bad:Bool} (h:yL v0 w B gr pc r0 r1 r2 r3 buf bv m dom mem mb mc bad) (hB:B<=w.heap.size) (hd1:1<=dom) (hd2:dom<=1000) (d:Nat) (x:yB) (ka kb:Value) (ha:zF d w x.a ka) (hb:zF d w x.b kb)
  (xg:0<=x.reg/\x.reg<4) (hvar:0<=x.var/\x.var<(mem.length:Int)) (hbl:buf.length<=1000000):Calls Tryz.prog 125 #[.pointer (some ⟨gr,0,none⟩),xI x ka kb] w fun e w'=>
  xL v0 w B gr m dom mb mc (some (⟨pc, [r0,r1,r2,r3].set x.reg.toNat ((j6 buf x.var).getD (mem.getD x.var.toNat 0)),buf⟩,mem,bad)) e w':=by
 obtain⟨aa,ac,rfl, -⟩:=ha.slice
 obtain⟨ba,bc,rfl, -⟩:=hb.slice
 obtain⟨ua,uc,rfl, -⟩:=zl.slice h.xW
 obtain⟨op,reg,v,a,b,yC⟩:=x
 simp only [] at xg hvar ha hb ⊢
 obtain⟨reg,rfl⟩:∃k:Nat,reg=(k:Int):=⟨reg.toNat,by omega⟩
 obtain⟨v,rfl⟩:∃k:Nat,v=(k:Int):=⟨v.toNat,by omega⟩
 have hr4:reg<4:=by omega
 have jy:v<mem.length:=by omega
 have jU:(v:Int)<(mem.length:Int):=hvar.2
 have hrI:(reg:Int)<4:=xg.2
 try simp only [Int.toNat_natCast]
 clear ha hb
 unfold xI
 simp only []
 generalize a.kind=ak at ⊢
 generalize a.n=an at ⊢
 generalize a.op=ao at ⊢
 generalize a.kids.length=al at ⊢
 generalize b.kind=bk at ⊢
 generalize b.n=bn at ⊢
 generalize b.op=bo at ⊢
 generalize b.kids.length=bl at ⊢
 obtain⟨res,hres⟩:∃r:Option (zw × List Int × Bool),r=(some (⟨pc, [r0,r1,r2,r3].set reg ((j6 buf (v:Int)).getD (mem.getD v 0)),buf⟩,mem,bad)):=⟨_,rfl⟩
 rw [<-hres]
 have zD:=qh hres
 clear hres
 obtain⟨un,hun⟩:∃n,n=buf.length:=⟨_,rfl⟩
 rw [<-hun] at h hbl
 have HUN:=qh hun
 have HR:=qh h
 have yu:=qh hB
 have HA:=qh ((Below.refl w.heap.size w).alloc (Nat.le_refl _) (.cells #[.int .i64 op, .int .i64 (reg:Int), .int .i64 (v:Int), .int .i64 ak, .int .i64 an, .int .u8 ao, .slice aa al ac, .int .i64 bk, .int .i64 bn, .int .u8 bo, .slice ba bl bc, .int .i64 yC] 64))
 have HX:=qh (yK w (.cells #[.int .i64 op, .int .i64 (reg:Int), .int .i64 (v:Int), .int .i64 ak, .int .i64 an, .int .u8 ao, .slice aa al ac, .int .i64 bk, .int .i64 bn, .int .u8 bo, .slice ba bl bc, .int .i64 yC] 64))
 clear h hun hB
 go_enter Tryz.func125,Tryz.ntmps125
 go_upto_region 1 with fail
 generalize World.alloc w _=W at HA HX ⊢
 obtain⟨gi,hgi⟩:∃g,g=w.heap.size:=⟨_,rfl⟩
 rw [<-hgi] at HX ⊢
 clear hgi
 have HRW:=qh (HR.out.below HA.out)
 have qQ:Hid (Below B w W):=HA.out.mono yu.out
 have CC:Hid (∀x,Below W.heap.size W x->x.cell? ⟨gi,1,none⟩=some (.int .i64 (reg:Int))/\x.cell? ⟨gi,2,none⟩=some (.int .i64 (v:Int))/\x.cell? ⟨gr,5,none⟩=some (.slice ua un uc)/\x.cell? ⟨gr,9,none⟩=some (.slice (some ⟨mb,0,none⟩) mem.length mc)/\x.cell? ⟨mb,v,none⟩=some (.int .i64 (mem.getD v 0))):=fun x hx=>⟨zm hx _ _ (zh HX.out 1),zm hx _ _ (zh HX.out 2),zm hx _ _ (zh HRW.out.block 5),zm hx _ _ (zh HRW.out.block 9),zm hx _ _ (HRW.out.jQ jy).1⟩
 obtain⟨lk,hlk⟩:∃k,k=j6 buf (v:Int):=⟨_,rfl⟩
 have zqz:Hid (∀x,Below W.heap.size W x->Calls Tryz.prog 166 #[.slice ua un uc, .int .i64 (v:Int)] x fun e w'=>e= .returned (.tuple #[.int .i64 (lk.getD 0), .bool lk.isSome])/\Below x.heap.size x w'):=fun x hx=>by rw [hlk];exact zmP x _ buf (HRW.out.below hx).xW (by rw [<-HUN.out];exact hbl) v
 obtain⟨z,hz⟩:∃z,z=mem.getD v 0:=⟨_,rfl⟩
 rw [<-hz] at CC zD
 rw [<-hlk] at zD
 clear hz hlk
 cases lk with
 |some y=>
  refine wp_region_noPanic ?_
  refine wp_region_held_drew (S:=fun x=>Below W.heap.size W x) (by kernel_rfl) ((Below.refl _ _).drew) (fun hH=> ?_)
  refine zo 0 8 ?z4X rfl ?zkg ?_
  case zkg=>(intro x h;have e:=CC.out x h;go_simp<;>rfl)
  simp only [Act.put,za,ze,zf]
  refine zo 1 9 ?z4Y rfl ?zkh ?_
  case zkh=>(intro x h;have e:=CC.out x h;go_simp<;>rfl)
  simp only [Act.put,za,ze,zf]
  refine zo 2 10 ?z4Z rfl ?zki ?_
  case zki=>(intro x h;have e:=CC.out x h;go_simp<;>rfl)
  simp only [Act.put,za,ze,zf]
  refine zo 3 11 ?z5a rfl ?zkj ?_
  case zkj=>(intro x h;have e:=CC.out x h;go_simp<;>rfl)
  simp only [Act.put,za,ze,zf]
  refine zo 4 12 ?z5b rfl ?zkk ?_
  case zkk=>(intro x h;have e:=CC.out x h;go_simp<;>rfl)
  simp only [Act.put,za,ze,zf]
  refine zo 5 13 ?z5c rfl ?zkl ?_
  case zkl=>(intro x h;have e:=CC.out x h;go_simp<;>rfl)
  simp only [Act.put,za,ze,zf]
  refine zo 6 14 ?z5d rfl ?zkm ?_
  case zkm=>(intro x h;have e:=CC.out x h;go_simp<;>rfl)
  simp only [Act.put,za,ze,zf]
  refine zT 7 rfl (fun K hK=> ?_)
  go_simp
  refine(zqz.out W.drew hH).mono ?_
  rintro e zws ⟨rfl,hb⟩
  have zq0:Below W.heap.size W zws:=zB hH hb
  refine hK.out _ _ zq0 (fun _=> ?_)
  clear hK K hb hH
  refine zo 8 7 ?z5e rfl ?zko ?_
  case zko=>(intro x h;have e:=CC.out x h;go_simp<;>rfl)
  simp only [Act.put,za,ze,zf]
  refine zo 9 16 ?z5f rfl ?zkp ?_
  case zkp=>(intro x h;have e:=CC.out x h;go_simp<;>rfl)
  simp only [Act.put,za,ze,zf]
  refine zo 10 17 ?zzn rfl ?zgZ ?_
  case zgZ=>(intro x h;have e:=CC.out x h;go_simp<;>rfl)
  simp only [Act.put,za,ze,zf]
  refine zo 11 5 ?zBl rfl ?zwt ?_
  case zwt=>(intro x h;have e:=CC.out x h;go_simp<;>rfl)
  simp only [Act.put,za,ze,zf]
  refine zo 12 6 ?zBm rfl ?zwu ?_
  case zwu=>(intro x h;have e:=CC.out x h;go_simp<;>rfl)
  simp only [Act.put,za,ze,zf]
  refine wpAnyH_done (by kernel_rfl) ?_ _
  refine NoPanic.normal ?_
  go_upto_region 4 with fail
  refine wp_region_noPanic ?_
  refine yP (n0:=8) (S:=fun x=>Below W.heap.size W x) (by kernel_rfl) ((zB zq0 (Below.refl _ _).drew)) (fun qo=> ?_)
  refine zO 0 28 ?zwl rfl ?zeh (fun _=>qo) ?_
  case zeh=>(intro _ _;go_simp<;>rfl)
  simp only [Act.put,za,ze,zf]
  refine zO 1 29 ?zwm rfl ?zei (fun _=>qo) ?_
  case zei=>(intro _ _;go_simp<;>rfl)
  simp only [Act.put,za,ze,zf]
  refine qZ [7,8] 2 30 ?zwn rfl ?zej qo ?_
  case zej=>(intro x h;have e:=CC.out x h;go_simp<;>rfl)
  simp only [Act.put,za,ze,zf]
  refine zO 3 31 ?zwo rfl ?zek (fun _=>qo) ?_
  case zek=>(intro _ _;go_simp<;>rfl)
  simp only [Act.put,za,ze,zf]
  refine zO 4 32 ?zwp rfl ?zel (fun _=>qo) ?_
  case zel=>(intro _ _;go_simp<;>rfl)
  simp only [Act.put,za,ze,zf]
  refine zO 5 33 ?zwq rfl ?zem (fun _=>qo) ?_
  case zem=>(intro _ _;go_simp<;>rfl)
  simp only [Act.put,za,ze,zf]
  refine zO 6 34 ?zwr rfl ?zen (fun _=>qo) ?_
  case zen=>(intro _ _;go_simp<;>rfl)
  simp only [Act.put,za,ze,zf]
  refine zO 7 35 ?z5g rfl ?zkq (fun _=>qo) ?_
  case zkq=>(intro _ _;go_simp<;>rfl)
  simp only [Act.put,za,ze,zf]
  refine jV 8 rfl (fun K hK=> ?_)
  obtain⟨q0,q1⟩:=(HRW.out.below qo).za6 hr4
  go_simp
  refine hK.out _ _ (fun h=>absurd rfl h) ?_
  clear hK K
  refine xE (by kernel_rfl) ?_ _
  refine NoPanic.normal ?_
  clear q0 q1
  have HR2:=qh ((HRW.out.below qo).zck reg hr4 y)
  have HB2:Hid (Below B w (zws.drew.setCell ⟨gr,1+reg,none⟩ (.int .i64 y))):=(qQ.out.trans (qo.mono (Nat.le_trans yu.out HA.out.size))).setCell (p:=⟨gr,1+reg,none⟩) HRW.out.base _
  go_wp2_with fail
  go_ret
  rw [zD.out]
  exact za5 HR2.out HB2.out
 |none=>
  refine wp_region_noPanic ?_
  refine wp_region_held_drew (S:=fun x=>Below W.heap.size W x) (by kernel_rfl) ((Below.refl _ _).drew) (fun hH=> ?_)
  refine zo 0 8 ?z4H rfl ?zjQ ?_
  case zjQ=>(intro x h;have e:=CC.out x h;go_simp<;>rfl)
  simp only [Act.put,za,ze,zf]
  refine zo 1 9 ?z4I rfl ?zjR ?_
  case zjR=>(intro x h;have e:=CC.out x h;go_simp<;>rfl)
  simp only [Act.put,za,ze,zf]
  refine zo 2 10 ?z4J rfl ?zjS ?_
  case zjS=>(intro x h;have e:=CC.out x h;go_simp<;>rfl)
  simp only [Act.put,za,ze,zf]
  refine zo 3 11 ?z4K rfl ?zjT ?_
  case zjT=>(intro x h;have e:=CC.out x h;go_simp<;>rfl)
  simp only [Act.put,za,ze,zf]
  refine zo 4 12 ?z4L rfl ?zjU ?_
  case zjU=>(intro x h;have e:=CC.out x h;go_simp<;>rfl)
  simp only [Act.put,za,ze,zf]
  refine zo 5 13 ?z4M rfl ?zjV ?_
  case zjV=>(intro x h;have e:=CC.out x h;go_simp<;>rfl)
  simp only [Act.put,za,ze,zf]
  refine zo 6 14 ?z4N rfl ?zjW ?_
  case zjW=>(intro x h;have e:=CC.out x h;go_simp<;>rfl)
  simp only [Act.put,za,ze,zf]
  refine zT 7 rfl (fun K hK=> ?_)
  go_simp
  refine(zqz.out W.drew hH).mono ?_
  rintro e zwv ⟨rfl,hb⟩
  have zkr:Below W.heap.size W zwv:=zB hH hb
  refine hK.out _ _ zkr (fun _=> ?_)
  clear hK K hb hH
  refine zo 8 7 ?z4O rfl ?zjX ?_
  case zjX=>(intro x h;have e:=CC.out x h;go_simp<;>rfl)
  simp only [Act.put,za,ze,zf]
  refine zo 9 16 ?z4P rfl ?zjY ?_
  case zjY=>(intro x h;have e:=CC.out x h;go_simp<;>rfl)
  simp only [Act.put,za,ze,zf]
  refine zo 10 17 ?zzm rfl ?zgY ?_
  case zgY=>(intro x h;have e:=CC.out x h;go_simp<;>rfl)
  simp only [Act.put,za,ze,zf]
  refine zo 11 5 ?zBn rfl ?zww ?_
  case zww=>(intro x h;have e:=CC.out x h;go_simp<;>rfl)
  simp only [Act.put,za,ze,zf]
  refine zo 12 6 ?zBo rfl ?zwx ?_
  case zwx=>(intro x h;have e:=CC.out x h;go_simp<;>rfl)
  simp only [Act.put,za,ze,zf]
  refine wpAnyH_done (by kernel_rfl) ?_ _
  refine NoPanic.normal ?_
  go_upto_region 3 with fail
  refine wp_region_noPanic ?_
  refine wp_region_held_drew (S:=fun x=>Below W.heap.size W x) (by kernel_rfl) ((zB zkr (Below.refl _ _).drew)) (fun hK3=> ?_)
  refine zo 0 20 ?z5h rfl ?zks ?_
  case zks=>(intro x h;have e:=CC.out x h;go_simp<;>rfl)
  simp only [Act.put,za,ze,zf]
  refine zo 1 21 ?z5i rfl ?zkt ?_
  case zkt=>(intro x h;have e:=CC.out x h;go_simp<;>rfl)
  simp only [Act.put,za,ze,zf]
  refine zo 2 22 ?z5j rfl ?zku ?_
  case zku=>(intro x h;have e:=CC.out x h;go_simp<;>rfl)
  simp only [Act.put,za,ze,zf]
  refine zo 3 23 ?z5k rfl ?zkv ?_
  case zkv=>(intro x h;have e:=CC.out x h;go_simp<;>rfl)
  simp only [Act.put,za,ze,zf]
  refine zo 4 24 ?z5l rfl ?zkw ?_
  case zkw=>(intro x h;have e:=CC.out x h;go_simp<;>rfl)
  simp only [Act.put,za,ze,zf]
  refine zo 5 25 ?z5m rfl ?zkx ?_
  case zkx=>(intro x h;have e:=CC.out x h;go_simp<;>rfl)
  simp only [Act.put,za,ze,zf]
  refine zo 6 26 ?z5n rfl ?zky ?_
  case zky=>(intro x h;have e:=CC.out x h;go_simp<;>rfl)
  simp only [Act.put,za,ze,zf]
  refine zo 7 27 ?z5o rfl ?zkz ?_
  case zkz=>(intro x h;have e:=CC.out x h;go_simp<;>rfl)
  simp only [Act.put,za,ze,zf]
  refine zo 8 5 ?z5p rfl ?zk0 ?_
  case zk0=>(intro x h;have e:=CC.out x h;go_simp<;>rfl)
  simp only [Act.put,za,ze,zf]
  refine wpAnyH_done (by kernel_rfl) ?_ _
  refine NoPanic.normal ?_
  go_upto_region 4 with fail
  refine wp_region_noPanic ?_
  refine yP (n0:=8) (S:=fun x=>Below W.heap.size W x) (by kernel_rfl) ((zB zkr (Below.refl _ _).drew.drew)) (fun qo=> ?_)
  refine zO 0 28 ?z4Q rfl ?zjZ (fun _=>qo) ?_
  case zjZ=>(intro _ _;go_simp<;>rfl)
  simp only [Act.put,za,ze,zf]
  refine zO 1 29 ?z4R rfl ?zka (fun _=>qo) ?_
  case zka=>(intro _ _;go_simp<;>rfl)
  simp only [Act.put,za,ze,zf]
  refine qZ [7,8] 2 30 ?z4S rfl ?zkb qo ?_
  case zkb=>(intro x h;have e:=CC.out x h;go_simp<;>rfl)
  simp only [Act.put,za,ze,zf]
  refine zO 3 31 ?z4T rfl ?zkc (fun _=>qo) ?_
  case zkc=>(intro _ _;go_simp<;>rfl)
  simp only [Act.put,za,ze,zf]
  refine zO 4 32 ?z4U rfl ?zkd (fun _=>qo) ?_
  case zkd=>(intro _ _;go_simp<;>rfl)
  simp only [Act.put,za,ze,zf]
  refine zO 5 33 ?z4V rfl ?zke (fun _=>qo) ?_
  case zke=>(intro _ _;go_simp<;>rfl)
  simp only [Act.put,za,ze,zf]
  refine zO 6 34 ?z4W rfl ?zkf (fun _=>qo) ?_
  case zkf=>(intro _ _;go_simp<;>rfl)
  simp only [Act.put,za,ze,zf]
  refine zO 7 35 ?zDH rfl ?zzo (fun _=>qo) ?_
  case zzo=>(intro _ _;go_simp<;>rfl)
  simp only [Act.put,za,ze,zf]
  refine jV 8 rfl (fun K hK=> ?_)
  obtain⟨q0,q1⟩:=(HRW.out.below qo).za6 hr4
  go_simp
  refine hK.out _ _ (fun h=>absurd rfl h) ?_
  clear hK K
  refine xE (by kernel_rfl) ?_ _
  refine NoPanic.normal ?_
  clear q0 q1
  have HR2:=qh ((HRW.out.below qo).zck reg hr4 z)
  have HB2:Hid (Below B w (zwv.drew.drew.setCell ⟨gr,1+reg,none⟩ (.int .i64 z))):=(qQ.out.trans (qo.mono (Nat.le_trans yu.out HA.out.size))).setCell (p:=⟨gr,1+reg,none⟩) HRW.out.base _
  go_wp2_with fail
  go_ret
  rw [zD.out]
  exact za5 HR2.out HB2.out
end Go.Proofs.YtliajkheeniljaaGreatDoor
