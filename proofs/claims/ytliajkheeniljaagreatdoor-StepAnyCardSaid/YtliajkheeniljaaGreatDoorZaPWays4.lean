/- What a thread's instructions do: the program's methods: the walks. -/
import Derived.Test.YtliajkheeniljaaGreatDoorZaPWays
import Derived.Test.YtliajkheeniljaaGreatDoorZaShort
set_option linter.all false
namespace Go.Proofs.YtliajkheeniljaaGreatDoor
open Go.RowKit
set_option maxRecDepth 100000
set_option maxHeartbeats 16000000
variable {v0:Value}
theorem zo1 {w:World} {B gr mb mc:Nat} {pc r0 r1 r2 r3 dom:Int} {buf:List zn} {bv:Value} {m:zM} {mem:List Int} {bad:Bool} (h:yL v0 w B gr pc r0 r1 r2 r3 buf bv m dom mem mb mc bad) (hB:B<=w.heap.size) (hd1:1<=dom) (hd2:dom<=1000) (d:Nat) (x:yB) (ka kb:Value) (ha:zF d w x.a ka) (hb:zF d w x.b kb)
  (xg:0<=x.reg/\x.reg<4) (hvar:0<=x.var/\x.var<(mem.length:Int)) (hbl:buf.length<=1000000):Calls Tryz.prog 130 #[.pointer (some ⟨gr,0,none⟩),xI x ka kb] w fun e w'=>
  xL v0 w B gr m dom mb mc (if mem.getD x.var.toNat 0=zZ [r0,r1,r2,r3] dom d x.a then(if buf.length=0 then some (⟨pc, [r0,r1,r2,r3].set x.reg.toNat 1,buf⟩,mem.set x.var.toNat (zZ [r0,r1,r2,r3] dom d x.b),bad) else none) else(if buf.length=0 then some (⟨pc, [r0,r1,r2,r3].set x.reg.toNat 0,buf⟩,mem,bad) else none)) e w':=by
 have yw:=fun W V (hV:yL v0 W B gr pc r0 r1 r2 r3 buf V m dom mem mb mc bad) (hW:Below w.heap.size w W)=>wP hV hd1 hd2 d x.a ka (ha.below hW)
 have wQ:=fun W V (hV:yL v0 W B gr pc r0 r1 r2 r3 buf V m dom mem mb mc bad) (hW:Below w.heap.size w W)=>wP hV hd1 hd2 d x.b kb (hb.below hW)
 obtain⟨aa,ac,rfl, -⟩:=ha.slice
 obtain⟨ba,bc,rfl, -⟩:=hb.slice
 obtain⟨ua,uc,rfl, -⟩:=zl.slice h.xW
 obtain⟨op,reg,v,a,b,yC⟩:=x
 simp only [] at xg hvar ha hb yw wQ ⊢
 obtain⟨reg,rfl⟩:∃k:Nat,reg=(k:Int):=⟨reg.toNat,by omega⟩
 obtain⟨v,rfl⟩:∃k:Nat,v=(k:Int):=⟨v.toNat,by omega⟩
 have hr4:reg<4:=by omega
 have jy:v<mem.length:=by omega
 have jU:(v:Int)<(mem.length:Int):=hvar.2
 have hrI:(reg:Int)<4:=xg.2
 try simp only [Int.toNat_natCast]
 clear ha hb
 unfold xI
 simp only []
 unfold yV at yw wQ
 generalize hva:zZ [r0,r1,r2,r3] dom d a=va at yw ⊢
 clear hva
 generalize hvb:zZ [r0,r1,r2,r3] dom d b=vb at wQ ⊢
 clear hvb
 generalize a.kind=ak at yw ⊢
 generalize a.n=an at yw ⊢
 generalize a.op=ao at yw ⊢
 generalize a.kids.length=al at yw ⊢
 generalize b.kind=bk at wQ ⊢
 generalize b.n=bn at wQ ⊢
 generalize b.op=bo at wQ ⊢
 generalize b.kids.length=bl at wQ ⊢
 have HEA:=qh yw
 clear yw
 have HEB:=qh wQ
 clear wQ
 obtain⟨res,hres⟩:∃r:Option (zw × List Int × Bool),r=(if mem.getD v 0=va then(if buf.length=0 then some (⟨pc, [r0,r1,r2,r3].set reg 1,buf⟩,mem.set v (vb),bad) else none) else(if buf.length=0 then some (⟨pc, [r0,r1,r2,r3].set reg 0,buf⟩,mem,bad) else none)):=⟨_,rfl⟩
 rw [<-hres]
 have zD:=qh hres
 clear hres
 obtain⟨un,hun⟩:∃n,n=buf.length:=⟨_,rfl⟩
 rw [<-hun] at h hbl
 have HUN:=qh hun
 have HR:=qh h
 have yu:=qh hB
 have HA:=qh ((Below.refl w.heap.size w).alloc (Nat.le_refl _) (.cells #[.int .i64 op, .int .i64 (reg:Int), .int .i64 (v:Int), .int .i64 ak, .int .i64 an, .int .u8 ao, .slice aa al ac, .int .i64 bk, .int .i64 bn, .int .u8 bo, .slice ba bl bc, .int .i64 yC] 64))
 have HX:=qh (yK w (.cells #[.int .i64 op, .int .i64 (reg:Int), .int .i64 (v:Int), .int .i64 ak, .int .i64 an, .int .u8 ao, .slice aa al ac, .int .i64 bk, .int .i64 bn, .int .u8 bo, .slice ba bl bc, .int .i64 yC] 64))
 clear h hun hB
 go_enter Tryz.func130,Tryz.ntmps130
 go_upto_region 1 with fail
 generalize World.alloc w _=W at HA HX ⊢
 obtain⟨gi,hgi⟩:∃g,g=w.heap.size:=⟨_,rfl⟩
 rw [<-hgi] at HX ⊢
 have HGI:=qh hgi
 clear hgi
 have HRW:=qh (HR.out.below HA.out)
 have qQ:Hid (Below B w W):=HA.out.mono yu.out
 have CC:Hid (∀x,Below W.heap.size W x->x.cell? ⟨gi,1,none⟩=some (.int .i64 (reg:Int))/\x.cell? ⟨gi,2,none⟩=some (.int .i64 (v:Int))/\x.cell? ⟨gi,3,none⟩=some (.int .i64 ak)/\x.cell? ⟨gi,4,none⟩=some (.int .i64 an)/\x.cell? ⟨gi,5,none⟩=some (.int .u8 ao)/\x.cell? ⟨gi,6,none⟩=some (.slice aa al ac)/\x.cell? ⟨gi,7,none⟩=some (.int .i64 bk)/\x.cell? ⟨gi,8,none⟩=some (.int .i64 bn)/\x.cell? ⟨gi,9,none⟩=some (.int .u8 bo)/\x.cell? ⟨gi,10,none⟩=some (.slice ba bl bc)/\x.cell? ⟨gr,9,none⟩=some (.slice (some ⟨mb,0,none⟩) mem.length mc)/\x.cell? ⟨mb,v,none⟩=some (.int .i64 (mem.getD v 0))):=fun x hx=>⟨zm hx _ _ (zh HX.out 1),zm hx _ _ (zh HX.out 2),zm hx _ _ (zh HX.out 3),zm hx _ _ (zh HX.out 4),zm hx _ _ (zh HX.out 5),zm hx _ _ (zh HX.out 6),zm hx _ _ (zh HX.out 7),zm hx _ _ (zh HX.out 8),zm hx _ _ (zh HX.out 9),zm hx _ _ (zh HX.out 10),zm hx _ _ (zh HRW.out.block 9),zm hx _ _ (HRW.out.jQ jy).1⟩
 have HGM:=qh (show gi≠mb by have:=HR.out.jg.2;have:=HGI.out;omega)
 obtain⟨z,hz⟩:∃z,z=mem.getD v 0:=⟨_,rfl⟩
 rw [<-hz] at CC zD
 clear hz
 refine wp_region_noPanic ?_
 refine wp_region_held_drew (S:=fun x=>Below W.heap.size W x) (by kernel_rfl) ((Below.refl _ _).drew) (fun hH=> ?_)
 refine zo 0 8 ?vh1 rfl ?kr ?_
 case kr=>(intro x h;have e:=CC.out x h;go_simp<;>rfl)
 simp only [Act.put,za,ze,zf]
 refine zo 1 9 ?vh2 rfl ?ku ?_
 case ku=>(intro x h;have e:=CC.out x h;go_simp<;>rfl)
 simp only [Act.put,za,ze,zf]
 refine zo 2 10 ?vh3 rfl ?kC ?_
 case kC=>(intro x h;have e:=CC.out x h;go_simp<;>rfl)
 simp only [Act.put,za,ze,zf]
 refine zo 4 12 ?vh4 rfl ?kD ?_
 case kD=>(intro x h;have e:=CC.out x h;go_simp<;>rfl)
 simp only [Act.put,za,ze,zf]
 refine zo 5 13 ?vh5 rfl ?kE ?_
 case kE=>(intro x h;have e:=CC.out x h;go_simp<;>rfl)
 simp only [Act.put,za,ze,zf]
 refine zo 6 14 ?vh6 rfl ?kF ?_
 case kF=>(intro x h;have e:=CC.out x h;go_simp<;>rfl)
 simp only [Act.put,za,ze,zf]
 refine zT 3 rfl (fun K hK=> ?_)
 go_simp
 refine(HEA.out W.drew _ (HRW.out.below hH) (zB HA.out hH)).mono ?_
 rintro e hw3 ⟨rfl,hb⟩
 have za0:Below W.heap.size W hw3:=zB hH hb
 refine hK.out _ _ za0 (fun _=> ?_)
 clear hK K hb hH
 refine zT 7 rfl (fun K hK=> ?_)
 go_simp
 refine(HEB.out hw3 _ (HRW.out.below za0) (zB HA.out za0)).mono ?_
 rintro e hw7 ⟨rfl,hb⟩
 have wH:Below W.heap.size W hw7:=zB za0 hb
 refine hK.out _ _ wH (fun _=> ?_)
 clear hK K hb za0
 refine zo 8 5 ?vh7 rfl ?kG ?_
 case kG=>(intro x h;have e:=CC.out x h;go_simp<;>rfl)
 simp only [Act.put,za,ze,zf]
 refine zo 9 6 ?vh8 rfl ?kH ?_
 case kH=>(intro x h;have e:=CC.out x h;go_simp<;>rfl)
 simp only [Act.put,za,ze,zf]
 refine zo 10 7 ?vh9 rfl ?wG ?_
 case wG=>(intro x h;have e:=CC.out x h;go_simp<;>rfl)
 simp only [Act.put,za,ze,zf]
 refine wpAnyH_done (by kernel_rfl) ?_ _
 refine NoPanic.normal ?_
 go_upto_region 2 with fail
 by_cases hz0:z=va
 rotate_left
 ·have hz1:((z:Int)==va)=false:=by simp [hz0]
  have HZ0:=qh hz0
  clear hz0
  refine wp_region_noPanic ?_
  refine wp_region_held_drew (S:=fun x=>Below W.heap.size W x) (by kernel_rfl) ((zB wH (Below.refl _ _).drew)) (fun hK2=> ?_)
  refine zo 0 16 ?z5h rfl ?zks ?_
  case zks=>(intro x h;have e:=CC.out x h;go_simp<;>rfl)
  simp only [Act.put,za,ze,zf]
  refine zo 1 17 ?z5i rfl ?zkt ?_
  case zkt=>(intro x h;have e:=CC.out x h;go_simp<;>rfl)
  simp only [Act.put,za,ze,zf]
  refine zo 2 18 ?z5j rfl ?zku ?_
  case zku=>(intro x h;have e:=CC.out x h;go_simp<;>rfl)
  simp only [Act.put,za,ze,zf]
  refine zo 3 19 ?z5k rfl ?zkv ?_
  case zkv=>(intro x h;have e:=CC.out x h;go_simp<;>rfl)
  simp only [Act.put,za,ze,zf]
  refine zo 4 20 ?z5l rfl ?zkw ?_
  case zkw=>(intro x h;have e:=CC.out x h;go_simp<;>rfl)
  simp only [Act.put,za,ze,zf]
  refine zo 5 21 ?z5m rfl ?zkx ?_
  case zkx=>(intro x h;have e:=CC.out x h;go_simp<;>rfl)
  simp only [Act.put,za,ze,zf]
  refine zo 6 22 ?z5n rfl ?zky ?_
  case zky=>(intro x h;have e:=CC.out x h;go_simp<;>rfl)
  simp only [Act.put,za,ze,zf]
  refine zo 7 23 ?z5o rfl ?zkz ?_
  case zkz=>(intro x h;have e:=CC.out x h;go_simp<;>rfl)
  simp only [Act.put,za,ze,zf]
  refine zo 8 24 ?z5p rfl ?zk0 ?_
  case zk0=>(intro x h;have e:=CC.out x h;go_simp<;>rfl)
  simp only [Act.put,za,ze,zf]
  refine zo 9 25 ?zBp rfl ?zwC ?_
  case zwC=>(intro x h;have e:=CC.out x h;go_simp<;>rfl)
  simp only [Act.put,za,ze,zf]
  refine wpAnyH_done (by kernel_rfl) ?_ _
  refine NoPanic.normal ?_
  have HR2:=qh (HRW.out.below (zB wH (Below.refl _ _).drew))
  have HB2:Hid (Below B w hw7.drew):=qQ.out.trans ((zB wH (Below.refl _ _).drew).mono (Nat.le_trans yu.out HA.out.size))
  have HS2:Hid (Since (fun k=>k=mb) W hw7.drew):=zaT _ (zB wH (Below.refl _ _).drew)
  go_upto_region 4 with fail
  generalize World.drew _=W4 at HR2 HB2 HS2 ⊢
  have C4:Hid (∀x,Below W4.heap.size W4 x->x.cell? ⟨gi,1,none⟩=some (.int .i64 (reg:Int))):=fun x hx=>zm hx _ _ ((HS2.out.cell (p:=⟨gi,1,none⟩) (zJ HX.out) (fun e=>HGM.out e)).trans (zh HX.out 1))
  refine wp_region_noPanic ?_
  refine yP (n0:=8) (S:=fun x=>Below W4.heap.size W4 x) (by kernel_rfl) ((Below.refl _ _).drew) (fun qo=> ?_)
  refine zO 0 34 ?zDS rfl ?zz2 (fun _=>qo) ?_
  case zz2=>(intro _ _;go_simp<;>rfl)
  simp only [Act.put,za,ze,zf]
  refine zO 1 35 ?zDT rfl ?zz3 (fun _=>qo) ?_
  case zz3=>(intro _ _;go_simp<;>rfl)
  simp only [Act.put,za,ze,zf]
  refine qZ [7,8] 2 36 ?zDU rfl ?zz4 qo ?_
  case zz4=>(intro x h;have e0:=C4.out x h;go_simp<;>rfl)
  simp only [Act.put,za,ze,zf]
  refine zO 3 37 ?zDV rfl ?zz5 (fun _=>qo) ?_
  case zz5=>(intro _ _;go_simp<;>rfl)
  simp only [Act.put,za,ze,zf]
  refine zO 4 38 ?zDW rfl ?zz6 (fun _=>qo) ?_
  case zz6=>(intro _ _;go_simp<;>rfl)
  simp only [Act.put,za,ze,zf]
  refine zO 5 39 ?zDX rfl ?zz7 (fun _=>qo) ?_
  case zz7=>(intro _ _;go_simp<;>rfl)
  simp only [Act.put,za,ze,zf]
  refine zO 6 40 ?zDY rfl ?zz8 (fun _=>qo) ?_
  case zz8=>(intro _ _;go_simp<;>rfl)
  simp only [Act.put,za,ze,zf]
  refine zO 7 41 ?zDZ rfl ?zz9 (fun _=>qo) ?_
  case zz9=>(intro _ _;go_simp<;>rfl)
  simp only [Act.put,za,ze,zf]
  refine jV 8 rfl (fun K hK=> ?_)
  obtain⟨q0,q1⟩:=(HR2.out.below qo).za6 hr4
  go_simp
  refine hK.out _ _ (fun h=>absurd rfl h) ?_
  clear hK K
  refine xE (by kernel_rfl) ?_ _
  refine NoPanic.normal ?_
  clear q0 q1
  have HR3:=qh ((HR2.out.below qo).zck reg hr4 0)
  have HB3:Hid (Below B w (W4.drew.setCell ⟨gr,1+reg,none⟩ (.int .i64 0))):=HB2.out.drew.setCell (p:=⟨gr,1+reg,none⟩) HRW.out.base _
  go_wp2_with fail
  refine(kU HR3.out).mono ?_
  rintro e w9 ⟨rfl,rfl⟩
  by_cases hz:buf.length=0
  ·have HZ:=qh hz
   have hz1:decide (buf.length=0)=true:=decide_eq_true hz
   clear hz
   rw [hz1]
   go_wp2_with fail
   go_ret
   rw [zD.out,if_neg HZ0.out,if_pos HZ.out]
   exact za5 HR3.out HB3.out
  ·have HZ:=qh hz
   have hz1:decide (buf.length=0)=false:=decide_eq_false hz
   clear hz
   rw [hz1]
   go_wp2_with fail
   go_ret
   rw [zD.out,if_neg HZ0.out,if_neg HZ.out]
   exact jd HB3.out
 have hz1:((z:Int)==va)=true:=by simp [hz0]
 have HZ0:=qh hz0
 clear hz0
 refine wp_region_noPanic ?_
 refine wp_region_held_drew (S:=fun x=>Below W.heap.size W x) (by kernel_rfl) ((zB wH (Below.refl _ _).drew)) (fun hK2=> ?_)
 refine zo 0 16 ?zEa rfl ?zzA ?_
 case zzA=>(intro x h;have e:=CC.out x h;go_simp<;>rfl)
 simp only [Act.put,za,ze,zf]
 refine zo 1 17 ?zEb rfl ?zzB ?_
 case zzB=>(intro x h;have e:=CC.out x h;go_simp<;>rfl)
 simp only [Act.put,za,ze,zf]
 refine zo 2 18 ?zEc rfl ?zzC ?_
 case zzC=>(intro x h;have e:=CC.out x h;go_simp<;>rfl)
 simp only [Act.put,za,ze,zf]
 refine zo 3 19 ?zEd rfl ?zzD ?_
 case zzD=>(intro x h;have e:=CC.out x h;go_simp<;>rfl)
 simp only [Act.put,za,ze,zf]
 refine zo 4 20 ?zEe rfl ?zzE ?_
 case zzE=>(intro x h;have e:=CC.out x h;go_simp<;>rfl)
 simp only [Act.put,za,ze,zf]
 refine zo 5 21 ?zEf rfl ?zzF ?_
 case zzF=>(intro x h;have e:=CC.out x h;go_simp<;>rfl)
 simp only [Act.put,za,ze,zf]
 refine zo 6 22 ?zEg rfl ?zzG ?_
 case zzG=>(intro x h;have e:=CC.out x h;go_simp<;>rfl)
 simp only [Act.put,za,ze,zf]
 refine zo 7 23 ?zEh rfl ?zzH ?_
 case zzH=>(intro x h;have e:=CC.out x h;go_simp<;>rfl)
 simp only [Act.put,za,ze,zf]
 refine zo 8 24 ?zEi rfl ?zzI ?_
 case zzI=>(intro x h;have e:=CC.out x h;go_simp<;>rfl)
 simp only [Act.put,za,ze,zf]
 refine zo 9 25 ?zBq rfl ?zwD ?_
 case zwD=>(intro x h;have e:=CC.out x h;go_simp<;>rfl)
 simp only [Act.put,za,ze,zf]
 refine wpAnyH_done (by kernel_rfl) ?_ _
 refine NoPanic.normal ?_
 go_upto_region 3 with fail
 refine wp_region_noPanic ?_
 refine yP (n0:=8) (S:=fun x=>Below W.heap.size W x) (by kernel_rfl) ((zB wH (Below.refl _ _).drew.drew)) (fun hT3=> ?_)
 refine zO 0 26 ?zwl rfl ?zeh (fun _=>hT3) ?_
 case zeh=>(intro _ _;go_simp<;>rfl)
 simp only [Act.put,za,ze,zf]
 refine zO 1 27 ?zwm rfl ?zei (fun _=>hT3) ?_
 case zei=>(intro _ _;go_simp<;>rfl)
 simp only [Act.put,za,ze,zf]
 refine zO 2 28 ?zwn rfl ?zej (fun _=>hT3) ?_
 case zej=>(intro _ _;go_simp<;>rfl)
 simp only [Act.put,za,ze,zf]
 refine qZ [7,8,9] 3 29 ?zwo rfl ?zek hT3 ?_
 case zek=>(intro x h;have e:=CC.out x h;go_simp<;>rfl)
 simp only [Act.put,za,ze,zf]
 refine zO 4 30 ?zwp rfl ?zel (fun _=>hT3) ?_
 case zel=>(intro _ _;go_simp<;>rfl)
 simp only [Act.put,za,ze,zf]
 refine qZ [7,8,9] 5 31 ?zwq rfl ?zem hT3 ?_
 case zem=>(intro x h;have e:=CC.out x h;go_simp<;>rfl)
 simp only [Act.put,za,ze,zf]
 refine zO 6 32 ?zwr rfl ?zen (fun _=>hT3) ?_
 case zen=>(intro _ _;go_simp<;>rfl)
 simp only [Act.put,za,ze,zf]
 refine zO 7 33 ?z5g rfl ?zkq (fun _=>hT3) ?_
 case zkq=>(intro _ _;go_simp<;>rfl)
 simp only [Act.put,za,ze,zf]
 refine jV 8 rfl (fun K hK=> ?_)
 obtain⟨q0,q1⟩:=(HRW.out.below hT3).jQ jy
 go_simp
 refine hK.out _ _ (fun h=>absurd rfl h) ?_
 clear hK K
 refine zO 9 7 ?zEj rfl ?zzJ (fun h=>absurd h (by decide+kernel)) ?_
 case zzJ=>(intro _ _;go_simp<;>rfl)
 simp only [Act.put,za,ze,zf]
 refine xE (by kernel_rfl) ?_ _
 refine NoPanic.normal ?_
 clear q0 q1
 have HR2:=qh ((HRW.out.below hT3).za8 v vb)
 have HB2:Hid (Below B w (hw7.drew.drew.setCell ⟨mb,v,none⟩ (.int .i64 vb))):=(qQ.out.trans (hT3.mono (Nat.le_trans yu.out HA.out.size))).setCell (p:=⟨mb,v,none⟩) HRW.out.jg.1 _
 have HS2:Hid (Since (fun k=>k=mb) W (hw7.drew.drew.setCell ⟨mb,v,none⟩ (.int .i64 vb))):=(zaT _ hT3).trans (Since.setCell (F:=fun k=>k=mb) (p:=⟨mb,v,none⟩) (Since.refl _ _) (.inl rfl) _) (fun _ h=> .inl h)
 go_upto_region 4 with fail
 have eW:hw7.drew.drew.setCell ⟨mb,v,none⟩ (.int .i64 vb)=(hw7.setCell ⟨mb,v,none⟩ (.int .i64 vb)).drew.drew:=rfl
 rw [eW] at HR2 HB2 HS2
 clear eW
 generalize (World.setCell hw7 ⟨mb,v,none⟩ (.int .i64 vb)).drew.drew=W4 at HR2 HB2 HS2 ⊢
 have C4:Hid (∀x,Below W4.heap.size W4 x->x.cell? ⟨gi,1,none⟩=some (.int .i64 (reg:Int))):=fun x hx=>zm hx _ _ ((HS2.out.cell (p:=⟨gi,1,none⟩) (zJ HX.out) (fun e=>HGM.out e)).trans (zh HX.out 1))
 refine wp_region_noPanic ?_
 refine yP (n0:=8) (S:=fun x=>Below W4.heap.size W4 x) (by kernel_rfl) ((Below.refl _ _).drew) (fun qo=> ?_)
 refine zO 0 34 ?zEk rfl ?zzK (fun _=>qo) ?_
 case zzK=>(intro _ _;go_simp<;>rfl)
 simp only [Act.put,za,ze,zf]
 refine zO 1 35 ?zEl rfl ?zzL (fun _=>qo) ?_
 case zzL=>(intro _ _;go_simp<;>rfl)
 simp only [Act.put,za,ze,zf]
 refine qZ [7,8] 2 36 ?zEm rfl ?zzM qo ?_
 case zzM=>(intro x h;have e0:=C4.out x h;go_simp<;>rfl)
 simp only [Act.put,za,ze,zf]
 refine zO 3 37 ?zEn rfl ?zzN (fun _=>qo) ?_
 case zzN=>(intro _ _;go_simp<;>rfl)
 simp only [Act.put,za,ze,zf]
 refine zO 4 38 ?zEo rfl ?zzO (fun _=>qo) ?_
 case zzO=>(intro _ _;go_simp<;>rfl)
 simp only [Act.put,za,ze,zf]
 refine zO 5 39 ?zEp rfl ?zzP (fun _=>qo) ?_
 case zzP=>(intro _ _;go_simp<;>rfl)
 simp only [Act.put,za,ze,zf]
 refine zO 6 40 ?zEq rfl ?zzQ (fun _=>qo) ?_
 case zzQ=>(intro _ _;go_simp<;>rfl)
 simp only [Act.put,za,ze,zf]
 refine zO 7 41 ?zEr rfl ?zzR (fun _=>qo) ?_
 case zzR=>(intro _ _;go_simp<;>rfl)
 simp only [Act.put,za,ze,zf]
 refine jV 8 rfl (fun K hK=> ?_)
 obtain⟨q0,q1⟩:=(HR2.out.below qo).za6 hr4
 go_simp
 refine hK.out _ _ (fun h=>absurd rfl h) ?_
 clear hK K
 refine xE (by kernel_rfl) ?_ _
 refine NoPanic.normal ?_
 clear q0 q1
 have HR3:=qh ((HR2.out.below qo).zck reg hr4 1)
 have HB3:Hid (Below B w (W4.drew.setCell ⟨gr,1+reg,none⟩ (.int .i64 1))):=HB2.out.drew.setCell (p:=⟨gr,1+reg,none⟩) HRW.out.base _
 go_wp2_with fail
 refine(kU HR3.out).mono ?_
 rintro e w9 ⟨rfl,rfl⟩
 by_cases hz:buf.length=0
 ·have HZ:=qh hz
  have hz1:decide (buf.length=0)=true:=decide_eq_true hz
  clear hz
  rw [hz1]
  go_wp2_with fail
  go_ret
  rw [zD.out,if_pos HZ0.out,if_pos HZ.out]
  exact za5 HR3.out HB3.out
 ·have HZ:=qh hz
  have hz1:decide (buf.length=0)=false:=decide_eq_false hz
  clear hz
  rw [hz1]
  go_wp2_with fail
  go_ret
  rw [zD.out,if_pos HZ0.out,if_neg HZ.out]
  exact jd HB3.out
end Go.Proofs.YtliajkheeniljaaGreatDoor
