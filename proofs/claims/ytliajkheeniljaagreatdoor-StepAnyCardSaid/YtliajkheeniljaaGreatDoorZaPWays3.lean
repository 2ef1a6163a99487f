/- What a thread's instructions do: the program's methods: the walks. What a thread's instruction does: the program's map of methods, and each method by the document's answer. -/
import Derived.Test.YtliajkheeniljaaGreatDoorZaIMap
import Derived.Test.YtliajkheeniljaaGreatDoorZaPWays
import Derived.Test.YtliajkheeniljaaGreatDoorZaPWays2
import Derived.Test.YtliajkheeniljaaGreatDoorZaPWays4
import Derived.Test.YtliajkheeniljaaGreatDoorZaStepQ
import Derived.Test.YtliajkheeniljaaGreatDoorZaShort
set_option linter.all false
namespace Go.Proofs.YtliajkheeniljaaGreatDoor
open Go.RowKit
set_option maxRecDepth 100000
set_option maxHeartbeats 16000000
variable {v0:Value}
theorem zjh {w:World} {B gr mb mc:Nat} {pc r0 r1 r2 r3 dom:Int} {buf:List zn} {bv:Value} {m:zM} {mem:List Int} {bad:Bool} (h:yL v0 w B gr pc r0 r1 r2 r3 buf bv m dom mem mb mc bad) (hB:B<=w.heap.size) (hd1:1<=dom) (hd2:dom<=1000) (d:Nat) (x:yB) (ka kb:Value) (ha:zF d w x.a ka) (hb:zF d w x.b kb)
  (xg:0<=x.reg/\x.reg<4) (hvar:0<=x.var/\x.var<(mem.length:Int)) (hbl:buf.length<=1000000):Calls Tryz.prog 126 #[.pointer (some ⟨gr,0,none⟩),xI x ka kb] w fun e w'=>
  xL v0 w B gr m dom mb mc (if m.model=0 then some (⟨pc, [r0,r1,r2,r3],buf⟩,mem.set x.var.toNat (zZ [r0,r1,r2,r3] dom d x.a),bad) else if qN buf m ⟨x.var,zZ [r0,r1,r2,r3] dom d x.a⟩=true then some (⟨pc, [r0,r1,r2,r3],vC buf m ⟨x.var,zZ [r0,r1,r2,r3] dom d x.a⟩⟩,mem,bad) else none) e w':=by
 have yw:=fun W V (hV:yL v0 W B gr pc r0 r1 r2 r3 buf V m dom mem mb mc bad) (hW:Below w.heap.size w W)=>wP hV hd1 hd2 d x.a ka (ha.below hW)
 obtain⟨aa,ac,rfl, -⟩:=ha.slice
 obtain⟨ba,bc,rfl, -⟩:=hb.slice
 obtain⟨ua,uc,rfl, -⟩:=zl.slice h.xW
 obtain⟨op,reg,v,a,b,yC⟩:=x
 simp only [] at xg hvar ha hb yw ⊢
 obtain⟨reg,rfl⟩:∃k:Nat,reg=(k:Int):=⟨reg.toNat,by omega⟩
 obtain⟨v,rfl⟩:∃k:Nat,v=(k:Int):=⟨v.toNat,by omega⟩
 have hr4:reg<4:=by omega
 have jy:v<mem.length:=by omega
 have jU:(v:Int)<(mem.length:Int):=hvar.2
 have hrI:(reg:Int)<4:=xg.2
 try simp only [Int.toNat_natCast]
 clear ha hb
 unfold xI
 simp only []
 unfold yV at yw
 generalize hva:zZ [r0,r1,r2,r3] dom d a=va at yw ⊢
 clear hva
 generalize a.kind=ak at yw ⊢
 generalize a.n=an at yw ⊢
 generalize a.op=ao at yw ⊢
 generalize a.kids.length=al at yw ⊢
 generalize b.kind=bk at ⊢
 generalize b.n=bn at ⊢
 generalize b.op=bo at ⊢
 generalize b.kids.length=bl at ⊢
 have HEA:=qh yw
 clear yw
 obtain⟨res,hres⟩:∃r:Option (zw × List Int × Bool),r=(if m.model=0 then some (⟨pc, [r0,r1,r2,r3],buf⟩,mem.set v (va),bad) else if qN buf m ⟨(v:Int),va⟩=true then some (⟨pc, [r0,r1,r2,r3],vC buf m ⟨(v:Int),va⟩⟩,mem,bad) else none):=⟨_,rfl⟩
 rw [<-hres]
 have zD:=qh hres
 clear hres
 obtain⟨un,hun⟩:∃n,n=buf.length:=⟨_,rfl⟩
 rw [<-hun] at h hbl
 have HUN:=qh hun
 have HR:=qh h
 have yu:=qh hB
 have HA:=qh ((Below.refl w.heap.size w).alloc (Nat.le_refl _) (.cells #[.int .i64 op, .int .i64 (reg:Int), .int .i64 (v:Int), .int .i64 ak, .int .i64 an, .int .u8 ao, .slice aa al ac, .int .i64 bk, .int .i64 bn, .int .u8 bo, .slice ba bl bc, .int .i64 yC] 64))
 have HX:=qh (yK w (.cells #[.int .i64 op, .int .i64 (reg:Int), .int .i64 (v:Int), .int .i64 ak, .int .i64 an, .int .u8 ao, .slice aa al ac, .int .i64 bk, .int .i64 bn, .int .u8 bo, .slice ba bl bc, .int .i64 yC] 64))
 clear h hun hB
 go_enter Tryz.func126,Tryz.ntmps126
 go_upto_region 1 with fail
 generalize World.alloc w _=W at HA HX ⊢
 obtain⟨gi,hgi⟩:∃g,g=w.heap.size:=⟨_,rfl⟩
 rw [<-hgi] at HX ⊢
 clear hgi
 have HRW:=qh (HR.out.below HA.out)
 have qQ:Hid (Below B w W):=HA.out.mono yu.out
 have CC:Hid (∀x,Below W.heap.size W x->x.cell? ⟨gi,2,none⟩=some (.int .i64 (v:Int))/\x.cell? ⟨gi,3,none⟩=some (.int .i64 ak)/\x.cell? ⟨gi,4,none⟩=some (.int .i64 an)/\x.cell? ⟨gi,5,none⟩=some (.int .u8 ao)/\x.cell? ⟨gi,6,none⟩=some (.slice aa al ac)/\x.cell? ⟨gr,5,none⟩=some (.slice ua un uc)/\x.cell? ⟨gr,6,none⟩=some (.int .i64 m.model)/\x.cell? ⟨gr,7,none⟩=some (.int .i64 m.bound)/\x.cell? ⟨gr,9,none⟩=some (.slice (some ⟨mb,0,none⟩) mem.length mc)):=fun x hx=>⟨zm hx _ _ (zh HX.out 2),zm hx _ _ (zh HX.out 3),zm hx _ _ (zh HX.out 4),zm hx _ _ (zh HX.out 5),zm hx _ _ (zh HX.out 6),zm hx _ _ (zh HRW.out.block 5),zm hx _ _ (zh HRW.out.block 6),zm hx _ _ (zh HRW.out.block 7),zm hx _ _ (zh HRW.out.block 9)⟩
 obtain⟨c0,c1,c2,c3,c4,c5,c6,c7,c8⟩:=CC.out W (Below.refl _ _)
 go_wp2_with fail
 refine(HEA.out W _ HRW.out HA.out).mono ?_
 rintro e w2 ⟨rfl,hb2⟩
 have HB2:=qh hb2
 have HR2:=qh (HRW.out.below hb2)
 have gY:Hid (Below B w w2):=qQ.out.trans (hb2.mono (Nat.le_trans yu.out HA.out.size))
 clear hb2 c0 c1 c2 c3 c4 c5 c6 c7 c8
 have C2:Hid (∀x,Below w2.heap.size w2 x->x.cell? ⟨gi,2,none⟩=some (.int .i64 (v:Int))/\x.cell? ⟨gr,5,none⟩=some (.slice ua un uc)/\x.cell? ⟨gr,6,none⟩=some (.int .i64 m.model)/\x.cell? ⟨gr,7,none⟩=some (.int .i64 m.bound)/\x.cell? ⟨gr,9,none⟩=some (.slice (some ⟨mb,0,none⟩) mem.length mc)):=fun x hx=>⟨zm (zB HB2.out hx) _ _ (zh HX.out 2),zm hx _ _ (zh HR2.out.block 5),zm hx _ _ (zh HR2.out.block 6),zm hx _ _ (zh HR2.out.block 7),zm hx _ _ (zh HR2.out.block 9)⟩
 obtain⟨-, -,e6, -, -⟩:=C2.out w2 (Below.refl _ _)
 by_cases hm:m.model=0
 ·have hm1:((m.model:Int)==0)=true:=by simp [hm]
  have HM:=qh hm
  clear hm
  go_upto_region 3 with fail
  clear e6 hm1
  refine wp_region_noPanic ?_
  refine yP (n0:=8) (S:=fun x=>Below w2.heap.size w2 x) (by kernel_rfl) ((Below.refl _ _).drew) (fun hT=> ?_)
  refine zO 0 16 ?vm1 rfl ?z3h (fun _=>hT) ?_
  case z3h=>(intro _ _;go_simp<;>rfl)
  simp only [Act.put,za,ze,zf]
  refine zO 1 17 ?vm2 rfl ?z3i (fun _=>hT) ?_
  case z3i=>(intro _ _;go_simp<;>rfl)
  simp only [Act.put,za,ze,zf]
  refine zO 2 18 ?vm3 rfl ?z3j (fun _=>hT) ?_
  case z3j=>(intro _ _;go_simp<;>rfl)
  simp only [Act.put,za,ze,zf]
  refine qZ [7,8] 3 19 ?vm4 rfl ?z3k hT ?_
  case z3k=>(intro x h;have e:=C2.out x h;go_simp<;>rfl)
  simp only [Act.put,za,ze,zf]
  refine zO 4 20 ?vm5 rfl ?z3l (fun _=>hT) ?_
  case z3l=>(intro _ _;go_simp<;>rfl)
  simp only [Act.put,za,ze,zf]
  refine qZ [7,8] 5 21 ?vm6 rfl ?z3m hT ?_
  case z3m=>(intro x h;have e:=C2.out x h;go_simp<;>rfl)
  simp only [Act.put,za,ze,zf]
  refine zO 6 22 ?vm7 rfl ?z3n (fun _=>hT) ?_
  case z3n=>(intro _ _;go_simp<;>rfl)
  simp only [Act.put,za,ze,zf]
  refine zO 7 23 ?vm8 rfl ?z3o (fun _=>hT) ?_
  case z3o=>(intro _ _;go_simp<;>rfl)
  simp only [Act.put,za,ze,zf]
  refine jV 8 rfl (fun K hK=> ?_)
  obtain⟨q0,q1⟩:=(HR2.out.below hT).jQ jy
  go_simp
  refine hK.out _ _ (fun h=>absurd rfl h) ?_
  clear hK K
  refine xE (by kernel_rfl) ?_ _
  refine NoPanic.normal ?_
  clear q0 q1
  have HR3:=qh ((HR2.out.below hT).za8 v va)
  have HB3:Hid (Below B w (w2.drew.setCell ⟨mb,v,none⟩ (.int .i64 va))):=gY.out.drew.setCell (p:=⟨mb,v,none⟩) HR2.out.jg.1 _
  go_wp2_with fail
  go_ret
  rw [zD.out,if_pos HM.out]
  exact qJ HR3.out HB3.out
 have hm1:((m.model:Int)==0)=false:=by simp [hm]
 have HM:=qh hm
 clear hm
 have uY:Hid (∀x,Below w2.heap.size w2 x->Calls Tryz.prog 85 #[.slice ua un uc, .agg #[.int .i64 m.model, .int .i64 m.bound], .agg #[.int .i64 (v:Int), .int .i64 va]] x fun e w'=>(∃jO,e= .returned (.tuple #[jO, .bool (qN buf m ⟨(v:Int),va⟩)])/\zH w' jO (vC buf m ⟨(v:Int),va⟩)/\(qN buf m ⟨(v:Int),va⟩=true->w'.ownsRow x.heap.size 50 2 jO (vC buf m ⟨(v:Int),va⟩).length (zq zn.cells (vC buf m ⟨(v:Int),va⟩))))/\Below x.heap.size x w'):=fun x hx=>zge x _ buf (HR2.out.below hx).xW (by rw [<-HUN.out];exact hbl) m ⟨(v:Int),va⟩
 obtain⟨pb,hpb⟩:∃l,l=vC buf m ⟨(v:Int),va⟩:=⟨_,rfl⟩
 rw [<-hpb] at uY zD
 clear hpb
 go_upto_region 5 with fail
 clear e6 hm1
 cases hok:qN buf m ⟨(v:Int),va⟩ with
 |true=>
  rw [hok] at uY zD
  clear hok
  refine wp_region_noPanic ?_
  refine yP (n0:=21) (S:=fun x=>Below w2.heap.size w2 x) (by kernel_rfl) ((Below.refl _ _).drew) (fun hT=> ?_)
  refine zO 0 25 ?z5x rfl ?zoq (fun _=>hT) ?_
  case zoq=>(intro _ _;go_simp<;>rfl)
  simp only [Act.put,za,ze,zf]
  refine zO 1 26 ?z5y rfl ?zor (fun _=>hT) ?_
  case zor=>(intro _ _;go_simp<;>rfl)
  simp only [Act.put,za,ze,zf]
  refine zO 2 27 ?z5z rfl ?zos (fun _=>hT) ?_
  case zos=>(intro _ _;go_simp<;>rfl)
  simp only [Act.put,za,ze,zf]
  refine zO 3 28 ?z5A rfl ?zot (fun _=>hT) ?_
  case zot=>(intro _ _;go_simp<;>rfl)
  simp only [Act.put,za,ze,zf]
  refine zO 4 29 ?z5B rfl ?zou (fun _=>hT) ?_
  case zou=>(intro _ _;go_simp<;>rfl)
  simp only [Act.put,za,ze,zf]
  refine qZ [14,15,16,17,18,19,20,21,22] 5 30 ?z5C rfl ?zov hT ?_
  case zov=>(intro x h;have e:=C2.out x h;go_simp<;>rfl)
  simp only [Act.put,za,ze,zf]
  refine zO 6 31 ?z5D rfl ?zow (fun _=>hT) ?_
  case zow=>(intro _ _;go_simp<;>rfl)
  simp only [Act.put,za,ze,zf]
  refine zO 7 32 ?z5E rfl ?zox (fun _=>hT) ?_
  case zox=>(intro _ _;go_simp<;>rfl)
  simp only [Act.put,za,ze,zf]
  refine zO 8 33 ?z5F rfl ?zoy (fun _=>hT) ?_
  case zoy=>(intro _ _;go_simp<;>rfl)
  simp only [Act.put,za,ze,zf]
  refine qZ [14,15,16,17,18,19,20,21,22] 9 34 ?z3p rfl ?zlD hT ?_
  case zlD=>(intro x h;have e:=C2.out x h;go_simp<;>rfl)
  simp only [Act.put,za,ze,zf]
  refine zO 10 35 ?z3q rfl ?zlE (fun _=>hT) ?_
  case zlE=>(intro _ _;go_simp<;>rfl)
  simp only [Act.put,za,ze,zf]
  refine qZ [13,14,15,16,17,18,19,20,21,22] 11 36 ?z3r rfl ?zlF hT ?_
  case zlF=>(intro x h;have e:=C2.out x h;go_simp<;>rfl)
  simp only [Act.put,za,ze,zf]
  refine zO 12 37 ?z3s rfl ?zlG (fun _=>hT) ?_
  case zlG=>(intro _ _;go_simp<;>rfl)
  simp only [Act.put,za,ze,zf]
  refine zO 13 38 ?z3t rfl ?zlH (fun _=>hT) ?_
  case zlH=>(intro _ _;go_simp<;>rfl)
  simp only [Act.put,za,ze,zf]
  refine jV 14 rfl (fun K hK=> ?_)
  go_simp
  refine(uY.out w2.drew hT).mono ?_
  rintro e zbj ⟨⟨jO,rfl,hbf,hrow⟩,hb⟩
  obtain⟨xa,xc,rfl, -⟩:=zl.slice hbf
  have j5:=qh hrow
  clear hbf hrow
  have jq:Below w2.heap.size w2 zbj:=zB hT hb
  refine hK.out _ _ (fun _ _=>jq) ?_
  clear hK K hb hT
  refine zO 15 24 ?z3u rfl ?zlI (fun _=>jq) ?_
  case zlI=>(intro _ _;go_simp<;>rfl)
  simp only [Act.put,za,ze,zf]
  refine zO 16 40 ?z3v rfl ?zlJ (fun _=>jq) ?_
  case zlJ=>(intro _ _;go_simp<;>rfl)
  simp only [Act.put,za,ze,zf]
  refine zO 17 41 ?z3w rfl ?zlK (fun _=>jq) ?_
  case zlK=>(intro _ _;go_simp<;>rfl)
  simp only [Act.put,za,ze,zf]
  refine zO 18 42 ?z3x rfl ?zlL (fun _=>jq) ?_
  case zlL=>(intro _ _;go_simp<;>rfl)
  simp only [Act.put,za,ze,zf]
  refine zO 19 43 ?z3y rfl ?zlM (fun _=>jq) ?_
  case zlM=>(intro _ _;go_simp<;>rfl)
  simp only [Act.put,za,ze,zf]
  refine zO 20 44 ?z3z rfl ?zlN (fun _=>jq) ?_
  case zlN=>(intro _ _;go_simp<;>rfl)
  simp only [Act.put,za,ze,zf]
  refine jV 21 rfl (fun K hK=> ?_)
  have HBK:=qh ((HR2.out.below jq).block)
  have q0:zbj.cell? ⟨gr,5,none⟩=some (.slice ua un uc):=zh HBK.out 5
  have q1:zbj.frozen? ⟨gr,5,none⟩=false:=zK HBK.out 5
  go_simp
  refine hK.out _ _ (fun h=>absurd rfl h) ?_
  clear hK K
  refine zO 22 4 ?z3A rfl ?zlO (fun h=>absurd h (by decide+kernel)) ?_
  case zlO=>(intro _ _;go_simp<;>rfl)
  simp only [Act.put,za,ze,zf]
  refine xE (by kernel_rfl) ?_ _
  refine NoPanic.normal ?_
  clear q0 q1
  have HB3:Hid (Below B w (zbj.setCell ⟨gr,5,none⟩ (.slice xa pb.length xc))):=(gY.out.trans (jq.mono (Nat.le_trans yu.out (Nat.le_trans HA.out.size HB2.out.size)))).setCell (p:=⟨gr,5,none⟩) HRW.out.base _
  have HR3:=qh ((HR2.out.below jq).zlP (V:=w2.drew) ⟨zJ HR2.out.block,HR2.out.jg.2⟩ (j5.out rfl))
  go_wp2_with fail
  go_ret
  first|rw [zD.out,if_neg HM.out,if_pos rfl] |rw [zD.out,if_neg HM.out,if_pos trivial]
  exact qJ HR3.out HB3.out
 |false=>
  rw [hok] at uY zD
  clear hok
  refine wp_region_noPanic ?_
  refine yP (n0:=21) (S:=fun x=>Below w2.heap.size w2 x) (by kernel_rfl) ((Below.refl _ _).drew) (fun hT=> ?_)
  refine zO 0 25 ?z3B rfl ?zlQ (fun _=>hT) ?_
  case zlQ=>(intro _ _;go_simp<;>rfl)
  simp only [Act.put,za,ze,zf]
  refine zO 1 26 ?z3C rfl ?zlR (fun _=>hT) ?_
  case zlR=>(intro _ _;go_simp<;>rfl)
  simp only [Act.put,za,ze,zf]
  refine zO 2 27 ?z3D rfl ?zlS (fun _=>hT) ?_
  case zlS=>(intro _ _;go_simp<;>rfl)
  simp only [Act.put,za,ze,zf]
  refine zO 3 28 ?z3E rfl ?zlT (fun _=>hT) ?_
  case zlT=>(intro _ _;go_simp<;>rfl)
  simp only [Act.put,za,ze,zf]
  refine zO 4 29 ?z3F rfl ?zlU (fun _=>hT) ?_
  case zlU=>(intro _ _;go_simp<;>rfl)
  simp only [Act.put,za,ze,zf]
  refine qZ [14,15,16,17,18,19,20,21,22] 5 30 ?z3G rfl ?zlV hT ?_
  case zlV=>(intro x h;have e:=C2.out x h;go_simp<;>rfl)
  simp only [Act.put,za,ze,zf]
  refine zO 6 31 ?z3H rfl ?zlW (fun _=>hT) ?_
  case zlW=>(intro _ _;go_simp<;>rfl)
  simp only [Act.put,za,ze,zf]
  refine zO 7 32 ?z3I rfl ?zlX (fun _=>hT) ?_
  case zlX=>(intro _ _;go_simp<;>rfl)
  simp only [Act.put,za,ze,zf]
  refine zO 8 33 ?z3J rfl ?zlY (fun _=>hT) ?_
  case zlY=>(intro _ _;go_simp<;>rfl)
  simp only [Act.put,za,ze,zf]
  refine qZ [14,15,16,17,18,19,20,21,22] 9 34 ?z0T rfl ?zji hT ?_
  case zji=>(intro x h;have e:=C2.out x h;go_simp<;>rfl)
  simp only [Act.put,za,ze,zf]
  refine zO 10 35 ?z0U rfl ?zjj (fun _=>hT) ?_
  case zjj=>(intro _ _;go_simp<;>rfl)
  simp only [Act.put,za,ze,zf]
  refine qZ [13,14,15,16,17,18,19,20,21,22] 11 36 ?z0V rfl ?zjk hT ?_
  case zjk=>(intro x h;have e:=C2.out x h;go_simp<;>rfl)
  simp only [Act.put,za,ze,zf]
  refine zO 12 37 ?z0W rfl ?zjl (fun _=>hT) ?_
  case zjl=>(intro _ _;go_simp<;>rfl)
  simp only [Act.put,za,ze,zf]
  refine zO 13 38 ?z0X rfl ?zjm (fun _=>hT) ?_
  case zjm=>(intro _ _;go_simp<;>rfl)
  simp only [Act.put,za,ze,zf]
  refine jV 14 rfl (fun K hK=> ?_)
  go_simp
  refine(uY.out w2.drew hT).mono ?_
  rintro e zaq ⟨⟨jO,rfl,hbf,hrow⟩,hb⟩
  obtain⟨xa,xc,rfl, -⟩:=zl.slice hbf
  have j5:=qh hrow
  clear hbf hrow
  have jq:Below w2.heap.size w2 zaq:=zB hT hb
  refine hK.out _ _ (fun _ _=>jq) ?_
  clear hK K hb hT
  refine zO 15 24 ?z0Y rfl ?zjn (fun _=>jq) ?_
  case zjn=>(intro _ _;go_simp<;>rfl)
  simp only [Act.put,za,ze,zf]
  refine zO 16 40 ?z0Z rfl ?zjo (fun _=>jq) ?_
  case zjo=>(intro _ _;go_simp<;>rfl)
  simp only [Act.put,za,ze,zf]
  refine zO 17 41 ?z1a rfl ?zjq (fun _=>jq) ?_
  case zjq=>(intro _ _;go_simp<;>rfl)
  simp only [Act.put,za,ze,zf]
  refine zO 18 42 ?z1b rfl ?zjr (fun _=>jq) ?_
  case zjr=>(intro _ _;go_simp<;>rfl)
  simp only [Act.put,za,ze,zf]
  refine zO 19 43 ?z1c rfl ?zjs (fun _=>jq) ?_
  case zjs=>(intro _ _;go_simp<;>rfl)
  simp only [Act.put,za,ze,zf]
  refine zO 20 44 ?z1d rfl ?zjt (fun _=>jq) ?_
  case zjt=>(intro _ _;go_simp<;>rfl)
  simp only [Act.put,za,ze,zf]
  refine jV 21 rfl (fun K hK=> ?_)
  have HBK:=qh ((HR2.out.below jq).block)
  have q0:zaq.cell? ⟨gr,5,none⟩=some (.slice ua un uc):=zh HBK.out 5
  have q1:zaq.frozen? ⟨gr,5,none⟩=false:=zK HBK.out 5
  go_simp
  refine hK.out _ _ (fun h=>absurd rfl h) ?_
  clear hK K
  refine zO 22 4 ?z1e rfl ?zju (fun h=>absurd h (by decide+kernel)) ?_
  case zju=>(intro _ _;go_simp<;>rfl)
  simp only [Act.put,za,ze,zf]
  refine xE (by kernel_rfl) ?_ _
  refine NoPanic.normal ?_
  clear q0 q1
  have HB3:Hid (Below B w (zaq.setCell ⟨gr,5,none⟩ (.slice xa pb.length xc))):=(gY.out.trans (jq.mono (Nat.le_trans yu.out (Nat.le_trans HA.out.size HB2.out.size)))).setCell (p:=⟨gr,5,none⟩) HRW.out.base _
  go_wp2_with fail
  go_ret
  rw [zD.out,if_neg HM.out,if_neg (fun h=>by cases h)]
  exact jd HB3.out
end Go.Proofs.YtliajkheeniljaaGreatDoor
namespace Go.Proofs.YtliajkheeniljaaGreatDoor
open Go.RowKit
set_option maxRecDepth 100000
set_option maxHeartbeats 16000000
variable {v0:Value}
def wyL:List (Int × Value):= [(1, .func (.func 125) #[] #[]),(2, .func (.func 126) #[] #[]),(3, .func (.func 127) #[] #[]),(4, .func (.func 128) #[] #[]),(5, .func (.func 129) #[] #[]),(6, .func (.func 130) #[] #[]),(7, .func (.func 131) #[] #[]),(8, .func (.func 132) #[] #[]),(9, .func (.func 133) #[] #[]),(12, .func (.func 134) #[] #[]),(13, .func (.func 135) #[] #[])]
theorem zlZ (w:World):Calls Tryz.prog 107 #[] w (zg7 wyL w):=by
 have hmm:= @run_makeMap Tryz.prog
 have h0:jS (w.alloc (.map #[] 0)) w.heap.size [] :=⟨#[],0,yK w _,rfl⟩
 have hB0:Below w.heap.size w (w.alloc (.map #[] 0)):=(Below.refl _ _).alloc (Nat.le_refl _) _
 go_enter Tryz.func107,Tryz.ntmps107
 go_wp2_with(refine xY _ rfl _ _ _ 169 rfl 3 168 .i64 Tryz.underlying169 Tryz.underlying3 w.heap.size _ rfl _ rfl _ rfl h0 ?_;clear h0;intro w1 h0 hs1 hz1;replace hB0:=hB0.trans (hs1.below hB0.size (fun k hk=>by omega));clear hs1 hz1)
 go_ret
 exact⟨w.heap.size,rfl,h0,Nat.le_refl _,hB0⟩
def zjv (k:Int):Prop:=k=1\/k=2\/k=3\/k=4\/k=5\/k=6\/k=7\/k=8\/k=9\/k=12\/k=13
theorem zoz {w:World} {B gr mb mc:Nat} {pc r0 r1 r2 r3:Int} {buf:List zn} {bv:Value} {m:zM} {c:zS} {s:zu} (h:yL v0 w B gr (pc+1) r0 r1 r2 r3 buf bv m c.domain s.mem mb mc s.bad) (hB:B<=w.heap.size) (hd1:1<=c.domain) (hd2:c.domain<=1000) (d:Nat) (x:yB) (ka kb:Value) (ha:zF d w x.a ka) (hb:zF d w x.b kb)
  (xg:0<=x.reg/\x.reg<4) (hvar:0<=x.var/\x.var<(s.mem.length:Int)) (hbl:buf.length<=1000000) (hop:zjv x.op):
  ∃f,jG wyL x.op=some (.func (.func f) #[] #[])/\(∀args W,(callFunc f args).run Tryz.prog W= .ok (.enter f args) W)/\
   Calls Tryz.prog f #[.pointer (some ⟨gr,0,none⟩),xI x ka kb] w fun e w'=>xL v0 w B gr m c.domain mb mc (stepT c m s ⟨pc, [r0,r1,r2,r3],buf⟩ x d) e w':=by
 rcases hop with k|k|k|k|k|k|k|k|k|k|k
 ·exact⟨_,by rw [k];rfl,fun _ _=>rfl,by rw [zbk k];exact zma h hB hd1 hd2 d x ka kb ha hb xg hvar hbl⟩
 ·refine⟨_,by rw [k];rfl,fun _ _=>rfl, ?_⟩
  have hw:=zjh h hB hd1 hd2 d x ka kb ha hb xg hvar hbl
  by_cases hm:m.model=0
  ·rw [zcc k hm];simp only [if_pos hm] at hw;exact hw
  ·simp only [if_neg hm] at hw
   cases hp:qN buf m ⟨x.var,zZ [r0,r1,r2,r3] c.domain d x.a⟩ with
   |true=>rw [zcd k hm hp];simp only [hp,if_true] at hw;exact hw
   |false=>rw [zce k hm hp];simp only [hp,Bool.false_eq_true,if_false] at hw;exact hw
 ·exact⟨_,by rw [k];rfl,fun _ _=>rfl,by rw [zfd k];exact zo0 h hB hd1 hd2 d x ka kb ha hb xg hvar hbl⟩
 ·exact⟨_,by rw [k];rfl,fun _ _=>rfl,by rw [za2 k];exact zio h hB hd1 hd2 d x ka kb ha hb xg hvar hbl⟩
 ·exact⟨_,by rw [k];rfl,fun _ _=>rfl,by rw [bQ k];exact zkI h hB hd1 hd2 d x ka kb ha hb xg hvar hbl⟩
 ·refine⟨_,by rw [k];rfl,fun _ _=>rfl, ?_⟩
  have hw:=zo1 h hB hd1 hd2 d x ka kb ha hb xg hvar hbl
  by_cases hv:s.mem.getD x.var.toNat 0=zZ [r0,r1,r2,r3] c.domain d x.a
  ·rw [zbl k hv];simp only [if_pos hv] at hw;exact hw
  ·rw [zbm k hv];simp only [if_neg hv] at hw;exact hw
 ·exact⟨_,by rw [k];rfl,fun _ _=>rfl,by rw [bR k];exact zmb h hB hd1 hd2 d x ka kb ha hb xg hvar hbl⟩
 ·exact⟨_,by rw [k];rfl,fun _ _=>rfl,by rw [pR k];exact zhl h hB hd1 hd2 d x ka kb ha hb xg hvar hbl⟩
 ·exact⟨_,by rw [k];rfl,fun _ _=>rfl,by rw [gT k];exact zhk h hB hd1 hd2 d x ka kb ha hb xg hvar hbl⟩
 ·refine⟨_,by rw [k];rfl,fun _ _=>rfl, ?_⟩
  have hw:=zhj h hB hd1 hd2 d x ka kb ha hb xg hvar hbl
  rw [pU k]
  by_cases hv:zZ [r0,r1,r2,r3] c.domain d x.a=0
  ·simp only [if_pos hv] at hw ⊢;exact hw
  ·simp only [if_neg hv] at hw ⊢;exact hw
 ·exact⟨_,by rw [k];rfl,fun _ _=>rfl,by rw [zdP k];exact zkH h hB hd1 hd2 d x ka kb ha hb xg hvar hbl⟩
end Go.Proofs.YtliajkheeniljaaGreatDoor
