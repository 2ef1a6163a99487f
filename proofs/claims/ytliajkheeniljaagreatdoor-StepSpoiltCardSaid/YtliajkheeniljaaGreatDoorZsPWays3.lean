/- What a thread's instructions do: the program's methods: the walks. What a thread's instruction does: the program's map of methods, and each method by the document's answer. -/
import Derived.Test.YtliajkheeniljaaGreatDoorZsIMap
import Derived.Test.YtliajkheeniljaaGreatDoorZsPWays
import Derived.Test.YtliajkheeniljaaGreatDoorZsPWays2
import Derived.Test.YtliajkheeniljaaGreatDoorZsPWays4
import Derived.Test.YtliajkheeniljaaGreatDoorZsStepQ
import Derived.Test.YtliajkheeniljaaGreatDoorZsShort
set_option linter.all false
namespace Go.Proofs.YtliajkheeniljaaGreatDoor
open Go.RowKit
set_option maxRecDepth 100000
set_option maxHeartbeats 16000000
variable {v0:Value}
theorem zlK {w:World} {B gr mb mc:Nat} {pc r0 r1 r2 r3 dom:Int} {buf:List zm} {bv:Value} {m:zK} {mem:List Int} {bad:Bool} (h:xq v0 w B gr pc r0 r1 r2 r3 buf bv m dom mem mb mc bad) (hB:B<=w.heap.size) (hd1:1<=dom) (hd2:dom<=1000) (d:Nat) (x:zW) (ka kb:Value) (ha:zC d w x.a ka) (hb:zC d w x.b kb)
  (xO:0<=x.reg/\x.reg<4) (hvar:0<=x.var/\x.var<(mem.length:Int)) (hbl:buf.length<=1000000):Calls Tryz.prog 126 #[.pointer (some ⟨gr,0,none⟩),xU x ka kb] w fun e w'=>
  xZ v0 w B gr m dom mb mc (if m.model=0 then some (⟨pc, [r0,r1,r2,r3],buf⟩,mem.set x.var.toNat (yw [r0,r1,r2,r3] dom d x.a),bad) else if qL buf m ⟨x.var,yw [r0,r1,r2,r3] dom d x.a⟩=true then some (⟨pc, [r0,r1,r2,r3],vU buf m ⟨x.var,yw [r0,r1,r2,r3] dom d x.a⟩⟩,mem,bad) else none) e w':=by
 have yx:=fun W V (hV:xq v0 W B gr pc r0 r1 r2 r3 buf V m dom mem mb mc bad) (hW:Below w.heap.size w W)=>bq hV hd1 hd2 d x.a ka (ha.below hW)
 obtain⟨aa,ac,rfl, -⟩:=ha.slice
 obtain⟨ba,bc,rfl, -⟩:=hb.slice
 obtain⟨ua,uc,rfl, -⟩:=zk.slice h.qF
 obtain⟨op,reg,v,a,b,yB⟩:=x
 simp only [] at xO hvar ha hb yx ⊢
 obtain⟨reg,rfl⟩:∃k:Nat,reg=(k:Int):=⟨reg.toNat,by omega⟩
 obtain⟨v,rfl⟩:∃k:Nat,v=(k:Int):=⟨v.toNat,by omega⟩
 have hr4:reg<4:=by omega
 have kF:v<mem.length:=by omega
 have wL:(v:Int)<(mem.length:Int):=hvar.2
 have hrI:(reg:Int)<4:=xO.2
 try simp only [Int.toNat_natCast]
 clear ha hb
 unfold xU
 simp only []
 unfold xP at yx
 generalize hva:yw [r0,r1,r2,r3] dom d a=va at yx ⊢
 clear hva
 generalize a.kind=ak at yx ⊢
 generalize a.n=an at yx ⊢
 generalize a.op=ao at yx ⊢
 generalize a.kids.length=al at yx ⊢
 generalize b.kind=bk at ⊢
 generalize b.n=bn at ⊢
 generalize b.op=bo at ⊢
 generalize b.kids.length=bl at ⊢
 have HEA:=qh yx
 clear yx
 obtain⟨res,hres⟩:∃r:Option (zx × List Int × Bool),r=(if m.model=0 then some (⟨pc, [r0,r1,r2,r3],buf⟩,mem.set v (va),bad) else if qL buf m ⟨(v:Int),va⟩=true then some (⟨pc, [r0,r1,r2,r3],vU buf m ⟨(v:Int),va⟩⟩,mem,bad) else none):=⟨_,rfl⟩
 rw [<-hres]
 have zL:=qh hres
 clear hres
 obtain⟨un,hun⟩:∃n,n=buf.length:=⟨_,rfl⟩
 rw [<-hun] at h hbl
 have HUN:=qh hun
 have HR:=qh h
 have yu:=qh hB
 have HA:=qh ((Below.refl w.heap.size w).alloc (Nat.le_refl _) (.cells #[.int .i64 op, .int .i64 (reg:Int), .int .i64 (v:Int), .int .i64 ak, .int .i64 an, .int .u8 ao, .slice aa al ac, .int .i64 bk, .int .i64 bn, .int .u8 bo, .slice ba bl bc, .int .i64 yB] 64))
 have HX:=qh (yD w (.cells #[.int .i64 op, .int .i64 (reg:Int), .int .i64 (v:Int), .int .i64 ak, .int .i64 an, .int .u8 ao, .slice aa al ac, .int .i64 bk, .int .i64 bn, .int .u8 bo, .slice ba bl bc, .int .i64 yB] 64))
 clear h hun hB
 go_enter Tryz.func126,Tryz.ntmps126
 go_upto_region 1 with fail
 generalize World.alloc w _=W at HA HX ⊢
 obtain⟨gi,hgi⟩:∃g,g=w.heap.size:=⟨_,rfl⟩
 rw [<-hgi] at HX ⊢
 clear hgi
 have HRW:=qh (HR.out.below HA.out)
 have vQ:Hid (Below B w W):=HA.out.mono yu.out
 have CC:Hid (∀x,Below W.heap.size W x->x.cell? ⟨gi,2,none⟩=some (.int .i64 (v:Int))/\x.cell? ⟨gi,3,none⟩=some (.int .i64 ak)/\x.cell? ⟨gi,4,none⟩=some (.int .i64 an)/\x.cell? ⟨gi,5,none⟩=some (.int .u8 ao)/\x.cell? ⟨gi,6,none⟩=some (.slice aa al ac)/\x.cell? ⟨gr,5,none⟩=some (.slice ua un uc)/\x.cell? ⟨gr,6,none⟩=some (.int .i64 m.model)/\x.cell? ⟨gr,7,none⟩=some (.int .i64 m.bound)/\x.cell? ⟨gr,9,none⟩=some (.slice (some ⟨mb,0,none⟩) mem.length mc)):=fun x hx=>⟨zl hx _ _ (zi HX.out 2),zl hx _ _ (zi HX.out 3),zl hx _ _ (zi HX.out 4),zl hx _ _ (zi HX.out 5),zl hx _ _ (zi HX.out 6),zl hx _ _ (zi HRW.out.block 5),zl hx _ _ (zi HRW.out.block 6),zl hx _ _ (zi HRW.out.block 7),zl hx _ _ (zi HRW.out.block 9)⟩
 obtain⟨c0,c1,c2,c3,c4,c5,c6,c7,c8⟩:=CC.out W (Below.refl _ _)
 go_wp2_with fail
 refine(HEA.out W _ HRW.out HA.out).mono ?_
 rintro e w2 ⟨rfl,hb2⟩
 have HB2:=qh hb2
 have HR2:=qh (HRW.out.below hb2)
 have HBB:Hid (Below B w w2):=vQ.out.trans (hb2.mono (Nat.le_trans yu.out HA.out.size))
 clear hb2 c0 c1 c2 c3 c4 c5 c6 c7 c8
 have C2:Hid (∀x,Below w2.heap.size w2 x->x.cell? ⟨gi,2,none⟩=some (.int .i64 (v:Int))/\x.cell? ⟨gr,5,none⟩=some (.slice ua un uc)/\x.cell? ⟨gr,6,none⟩=some (.int .i64 m.model)/\x.cell? ⟨gr,7,none⟩=some (.int .i64 m.bound)/\x.cell? ⟨gr,9,none⟩=some (.slice (some ⟨mb,0,none⟩) mem.length mc)):=fun x hx=>⟨zl (zF HB2.out hx) _ _ (zi HX.out 2),zl hx _ _ (zi HR2.out.block 5),zl hx _ _ (zi HR2.out.block 6),zl hx _ _ (zi HR2.out.block 7),zl hx _ _ (zi HR2.out.block 9)⟩
 obtain⟨-, -,e6, -, -⟩:=C2.out w2 (Below.refl _ _)
 by_cases hm:m.model=0
 ·have hm1:((m.model:Int)==0)=true:=by simp [hm]
  have HM:=qh hm
  clear hm
  go_upto_region 3 with fail
  clear e6 hm1
  refine wp_region_noPanic ?_
  refine yT (n0:=8) (S:=fun x=>Below w2.heap.size w2 x) (by kernel_rfl) ((Below.refl _ _).drew) (fun hT=> ?_)
  refine zO 0 16 ?vm1 rfl ?z9s (fun _=>hT) ?_
  case z9s=>(intro _ _;go_simp<;>rfl)
  simp only [Act.put,za,ze,zh]
  refine zO 1 17 ?vm2 rfl ?z9t (fun _=>hT) ?_
  case z9t=>(intro _ _;go_simp<;>rfl)
  simp only [Act.put,za,ze,zh]
  refine zO 2 18 ?vm3 rfl ?z9u (fun _=>hT) ?_
  case z9u=>(intro _ _;go_simp<;>rfl)
  simp only [Act.put,za,ze,zh]
  refine vD [7,8] 3 19 ?vm4 rfl ?z9v hT ?_
  case z9v=>(intro x h;have e:=C2.out x h;go_simp<;>rfl)
  simp only [Act.put,za,ze,zh]
  refine zO 4 20 ?vm5 rfl ?z9w (fun _=>hT) ?_
  case z9w=>(intro _ _;go_simp<;>rfl)
  simp only [Act.put,za,ze,zh]
  refine vD [7,8] 5 21 ?vm6 rfl ?z9x hT ?_
  case z9x=>(intro x h;have e:=C2.out x h;go_simp<;>rfl)
  simp only [Act.put,za,ze,zh]
  refine zO 6 22 ?vm7 rfl ?z9y (fun _=>hT) ?_
  case z9y=>(intro _ _;go_simp<;>rfl)
  simp only [Act.put,za,ze,zh]
  refine zO 7 23 ?vm8 rfl ?z9z (fun _=>hT) ?_
  case z9z=>(intro _ _;go_simp<;>rfl)
  simp only [Act.put,za,ze,zh]
  refine jB 8 rfl (fun K hK=> ?_)
  obtain⟨q0,q1⟩:=(HR2.out.below hT).wD kF
  go_simp
  refine hK.out _ _ (fun h=>absurd rfl h) ?_
  clear hK K
  refine xM (by kernel_rfl) ?_ _
  refine NoPanic.normal ?_
  clear q0 q1
  have HR3:=qh ((HR2.out.below hT).zcg v va)
  have HB3:Hid (Below B w (w2.drew.setCell ⟨mb,v,none⟩ (.int .i64 va))):=HBB.out.drew.setCell (p:=⟨mb,v,none⟩) HR2.out.kC.1 _
  go_wp2_with fail
  go_ret
  rw [zL.out,if_pos HM.out]
  exact vP HR3.out HB3.out
 have hm1:((m.model:Int)==0)=false:=by simp [hm]
 have HM:=qh hm
 clear hm
 have bG:Hid (∀x,Below w2.heap.size w2 x->Calls Tryz.prog 85 #[.slice ua un uc, .agg #[.int .i64 m.model, .int .i64 m.bound], .agg #[.int .i64 (v:Int), .int .i64 va]] x fun e w'=>(∃kZ,e= .returned (.tuple #[kZ, .bool (qL buf m ⟨(v:Int),va⟩)])/\zQ w' kZ (vU buf m ⟨(v:Int),va⟩)/\(qL buf m ⟨(v:Int),va⟩=true->w'.ownsRow x.heap.size 50 2 kZ (vU buf m ⟨(v:Int),va⟩).length (zq zm.cells (vU buf m ⟨(v:Int),va⟩))))/\Below x.heap.size x w'):=fun x hx=>zid x _ buf (HR2.out.below hx).qF (by rw [<-HUN.out];exact hbl) m ⟨(v:Int),va⟩
 obtain⟨pb,hpb⟩:∃l,l=vU buf m ⟨(v:Int),va⟩:=⟨_,rfl⟩
 rw [<-hpb] at bG zL
 clear hpb
 go_upto_region 5 with fail
 clear e6 hm1
 cases hok:qL buf m ⟨(v:Int),va⟩ with
 |true=>
  rw [hok] at bG zL
  clear hok
  refine wp_region_noPanic ?_
  refine yT (n0:=21) (S:=fun x=>Below w2.heap.size w2 x) (by kernel_rfl) ((Below.refl _ _).drew) (fun hT=> ?_)
  refine zO 0 25 ?zCf rfl ?zrm (fun _=>hT) ?_
  case zrm=>(intro _ _;go_simp<;>rfl)
  simp only [Act.put,za,ze,zh]
  refine zO 1 26 ?zCg rfl ?zrn (fun _=>hT) ?_
  case zrn=>(intro _ _;go_simp<;>rfl)
  simp only [Act.put,za,ze,zh]
  refine zO 2 27 ?zCh rfl ?zro (fun _=>hT) ?_
  case zro=>(intro _ _;go_simp<;>rfl)
  simp only [Act.put,za,ze,zh]
  refine zO 3 28 ?zCi rfl ?zrp (fun _=>hT) ?_
  case zrp=>(intro _ _;go_simp<;>rfl)
  simp only [Act.put,za,ze,zh]
  refine zO 4 29 ?zCj rfl ?zrq (fun _=>hT) ?_
  case zrq=>(intro _ _;go_simp<;>rfl)
  simp only [Act.put,za,ze,zh]
  refine vD [14,15,16,17,18,19,20,21,22] 5 30 ?zCk rfl ?zrr hT ?_
  case zrr=>(intro x h;have e:=C2.out x h;go_simp<;>rfl)
  simp only [Act.put,za,ze,zh]
  refine zO 6 31 ?zCl rfl ?zrs (fun _=>hT) ?_
  case zrs=>(intro _ _;go_simp<;>rfl)
  simp only [Act.put,za,ze,zh]
  refine zO 7 32 ?zCm rfl ?zrt (fun _=>hT) ?_
  case zrt=>(intro _ _;go_simp<;>rfl)
  simp only [Act.put,za,ze,zh]
  refine zO 8 33 ?zCn rfl ?zru (fun _=>hT) ?_
  case zru=>(intro _ _;go_simp<;>rfl)
  simp only [Act.put,za,ze,zh]
  refine vD [14,15,16,17,18,19,20,21,22] 9 34 ?z90 rfl ?zo3 hT ?_
  case zo3=>(intro x h;have e:=C2.out x h;go_simp<;>rfl)
  simp only [Act.put,za,ze,zh]
  refine zO 10 35 ?z92 rfl ?zo4 (fun _=>hT) ?_
  case zo4=>(intro _ _;go_simp<;>rfl)
  simp only [Act.put,za,ze,zh]
  refine vD [13,14,15,16,17,18,19,20,21,22] 11 36 ?z94 rfl ?zo5 hT ?_
  case zo5=>(intro x h;have e:=C2.out x h;go_simp<;>rfl)
  simp only [Act.put,za,ze,zh]
  refine zO 12 37 ?z95 rfl ?zo6 (fun _=>hT) ?_
  case zo6=>(intro _ _;go_simp<;>rfl)
  simp only [Act.put,za,ze,zh]
  refine zO 13 38 ?z96 rfl ?zo7 (fun _=>hT) ?_
  case zo7=>(intro _ _;go_simp<;>rfl)
  simp only [Act.put,za,ze,zh]
  refine jB 14 rfl (fun K hK=> ?_)
  go_simp
  refine(bG.out w2.drew hT).mono ?_
  rintro e zc9 ⟨⟨kZ,rfl,hbf,hrow⟩,hb⟩
  obtain⟨xa,xc,rfl, -⟩:=zk.slice hbf
  have vO:=qh hrow
  clear hbf hrow
  have kD:Below w2.heap.size w2 zc9:=zF hT hb
  refine hK.out _ _ (fun _ _=>kD) ?_
  clear hK K hb hT
  refine zO 15 24 ?z97 rfl ?zo8 (fun _=>kD) ?_
  case zo8=>(intro _ _;go_simp<;>rfl)
  simp only [Act.put,za,ze,zh]
  refine zO 16 40 ?z98 rfl ?zo9 (fun _=>kD) ?_
  case zo9=>(intro _ _;go_simp<;>rfl)
  simp only [Act.put,za,ze,zh]
  refine zO 17 41 ?z99 rfl ?zoA (fun _=>kD) ?_
  case zoA=>(intro _ _;go_simp<;>rfl)
  simp only [Act.put,za,ze,zh]
  refine zO 18 42 ?z9A rfl ?zoB (fun _=>kD) ?_
  case zoB=>(intro _ _;go_simp<;>rfl)
  simp only [Act.put,za,ze,zh]
  refine zO 19 43 ?z9B rfl ?zoC (fun _=>kD) ?_
  case zoC=>(intro _ _;go_simp<;>rfl)
  simp only [Act.put,za,ze,zh]
  refine zO 20 44 ?z9C rfl ?zoD (fun _=>kD) ?_
  case zoD=>(intro _ _;go_simp<;>rfl)
  simp only [Act.put,za,ze,zh]
  refine jB 21 rfl (fun K hK=> ?_)
  have HBK:=qh ((HR2.out.below kD).block)
  have q0:zc9.cell? ⟨gr,5,none⟩=some (.slice ua un uc):=zi HBK.out 5
  have q1:zc9.frozen? ⟨gr,5,none⟩=false:=zB HBK.out 5
  go_simp
  refine hK.out _ _ (fun h=>absurd rfl h) ?_
  clear hK K
  refine zO 22 4 ?z9D rfl ?zoE (fun h=>absurd h (by decide+kernel)) ?_
  case zoE=>(intro _ _;go_simp<;>rfl)
  simp only [Act.put,za,ze,zh]
  refine xM (by kernel_rfl) ?_ _
  refine NoPanic.normal ?_
  clear q0 q1
  have HB3:Hid (Below B w (zc9.setCell ⟨gr,5,none⟩ (.slice xa pb.length xc))):=(HBB.out.trans (kD.mono (Nat.le_trans yu.out (Nat.le_trans HA.out.size HB2.out.size)))).setCell (p:=⟨gr,5,none⟩) HRW.out.base _
  have HR3:=qh ((HR2.out.below kD).zog (V:=w2.drew) ⟨zw HR2.out.block,HR2.out.kC.2⟩ (vO.out rfl))
  go_wp2_with fail
  go_ret
  first|rw [zL.out,if_neg HM.out,if_pos rfl] |rw [zL.out,if_neg HM.out,if_pos trivial]
  exact vP HR3.out HB3.out
 |false=>
  rw [hok] at bG zL
  clear hok
  refine wp_region_noPanic ?_
  refine yT (n0:=21) (S:=fun x=>Below w2.heap.size w2 x) (by kernel_rfl) ((Below.refl _ _).drew) (fun hT=> ?_)
  refine zO 0 25 ?z9E rfl ?zoF (fun _=>hT) ?_
  case zoF=>(intro _ _;go_simp<;>rfl)
  simp only [Act.put,za,ze,zh]
  refine zO 1 26 ?z9F rfl ?zoG (fun _=>hT) ?_
  case zoG=>(intro _ _;go_simp<;>rfl)
  simp only [Act.put,za,ze,zh]
  refine zO 2 27 ?z9G rfl ?zoH (fun _=>hT) ?_
  case zoH=>(intro _ _;go_simp<;>rfl)
  simp only [Act.put,za,ze,zh]
  refine zO 3 28 ?z9H rfl ?zoI (fun _=>hT) ?_
  case zoI=>(intro _ _;go_simp<;>rfl)
  simp only [Act.put,za,ze,zh]
  refine zO 4 29 ?z9I rfl ?zoJ (fun _=>hT) ?_
  case zoJ=>(intro _ _;go_simp<;>rfl)
  simp only [Act.put,za,ze,zh]
  refine vD [14,15,16,17,18,19,20,21,22] 5 30 ?z9J rfl ?zoK hT ?_
  case zoK=>(intro x h;have e:=C2.out x h;go_simp<;>rfl)
  simp only [Act.put,za,ze,zh]
  refine zO 6 31 ?z9K rfl ?zoL (fun _=>hT) ?_
  case zoL=>(intro _ _;go_simp<;>rfl)
  simp only [Act.put,za,ze,zh]
  refine zO 7 32 ?z9L rfl ?zoM (fun _=>hT) ?_
  case zoM=>(intro _ _;go_simp<;>rfl)
  simp only [Act.put,za,ze,zh]
  refine zO 8 33 ?z9M rfl ?zoN (fun _=>hT) ?_
  case zoN=>(intro _ _;go_simp<;>rfl)
  simp only [Act.put,za,ze,zh]
  refine vD [14,15,16,17,18,19,20,21,22] 9 34 ?z6Q rfl ?zlL hT ?_
  case zlL=>(intro x h;have e:=C2.out x h;go_simp<;>rfl)
  simp only [Act.put,za,ze,zh]
  refine zO 10 35 ?z6R rfl ?zlM (fun _=>hT) ?_
  case zlM=>(intro _ _;go_simp<;>rfl)
  simp only [Act.put,za,ze,zh]
  refine vD [13,14,15,16,17,18,19,20,21,22] 11 36 ?z6S rfl ?zlN hT ?_
  case zlN=>(intro x h;have e:=C2.out x h;go_simp<;>rfl)
  simp only [Act.put,za,ze,zh]
  refine zO 12 37 ?z6T rfl ?zlO (fun _=>hT) ?_
  case zlO=>(intro _ _;go_simp<;>rfl)
  simp only [Act.put,za,ze,zh]
  refine zO 13 38 ?z6U rfl ?zlP (fun _=>hT) ?_
  case zlP=>(intro _ _;go_simp<;>rfl)
  simp only [Act.put,za,ze,zh]
  refine jB 14 rfl (fun K hK=> ?_)
  go_simp
  refine(bG.out w2.drew hT).mono ?_
  rintro e zb7 ⟨⟨kZ,rfl,hbf,hrow⟩,hb⟩
  obtain⟨xa,xc,rfl, -⟩:=zk.slice hbf
  have vO:=qh hrow
  clear hbf hrow
  have kD:Below w2.heap.size w2 zb7:=zF hT hb
  refine hK.out _ _ (fun _ _=>kD) ?_
  clear hK K hb hT
  refine zO 15 24 ?z6V rfl ?zlQ (fun _=>kD) ?_
  case zlQ=>(intro _ _;go_simp<;>rfl)
  simp only [Act.put,za,ze,zh]
  refine zO 16 40 ?z6W rfl ?zlR (fun _=>kD) ?_
  case zlR=>(intro _ _;go_simp<;>rfl)
  simp only [Act.put,za,ze,zh]
  refine zO 17 41 ?z6X rfl ?zlS (fun _=>kD) ?_
  case zlS=>(intro _ _;go_simp<;>rfl)
  simp only [Act.put,za,ze,zh]
  refine zO 18 42 ?z6Y rfl ?zlT (fun _=>kD) ?_
  case zlT=>(intro _ _;go_simp<;>rfl)
  simp only [Act.put,za,ze,zh]
  refine zO 19 43 ?z6Z rfl ?zlU (fun _=>kD) ?_
  case zlU=>(intro _ _;go_simp<;>rfl)
  simp only [Act.put,za,ze,zh]
  refine zO 20 44 ?z7a rfl ?zlV (fun _=>kD) ?_
  case zlV=>(intro _ _;go_simp<;>rfl)
  simp only [Act.put,za,ze,zh]
  refine jB 21 rfl (fun K hK=> ?_)
  have HBK:=qh ((HR2.out.below kD).block)
  have q0:zb7.cell? ⟨gr,5,none⟩=some (.slice ua un uc):=zi HBK.out 5
  have q1:zb7.frozen? ⟨gr,5,none⟩=false:=zB HBK.out 5
  go_simp
  refine hK.out _ _ (fun h=>absurd rfl h) ?_
  clear hK K
  refine zO 22 4 ?z7b rfl ?zlW (fun h=>absurd h (by decide+kernel)) ?_
  case zlW=>(intro _ _;go_simp<;>rfl)
  simp only [Act.put,za,ze,zh]
  refine xM (by kernel_rfl) ?_ _
  refine NoPanic.normal ?_
  clear q0 q1
  have HB3:Hid (Below B w (zb7.setCell ⟨gr,5,none⟩ (.slice xa pb.length xc))):=(HBB.out.trans (kD.mono (Nat.le_trans yu.out (Nat.le_trans HA.out.size HB2.out.size)))).setCell (p:=⟨gr,5,none⟩) HRW.out.base _
  go_wp2_with fail
  go_ret
  rw [zL.out,if_neg HM.out,if_neg (fun h=>by cases h)]
  exact jU HB3.out
end Go.Proofs.YtliajkheeniljaaGreatDoor
namespace Go.Proofs.YtliajkheeniljaaGreatDoor
open Go.RowKit
set_option maxRecDepth 100000
set_option maxHeartbeats 16000000
variable {v0:Value}
def wyL:List (Int × Value):= [(1, .func (.func 125) #[] #[]),(2, .func (.func 126) #[] #[]),(3, .func (.func 127) #[] #[]),(4, .func (.func 128) #[] #[]),(5, .func (.func 129) #[] #[]),(6, .func (.func 130) #[] #[]),(7, .func (.func 131) #[] #[]),(8, .func (.func 132) #[] #[]),(9, .func (.func 133) #[] #[]),(12, .func (.func 134) #[] #[]),(13, .func (.func 135) #[] #[])]
theorem zoe (w:World):Calls Tryz.prog 107 #[] w (ziV wyL w):=by
 have hmm:= @run_makeMap Tryz.prog
 have h0:wF (w.alloc (.map #[] 0)) w.heap.size [] :=⟨#[],0,yD w _,rfl⟩
 have hB0:Below w.heap.size w (w.alloc (.map #[] 0)):=(Below.refl _ _).alloc (Nat.le_refl _) _
 go_enter Tryz.func107,Tryz.ntmps107
 go_wp2_with(refine qI _ rfl _ _ _ 169 rfl 3 168 .i64 Tryz.underlying169 Tryz.underlying3 w.heap.size _ rfl _ rfl _ rfl h0 ?_;clear h0;intro w1 h0 hs1 hz1;replace hB0:=hB0.trans (hs1.below hB0.size (fun k hk=>by omega));clear hs1 hz1)
 go_ret
 exact⟨w.heap.size,rfl,h0,Nat.le_refl _,hB0⟩
def zlu (k:Int):Prop:=k=1\/k=2\/k=3\/k=4\/k=5\/k=6\/k=7\/k=8\/k=9\/k=12\/k=13
theorem zqL {w:World} {B gr mb mc:Nat} {pc r0 r1 r2 r3:Int} {buf:List zm} {bv:Value} {m:zK} {c:zX} {s:zu} (h:xq v0 w B gr (pc+1) r0 r1 r2 r3 buf bv m c.domain s.mem mb mc s.bad) (hB:B<=w.heap.size) (hd1:1<=c.domain) (hd2:c.domain<=1000) (d:Nat) (x:zW) (ka kb:Value) (ha:zC d w x.a ka) (hb:zC d w x.b kb)
  (xO:0<=x.reg/\x.reg<4) (hvar:0<=x.var/\x.var<(s.mem.length:Int)) (hbl:buf.length<=1000000) (hop:zlu x.op):
  ∃f,kM wyL x.op=some (.func (.func f) #[] #[])/\(∀args W,(callFunc f args).run Tryz.prog W= .ok (.enter f args) W)/\
   Calls Tryz.prog f #[.pointer (some ⟨gr,0,none⟩),xU x ka kb] w fun e w'=>xZ v0 w B gr m c.domain mb mc (stepT c m s ⟨pc, [r0,r1,r2,r3],buf⟩ x d) e w':=by
 rcases hop with k|k|k|k|k|k|k|k|k|k|k
 ·exact⟨_,by rw [k];rfl,fun _ _=>rfl,by rw [bI k];exact zoO h hB hd1 hd2 d x ka kb ha hb xO hvar hbl⟩
 ·refine⟨_,by rw [k];rfl,fun _ _=>rfl, ?_⟩
  have hw:=zlK h hB hd1 hd2 d x ka kb ha hb xO hvar hbl
  by_cases hm:m.model=0
  ·rw [bJ k hm];simp only [if_pos hm] at hw;exact hw
  ·simp only [if_neg hm] at hw
   cases hp:qL buf m ⟨x.var,yw [r0,r1,r2,r3] c.domain d x.a⟩ with
   |true=>rw [bK k hm hp];simp only [hp,if_true] at hw;exact hw
   |false=>rw [bL k hm hp];simp only [hp,Bool.false_eq_true,if_false] at hw;exact hw
 ·exact⟨_,by rw [k];rfl,fun _ _=>rfl,by rw [zbv k];exact zrv h hB hd1 hd2 d x ka kb ha hb xO hvar hbl⟩
 ·exact⟨_,by rw [k];rfl,fun _ _=>rfl,by rw [um k];exact zlX h hB hd1 hd2 d x ka kb ha hb xO hvar hbl⟩
 ·exact⟨_,by rw [k];rfl,fun _ _=>rfl,by rw [gJ k];exact zoP h hB hd1 hd2 d x ka kb ha hb xO hvar hbl⟩
 ·refine⟨_,by rw [k];rfl,fun _ _=>rfl, ?_⟩
  have hw:=zrw h hB hd1 hd2 d x ka kb ha hb xO hvar hbl
  by_cases hv:s.mem.getD x.var.toNat 0=yw [r0,r1,r2,r3] c.domain d x.a
  ·rw [bM k hv];simp only [if_pos hv] at hw;exact hw
  ·rw [bN k hv];simp only [if_neg hv] at hw;exact hw
 ·exact⟨_,by rw [k];rfl,fun _ _=>rfl,by rw [gK k];exact zoQ h hB hd1 hd2 d x ka kb ha hb xO hvar hbl⟩
 ·exact⟨_,by rw [k];rfl,fun _ _=>rfl,by rw [wP k];exact zkl h hB hd1 hd2 d x ka kb ha hb xO hvar hbl⟩
 ·exact⟨_,by rw [k];rfl,fun _ _=>rfl,by rw [jZ k];exact zkm h hB hd1 hd2 d x ka kb ha hb xO hvar hbl⟩
 ·refine⟨_,by rw [k];rfl,fun _ _=>rfl, ?_⟩
  have hw:=zkn h hB hd1 hd2 d x ka kb ha hb xO hvar hbl
  rw [wQ k]
  by_cases hv:yw [r0,r1,r2,r3] c.domain d x.a=0
  ·simp only [if_pos hv] at hw ⊢;exact hw
  ·simp only [if_neg hv] at hw ⊢;exact hw
 ·exact⟨_,by rw [k];rfl,fun _ _=>rfl,by rw [zaK k];exact zoR h hB hd1 hd2 d x ka kb ha hb xO hvar hbl⟩
end Go.Proofs.YtliajkheeniljaaGreatDoor
