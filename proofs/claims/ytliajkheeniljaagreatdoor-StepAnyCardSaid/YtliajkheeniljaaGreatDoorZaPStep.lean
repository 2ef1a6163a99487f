/- A thread's step and a flush, by the program's runner: the walks. -/
import Derived.Test.YtliajkheeniljaaGreatDoorZaPHeads
import Derived.Test.YtliajkheeniljaaGreatDoorZaPTake
import Derived.Test.YtliajkheeniljaaGreatDoorZaPWays3
import Derived.Test.YtliajkheeniljaaGreatDoorZaShort
set_option linter.all false
namespace Go.Proofs.YtliajkheeniljaaGreatDoor
open Go.RowKit
set_option maxRecDepth 100000
set_option maxHeartbeats 16000000
variable {v0:Value}
theorem zoW:(Tryz.prog.info? 168).map (fun i=>(i.zero,i.size,i.bytes))=some (some .nilFunc,1,8):=by kernel_rfl
theorem zgL (P:World):(zeroValue 168).run Tryz.prog P= .ok .nilFunc P:=by
 obtain⟨i0,hi,hz0,hz1,hz2⟩:=info_parts zoW
 simp [zeroValue,typeInfo,hi,hz0]
def zgM (n:Nat) (x:yB):Prop:=(0<=x.reg/\x.reg<4)/\(0<=x.var/\x.var<(n:Int))/\zjv x.op
theorem xL.told {w w':World} {B gr:Nat} {m:zM} {dom:Int} {mb mc:Nat} {res:Option (zw × List Int × Bool)} {e:Ending} (h:xL v0 w B gr m dom mb mc res e w'):∃b:Bool,e= .returned (.bool b)/\xL v0 w B gr m dom mb mc res (.returned (.bool b)) w':=by
 rcases h.2 with⟨-,he⟩|⟨t,mem,bad,bv, -,he, -⟩
 ·exact⟨false,he,he ▸ h⟩
 ·exact⟨true,he,he ▸ h⟩
theorem xL.base {w W w':World} {B gr:Nat} {m:zM} {dom:Int} {mb mc:Nat} {res:Option (zw × List Int × Bool)} {e:Ending} (h:xL v0 W B gr m dom mb mc res e w') (hb:Below B w W):xL v0 w B gr m dom mb mc res e w':=⟨hb.trans h.1,h.2⟩
theorem zmy {w0 w:World} {B gr mb mc:Nat} {pc:Nat} {r0 r1 r2 r3:Int} {buf:List zn} {bv:Value} {m:zM} {c:zS} {s:zu} (h:yL v0 w B gr (pc:Int) r0 r1 r2 r3 buf bv m c.domain s.mem mb mc s.bad) (hB:B<=w.heap.size) (hd1:1<=c.domain) (hd2:c.domain<=1000) (d:Nat) (l:List yB) (lv:Value) (hl:vQ d w0 lv l) (h0:Below w0.heap.size w0 w) (hB0:w0.heap.size<=B)
  (hx:∀j,j<l.length->zgM s.mem.length (l.getD j default)) (hbl:buf.length<=1000000):Calls Tryz.prog 81 #[.pointer (some ⟨gr,0,none⟩),lv] w fun e w'=>
  xL v0 w B gr m c.domain mb mc (if (pc:Int)<(l.length:Int) then stepT c m s ⟨(pc:Int), [r0,r1,r2,r3],buf⟩ (l.getD pc default) d else none) e w':=by
 obtain⟨la,lc,rfl, -⟩:=zl.slice hl
 have hroom:=zl.room hl
 obtain⟨n,hn⟩:∃n,n=l.length:=⟨_,rfl⟩
 rw [<-hn] at hl hroom hx ⊢
 have HL:=qh hl
 have HN:=qh hn
 have HR:=qh h
 have yu:=qh hB
 have H0:=qh h0
 have HB0:=qh hB0
 clear h0 hB0
 have c0:w.cell? ⟨gr,0,none⟩=some (.int .i64 (pc:Int)):=zh h.block 0
 clear hl hn
 rcases Nat.lt_or_ge pc n with hlt|hlt
 rotate_left
 ·have hge:(n:Int)<=(pc:Int):=by omega
  rw [if_neg (by omega)]
  clear HL HR h hx hB
  go_enter Tryz.func81,Tryz.ntmps81
  go_wp2_with fail
  go_ret
  exact jd (Below.refl _ _)
 have qg:(pc:Int)<(n:Int):=by omega
 have hwr:IntKind.i64.wrap ((pc:Int)+1)=(pc:Int)+1:=IntWalk.i64_in _ (by omega)
 clear hroom
 rw [if_pos qg]
 obtain⟨eb,eo,aa,ac,ba,bc,yw, -,⟨x0,x1,x2⟩,⟨x3,x4,x5,x6⟩,⟨x7,x8,x9,x10⟩,wh,xa,xb⟩:=vQ.part HL.out pc (by rw [<-HN.out];exact hlt)
 subst yw
 have hfx:=hx pc hlt
 replace x0:=zm H0.out _ _ x0
 replace x1:=zm H0.out _ _ x1
 replace x2:=zm H0.out _ _ x2
 replace x3:=zm H0.out _ _ x3
 replace x4:=zm H0.out _ _ x4
 replace x5:=zm H0.out _ _ x5
 replace x6:=zm H0.out _ _ x6
 replace x7:=zm H0.out _ _ x7
 replace x8:=zm H0.out _ _ x8
 replace x9:=zm H0.out _ _ x9
 replace x10:=zm H0.out _ _ x10
 replace wh:=zm H0.out _ _ wh
 obtain⟨x,hxx⟩:∃x,x=l.getD pc default:=⟨_,rfl⟩
 rw [<-hxx] at x0 x1 x2 x3 x4 x5 x6 x7 x8 x9 x10 wh xa xb hfx ⊢
 have uD:=fun W V (hV:yL v0 W B gr ((pc:Int)+1) r0 r1 r2 r3 buf V m c.domain s.mem mb mc s.bad) (hW:B<=W.heap.size) (ha:zF d W x.a (.slice aa x.a.kids.length ac)) (hb:zF d W x.b (.slice ba x.b.kids.length bc))=>zoz hV hW hd1 hd2 d x _ _ ha hb hfx.1 hfx.2.1 hbl hfx.2.2
 unfold xI at uD
 have hxa:=fun W (hW:Below w0.heap.size w0 W)=>xa.below hW
 have hxb:=fun W (hW:Below w0.heap.size w0 W)=>xb.below hW
 clear xa xb hfx hxx
 obtain⟨res,hres⟩:∃r,r=stepT c m s ⟨(pc:Int), [r0,r1,r2,r3],buf⟩ x d:=⟨_,rfl⟩
 rw [<-hres] at uD ⊢
 clear hres
 obtain⟨op,reg,v,a,b,yC⟩:=x
 simp only [] at x0 x1 x2 x3 x4 x5 x6 x7 x8 x9 x10 wh uD hxa hxb ⊢
 obtain⟨al,hal⟩:∃n,n=a.kids.length:=⟨_,rfl⟩
 obtain⟨bl,vw⟩:∃n,n=b.kids.length:=⟨_,rfl⟩
 obtain⟨ak,hak⟩:∃n,n=a.kind:=⟨_,rfl⟩
 obtain⟨an,han⟩:∃n,n=a.n:=⟨_,rfl⟩
 obtain⟨ao,hao⟩:∃n,n=a.op:=⟨_,rfl⟩
 obtain⟨bk,hbk⟩:∃n,n=b.kind:=⟨_,rfl⟩
 obtain⟨bn,hbn⟩:∃n,n=b.n:=⟨_,rfl⟩
 obtain⟨bo,hbo⟩:∃n,n=b.op:=⟨_,rfl⟩
 rw [<-hak] at x3 uD
 rw [<-han] at x4 uD
 rw [<-hao] at x5 uD
 rw [<-hal] at x6 uD hxa
 rw [<-hbk] at x7 uD
 rw [<-hbn] at x8 uD
 rw [<-hbo] at x9 uD
 rw [<-vw] at x10 uD hxb
 clear hak han hao hal hbk hbn hbo vw
 have zoX:=qh uD
 have HXA:=qh hxa
 have HXB:=qh hxb
 have HA:=qh ((Below.refl w.heap.size w).alloc (Nat.le_refl _) (.cells #[.int .i64 op, .int .i64 reg, .int .i64 v, .int .i64 ak, .int .i64 an, .int .u8 ao, .slice aa al ac, .int .i64 bk, .int .i64 bn, .int .u8 bo, .slice ba bl bc, .int .i64 yC] 64))
 have HX:=qh (yK w (.cells #[.int .i64 op, .int .i64 reg, .int .i64 v, .int .i64 ak, .int .i64 an, .int .u8 ao, .slice aa al ac, .int .i64 bk, .int .i64 bn, .int .u8 bo, .slice ba bl bc, .int .i64 yC] 64))
 clear uD hxa hxb h hB hx HL
 go_enter Tryz.func81,Tryz.ntmps81
 go_upto_region 4 with fail
 generalize World.alloc w _=X at HA HX ⊢
 obtain⟨gi,hgi⟩:∃g,g=w.heap.size:=⟨_,rfl⟩
 rw [<-hgi] at HX ⊢
 have HNG:=qh (show gi≠gr by have:=zJ HR.out.block;omega)
 clear hgi c0 x0 x1 x2 x3 x4 x5 x6 x7 x8 x9 x10 wh
 have wm:=qh (HR.out.below HA.out)
 have d0:X.cell? ⟨gr,0,none⟩=some (.int .i64 (pc:Int)):=zh wm.out.block 0
 have f0:X.frozen? ⟨gr,0,none⟩=false:=zK wm.out.block 0
 go_upto_region 5 with fail
 clear d0 f0
 have kY:=qh (wm.out.zim ((pc:Int)+1))
 have vJ:Hid (Below B w (X.setCell ⟨gr,0,none⟩ (.int .i64 ((pc:Int)+1)))):=(HA.out.mono yu.out).setCell (p:=⟨gr,0,none⟩) HR.out.base _
 have HSY:Hid (Since (fun k=>k=gr) X (X.setCell ⟨gr,0,none⟩ (.int .i64 ((pc:Int)+1)))):=Since.setCell (F:=fun k=>k=gr) (p:=⟨gr,0,none⟩) (Since.refl _ _) (.inl rfl) _
 have HEX:Hid (zF d (X.setCell ⟨gr,0,none⟩ (.int .i64 ((pc:Int)+1))) a (.slice aa al ac)/\zF d (X.setCell ⟨gr,0,none⟩ (.int .i64 ((pc:Int)+1))) b (.slice ba bl bc)):=⟨(HXA.out _ (H0.out.trans (vJ.out.mono HB0.out))),(HXB.out _ (H0.out.trans (vJ.out.mono HB0.out)))⟩
 generalize World.setCell X ⟨gr,0,none⟩ _=Y at kY vJ HSY HEX ⊢
 have hYB:B<=Y.heap.size:=Nat.le_trans yu.out vJ.out.size
 obtain⟨f,hmf,hfn, -⟩:=zoX.out Y _ kY.out hYB HEX.out.1 HEX.out.2
 have hrun:Hid (∀W,Below Y.heap.size Y W->Calls Tryz.prog f #[.pointer (some ⟨gr,0,none⟩), .agg #[.int .i64 op, .int .i64 reg, .int .i64 v, .int .i64 ak, .int .i64 an, .int .u8 ao, .slice aa al ac, .int .i64 bk, .int .i64 bn, .int .u8 bo, .slice ba bl bc, .int .i64 yC]] W fun e w'=>xL v0 W B gr m c.domain mb mc res e w'):=fun W hW=>by
  obtain⟨f',zvx, -,hc⟩:=zoX.out W _ (kY.out.below hW) (Nat.le_trans hYB hW.size) (HEX.out.1.below hW) (HEX.out.2.below hW)
  rw [hmf] at zvx
  cases zvx
  exact hc
 have CC:Hid (∀x,Below Y.heap.size Y x->x.cell? ⟨gi,0,none⟩=some (.int .i64 op)/\x.cell? ⟨gi,1,none⟩=some (.int .i64 reg)/\x.cell? ⟨gi,2,none⟩=some (.int .i64 v)/\x.cell? ⟨gi,3,none⟩=some (.int .i64 ak)/\x.cell? ⟨gi,4,none⟩=some (.int .i64 an)/\x.cell? ⟨gi,5,none⟩=some (.int .u8 ao)/\x.cell? ⟨gi,6,none⟩=some (.slice aa al ac)/\x.cell? ⟨gi,7,none⟩=some (.int .i64 bk)/\x.cell? ⟨gi,8,none⟩=some (.int .i64 bn)/\x.cell? ⟨gi,9,none⟩=some (.int .u8 bo)/\x.cell? ⟨gi,10,none⟩=some (.slice ba bl bc)/\x.cell? ⟨gi,11,none⟩=some (.int .i64 yC)):=fun x hx=>by
  have k:=fun(i:Nat) (u:Value) (hv:(#[.int .i64 op, .int .i64 reg, .int .i64 v, .int .i64 ak, .int .i64 an, .int .u8 ao, .slice aa al ac, .int .i64 bk, .int .i64 bn, .int .u8 bo, .slice ba bl bc, .int .i64 yC] :Array Value)[i]? =some u)=>zm hx _ _ ((HSY.out.cell (p:=⟨gi,i,none⟩) (zJ HX.out) HNG.out).trans ((zh HX.out i).trans hv))
  exact⟨k 0 _ rfl,k 1 _ rfl,k 2 _ rfl,k 3 _ rfl,k 4 _ rfl,k 5 _ rfl,k 6 _ rfl,k 7 _ rfl,k 8 _ rfl,k 9 _ rfl,k 10 _ rfl,k 11 _ rfl⟩
 have HMF:=qh hmf
 clear hmf zoX HXA HXB
 refine wp_region_noPanic ?_
 refine yP (n0:=6) (S:=fun x=>Below Y.heap.size Y x) (by kernel_rfl) ((Below.refl _ _).drew) (fun hT=> ?_)
 refine zO 1 32 ?vt1 rfl ?zfC (fun _=>hT) ?_
 case zfC=>(intro _ _;go_simp<;>rfl)
 simp only [Act.put,za,ze,zf]
 refine qZ [3,6,7] 2 33 ?vt2 rfl ?zfD hT ?_
 case zfD=>(intro x h;have e:=CC.out x h;go_simp<;>rfl)
 simp only [Act.put,za,ze,zf]
 refine zO 4 35 ?vt3 rfl ?zfE (fun _=>hT) ?_
 case zfE=>(intro _ _;go_simp<;>rfl)
 simp only [Act.put,za,ze,zf]
 refine qZ [6,7] 5 36 ?vt4 rfl ?zfF hT ?_
 case zfF=>(intro x h;have e:=CC.out x h;go_simp<;>rfl)
 simp only [Act.put,za,ze,zf]
 refine jV 0 rfl (fun K hK=> ?_)
 go_simp
 refine(zlZ Y.drew).mono ?_
 rintro e tw0 ⟨mp,rfl,hmi, -,hb⟩
 have hlk:=jX hmi Tryz.underlying169 Tryz.underlying3 (zgL tw0) op false
 rw [HMF.out] at hlk
 simp only [Option.getD_some,Bool.false_eq_true,if_false] at hlk
 clear hmi
 have hT0:Below Y.heap.size Y tw0:=zB hT hb
 refine hK.out _ _ (fun _ _=>hT0) ?_
 clear hK K hb hT
 refine jV 3 rfl (fun K hK=> ?_)
 go_simp
 refine hK.out _ _ (fun _ _=>hT0) ?_
 clear hK K
 refine jV 6 rfl (fun K hK=> ?_)
 go_simp
 clear hlk
 refine(hrun.out tw0 hT0).mono ?_
 rintro e tw6 hwe
 have hbx:Below B Y tw0:=hT0.mono hYB
 obtain⟨bb,rfl,hwe⟩:=hwe.told
 have HWE:=qh (hwe.base (vJ.out.trans hbx))
 clear hwe hbx
 refine hK.out _ _ (fun h=>absurd rfl h) ?_
 clear hK K
 refine zO 7 4 ?vt5 rfl ?zfG (fun h=>absurd h (by decide+kernel)) ?_
 case zfG=>(intro _ _;go_simp<;>rfl)
 simp only [Act.put,za,ze,zf]
 refine xE (by kernel_rfl) ?_ _
 refine NoPanic.normal ?_
 clear hfn
 go_wp2_with fail
 go_ret
 exact HWE.out
theorem zj5 {w:World} {B gr mb mc:Nat} {pc r0 r1 r2 r3 dom:Int} {buf:List zn} {bv:Value} {m:zM} {mem:List Int} {bad:Bool} (h:yL v0 w B gr pc r0 r1 r2 r3 buf bv m dom mem mb mc bad) (hB:B<=w.heap.size) (hbl:buf.length<=1000000) (v:Int)
  (hh:v∈yh buf m.model->0<=v/\v<(mem.length:Int)/\∃n,takeB buf v=(some ⟨v,n⟩,(takeB buf v).2)):Calls Tryz.prog 82 #[.pointer (some ⟨gr,0,none⟩), .int .i64 v] w fun e w'=>
  xL v0 w B gr m dom mb mc (if v∈yh buf m.model then some (⟨pc, [r0,r1,r2,r3],(takeB buf v).2⟩,mem.set v.toNat ((takeB buf v).1.getD default).n,bad) else none) e w':=by
 have zgN:=fun W V (hV:yL v0 W B gr pc r0 r1 r2 r3 buf V m dom mem mb mc bad)=>zj6 W V buf hV.xW hbl m.model
 have htake:=fun W V (hV:yL v0 W B gr pc r0 r1 r2 r3 buf V m dom mem mb mc bad)=>zkP W V buf hV.xW hbl v
 obtain⟨ua,uc,rfl, -⟩:=zl.slice h.xW
 obtain⟨hs,hhs⟩:∃l,l=yh buf m.model:=⟨_,rfl⟩
 rw [<-hhs] at hh zgN ⊢
 obtain⟨un,hun⟩:∃n,n=buf.length:=⟨_,rfl⟩
 rw [<-hun] at h
 have HUN:=qh hun
 have HR:=qh h
 have yu:=qh hB
 have wD:Hid (∀x,Below w.heap.size w x->Calls Tryz.prog 79 #[.slice ua un uc, .int .i64 m.model] x fun e w'=>(∃sv,e= .returned sv/\xH w' sv hs)/\Below x.heap.size x w'):=fun x hx=>zgN x _ (HR.out.below hx)
 have CC:Hid (∀x,Below w.heap.size w x->x.cell? ⟨gr,5,none⟩=some (.slice ua un uc)/\x.cell? ⟨gr,6,none⟩=some (.int .i64 m.model)):=fun x hx=>⟨zm hx _ _ (zh HR.out.block 5),zm hx _ _ (zh HR.out.block 6)⟩
 have HH:=qh hh
 have jL:=qh htake
 clear zgN htake hhs hun h hB hh hbl
 by_cases hv:v∈hs
 rotate_left
 ·have hcv:hs.contains v=false:=by simpa using hv
  rw [if_neg hv]
  clear hv
  clear jL HH
  obtain⟨res,hres⟩:∃r:Option (zw × List Int × Bool),r=none:=⟨_,rfl⟩
  rw [<-hres]
  have zD:=qh hres
  clear hres
  go_enter Tryz.func82,Tryz.ntmps82
  go_upto_region 1 with fail
  refine wp_region_noPanic ?_
  refine wp_region_held_drew (S:=fun x=>Below w.heap.size w x) (by kernel_rfl) ((Below.refl _ _).drew) (fun hH=> ?_)
  refine zo 0 8 ?vn1 rfl ?zob ?_
  case zob=>(intro x h;have e:=CC.out x h;go_simp<;>rfl)
  simp only [Act.put,za,ze,zf]
  refine zo 1 9 ?vn2 rfl ?zoc ?_
  case zoc=>(intro x h;have e:=CC.out x h;go_simp<;>rfl)
  simp only [Act.put,za,ze,zf]
  refine zo 2 10 ?vn3 rfl ?zod ?_
  case zod=>(intro x h;have e:=CC.out x h;go_simp<;>rfl)
  simp only [Act.put,za,ze,zf]
  refine zo 3 11 ?vn4 rfl ?zoe ?_
  case zoe=>(intro x h;have e:=CC.out x h;go_simp<;>rfl)
  simp only [Act.put,za,ze,zf]
  refine zo 4 12 ?vn5 rfl ?zog ?_
  case zog=>(intro x h;have e:=CC.out x h;go_simp<;>rfl)
  simp only [Act.put,za,ze,zf]
  refine zo 5 13 ?vn6 rfl ?zoh ?_
  case zoh=>(intro x h;have e:=CC.out x h;go_simp<;>rfl)
  simp only [Act.put,za,ze,zf]
  refine zo 6 14 ?vn7 rfl ?zoi ?_
  case zoi=>(intro x h;have e:=CC.out x h;go_simp<;>rfl)
  simp only [Act.put,za,ze,zf]
  refine zo 7 15 ?vn8 rfl ?zoj ?_
  case zoj=>(intro x h;have e:=CC.out x h;go_simp<;>rfl)
  simp only [Act.put,za,ze,zf]
  refine zo 8 16 ?vn9 rfl ?zok ?_
  case zok=>(intro x h;have e:=CC.out x h;go_simp<;>rfl)
  simp only [Act.put,za,ze,zf]
  refine zo 9 17 ?z2B rfl ?ziT ?_
  case ziT=>(intro x h;have e:=CC.out x h;go_simp<;>rfl)
  simp only [Act.put,za,ze,zf]
  refine zo 11 19 ?zCT rfl ?zy2 ?_
  case zy2=>(intro x h;have e:=CC.out x h;go_simp<;>rfl)
  simp only [Act.put,za,ze,zf]
  refine zT 10 rfl (fun K hK=> ?_)
  go_simp
  refine(wD.out w.drew hH).mono ?_
  rintro e zj7 ⟨⟨sv,rfl,hsv⟩,hb⟩
  obtain⟨ha,hc,rfl, -⟩:=zl.slice hsv
  have zj8:Below w.heap.size w zj7:=zB hH hb
  refine hK.out _ _ zj8 (fun _=> ?_)
  clear hK K hb hH
  refine zT 12 rfl (fun K hK=> ?_)
  go_simp
  refine(zb3 zj7 _ hs hsv v).mono ?_
  rintro e zvz ⟨he,hyx⟩
  rw [hcv] at he
  subst he
  have hb:Below zj7.heap.size zj7 zvz:=by rw [hyx];exact Below.refl _ _
  clear hyx hsv
  have zqf:Below w.heap.size w zvz:=zB zj8 hb
  refine hK.out _ _ zqf (fun _=> ?_)
  clear hK K hb zj8
  refine zo 13 21 ?zCU rfl ?zy3 ?_
  case zy3=>(intro x h;have e:=CC.out x h;go_simp<;>rfl)
  simp only [Act.put,za,ze,zf]
  refine wpAnyH_done (by kernel_rfl) ?_ _
  refine NoPanic.normal ?_
  go_wp2_with fail
  go_ret
  rw [zD.out]
  exact jd (zqf.mono yu.out)
 have hcv:hs.contains v=true:=by simpa using hv
 obtain⟨hv0,hv1,tn,htk⟩:=HH.out hv
 rw [if_pos hv,htk]
 simp only [Option.getD_some]
 obtain⟨rest,hrest⟩:∃l,l=(takeB buf v).2:=⟨_,rfl⟩
 rw [<-hrest] at htk ⊢
 clear hrest
 obtain⟨vn,rfl⟩:∃k:Nat,v=(k:Int):=⟨v.toNat,by omega⟩
 have jy:vn<mem.length:=by omega
 simp only [Int.toNat_natCast]
 have zcs:Hid (∀x,Below w.heap.size w x->Calls Tryz.prog 109 #[.slice ua un uc, .int .i64 (vn:Int)] x fun e w'=>(∃xa xc,e= .returned (.tuple #[.agg #[.int .i64 (vn:Int), .int .i64 tn], .slice xa rest.length xc, .bool true])/\w'.ownsRow x.heap.size 50 2 (.slice xa rest.length xc) rest.length (zq zn.cells rest))/\Below x.heap.size x w'):=fun x hx=>(jL.out x _ (HR.out.below hx)).mono (by
  rintro e w' ⟨⟨sv,he,hbf,hrow⟩,hb⟩
  rw [htk] at he hbf hrow
  obtain⟨xa,xc,rfl, -⟩:=zl.slice hbf
  exact⟨⟨xa,xc,he,hrow rfl⟩,hb⟩)
 clear htk hv hv0
 clear jL HH
 obtain⟨res,hres⟩:∃r:Option (zw × List Int × Bool),r=some (⟨pc, [r0,r1,r2,r3],rest⟩,mem.set vn tn,bad):=⟨_,rfl⟩
 rw [<-hres]
 have zD:=qh hres
 clear hres
 go_enter Tryz.func82,Tryz.ntmps82
 go_upto_region 1 with fail
 refine wp_region_noPanic ?_
 refine wp_region_held_drew (S:=fun x=>Below w.heap.size w x) (by kernel_rfl) ((Below.refl _ _).drew) (fun hH=> ?_)
 refine zo 0 8 ?vy1 rfl ?z3W ?_
 case z3W=>(intro x h;have e:=CC.out x h;go_simp<;>rfl)
 simp only [Act.put,za,ze,zf]
 refine zo 1 9 ?vy2 rfl ?z3X ?_
 case z3X=>(intro x h;have e:=CC.out x h;go_simp<;>rfl)
 simp only [Act.put,za,ze,zf]
 refine zo 2 10 ?vy3 rfl ?z3Y ?_
 case z3Y=>(intro x h;have e:=CC.out x h;go_simp<;>rfl)
 simp only [Act.put,za,ze,zf]
 refine zo 3 11 ?vy4 rfl ?z3Z ?_
 case z3Z=>(intro x h;have e:=CC.out x h;go_simp<;>rfl)
 simp only [Act.put,za,ze,zf]
 refine zo 4 12 ?vy5 rfl ?z4a ?_
 case z4a=>(intro x h;have e:=CC.out x h;go_simp<;>rfl)
 simp only [Act.put,za,ze,zf]
 refine zo 5 13 ?vy6 rfl ?z4b ?_
 case z4b=>(intro x h;have e:=CC.out x h;go_simp<;>rfl)
 simp only [Act.put,za,ze,zf]
 refine zo 6 14 ?vy7 rfl ?z4c ?_
 case z4c=>(intro x h;have e:=CC.out x h;go_simp<;>rfl)
 simp only [Act.put,za,ze,zf]
 refine zo 7 15 ?vy8 rfl ?z4d ?_
 case z4d=>(intro x h;have e:=CC.out x h;go_simp<;>rfl)
 simp only [Act.put,za,ze,zf]
 refine zo 8 16 ?vy9 rfl ?z4e ?_
 case z4e=>(intro x h;have e:=CC.out x h;go_simp<;>rfl)
 simp only [Act.put,za,ze,zf]
 refine zo 9 17 ?zCV rfl ?zy4 ?_
 case zy4=>(intro x h;have e:=CC.out x h;go_simp<;>rfl)
 simp only [Act.put,za,ze,zf]
 refine zo 11 19 ?zCW rfl ?zy5 ?_
 case zy5=>(intro x h;have e:=CC.out x h;go_simp<;>rfl)
 simp only [Act.put,za,ze,zf]
 refine zT 10 rfl (fun K hK=> ?_)
 go_simp
 refine(wD.out w.drew hH).mono ?_
 rintro e zj9 ⟨⟨sv,rfl,hsv⟩,hb⟩
 obtain⟨ha,hc,rfl, -⟩:=zl.slice hsv
 have zjA:Below w.heap.size w zj9:=zB hH hb
 refine hK.out _ _ zjA (fun _=> ?_)
 clear hK K hb hH
 refine zT 12 rfl (fun K hK=> ?_)
 go_simp
 refine(zb3 zj9 _ hs hsv (vn:Int)).mono ?_
 rintro e zgO ⟨he,hyx⟩
 rw [hcv] at he
 subst he
 have hb:Below zj9.heap.size zj9 zgO:=by rw [hyx];exact Below.refl _ _
 clear hyx hsv
 have zf8:Below w.heap.size w zgO:=zB zjA hb
 refine hK.out _ _ zf8 (fun _=> ?_)
 clear hK K hb zjA
 refine zo 13 21 ?zCX rfl ?zy6 ?_
 case zy6=>(intro x h;have e:=CC.out x h;go_simp<;>rfl)
 simp only [Act.put,za,ze,zf]
 refine wpAnyH_done (by kernel_rfl) ?_ _
 refine NoPanic.normal ?_
 have c5:zgO.cell? ⟨gr,5,none⟩=some (.slice ua un uc):=(CC.out _ zf8).1
 have HY:=qh zf8
 clear zf8 hcv
 go_wp2_with fail
 refine(zcs.out zgO HY.out).mono ?_
 rintro e w3 ⟨⟨xa,xc,rfl,hrow⟩,hb3⟩
 clear c5
 have j5:=qh hrow
 have H3:Hid (Below w.heap.size w w3):=zB HY.out hb3
 clear hrow hb3
 have HA:=qh ((Below.refl w3.heap.size w3).alloc (Nat.le_refl _) (.cells #[.int .i64 (vn:Int), .int .i64 tn] 50))
 have HX:=qh (yK w3 (.cells #[.int .i64 (vn:Int), .int .i64 tn] 50))
 go_upto_region 4 with fail
 generalize World.alloc w3 _=X at HA HX ⊢
 obtain⟨gx,hgx⟩:∃g,g=w3.heap.size:=⟨_,rfl⟩
 rw [<-hgx] at HX ⊢
 have HG:Hid (gx≠gr/\gx≠mb):=by
  have h1:=zJ HR.out.block
  have h2:=HR.out.jg.2
  have h3:=H3.out.size
  exact⟨by omega,by omega⟩
 clear hgx
 have HWX:Hid (Below w.heap.size w X):=zB H3.out HA.out
 have wm:=qh (HR.out.below (HWX.out.drew))
 have HRB:=qh (wm.out.zlP (V:=zgO) (jO:= .slice xa rest.length xc) (buf':=rest) ⟨Nat.lt_of_lt_of_le (zJ HR.out.block) HY.out.size,Nat.lt_of_lt_of_le HR.out.jg.2 HY.out.size⟩ (xJ j5.out HA.out.drew))
 have HRC:=qh (HRB.out.za8 vn tn)
 have HBC:Hid (Below B w ((X.drew.setCell ⟨gr,5,none⟩ (.slice xa rest.length xc)).setCell ⟨mb,vn,none⟩ (.int .i64 tn))):=((HWX.out.drew.mono yu.out).setCell (p:=⟨gr,5,none⟩) HR.out.base _).setCell (p:=⟨mb,vn,none⟩) HR.out.jg.1 _
 have uL:Hid (Since (fun k=>k=gr\/k=mb) X X.drew/\X.drew.cell? ⟨gr,9,none⟩=some (.slice (some ⟨mb,0,none⟩) mem.length mc)):=⟨(Since.refl _ X).drew,zh wm.out.block 9⟩
 have qF:Hid (Since (fun k=>k=gr\/k=mb) X (X.drew.setCell ⟨gr,5,none⟩ (.slice xa rest.length xc))/\(X.drew.setCell ⟨gr,5,none⟩ (.slice xa rest.length xc)).cell? ⟨gr,9,none⟩=some (.slice (some ⟨mb,0,none⟩) mem.length mc)):=⟨Since.setCell (p:=⟨gr,5,none⟩) uL.out.1 (.inl (.inl rfl)) _,zh HRB.out.block 9⟩
 have HS2:Hid (Since (fun k=>k=gr\/k=mb) X ((X.drew.setCell ⟨gr,5,none⟩ (.slice xa rest.length xc)).setCell ⟨mb,vn,none⟩ (.int .i64 tn))/\((X.drew.setCell ⟨gr,5,none⟩ (.slice xa rest.length xc)).setCell ⟨mb,vn,none⟩ (.int .i64 tn)).cell? ⟨gr,9,none⟩=some (.slice (some ⟨mb,0,none⟩) mem.length mc)):=⟨Since.setCell (p:=⟨mb,vn,none⟩) qF.out.1 (.inl (.inr rfl)) _,by
  have:=zh HRC.out.block 9
  rw [List.length_set] at this
  exact this⟩
 have C4:Hid (∀x,(Since (fun k=>k=gr\/k=mb) X x/\x.cell? ⟨gr,9,none⟩=some (.slice (some ⟨mb,0,none⟩) mem.length mc))->x.cell? ⟨gr,9,none⟩=some (.slice (some ⟨mb,0,none⟩) mem.length mc)/\x.cell? ⟨gx,0,none⟩=some (.int .i64 (vn:Int))/\x.cell? ⟨gx,1,none⟩=some (.int .i64 tn)):=fun x hx=>⟨hx.2,(hx.1.cell (p:=⟨gx,0,none⟩) (zJ HX.out) (fun e=>e.elim HG.out.1 HG.out.2)).trans (zh HX.out 0),(hx.1.cell (p:=⟨gx,1,none⟩) (zJ HX.out) (fun e=>e.elim HG.out.1 HG.out.2)).trans (zh HX.out 1)⟩
 have q0:X.drew.cell? ⟨gr,5,none⟩=some (.slice ua un uc):=zh wm.out.block 5
 have q1:X.drew.frozen? ⟨gr,5,none⟩=false:=zK wm.out.block 5
 refine wp_region_noPanic ?_
 refine wp_region_held_drew (S:=fun x=>Since (fun k=>k=gr\/k=mb) X x/\x.cell? ⟨gr,9,none⟩=some (.slice (some ⟨mb,0,none⟩) mem.length mc)) (by kernel_rfl) (uL.out) (fun hS=> ?_)
 refine zo 0 33 ?vu1 rfl ?z4f ?_
 case z4f=>(intro x h;have e:=C4.out x h;go_simp<;>rfl)
 simp only [Act.put,za,ze,zf]
 refine zo 1 34 ?vu2 rfl ?z4g ?_
 case z4g=>(intro x h;have e:=C4.out x h;go_simp<;>rfl)
 simp only [Act.put,za,ze,zf]
 refine zo 2 35 ?vu3 rfl ?z4h ?_
 case z4h=>(intro x h;have e:=C4.out x h;go_simp<;>rfl)
 simp only [Act.put,za,ze,zf]
 refine zo 3 36 ?vu4 rfl ?z4i ?_
 case z4i=>(intro x h;have e:=C4.out x h;go_simp<;>rfl)
 simp only [Act.put,za,ze,zf]
 refine zo 4 37 ?vu5 rfl ?z4j ?_
 case z4j=>(intro x h;have e:=C4.out x h;go_simp<;>rfl)
 simp only [Act.put,za,ze,zf]
 refine zo 5 38 ?vu6 rfl ?z4k ?_
 case z4k=>(intro x h;have e:=C4.out x h;go_simp<;>rfl)
 simp only [Act.put,za,ze,zf]
 refine zo 6 39 ?vu7 rfl ?z4l ?_
 case z4l=>(intro x h;have e:=C4.out x h;go_simp<;>rfl)
 simp only [Act.put,za,ze,zf]
 refine zo 7 40 ?vu8 rfl ?z4m ?_
 case z4m=>(intro x h;have e:=C4.out x h;go_simp<;>rfl)
 simp only [Act.put,za,ze,zf]
 refine zo 8 41 ?vu9 rfl ?z4n ?_
 case z4n=>(intro x h;have e:=C4.out x h;go_simp<;>rfl)
 simp only [Act.put,za,ze,zf]
 refine zo 9 42 ?zCY rfl ?zy7 ?_
 case zy7=>(intro x h;have e:=C4.out x h;go_simp<;>rfl)
 simp only [Act.put,za,ze,zf]
 refine zo 10 43 ?zCZ rfl ?zy8 ?_
 case zy8=>(intro x h;have e:=C4.out x h;go_simp<;>rfl)
 simp only [Act.put,za,ze,zf]
 refine zo 11 44 ?zDa rfl ?zy9 ?_
 case zy9=>(intro x h;have e:=C4.out x h;go_simp<;>rfl)
 simp only [Act.put,za,ze,zf]
 refine zo 12 45 ?zDb rfl ?zyA ?_
 case zyA=>(intro x h;have e:=C4.out x h;go_simp<;>rfl)
 simp only [Act.put,za,ze,zf]
 refine zT 13 rfl (fun K hK=> ?_)
 go_simp
 have zqh:=qF.out
 clear q0 q1
 have q2:(X.setCell ⟨gr,5,none⟩ (.slice xa rest.length xc)).cell? ⟨mb,vn,none⟩=some (.int .i64 (mem.getD vn 0)):=(HRB.out.jQ jy).1
 have q3:X.frozen? ⟨mb,vn,none⟩=false:=((HR.out.below HWX.out).jQ jy).2
 refine hK.out _ _ zqh (fun _=> ?_)
 clear hK K hS
 refine zo 14 46 ?zDc rfl ?zyB ?_
 case zyB=>(intro x h;have e:=C4.out x h;go_simp<;>rfl)
 simp only [Act.put,za,ze,zf]
 refine zT 15 rfl (fun K hK=> ?_)
 go_simp
 have zyC:=HS2.out
 clear q2 q3
 refine hK.out _ _ zyC (fun _=> ?_)
 clear hK K zqh
 refine wpAnyH_done (by kernel_rfl) ?_ _
 refine NoPanic.normal ?_
 go_wp2_with fail
 go_ret
 rw [zD.out]
 exact qJ HRC.out HBC.out
end Go.Proofs.YtliajkheeniljaaGreatDoor
