/- A thread's step and a flush, by the program's runner: the walks. -/
import Derived.Test.YtliajkheeniljaaGreatDoorZsPClone
import Derived.Test.YtliajkheeniljaaGreatDoorZsPHeads
import Derived.Test.YtliajkheeniljaaGreatDoorZsPWays3
import Derived.Test.YtliajkheeniljaaGreatDoorZsShort
set_option linter.all false
namespace Go.Proofs.YtliajkheeniljaaGreatDoor
open Go.RowKit
set_option maxRecDepth 100000
set_option maxHeartbeats 16000000
variable {v0:Value}
theorem zqK:(Tryz.prog.info? 168).map (fun i=>(i.zero,i.size,i.bytes))=some (some .nilFunc,1,8):=by kernel_rfl
theorem zi9 (P:World):(zeroValue 168).run Tryz.prog P= .ok .nilFunc P:=by
 obtain⟨i0,hi,hz0,hz1,hz2⟩:=info_parts zqK
 simp [zeroValue,typeInfo,hi,hz0]
def ziA (n:Nat) (x:zW):Prop:=(0<=x.reg/\x.reg<4)/\(0<=x.var/\x.var<(n:Int))/\zlu x.op
theorem xZ.told {w w':World} {B gr:Nat} {m:zK} {dom:Int} {mb mc:Nat} {res:Option (zx × List Int × Bool)} {e:Ending} (h:xZ v0 w B gr m dom mb mc res e w'):∃b:Bool,e= .returned (.bool b)/\xZ v0 w B gr m dom mb mc res (.returned (.bool b)) w':=by
 rcases h.2 with⟨-,he⟩|⟨t,mem,bad,bv, -,he, -⟩
 ·exact⟨false,he,he ▸ h⟩
 ·exact⟨true,he,he ▸ h⟩
theorem xZ.base {w W w':World} {B gr:Nat} {m:zK} {dom:Int} {mb mc:Nat} {res:Option (zx × List Int × Bool)} {e:Ending} (h:xZ v0 W B gr m dom mb mc res e w') (hb:Below B w W):xZ v0 w B gr m dom mb mc res e w':=⟨hb.trans h.1,h.2⟩
theorem zoc {w0 w:World} {B gr mb mc:Nat} {pc:Nat} {r0 r1 r2 r3:Int} {buf:List zm} {bv:Value} {m:zK} {c:zX} {s:zu} (h:xq v0 w B gr (pc:Int) r0 r1 r2 r3 buf bv m c.domain s.mem mb mc s.bad) (hB:B<=w.heap.size) (hd1:1<=c.domain) (hd2:c.domain<=1000) (d:Nat) (l:List zW) (lv:Value) (hl:jT d w0 lv l) (h0:Below w0.heap.size w0 w) (hB0:w0.heap.size<=B)
  (hx:∀j,j<l.length->ziA s.mem.length (l.getD j default)) (hbl:buf.length<=1000000):Calls Tryz.prog 81 #[.pointer (some ⟨gr,0,none⟩),lv] w fun e w'=>
  xZ v0 w B gr m c.domain mb mc (if (pc:Int)<(l.length:Int) then stepT c m s ⟨(pc:Int), [r0,r1,r2,r3],buf⟩ (l.getD pc default) d else none) e w':=by
 obtain⟨la,lc,rfl, -⟩:=zk.slice hl
 have hroom:=zk.room hl
 obtain⟨n,hn⟩:∃n,n=l.length:=⟨_,rfl⟩
 rw [<-hn] at hl hroom hx ⊢
 have HL:=qh hl
 have HN:=qh hn
 have HR:=qh h
 have yu:=qh hB
 have H0:=qh h0
 have HB0:=qh hB0
 clear h0 hB0
 have c0:w.cell? ⟨gr,0,none⟩=some (.int .i64 (pc:Int)):=zi h.block 0
 clear hl hn
 rcases Nat.lt_or_ge pc n with hlt|hlt
 rotate_left
 ·have hge:(n:Int)<=(pc:Int):=by omega
  rw [if_neg (by omega)]
  clear HL HR h hx hB
  go_enter Tryz.func81,Tryz.ntmps81
  go_wp2_with fail
  go_ret
  exact jU (Below.refl _ _)
 have qQ:(pc:Int)<(n:Int):=by omega
 have hwr:IntKind.i64.wrap ((pc:Int)+1)=(pc:Int)+1:=IntWalk.i64_in _ (by omega)
 clear hroom
 rw [if_pos qQ]
 obtain⟨eb,eo,aa,ac,ba,bc,yx, -,⟨x0,x1,x2⟩,⟨x3,x4,x5,x6⟩,⟨x7,x8,x9,x10⟩,jW,xa,xb⟩:=jT.part HL.out pc (by rw [<-HN.out];exact hlt)
 subst yx
 have hfx:=hx pc hlt
 replace x0:=zl H0.out _ _ x0
 replace x1:=zl H0.out _ _ x1
 replace x2:=zl H0.out _ _ x2
 replace x3:=zl H0.out _ _ x3
 replace x4:=zl H0.out _ _ x4
 replace x5:=zl H0.out _ _ x5
 replace x6:=zl H0.out _ _ x6
 replace x7:=zl H0.out _ _ x7
 replace x8:=zl H0.out _ _ x8
 replace x9:=zl H0.out _ _ x9
 replace x10:=zl H0.out _ _ x10
 replace jW:=zl H0.out _ _ jW
 obtain⟨x,hxx⟩:∃x,x=l.getD pc default:=⟨_,rfl⟩
 rw [<-hxx] at x0 x1 x2 x3 x4 x5 x6 x7 x8 x9 x10 jW xa xb hfx ⊢
 have zab:=fun W V (hV:xq v0 W B gr ((pc:Int)+1) r0 r1 r2 r3 buf V m c.domain s.mem mb mc s.bad) (hW:B<=W.heap.size) (ha:zC d W x.a (.slice aa x.a.kids.length ac)) (hb:zC d W x.b (.slice ba x.b.kids.length bc))=>zqL hV hW hd1 hd2 d x _ _ ha hb hfx.1 hfx.2.1 hbl hfx.2.2
 unfold xU at zab
 have hxa:=fun W (hW:Below w0.heap.size w0 W)=>xa.below hW
 have hxb:=fun W (hW:Below w0.heap.size w0 W)=>xb.below hW
 clear xa xb hfx hxx
 obtain⟨res,hres⟩:∃r,r=stepT c m s ⟨(pc:Int), [r0,r1,r2,r3],buf⟩ x d:=⟨_,rfl⟩
 rw [<-hres] at zab ⊢
 clear hres
 obtain⟨op,reg,v,a,b,yB⟩:=x
 simp only [] at x0 x1 x2 x3 x4 x5 x6 x7 x8 x9 x10 jW zab hxa hxb ⊢
 obtain⟨al,hal⟩:∃n,n=a.kids.length:=⟨_,rfl⟩
 obtain⟨bl,jm⟩:∃n,n=b.kids.length:=⟨_,rfl⟩
 obtain⟨ak,hak⟩:∃n,n=a.kind:=⟨_,rfl⟩
 obtain⟨an,han⟩:∃n,n=a.n:=⟨_,rfl⟩
 obtain⟨ao,hao⟩:∃n,n=a.op:=⟨_,rfl⟩
 obtain⟨bk,hbk⟩:∃n,n=b.kind:=⟨_,rfl⟩
 obtain⟨bn,hbn⟩:∃n,n=b.n:=⟨_,rfl⟩
 obtain⟨bo,hbo⟩:∃n,n=b.op:=⟨_,rfl⟩
 rw [<-hak] at x3 zab
 rw [<-han] at x4 zab
 rw [<-hao] at x5 zab
 rw [<-hal] at x6 zab hxa
 rw [<-hbk] at x7 zab
 rw [<-hbn] at x8 zab
 rw [<-hbo] at x9 zab
 rw [<-jm] at x10 zab hxb
 clear hak han hao hal hbk hbn hbo jm
 have zqM:=qh zab
 have HXA:=qh hxa
 have HXB:=qh hxb
 have HA:=qh ((Below.refl w.heap.size w).alloc (Nat.le_refl _) (.cells #[.int .i64 op, .int .i64 reg, .int .i64 v, .int .i64 ak, .int .i64 an, .int .u8 ao, .slice aa al ac, .int .i64 bk, .int .i64 bn, .int .u8 bo, .slice ba bl bc, .int .i64 yB] 64))
 have HX:=qh (yD w (.cells #[.int .i64 op, .int .i64 reg, .int .i64 v, .int .i64 ak, .int .i64 an, .int .u8 ao, .slice aa al ac, .int .i64 bk, .int .i64 bn, .int .u8 bo, .slice ba bl bc, .int .i64 yB] 64))
 clear zab hxa hxb h hB hx HL
 go_enter Tryz.func81,Tryz.ntmps81
 go_upto_region 4 with fail
 generalize World.alloc w _=X at HA HX ⊢
 obtain⟨gi,hgi⟩:∃g,g=w.heap.size:=⟨_,rfl⟩
 rw [<-hgi] at HX ⊢
 have HNG:=qh (show gi≠gr by have:=zw HR.out.block;omega)
 clear hgi c0 x0 x1 x2 x3 x4 x5 x6 x7 x8 x9 x10 jW
 have gW:=qh (HR.out.below HA.out)
 have d0:X.cell? ⟨gr,0,none⟩=some (.int .i64 (pc:Int)):=zi gW.out.block 0
 have f0:X.frozen? ⟨gr,0,none⟩=false:=zB gW.out.block 0
 go_upto_region 5 with fail
 clear d0 f0
 have gX:=qh (gW.out.zlv ((pc:Int)+1))
 have vw:Hid (Below B w (X.setCell ⟨gr,0,none⟩ (.int .i64 ((pc:Int)+1)))):=(HA.out.mono yu.out).setCell (p:=⟨gr,0,none⟩) HR.out.base _
 have HSY:Hid (Since (fun k=>k=gr) X (X.setCell ⟨gr,0,none⟩ (.int .i64 ((pc:Int)+1)))):=Since.setCell (F:=fun k=>k=gr) (p:=⟨gr,0,none⟩) (Since.refl _ _) (.inl rfl) _
 have HEX:Hid (zC d (X.setCell ⟨gr,0,none⟩ (.int .i64 ((pc:Int)+1))) a (.slice aa al ac)/\zC d (X.setCell ⟨gr,0,none⟩ (.int .i64 ((pc:Int)+1))) b (.slice ba bl bc)):=⟨(HXA.out _ (H0.out.trans (vw.out.mono HB0.out))),(HXB.out _ (H0.out.trans (vw.out.mono HB0.out)))⟩
 generalize World.setCell X ⟨gr,0,none⟩ _=Y at gX vw HSY HEX ⊢
 have hYB:B<=Y.heap.size:=Nat.le_trans yu.out vw.out.size
 obtain⟨f,hmf,hfn, -⟩:=zqM.out Y _ gX.out hYB HEX.out.1 HEX.out.2
 have hrun:Hid (∀W,Below Y.heap.size Y W->Calls Tryz.prog f #[.pointer (some ⟨gr,0,none⟩), .agg #[.int .i64 op, .int .i64 reg, .int .i64 v, .int .i64 ak, .int .i64 an, .int .u8 ao, .slice aa al ac, .int .i64 bk, .int .i64 bn, .int .u8 bo, .slice ba bl bc, .int .i64 yB]] W fun e w'=>xZ v0 W B gr m c.domain mb mc res e w'):=fun W hW=>by
  obtain⟨f',zxr, -,hc⟩:=zqM.out W _ (gX.out.below hW) (Nat.le_trans hYB hW.size) (HEX.out.1.below hW) (HEX.out.2.below hW)
  rw [hmf] at zxr
  cases zxr
  exact hc
 have CC:Hid (∀x,Below Y.heap.size Y x->x.cell? ⟨gi,0,none⟩=some (.int .i64 op)/\x.cell? ⟨gi,1,none⟩=some (.int .i64 reg)/\x.cell? ⟨gi,2,none⟩=some (.int .i64 v)/\x.cell? ⟨gi,3,none⟩=some (.int .i64 ak)/\x.cell? ⟨gi,4,none⟩=some (.int .i64 an)/\x.cell? ⟨gi,5,none⟩=some (.int .u8 ao)/\x.cell? ⟨gi,6,none⟩=some (.slice aa al ac)/\x.cell? ⟨gi,7,none⟩=some (.int .i64 bk)/\x.cell? ⟨gi,8,none⟩=some (.int .i64 bn)/\x.cell? ⟨gi,9,none⟩=some (.int .u8 bo)/\x.cell? ⟨gi,10,none⟩=some (.slice ba bl bc)/\x.cell? ⟨gi,11,none⟩=some (.int .i64 yB)):=fun x hx=>by
  have k:=fun(i:Nat) (u:Value) (hv:(#[.int .i64 op, .int .i64 reg, .int .i64 v, .int .i64 ak, .int .i64 an, .int .u8 ao, .slice aa al ac, .int .i64 bk, .int .i64 bn, .int .u8 bo, .slice ba bl bc, .int .i64 yB] :Array Value)[i]? =some u)=>zl hx _ _ ((HSY.out.cell (p:=⟨gi,i,none⟩) (zw HX.out) HNG.out).trans ((zi HX.out i).trans hv))
  exact⟨k 0 _ rfl,k 1 _ rfl,k 2 _ rfl,k 3 _ rfl,k 4 _ rfl,k 5 _ rfl,k 6 _ rfl,k 7 _ rfl,k 8 _ rfl,k 9 _ rfl,k 10 _ rfl,k 11 _ rfl⟩
 have HMF:=qh hmf
 clear hmf zqM HXA HXB
 refine wp_region_noPanic ?_
 refine yT (n0:=6) (S:=fun x=>Below Y.heap.size Y x) (by kernel_rfl) ((Below.refl _ _).drew) (fun hT=> ?_)
 refine zO 1 32 ?vt1 rfl ?ziB (fun _=>hT) ?_
 case ziB=>(intro _ _;go_simp<;>rfl)
 simp only [Act.put,za,ze,zh]
 refine vD [3,6,7] 2 33 ?vt2 rfl ?ziC hT ?_
 case ziC=>(intro x h;have e:=CC.out x h;go_simp<;>rfl)
 simp only [Act.put,za,ze,zh]
 refine zO 4 35 ?vt3 rfl ?ziD (fun _=>hT) ?_
 case ziD=>(intro _ _;go_simp<;>rfl)
 simp only [Act.put,za,ze,zh]
 refine vD [6,7] 5 36 ?vt4 rfl ?ziE hT ?_
 case ziE=>(intro x h;have e:=CC.out x h;go_simp<;>rfl)
 simp only [Act.put,za,ze,zh]
 refine jB 0 rfl (fun K hK=> ?_)
 go_simp
 refine(zoe Y.drew).mono ?_
 rintro e tw0 ⟨mp,rfl,hmi, -,hb⟩
 have hlk:=wI hmi Tryz.underlying169 Tryz.underlying3 (zi9 tw0) op false
 rw [HMF.out] at hlk
 simp only [Option.getD_some,Bool.false_eq_true,if_false] at hlk
 clear hmi
 have hT0:Below Y.heap.size Y tw0:=zF hT hb
 refine hK.out _ _ (fun _ _=>hT0) ?_
 clear hK K hb hT
 refine jB 3 rfl (fun K hK=> ?_)
 go_simp
 refine hK.out _ _ (fun _ _=>hT0) ?_
 clear hK K
 refine jB 6 rfl (fun K hK=> ?_)
 go_simp
 clear hlk
 refine(hrun.out tw0 hT0).mono ?_
 rintro e tw6 hwe
 have hbx:Below B Y tw0:=hT0.mono hYB
 obtain⟨bb,rfl,hwe⟩:=hwe.told
 have HWE:=qh (hwe.base (vw.out.trans hbx))
 clear hwe hbx
 refine hK.out _ _ (fun h=>absurd rfl h) ?_
 clear hK K
 refine zO 7 4 ?vt5 rfl ?ziF (fun h=>absurd h (by decide+kernel)) ?_
 case ziF=>(intro _ _;go_simp<;>rfl)
 simp only [Act.put,za,ze,zh]
 refine xM (by kernel_rfl) ?_ _
 refine NoPanic.normal ?_
 clear hfn
 go_wp2_with fail
 go_ret
 exact HWE.out
theorem zlw {w:World} {B gr mb mc:Nat} {pc r0 r1 r2 r3 dom:Int} {buf:List zm} {bv:Value} {m:zK} {mem:List Int} {bad:Bool} (h:xq v0 w B gr pc r0 r1 r2 r3 buf bv m dom mem mb mc bad) (hB:B<=w.heap.size) (hbl:buf.length<=1000000) (v:Int)
  (hh:v∈yF buf m.model->0<=v/\v<(mem.length:Int)/\∃n,takeB buf v=(some ⟨v,n⟩,(takeB buf v).2)):Calls Tryz.prog 82 #[.pointer (some ⟨gr,0,none⟩), .int .i64 v] w fun e w'=>
  xZ v0 w B gr m dom mb mc (if v∈yF buf m.model then some (⟨pc, [r0,r1,r2,r3],(takeB buf v).2⟩,mem.set v.toNat ((takeB buf v).1.getD default).n,bad) else none) e w':=by
 have ziG:=fun W V (hV:xq v0 W B gr pc r0 r1 r2 r3 buf V m dom mem mb mc bad)=>zlx W V buf hV.qF hbl m.model
 have htake:=fun W V (hV:xq v0 W B gr pc r0 r1 r2 r3 buf V m dom mem mb mc bad)=>zof W V buf hV.qF hbl v
 obtain⟨ua,uc,rfl, -⟩:=zk.slice h.qF
 obtain⟨hs,hhs⟩:∃l,l=yF buf m.model:=⟨_,rfl⟩
 rw [<-hhs] at hh ziG ⊢
 obtain⟨un,hun⟩:∃n,n=buf.length:=⟨_,rfl⟩
 rw [<-hun] at h
 have HUN:=qh hun
 have HR:=qh h
 have yu:=qh hB
 have uw:Hid (∀x,Below w.heap.size w x->Calls Tryz.prog 79 #[.slice ua un uc, .int .i64 m.model] x fun e w'=>(∃sv,e= .returned sv/\xJ w' sv hs)/\Below x.heap.size x w'):=fun x hx=>ziG x _ (HR.out.below hx)
 have CC:Hid (∀x,Below w.heap.size w x->x.cell? ⟨gr,5,none⟩=some (.slice ua un uc)/\x.cell? ⟨gr,6,none⟩=some (.int .i64 m.model)):=fun x hx=>⟨zl hx _ _ (zi HR.out.block 5),zl hx _ _ (zi HR.out.block 6)⟩
 have HH:=qh hh
 have jM:=qh htake
 clear ziG htake hhs hun h hB hh hbl
 by_cases hv:v∈hs
 rotate_left
 ·have hcv:hs.contains v=false:=by simpa using hv
  rw [if_neg hv]
  clear hv
  clear jM HH
  obtain⟨res,hres⟩:∃r:Option (zx × List Int × Bool),r=none:=⟨_,rfl⟩
  rw [<-hres]
  have zL:=qh hres
  clear hres
  go_enter Tryz.func82,Tryz.ntmps82
  go_upto_region 1 with fail
  refine wp_region_noPanic ?_
  refine wp_region_held_drew (S:=fun x=>Below w.heap.size w x) (by kernel_rfl) ((Below.refl _ _).drew) (fun hH=> ?_)
  refine zo 0 8 ?vn1 rfl ?zqN ?_
  case zqN=>(intro x h;have e:=CC.out x h;go_simp<;>rfl)
  simp only [Act.put,za,ze,zh]
  refine zo 1 9 ?vn2 rfl ?zqO ?_
  case zqO=>(intro x h;have e:=CC.out x h;go_simp<;>rfl)
  simp only [Act.put,za,ze,zh]
  refine zo 2 10 ?vn3 rfl ?zqP ?_
  case zqP=>(intro x h;have e:=CC.out x h;go_simp<;>rfl)
  simp only [Act.put,za,ze,zh]
  refine zo 3 11 ?vn4 rfl ?zqQ ?_
  case zqQ=>(intro x h;have e:=CC.out x h;go_simp<;>rfl)
  simp only [Act.put,za,ze,zh]
  refine zo 4 12 ?vn5 rfl ?zqR ?_
  case zqR=>(intro x h;have e:=CC.out x h;go_simp<;>rfl)
  simp only [Act.put,za,ze,zh]
  refine zo 5 13 ?vn6 rfl ?zqS ?_
  case zqS=>(intro x h;have e:=CC.out x h;go_simp<;>rfl)
  simp only [Act.put,za,ze,zh]
  refine zo 6 14 ?vn7 rfl ?zqT ?_
  case zqT=>(intro x h;have e:=CC.out x h;go_simp<;>rfl)
  simp only [Act.put,za,ze,zh]
  refine zo 7 15 ?vn8 rfl ?zqU ?_
  case zqU=>(intro x h;have e:=CC.out x h;go_simp<;>rfl)
  simp only [Act.put,za,ze,zh]
  refine zo 8 16 ?vn9 rfl ?zqV ?_
  case zqV=>(intro x h;have e:=CC.out x h;go_simp<;>rfl)
  simp only [Act.put,za,ze,zh]
  refine zo 9 17 ?z81 rfl ?zly ?_
  case zly=>(intro x h;have e:=CC.out x h;go_simp<;>rfl)
  simp only [Act.put,za,ze,zh]
  refine zo 11 19 ?zHF rfl ?z1T ?_
  case z1T=>(intro x h;have e:=CC.out x h;go_simp<;>rfl)
  simp only [Act.put,za,ze,zh]
  refine zY 10 rfl (fun K hK=> ?_)
  go_simp
  refine(uw.out w.drew hH).mono ?_
  rintro e zlz ⟨⟨sv,rfl,hsv⟩,hb⟩
  obtain⟨ha,hc,rfl, -⟩:=zk.slice hsv
  have zl0:Below w.heap.size w zlz:=zF hH hb
  refine hK.out _ _ zl0 (fun _=> ?_)
  clear hK K hb hH
  refine zY 12 rfl (fun K hK=> ?_)
  go_simp
  refine(zdc zlz _ hs hsv v).mono ?_
  rintro e zxt ⟨he,hyx⟩
  rw [hcv] at he
  subst he
  have hb:Below zlz.heap.size zlz zxt:=by rw [hyx];exact Below.refl _ _
  clear hyx hsv
  have ztC:Below w.heap.size w zxt:=zF zl0 hb
  refine hK.out _ _ ztC (fun _=> ?_)
  clear hK K hb zl0
  refine zo 13 21 ?zHG rfl ?z1U ?_
  case z1U=>(intro x h;have e:=CC.out x h;go_simp<;>rfl)
  simp only [Act.put,za,ze,zh]
  refine wpAnyH_done (by kernel_rfl) ?_ _
  refine NoPanic.normal ?_
  go_wp2_with fail
  go_ret
  rw [zL.out]
  exact jU (ztC.mono yu.out)
 have hcv:hs.contains v=true:=by simpa using hv
 obtain⟨hv0,hv1,tn,htk⟩:=HH.out hv
 rw [if_pos hv,htk]
 simp only [Option.getD_some]
 obtain⟨rest,hrest⟩:∃l,l=(takeB buf v).2:=⟨_,rfl⟩
 rw [<-hrest] at htk ⊢
 clear hrest
 obtain⟨vn,rfl⟩:∃k:Nat,v=(k:Int):=⟨v.toNat,by omega⟩
 have kF:vn<mem.length:=by omega
 simp only [Int.toNat_natCast]
 have zdZ:Hid (∀x,Below w.heap.size w x->Calls Tryz.prog 109 #[.slice ua un uc, .int .i64 (vn:Int)] x fun e w'=>(∃xa xc,e= .returned (.tuple #[.agg #[.int .i64 (vn:Int), .int .i64 tn], .slice xa rest.length xc, .bool true])/\w'.ownsRow x.heap.size 50 2 (.slice xa rest.length xc) rest.length (zq zm.cells rest))/\Below x.heap.size x w'):=fun x hx=>(jM.out x _ (HR.out.below hx)).mono (by
  rintro e w' ⟨⟨sv,he,hbf,hrow⟩,hb⟩
  rw [htk] at he hbf hrow
  obtain⟨xa,xc,rfl, -⟩:=zk.slice hbf
  exact⟨⟨xa,xc,he,hrow rfl⟩,hb⟩)
 clear htk hv hv0
 clear jM HH
 obtain⟨res,hres⟩:∃r:Option (zx × List Int × Bool),r=some (⟨pc, [r0,r1,r2,r3],rest⟩,mem.set vn tn,bad):=⟨_,rfl⟩
 rw [<-hres]
 have zL:=qh hres
 clear hres
 go_enter Tryz.func82,Tryz.ntmps82
 go_upto_region 1 with fail
 refine wp_region_noPanic ?_
 refine wp_region_held_drew (S:=fun x=>Below w.heap.size w x) (by kernel_rfl) ((Below.refl _ _).drew) (fun hH=> ?_)
 refine zo 0 8 ?vy1 rfl ?z88 ?_
 case z88=>(intro x h;have e:=CC.out x h;go_simp<;>rfl)
 simp only [Act.put,za,ze,zh]
 refine zo 1 9 ?vy2 rfl ?z8A ?_
 case z8A=>(intro x h;have e:=CC.out x h;go_simp<;>rfl)
 simp only [Act.put,za,ze,zh]
 refine zo 2 10 ?vy3 rfl ?z8B ?_
 case z8B=>(intro x h;have e:=CC.out x h;go_simp<;>rfl)
 simp only [Act.put,za,ze,zh]
 refine zo 3 11 ?vy4 rfl ?z8C ?_
 case z8C=>(intro x h;have e:=CC.out x h;go_simp<;>rfl)
 simp only [Act.put,za,ze,zh]
 refine zo 4 12 ?vy5 rfl ?z8D ?_
 case z8D=>(intro x h;have e:=CC.out x h;go_simp<;>rfl)
 simp only [Act.put,za,ze,zh]
 refine zo 5 13 ?vy6 rfl ?z8E ?_
 case z8E=>(intro x h;have e:=CC.out x h;go_simp<;>rfl)
 simp only [Act.put,za,ze,zh]
 refine zo 6 14 ?vy7 rfl ?z8F ?_
 case z8F=>(intro x h;have e:=CC.out x h;go_simp<;>rfl)
 simp only [Act.put,za,ze,zh]
 refine zo 7 15 ?vy8 rfl ?z8G ?_
 case z8G=>(intro x h;have e:=CC.out x h;go_simp<;>rfl)
 simp only [Act.put,za,ze,zh]
 refine zo 8 16 ?vy9 rfl ?z8H ?_
 case z8H=>(intro x h;have e:=CC.out x h;go_simp<;>rfl)
 simp only [Act.put,za,ze,zh]
 refine zo 9 17 ?zHH rfl ?z1V ?_
 case z1V=>(intro x h;have e:=CC.out x h;go_simp<;>rfl)
 simp only [Act.put,za,ze,zh]
 refine zo 11 19 ?zHI rfl ?z1W ?_
 case z1W=>(intro x h;have e:=CC.out x h;go_simp<;>rfl)
 simp only [Act.put,za,ze,zh]
 refine zY 10 rfl (fun K hK=> ?_)
 go_simp
 refine(uw.out w.drew hH).mono ?_
 rintro e zl1 ⟨⟨sv,rfl,hsv⟩,hb⟩
 obtain⟨ha,hc,rfl, -⟩:=zk.slice hsv
 have zl2:Below w.heap.size w zl1:=zF hH hb
 refine hK.out _ _ zl2 (fun _=> ?_)
 clear hK K hb hH
 refine zY 12 rfl (fun K hK=> ?_)
 go_simp
 refine(zdc zl1 _ hs hsv (vn:Int)).mono ?_
 rintro e ziH ⟨he,hyx⟩
 rw [hcv] at he
 subst he
 have hb:Below zl1.heap.size zl1 ziH:=by rw [hyx];exact Below.refl _ _
 clear hyx hsv
 have zhP:Below w.heap.size w ziH:=zF zl2 hb
 refine hK.out _ _ zhP (fun _=> ?_)
 clear hK K hb zl2
 refine zo 13 21 ?zHJ rfl ?z1X ?_
 case z1X=>(intro x h;have e:=CC.out x h;go_simp<;>rfl)
 simp only [Act.put,za,ze,zh]
 refine wpAnyH_done (by kernel_rfl) ?_ _
 refine NoPanic.normal ?_
 have c5:ziH.cell? ⟨gr,5,none⟩=some (.slice ua un uc):=(CC.out _ zhP).1
 have HY:=qh zhP
 clear zhP hcv
 go_wp2_with fail
 refine(zdZ.out ziH HY.out).mono ?_
 rintro e w3 ⟨⟨xa,xc,rfl,hrow⟩,hb3⟩
 clear c5
 have vO:=qh hrow
 have H3:Hid (Below w.heap.size w w3):=zF HY.out hb3
 clear hrow hb3
 have HA:=qh ((Below.refl w3.heap.size w3).alloc (Nat.le_refl _) (.cells #[.int .i64 (vn:Int), .int .i64 tn] 50))
 have HX:=qh (yD w3 (.cells #[.int .i64 (vn:Int), .int .i64 tn] 50))
 go_upto_region 4 with fail
 generalize World.alloc w3 _=X at HA HX ⊢
 obtain⟨gx,hgx⟩:∃g,g=w3.heap.size:=⟨_,rfl⟩
 rw [<-hgx] at HX ⊢
 have HG:Hid (gx≠gr/\gx≠mb):=by
  have h1:=zw HR.out.block
  have h2:=HR.out.kC.2
  have h3:=H3.out.size
  exact⟨by omega,by omega⟩
 clear hgx
 have pX:Hid (Below w.heap.size w X):=zF H3.out HA.out
 have gW:=qh (HR.out.below (pX.out.drew))
 have HRB:=qh (gW.out.zog (V:=ziH) (kZ:= .slice xa rest.length xc) (buf':=rest) ⟨Nat.lt_of_lt_of_le (zw HR.out.block) HY.out.size,Nat.lt_of_lt_of_le HR.out.kC.2 HY.out.size⟩ (xS vO.out HA.out.drew))
 have HRC:=qh (HRB.out.zcg vn tn)
 have HBC:Hid (Below B w ((X.drew.setCell ⟨gr,5,none⟩ (.slice xa rest.length xc)).setCell ⟨mb,vn,none⟩ (.int .i64 tn))):=((pX.out.drew.mono yu.out).setCell (p:=⟨gr,5,none⟩) HR.out.base _).setCell (p:=⟨mb,vn,none⟩) HR.out.kC.1 _
 have bO:Hid (Since (fun k=>k=gr\/k=mb) X X.drew/\X.drew.cell? ⟨gr,9,none⟩=some (.slice (some ⟨mb,0,none⟩) mem.length mc)):=⟨(Since.refl _ X).drew,zi gW.out.block 9⟩
 have vE:Hid (Since (fun k=>k=gr\/k=mb) X (X.drew.setCell ⟨gr,5,none⟩ (.slice xa rest.length xc))/\(X.drew.setCell ⟨gr,5,none⟩ (.slice xa rest.length xc)).cell? ⟨gr,9,none⟩=some (.slice (some ⟨mb,0,none⟩) mem.length mc)):=⟨Since.setCell (p:=⟨gr,5,none⟩) bO.out.1 (.inl (.inl rfl)) _,zi HRB.out.block 9⟩
 have HS2:Hid (Since (fun k=>k=gr\/k=mb) X ((X.drew.setCell ⟨gr,5,none⟩ (.slice xa rest.length xc)).setCell ⟨mb,vn,none⟩ (.int .i64 tn))/\((X.drew.setCell ⟨gr,5,none⟩ (.slice xa rest.length xc)).setCell ⟨mb,vn,none⟩ (.int .i64 tn)).cell? ⟨gr,9,none⟩=some (.slice (some ⟨mb,0,none⟩) mem.length mc)):=⟨Since.setCell (p:=⟨mb,vn,none⟩) vE.out.1 (.inl (.inr rfl)) _,by
  have:=zi HRC.out.block 9
  rw [List.length_set] at this
  exact this⟩
 have C4:Hid (∀x,(Since (fun k=>k=gr\/k=mb) X x/\x.cell? ⟨gr,9,none⟩=some (.slice (some ⟨mb,0,none⟩) mem.length mc))->x.cell? ⟨gr,9,none⟩=some (.slice (some ⟨mb,0,none⟩) mem.length mc)/\x.cell? ⟨gx,0,none⟩=some (.int .i64 (vn:Int))/\x.cell? ⟨gx,1,none⟩=some (.int .i64 tn)):=fun x hx=>⟨hx.2,(hx.1.cell (p:=⟨gx,0,none⟩) (zw HX.out) (fun e=>e.elim HG.out.1 HG.out.2)).trans (zi HX.out 0),(hx.1.cell (p:=⟨gx,1,none⟩) (zw HX.out) (fun e=>e.elim HG.out.1 HG.out.2)).trans (zi HX.out 1)⟩
 have q0:X.drew.cell? ⟨gr,5,none⟩=some (.slice ua un uc):=zi gW.out.block 5
 have q1:X.drew.frozen? ⟨gr,5,none⟩=false:=zB gW.out.block 5
 refine wp_region_noPanic ?_
 refine wp_region_held_drew (S:=fun x=>Since (fun k=>k=gr\/k=mb) X x/\x.cell? ⟨gr,9,none⟩=some (.slice (some ⟨mb,0,none⟩) mem.length mc)) (by kernel_rfl) (bO.out) (fun hS=> ?_)
 refine zo 0 33 ?vu1 rfl ?z8I ?_
 case z8I=>(intro x h;have e:=C4.out x h;go_simp<;>rfl)
 simp only [Act.put,za,ze,zh]
 refine zo 1 34 ?vu2 rfl ?z8J ?_
 case z8J=>(intro x h;have e:=C4.out x h;go_simp<;>rfl)
 simp only [Act.put,za,ze,zh]
 refine zo 2 35 ?vu3 rfl ?z8K ?_
 case z8K=>(intro x h;have e:=C4.out x h;go_simp<;>rfl)
 simp only [Act.put,za,ze,zh]
 refine zo 3 36 ?vu4 rfl ?z8L ?_
 case z8L=>(intro x h;have e:=C4.out x h;go_simp<;>rfl)
 simp only [Act.put,za,ze,zh]
 refine zo 4 37 ?vu5 rfl ?z8M ?_
 case z8M=>(intro x h;have e:=C4.out x h;go_simp<;>rfl)
 simp only [Act.put,za,ze,zh]
 refine zo 5 38 ?vu6 rfl ?z8N ?_
 case z8N=>(intro x h;have e:=C4.out x h;go_simp<;>rfl)
 simp only [Act.put,za,ze,zh]
 refine zo 6 39 ?vu7 rfl ?z8O ?_
 case z8O=>(intro x h;have e:=C4.out x h;go_simp<;>rfl)
 simp only [Act.put,za,ze,zh]
 refine zo 7 40 ?vu8 rfl ?z8P ?_
 case z8P=>(intro x h;have e:=C4.out x h;go_simp<;>rfl)
 simp only [Act.put,za,ze,zh]
 refine zo 8 41 ?vu9 rfl ?z8Q ?_
 case z8Q=>(intro x h;have e:=C4.out x h;go_simp<;>rfl)
 simp only [Act.put,za,ze,zh]
 refine zo 9 42 ?zHK rfl ?z1Y ?_
 case z1Y=>(intro x h;have e:=C4.out x h;go_simp<;>rfl)
 simp only [Act.put,za,ze,zh]
 refine zo 10 43 ?zHL rfl ?z1Z ?_
 case z1Z=>(intro x h;have e:=C4.out x h;go_simp<;>rfl)
 simp only [Act.put,za,ze,zh]
 refine zo 11 44 ?zHM rfl ?z2a ?_
 case z2a=>(intro x h;have e:=C4.out x h;go_simp<;>rfl)
 simp only [Act.put,za,ze,zh]
 refine zo 12 45 ?zHN rfl ?z2c ?_
 case z2c=>(intro x h;have e:=C4.out x h;go_simp<;>rfl)
 simp only [Act.put,za,ze,zh]
 refine zY 13 rfl (fun K hK=> ?_)
 go_simp
 have ztE:=vE.out
 clear q0 q1
 have q2:(X.setCell ⟨gr,5,none⟩ (.slice xa rest.length xc)).cell? ⟨mb,vn,none⟩=some (.int .i64 (mem.getD vn 0)):=(HRB.out.wD kF).1
 have q3:X.frozen? ⟨mb,vn,none⟩=false:=((HR.out.below pX.out).wD kF).2
 refine hK.out _ _ ztE (fun _=> ?_)
 clear hK K hS
 refine zo 14 46 ?zHO rfl ?z2d ?_
 case z2d=>(intro x h;have e:=C4.out x h;go_simp<;>rfl)
 simp only [Act.put,za,ze,zh]
 refine zY 15 rfl (fun K hK=> ?_)
 go_simp
 have z2e:=HS2.out
 clear q2 q3
 refine hK.out _ _ z2e (fun _=> ?_)
 clear hK K ztE
 refine wpAnyH_done (by kernel_rfl) ?_ _
 refine NoPanic.normal ?_
 go_wp2_with fail
 go_ret
 rw [zL.out]
 exact vP HRC.out HBC.out
end Go.Proofs.YtliajkheeniljaaGreatDoor
