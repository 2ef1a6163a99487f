/- Steps. -/
import Derived.Test.YteggflahafiieaaGreatDoorZgPClone
import Derived.Test.YteggflahafiieaaGreatDoorZgPHeads
import Derived.Test.YteggflahafiieaaGreatDoorZgPWays3
set_option linter.all false
namespace Go.Proofs.YteggflahafiieaaGreatDoor
open Go.RowKit
set_option maxRecDepth 100000
set_option maxHeartbeats 16000000
variable {v0:Value}
theorem zvq:(Tryz.prog.info? 186).map (λi=>(i.zero,i.size,i.bytes))=some (some .nilFunc,1,8):=by kernel_rfl
theorem znQ (P:World):(zeroValue 186).run Tryz.prog P= .ok .nilFunc P:=by
 obtain⟨i0,hi,hz0,hz1,hz2⟩:=info_parts zvq
 simp [zeroValue,typeInfo,hi,hz0]
def zlF (n:Nat) (x:zT):Prop:=(0<=x.reg/\x.reg<4)/\(0<=x.var/\x.var<(n:Int))/\zqJ x.op
theorem qo.told {w w':World} {B gr:Nat} {m:zF} {dom:Int} {mb mc:Nat} {res:Option (zo × List Int × Bool)} {e:Ending} (h:qo v0 w B gr m dom mb mc res e w'):∃b:Bool,e= .returned (.bool b)/\qo v0 w B gr m dom mb mc res (.returned (.bool b)) w':=by
 rcases h.2 with⟨-,he⟩|⟨t,mem,bad,bv, -,he, -⟩
 ·exact⟨false,he,he ▸ h⟩
 exact⟨true,he,he ▸ h⟩
theorem qo.base {w W w':World} {B gr:Nat} {m:zF} {dom:Int} {mb mc:Nat} {res:Option (zo × List Int × Bool)} {e:Ending} (h:qo v0 W B gr m dom mb mc res e w') (hb:Below B w W):qo v0 w B gr m dom mb mc res e w':=⟨hb.trans h.1,h.2⟩
theorem zrX {w0 w:World} {B gr mb mc:Nat} {pc:Nat} {r0 r1 r2 r3:Int} {buf:List zi} {bv:Value} {m:zF} {c:zK} {s:zm} (h:xq v0 w B gr (pc:Int) r0 r1 r2 r3 buf bv m c.domain s.mem mb mc s.bad) (hB:B<=w.heap.size) (hd1:1<=c.domain) (hd2:c.domain<=1000) (d:Nat) (l:List zT) (lv:Value) (hl:jJ d w0 lv l) (h0:Below w0.heap.size w0 w) (hB0:w0.heap.size<=B)
  (hx:∀j,j<l.length->zlF s.mem.length (l.getD j default)) (hbl:buf.length<=1000000):Calls Tryz.prog 65 #[.pointer (some ⟨gr,0,none⟩),lv] w λe w'=>
  qo v0 w B gr m c.domain mb mc (if (pc:Int)<(l.length:Int) then stepT c m s ⟨(pc:Int), [r0,r1,r2,r3],buf⟩ (l.getD pc default) d else none) e w':=by
 obtain⟨la,lc,rfl, -⟩:=ze.slice hl
 have hroom:=ze.room hl
 obtain⟨n,hn⟩:∃n,n=l.length:=⟨_,rfl⟩
 rw [<-hn] at hl hroom hx ⊢
 have HL:=qh hl
 have HN:=qh hn
 have HR:=qh h
 have yM:=qh hB
 have H0:=qh h0
 have HB0:=qh hB0
 clear h0 hB0
 have c0:w.cell? ⟨gr,0,none⟩=some (.int .i64 (pc:Int)):=za h.block 0
 clear hl hn
 rcases Nat.lt_or_ge pc n with hlt|hlt
 rotate_left
 ·have hge:(n:Int)<=(pc:Int):=by omega
  rw [if_neg (by omega)]
  clear HL HR h hx hB
  go_enter Tryz.func65,Tryz.ntmps65
  go_wp2_with fail
  go_ret
  exact kC (Below.refl _ _)
 have qK:(pc:Int)<(n:Int):=by omega
 have hwr:IntKind.i64.wrap ((pc:Int)+1)=(pc:Int)+1:=IntWalk.i64_in _ (by omega)
 clear hroom
 rw [if_pos qK]
 obtain⟨eb,eo,aa,ac,ba,bc,yG, -,⟨x0,x1,x2⟩,⟨x3,x4,x5,x6⟩,⟨x7,x8,x9,x10⟩,kE,xa,xb⟩:=jJ.part HL.out pc (by rw [<-HN.out];exact hlt)
 subst yG
 have hfx:=hx pc hlt
 replace x0:=zh H0.out _ _ x0
 replace x1:=zh H0.out _ _ x1
 replace x2:=zh H0.out _ _ x2
 replace x3:=zh H0.out _ _ x3
 replace x4:=zh H0.out _ _ x4
 replace x5:=zh H0.out _ _ x5
 replace x6:=zh H0.out _ _ x6
 replace x7:=zh H0.out _ _ x7
 replace x8:=zh H0.out _ _ x8
 replace x9:=zh H0.out _ _ x9
 replace x10:=zh H0.out _ _ x10
 replace kE:=zh H0.out _ _ kE
 obtain⟨x,hxx⟩:∃x,x=l.getD pc default:=⟨_,rfl⟩
 rw [<-hxx] at x0 x1 x2 x3 x4 x5 x6 x7 x8 x9 x10 kE xa xb hfx ⊢
 have pQ:=λW V (hV:xq v0 W B gr ((pc:Int)+1) r0 r1 r2 r3 buf V m c.domain s.mem mb mc s.bad) (hW:B<=W.heap.size) (ha:zx d W x.a (.slice aa x.a.kids.length ac)) (hb:zx d W x.b (.slice ba x.b.kids.length bc))=>zvr hV hW hd1 hd2 d x _ _ ha hb hfx.1 hfx.2.1 hbl hfx.2.2
 unfold qd at pQ
 have hxa:=λW (hW:Below w0.heap.size w0 W)=>xa.below hW
 have hxb:=λW (hW:Below w0.heap.size w0 W)=>xb.below hW
 clear xa xb hfx hxx
 obtain⟨res,hres⟩:∃r,r=stepT c m s ⟨(pc:Int), [r0,r1,r2,r3],buf⟩ x d:=⟨_,rfl⟩
 rw [<-hres] at pQ ⊢
 clear hres
 obtain⟨op,reg,v,a,b,yA⟩:=x
 simp only [] at x0 x1 x2 x3 x4 x5 x6 x7 x8 x9 x10 kE pQ hxa hxb ⊢
 obtain⟨al,hal⟩:∃n,n=a.kids.length:=⟨_,rfl⟩
 obtain⟨bl,jw⟩:∃n,n=b.kids.length:=⟨_,rfl⟩
 obtain⟨ak,hak⟩:∃n,n=a.kind:=⟨_,rfl⟩
 obtain⟨an,han⟩:∃n,n=a.n:=⟨_,rfl⟩
 obtain⟨ao,hao⟩:∃n,n=a.op:=⟨_,rfl⟩
 obtain⟨bk,hbk⟩:∃n,n=b.kind:=⟨_,rfl⟩
 obtain⟨bn,hbn⟩:∃n,n=b.n:=⟨_,rfl⟩
 obtain⟨bo,hbo⟩:∃n,n=b.op:=⟨_,rfl⟩
 rw [<-hak] at x3 pQ
 rw [<-han] at x4 pQ
 rw [<-hao] at x5 pQ
 rw [<-hal] at x6 pQ hxa
 rw [<-hbk] at x7 pQ
 rw [<-hbn] at x8 pQ
 rw [<-hbo] at x9 pQ
 rw [<-jw] at x10 pQ hxb
 clear hak han hao hal hbk hbn hbo jw
 have zvs:=qh pQ
 have HXA:=qh hxa
 have HXB:=qh hxb
 have HA:=qh ((Below.refl w.heap.size w).alloc (Nat.le_refl _) (.cells #[.int .i64 op, .int .i64 reg, .int .i64 v, .int .i64 ak, .int .i64 an, .int .u8 ao, .slice aa al ac, .int .i64 bk, .int .i64 bn, .int .u8 bo, .slice ba bl bc, .int .i64 yA] 53))
 have HX:=qh (yE w (.cells #[.int .i64 op, .int .i64 reg, .int .i64 v, .int .i64 ak, .int .i64 an, .int .u8 ao, .slice aa al ac, .int .i64 bk, .int .i64 bn, .int .u8 bo, .slice ba bl bc, .int .i64 yA] 53))
 clear pQ hxa hxb h hB hx HL
 go_enter Tryz.func65,Tryz.ntmps65
 go_upto_region 4 with fail
 generalize World.alloc w _=X at HA HX ⊢
 obtain⟨gi,hgi⟩:∃g,g=w.heap.size:=⟨_,rfl⟩
 rw [<-hgi] at HX ⊢
 have HNG:=qh (show gi≠gr by have:=zq HR.out.block;omega)
 clear hgi c0 x0 x1 x2 x3 x4 x5 x6 x7 x8 x9 x10 kE
 have uw:=qh (HR.out.below HA.out)
 have d0:X.cell? ⟨gr,0,none⟩=some (.int .i64 (pc:Int)):=za uw.out.block 0
 have f0:X.frozen? ⟨gr,0,none⟩=false:=zw uw.out.block 0
 go_upto_region 5 with fail
 clear d0 f0
 have um:=qh (uw.out.zqK ((pc:Int)+1))
 have vM:Hid (Below B w (X.setCell ⟨gr,0,none⟩ (.int .i64 ((pc:Int)+1)))):=(HA.out.mono yM.out).setCell (p:=⟨gr,0,none⟩) HR.out.base _
 have HSY:Hid (Since (λk=>k=gr) X (X.setCell ⟨gr,0,none⟩ (.int .i64 ((pc:Int)+1)))):=Since.setCell (F:=λk=>k=gr) (p:=⟨gr,0,none⟩) (Since.refl _ _) (.inl rfl) _
 have HEX:Hid (zx d (X.setCell ⟨gr,0,none⟩ (.int .i64 ((pc:Int)+1))) a (.slice aa al ac)/\zx d (X.setCell ⟨gr,0,none⟩ (.int .i64 ((pc:Int)+1))) b (.slice ba bl bc)):=⟨(HXA.out _ (H0.out.trans (vM.out.mono HB0.out))),(HXB.out _ (H0.out.trans (vM.out.mono HB0.out)))⟩
 generalize World.setCell X ⟨gr,0,none⟩ _=Y at um vM HSY HEX ⊢
 have hYB:B<=Y.heap.size:=Nat.le_trans yM.out vM.out.size
 obtain⟨f,hmf,hfn, -⟩:=zvs.out Y _ um.out hYB HEX.out.1 HEX.out.2
 have hrun:Hid (∀W,Below Y.heap.size Y W->Calls Tryz.prog f #[.pointer (some ⟨gr,0,none⟩), .agg #[.int .i64 op, .int .i64 reg, .int .i64 v, .int .i64 ak, .int .i64 an, .int .u8 ao, .slice aa al ac, .int .i64 bk, .int .i64 bn, .int .u8 bo, .slice ba bl bc, .int .i64 yA]] W λe w'=>qo v0 W B gr m c.domain mb mc res e w'):=λW hW=>by
  obtain⟨f',z0e, -,hc⟩:=zvs.out W _ (um.out.below hW) (Nat.le_trans hYB hW.size) (HEX.out.1.below hW) (HEX.out.2.below hW)
  rw [hmf] at z0e
  cases z0e
  exact hc
 have CC:Hid (∀x,Below Y.heap.size Y x->x.cell? ⟨gi,0,none⟩=some (.int .i64 op)/\x.cell? ⟨gi,1,none⟩=some (.int .i64 reg)/\x.cell? ⟨gi,2,none⟩=some (.int .i64 v)/\x.cell? ⟨gi,3,none⟩=some (.int .i64 ak)/\x.cell? ⟨gi,4,none⟩=some (.int .i64 an)/\x.cell? ⟨gi,5,none⟩=some (.int .u8 ao)/\x.cell? ⟨gi,6,none⟩=some (.slice aa al ac)/\x.cell? ⟨gi,7,none⟩=some (.int .i64 bk)/\x.cell? ⟨gi,8,none⟩=some (.int .i64 bn)/\x.cell? ⟨gi,9,none⟩=some (.int .u8 bo)/\x.cell? ⟨gi,10,none⟩=some (.slice ba bl bc)/\x.cell? ⟨gi,11,none⟩=some (.int .i64 yA)):=λx hx=>by
  have k:=λ(i:Nat) (u:Value) (hv:(#[.int .i64 op, .int .i64 reg, .int .i64 v, .int .i64 ak, .int .i64 an, .int .u8 ao, .slice aa al ac, .int .i64 bk, .int .i64 bn, .int .u8 bo, .slice ba bl bc, .int .i64 yA] :Array Value)[i]? =some u)=>zh hx _ _ ((HSY.out.cell (p:=⟨gi,i,none⟩) (zq HX.out) HNG.out).trans ((za HX.out i).trans hv))
  exact⟨k 0 _ rfl,k 1 _ rfl,k 2 _ rfl,k 3 _ rfl,k 4 _ rfl,k 5 _ rfl,k 6 _ rfl,k 7 _ rfl,k 8 _ rfl,k 9 _ rfl,k 10 _ rfl,k 11 _ rfl⟩
 have HMF:=qh hmf
 clear hmf zvs HXA HXB
 refine wp_region_noPanic ?_
 refine yS (n0:=6) (S:=λx=>Below Y.heap.size Y x) (by kernel_rfl) ((Below.refl _ _).drew) (λhT=> ?_)
 refine zP 1 (λ_=>hT) ?_
 refine vK [3,6,7] 2 CC.out hT ?_
 refine zP 4 (λ_=>hT) ?_
 refine vK [6,7] 5 CC.out hT ?_
 refine jD 0 rfl (λK hK=> ?_)
 go_simp
 refine(zsK Y.drew).mono ?_
 rintro e tw0 ⟨mp,rfl,hmi, -,hb⟩
 have hlk:=wY hmi Tryz.underlying187 Tryz.underlying3 (znQ tw0) op false
 rw [HMF.out] at hlk
 simp only [Option.getD_some,Bool.false_eq_true,if_false] at hlk
 clear hmi
 have hT0:Below Y.heap.size Y tw0:=zB hT hb
 refine hK.out _ _ (λ_ _=>hT0) ?_
 clear hK K hb hT
 refine jD 3 rfl (λK hK=> ?_)
 go_simp
 refine hK.out _ _ (λ_ _=>hT0) ?_
 clear hK K
 refine jD 6 rfl (λK hK=> ?_)
 go_simp
 clear hlk
 refine(hrun.out tw0 hT0).mono ?_
 rintro e tw6 hwe
 have hbx:Below B Y tw0:=hT0.mono hYB
 obtain⟨bb,rfl,hwe⟩:=hwe.told
 have HWE:=qh (hwe.base (vM.out.trans hbx))
 clear hwe hbx
 refine hK.out _ _ (λh=>absurd rfl h) ?_
 clear hK K
 refine zP 7 (λh=>absurd h (by decide+kernel)) ?_
 refine xO (by kernel_rfl) ?_ _
 refine NoPanic.normal ?_
 clear hfn
 go_wp2_with fail
 go_ret
 exact HWE.out
theorem zqj {w:World} {B gr mb mc:Nat} {pc r0 r1 r2 r3 dom:Int} {buf:List zi} {bv:Value} {m:zF} {mem:List Int} {bad:Bool} (h:xq v0 w B gr pc r0 r1 r2 r3 buf bv m dom mem mb mc bad) (hB:B<=w.heap.size) (hbl:buf.length<=1000000) (v:Int)
  (hh:v∈yD buf m.model->0<=v/\v<(mem.length:Int)/\∃n,takeB buf v=(some ⟨v,n⟩,(takeB buf v).2)):Calls Tryz.prog 66 #[.pointer (some ⟨gr,0,none⟩), .int .i64 v] w λe w'=>
  qo v0 w B gr m dom mb mc (if v∈yD buf m.model then some (⟨pc, [r0,r1,r2,r3],(takeB buf v).2⟩,mem.set v.toNat ((takeB buf v).1.getD default).n,bad) else none) e w':=by
 have znR:=λW V (hV:xq v0 W B gr pc r0 r1 r2 r3 buf V m dom mem mb mc bad)=>zpD W V buf hV.qJ hbl m.model
 have htake:=λW V (hV:xq v0 W B gr pc r0 r1 r2 r3 buf V m dom mem mb mc bad)=>zsC W V buf hV.qJ hbl v
 obtain⟨ua,uc,rfl, -⟩:=ze.slice h.qJ
 obtain⟨hs,hhs⟩:∃l,l=yD buf m.model:=⟨_,rfl⟩
 rw [<-hhs] at hh znR ⊢
 obtain⟨un,hun⟩:∃n,n=buf.length:=⟨_,rfl⟩
 rw [<-hun] at h
 have HUN:=qh hun
 have HR:=qh h
 have yM:=qh hB
 have uG:Hid (∀x,Below w.heap.size w x->Calls Tryz.prog 63 #[.slice ua un uc, .int .i64 m.model] x λe w'=>(∃sv,e= .returned sv/\xI w' sv hs)/\Below x.heap.size x w'):=λx hx=>znR x _ (HR.out.below hx)
 have CC:Hid (∀x,Below w.heap.size w x->x.cell? ⟨gr,5,none⟩=some (.slice ua un uc)/\x.cell? ⟨gr,6,none⟩=some (.int .i64 m.model)):=λx hx=>⟨zh hx _ _ (za HR.out.block 5),zh hx _ _ (za HR.out.block 6)⟩
 have HH:=qh hh
 have jX:=qh htake
 clear znR htake hhs hun h hB hh hbl
 by_cases hv:v∈hs
 rotate_left
 ·have hcv:hs.contains v=false:=by simpa using hv
  rw [if_neg hv]
  clear hv
  clear jX HH
  obtain⟨res,hres⟩:∃r:Option (zo × List Int × Bool),r=none:=⟨_,rfl⟩
  rw [<-hres]
  have zJ:=qh hres
  clear hres
  go_enter Tryz.func66,Tryz.ntmps66
  go_upto_region 1 with fail
  refine vJ (S:=λx=>Below w.heap.size w x) ((Below.refl _ _).drew) (λhH=> ?_)
  refine zk 0 CC.out ?_
  refine zk 1 CC.out ?_
  refine zk 2 CC.out ?_
  refine zk 3 CC.out ?_
  refine zk 4 CC.out ?_
  refine zk 5 CC.out ?_
  refine zk 6 CC.out ?_
  refine zk 7 CC.out ?_
  refine zk 8 CC.out ?_
  refine zk 9 CC.out ?_
  refine zk 11 CC.out ?_
  refine yw 10 rfl (λK hK=> ?_)
  go_simp
  refine(uG.out w.drew hH).mono ?_
  rintro e zqL ⟨⟨sv,rfl,hsv⟩,hb⟩
  obtain⟨ha,hc,rfl, -⟩:=ze.slice hsv
  have zqM:Below w.heap.size w zqL:=zB hH hb
  refine hK.out _ _ zqM (λ_=> ?_)
  clear hK K hb hH
  refine yw 12 rfl (λK hK=> ?_)
  go_simp
  refine(zcV zqL _ hs hsv v).mono ?_
  rintro e z0f ⟨he,hyx⟩
  rw [hcv] at he
  subst he
  have hb:Below zqL.heap.size zqL z0f:=by rw [hyx];exact Below.refl _ _
  clear hyx hsv
  have zwT:Below w.heap.size w z0f:=zB zqM hb
  refine hK.out _ _ zwT (λ_=> ?_)
  clear hK K hb zqM
  refine zk 13 CC.out ?_
  refine xM ?_
  go_wp2_with fail
  go_ret
  rw [zJ.out]
  exact kC (zwT.mono yM.out)
 have hcv:hs.contains v=true:=by simpa using hv
 obtain⟨hv0,hv1,tn,htk⟩:=HH.out hv
 rw [if_pos hv,htk]
 simp only [Option.getD_some]
 obtain⟨rest,hrest⟩:∃l,l=(takeB buf v).2:=⟨_,rfl⟩
 rw [<-hrest] at htk ⊢
 clear hrest
 obtain⟨vn,rfl⟩:∃k:Nat,v=(k:Int):=⟨v.toNat,by omega⟩
 have kW:vn<mem.length:=by omega
 simp only [Int.toNat_natCast]
 have zep:Hid (∀x,Below w.heap.size w x->Calls Tryz.prog 102 #[.slice ua un uc, .int .i64 (vn:Int)] x λe w'=>(∃xa xc,e= .returned (.tuple #[.agg #[.int .i64 (vn:Int), .int .i64 tn], .slice xa rest.length xc, .bool true])/\w'.ownsRow x.heap.size 136 2 (.slice xa rest.length xc) rest.length (zl zi.cells rest))/\Below x.heap.size x w'):=λx hx=>(jX.out x _ (HR.out.below hx)).mono (by
  rintro e w' ⟨⟨sv,he,hbf,hrow⟩,hb⟩
  rw [htk] at he hbf hrow
  obtain⟨xa,xc,rfl, -⟩:=ze.slice hbf
  exact⟨⟨xa,xc,he,hrow rfl⟩,hb⟩)
 clear htk hv hv0
 clear jX HH
 obtain⟨res,hres⟩:∃r:Option (zo × List Int × Bool),r=some (⟨pc, [r0,r1,r2,r3],rest⟩,mem.set vn tn,bad):=⟨_,rfl⟩
 rw [<-hres]
 have zJ:=qh hres
 clear hres
 go_enter Tryz.func66,Tryz.ntmps66
 go_upto_region 1 with fail
 refine vJ (S:=λx=>Below w.heap.size w x) ((Below.refl _ _).drew) (λhH=> ?_)
 refine zk 0 CC.out ?_
 refine zk 1 CC.out ?_
 refine zk 2 CC.out ?_
 refine zk 3 CC.out ?_
 refine zk 4 CC.out ?_
 refine zk 5 CC.out ?_
 refine zk 6 CC.out ?_
 refine zk 7 CC.out ?_
 refine zk 8 CC.out ?_
 refine zk 9 CC.out ?_
 refine zk 11 CC.out ?_
 refine yw 10 rfl (λK hK=> ?_)
 go_simp
 refine(uG.out w.drew hH).mono ?_
 rintro e zqN ⟨⟨sv,rfl,hsv⟩,hb⟩
 obtain⟨ha,hc,rfl, -⟩:=ze.slice hsv
 have zqO:Below w.heap.size w zqN:=zB hH hb
 refine hK.out _ _ zqO (λ_=> ?_)
 clear hK K hb hH
 refine yw 12 rfl (λK hK=> ?_)
 go_simp
 refine(zcV zqN _ hs hsv (vn:Int)).mono ?_
 rintro e znS ⟨he,hyx⟩
 rw [hcv] at he
 subst he
 have hb:Below zqN.heap.size zqN znS:=by rw [hyx];exact Below.refl _ _
 clear hyx hsv
 have zkW:Below w.heap.size w znS:=zB zqO hb
 refine hK.out _ _ zkW (λ_=> ?_)
 clear hK K hb zqO
 refine zk 13 CC.out ?_
 refine xM ?_
 have c5:znS.cell? ⟨gr,5,none⟩=some (.slice ua un uc):=(CC.out _ zkW).1
 have HY:=qh zkW
 clear zkW hcv
 go_wp2_with fail
 refine(zep.out znS HY.out).mono ?_
 rintro e w3 ⟨⟨xa,xc,rfl,hrow⟩,hb3⟩
 clear c5
 have jh:=qh hrow
 have H3:Hid (Below w.heap.size w w3):=zB HY.out hb3
 clear hrow hb3
 have HA:=qh ((Below.refl w3.heap.size w3).alloc (Nat.le_refl _) (.cells #[.int .i64 (vn:Int), .int .i64 tn] 136))
 have HX:=qh (yE w3 (.cells #[.int .i64 (vn:Int), .int .i64 tn] 136))
 go_upto_region 4 with fail
 generalize World.alloc w3 _=X at HA HX ⊢
 obtain⟨gx,hgx⟩:∃g,g=w3.heap.size:=⟨_,rfl⟩
 rw [<-hgx] at HX ⊢
 have HG:Hid (gx≠gr/\gx≠mb):=by
  have h1:=zq HR.out.block
  have h2:=HR.out.kQ.2
  have h3:=H3.out.size
  exact⟨by omega,by omega⟩
 clear hgx
 have pq:Hid (Below w.heap.size w X):=zB H3.out HA.out
 have uw:=qh (HR.out.below (pq.out.drew))
 have HRB:=qh (uw.out.zsL (V:=znS) (wO:= .slice xa rest.length xc) (buf':=rest) ⟨Nat.lt_of_lt_of_le (zq HR.out.block) HY.out.size,Nat.lt_of_lt_of_le HR.out.kQ.2 HY.out.size⟩ (xX jh.out HA.out.drew))
 have HRC:=qh (HRB.out.zcg vn tn)
 have HBC:Hid (Below B w ((X.drew.setCell ⟨gr,5,none⟩ (.slice xa rest.length xc)).setCell ⟨mb,vn,none⟩ (.int .i64 tn))):=((pq.out.drew.mono yM.out).setCell (p:=⟨gr,5,none⟩) HR.out.base _).setCell (p:=⟨mb,vn,none⟩) HR.out.kQ.1 _
 have bH:Hid (Since (λk=>k=gr\/k=mb) X X.drew/\X.drew.cell? ⟨gr,9,none⟩=some (.slice (some ⟨mb,0,none⟩) mem.length mc)):=⟨(Since.refl _ X).drew,za uw.out.block 9⟩
 have vU:Hid (Since (λk=>k=gr\/k=mb) X (X.drew.setCell ⟨gr,5,none⟩ (.slice xa rest.length xc))/\(X.drew.setCell ⟨gr,5,none⟩ (.slice xa rest.length xc)).cell? ⟨gr,9,none⟩=some (.slice (some ⟨mb,0,none⟩) mem.length mc)):=⟨Since.setCell (p:=⟨gr,5,none⟩) bH.out.1 (.inl (.inl rfl)) _,za HRB.out.block 9⟩
 have HS2:Hid (Since (λk=>k=gr\/k=mb) X ((X.drew.setCell ⟨gr,5,none⟩ (.slice xa rest.length xc)).setCell ⟨mb,vn,none⟩ (.int .i64 tn))/\((X.drew.setCell ⟨gr,5,none⟩ (.slice xa rest.length xc)).setCell ⟨mb,vn,none⟩ (.int .i64 tn)).cell? ⟨gr,9,none⟩=some (.slice (some ⟨mb,0,none⟩) mem.length mc)):=⟨Since.setCell (p:=⟨mb,vn,none⟩) vU.out.1 (.inl (.inr rfl)) _,by
  have:=za HRC.out.block 9
  rw [List.length_set] at this
  exact this⟩
 have C4:Hid (∀x,(Since (λk=>k=gr\/k=mb) X x/\x.cell? ⟨gr,9,none⟩=some (.slice (some ⟨mb,0,none⟩) mem.length mc))->x.cell? ⟨gr,9,none⟩=some (.slice (some ⟨mb,0,none⟩) mem.length mc)/\x.cell? ⟨gx,0,none⟩=some (.int .i64 (vn:Int))/\x.cell? ⟨gx,1,none⟩=some (.int .i64 tn)):=λx hx=>⟨hx.2,(hx.1.cell (p:=⟨gx,0,none⟩) (zq HX.out) (λe=>e.elim HG.out.1 HG.out.2)).trans (za HX.out 0),(hx.1.cell (p:=⟨gx,1,none⟩) (zq HX.out) (λe=>e.elim HG.out.1 HG.out.2)).trans (za HX.out 1)⟩
 have q0:X.drew.cell? ⟨gr,5,none⟩=some (.slice ua un uc):=za uw.out.block 5
 have q1:X.drew.frozen? ⟨gr,5,none⟩=false:=zw uw.out.block 5
 refine vJ (S:=λx=>Since (λk=>k=gr\/k=mb) X x/\x.cell? ⟨gr,9,none⟩=some (.slice (some ⟨mb,0,none⟩) mem.length mc)) (bH.out) (λhS=> ?_)
 refine zk 0 C4.out ?_
 refine zk 1 C4.out ?_
 refine zk 2 C4.out ?_
 refine zk 3 C4.out ?_
 refine zk 4 C4.out ?_
 refine zk 5 C4.out ?_
 refine zk 6 C4.out ?_
 refine zk 7 C4.out ?_
 refine zk 8 C4.out ?_
 refine zk 9 C4.out ?_
 refine zk 10 C4.out ?_
 refine zk 11 C4.out ?_
 refine zk 12 C4.out ?_
 refine yw 13 rfl (λK hK=> ?_)
 go_simp
 have zwV:=vU.out
 clear q0 q1
 have q2:(X.setCell ⟨gr,5,none⟩ (.slice xa rest.length xc)).cell? ⟨mb,vn,none⟩=some (.int .i64 (mem.getD vn 0)):=(HRB.out.wR kW).1
 have q3:X.frozen? ⟨mb,vn,none⟩=false:=((HR.out.below pq.out).wR kW).2
 refine hK.out _ _ zwV (λ_=> ?_)
 clear hK K hS
 refine zk 14 C4.out ?_
 refine yw 15 rfl (λK hK=> ?_)
 go_simp
 have z2S:=HS2.out
 clear q2 q3
 refine hK.out _ _ z2S (λ_=> ?_)
 clear hK K zwV
 refine xM ?_
 go_wp2_with fail
 go_ret
 rw [zJ.out]
 exact vV HRC.out HBC.out
