/- Steps. -/
import Derived.Test.YtliajkheeniljaaGreatDoorZpPClone
import Derived.Test.YtliajkheeniljaaGreatDoorZpPWays4
set_option linter.all false
namespace Go.Proofs.YtliajkheeniljaaGreatDoor
open Go.RowKit
set_option maxRecDepth 100000
set_option maxHeartbeats 16000000
variable {v0:Value}
theorem zvb:(Tryz.prog.info? 168).map (λi=>(i.zero,i.size,i.bytes))=some (some .nilFunc,1,8):=by kernel_rfl
theorem zmf (P:World):(zeroValue 168).run Tryz.prog P= .ok .nilFunc P:=by
 obtain⟨i0,hi,hz0,hz1,hz2⟩:=info_parts zvb
 simp [zeroValue,typeInfo,hi,hz0]
def zkm (n:Nat) (x:zW):Prop:=(0<=x.reg/\x.reg<4)/\(0<=x.var/\x.var<(n:Int))/\znX x.op
theorem qH.told {w w':World} {B gr:Nat} {m:zF} {dom:Int} {mb mc:Nat} {res:Option (zA × List Int × Bool)} {e:Ending} (h:qH v0 w B gr m dom mb mc res e w'):∃b:Bool,e= .returned (.bool b)/\qH v0 w B gr m dom mb mc res (.returned (.bool b)) w':=by
 rcases h.2 with⟨-,he⟩|⟨t,mem,bad,bv, -,he, -⟩
 ·exact⟨false,he,he ▸ h⟩
 exact⟨true,he,he ▸ h⟩
theorem qH.base {w W w':World} {B gr:Nat} {m:zF} {dom:Int} {mb mc:Nat} {res:Option (zA × List Int × Bool)} {e:Ending} (h:qH v0 W B gr m dom mb mc res e w') (hb:Below B w W):qH v0 w B gr m dom mb mc res e w':=⟨hb.trans h.1,h.2⟩
theorem zpA {w0 w:World} {B gr mb mc:Nat} {pc:Nat} {r0 r1 r2 r3:Int} {buf:List zk} {bv:Value} {m:zF} {c:zI} {s:zl} (h:xB v0 w B gr (pc:Int) r0 r1 r2 r3 buf bv m c.domain s.mem mb mc s.bad) (hB:B<=w.heap.size) (hd1:1<=c.domain) (hd2:c.domain<=1000) (d:Nat) (l:List zW) (lv:Value) (hl:wO d w0 lv l) (h0:Below w0.heap.size w0 w) (hB0:w0.heap.size<=B)
  (hx:∀j,j<l.length->zkm s.mem.length (l.getD j default)) (hbl:buf.length<=1000000):Calls Tryz.prog 81 #[.pointer (some ⟨gr,0,none⟩),lv] w λe w'=>
  qH v0 w B gr m c.domain mb mc (if (pc:Int)<(l.length:Int) then stepT c m s ⟨(pc:Int), [r0,r1,r2,r3],buf⟩ (l.getD pc default) d else none) e w':=by
 obtain⟨la,lc,rfl, -⟩:=zh.slice hl
 have hroom:=zh.room hl
 obtain⟨n,hn⟩:∃n,n=l.length:=⟨_,rfl⟩
 rw [<-hn] at hl hroom hx ⊢
 have HL:=qh hl
 have HN:=qh hn
 have HR:=qh h
 have yx:=qh hB
 have H0:=qh h0
 have HB0:=qh hB0
 clear h0 hB0
 have c0:w.cell? ⟨gr,0,none⟩=some (.int .i64 (pc:Int)):=ze h.block 0
 clear hl hn
 rcases Nat.lt_or_ge pc n with hlt|hlt
 rotate_left
 ·have hge:(n:Int)<=(pc:Int):=by omega
  rw [if_neg (by omega)]
  clear HL HR h hx hB
  go_enter Tryz.func81,Tryz.ntmps81
  go_wp2_with fail
  go_ret
  exact wP (Below.refl _ _)
 have qN:(pc:Int)<(n:Int):=by omega
 have hwr:IntKind.i64.wrap ((pc:Int)+1)=(pc:Int)+1:=IntWalk.i64_in _ (by omega)
 clear hroom
 rw [if_pos qN]
 obtain⟨eb,eo,aa,ac,ba,bc,yh, -,⟨x0,x1,x2⟩,⟨x3,x4,x5,x6⟩,⟨x7,x8,x9,x10⟩,wS,xa,xb⟩:=wO.part HL.out pc (by rw [<-HN.out];exact hlt)
 subst yh
 have hfx:=hx pc hlt
 replace x0:=zi H0.out _ _ x0
 replace x1:=zi H0.out _ _ x1
 replace x2:=zi H0.out _ _ x2
 replace x3:=zi H0.out _ _ x3
 replace x4:=zi H0.out _ _ x4
 replace x5:=zi H0.out _ _ x5
 replace x6:=zi H0.out _ _ x6
 replace x7:=zi H0.out _ _ x7
 replace x8:=zi H0.out _ _ x8
 replace x9:=zi H0.out _ _ x9
 replace x10:=zi H0.out _ _ x10
 replace wS:=zi H0.out _ _ wS
 obtain⟨x,hxx⟩:∃x,x=l.getD pc default:=⟨_,rfl⟩
 rw [<-hxx] at x0 x1 x2 x3 x4 x5 x6 x7 x8 x9 x10 wS xa xb hfx ⊢
 have bW:=λW V (hV:xB v0 W B gr ((pc:Int)+1) r0 r1 r2 r3 buf V m c.domain s.mem mb mc s.bad) (hW:B<=W.heap.size) (ha:zC d W x.a (.slice aa x.a.kids.length ac)) (hb:zC d W x.b (.slice ba x.b.kids.length bc))=>zsQ hV hW hd1 hd2 d x _ _ ha hb hfx.1 hfx.2.1 hbl hfx.2.2
 unfold qA at bW
 have hxa:=λW (hW:Below w0.heap.size w0 W)=>xa.below hW
 have hxb:=λW (hW:Below w0.heap.size w0 W)=>xb.below hW
 clear xa xb hfx hxx
 obtain⟨res,hres⟩:∃r,r=stepT c m s ⟨(pc:Int), [r0,r1,r2,r3],buf⟩ x d:=⟨_,rfl⟩
 rw [<-hres] at bW ⊢
 clear hres
 obtain⟨op,reg,v,a,b,yG⟩:=x
 simp only [] at x0 x1 x2 x3 x4 x5 x6 x7 x8 x9 x10 wS bW hxa hxb ⊢
 obtain⟨al,hal⟩:∃n,n=a.kids.length:=⟨_,rfl⟩
 obtain⟨bl,kr⟩:∃n,n=b.kids.length:=⟨_,rfl⟩
 obtain⟨ak,hak⟩:∃n,n=a.kind:=⟨_,rfl⟩
 obtain⟨an,han⟩:∃n,n=a.n:=⟨_,rfl⟩
 obtain⟨ao,hao⟩:∃n,n=a.op:=⟨_,rfl⟩
 obtain⟨bk,hbk⟩:∃n,n=b.kind:=⟨_,rfl⟩
 obtain⟨bn,hbn⟩:∃n,n=b.n:=⟨_,rfl⟩
 obtain⟨bo,hbo⟩:∃n,n=b.op:=⟨_,rfl⟩
 rw [<-hak] at x3 bW
 rw [<-han] at x4 bW
 rw [<-hao] at x5 bW
 rw [<-hal] at x6 bW hxa
 rw [<-hbk] at x7 bW
 rw [<-hbn] at x8 bW
 rw [<-hbo] at x9 bW
 rw [<-kr] at x10 bW hxb
 clear hak han hao hal hbk hbn hbo kr
 have zg2:=qh bW
 have HXA:=qh hxa
 have HXB:=qh hxb
 have HA:=qh ((Below.refl w.heap.size w).alloc (Nat.le_refl _) (.cells #[.int .i64 op, .int .i64 reg, .int .i64 v, .int .i64 ak, .int .i64 an, .int .u8 ao, .slice aa al ac, .int .i64 bk, .int .i64 bn, .int .u8 bo, .slice ba bl bc, .int .i64 yG] 64))
 have HX:=qh (yj w (.cells #[.int .i64 op, .int .i64 reg, .int .i64 v, .int .i64 ak, .int .i64 an, .int .u8 ao, .slice aa al ac, .int .i64 bk, .int .i64 bn, .int .u8 bo, .slice ba bl bc, .int .i64 yG] 64))
 clear bW hxa hxb h hB hx HL
 go_enter Tryz.func81,Tryz.ntmps81
 go_upto_region 4 with fail
 generalize World.alloc w _=X at HA HX ⊢
 obtain⟨gi,hgi⟩:∃g,g=w.heap.size:=⟨_,rfl⟩
 rw [<-hgi] at HX ⊢
 have HNG:=qh (show gi≠gr by have:=zx HR.out.block;omega)
 clear hgi c0 x0 x1 x2 x3 x4 x5 x6 x7 x8 x9 x10 wS
 have bO:=qh (HR.out.below HA.out)
 have d0:X.cell? ⟨gr,0,none⟩=some (.int .i64 (pc:Int)):=ze bO.out.block 0
 have f0:X.frozen? ⟨gr,0,none⟩=false:=zB bO.out.block 0
 go_upto_region 5 with fail
 clear d0 f0
 have bQ:=qh (bO.out.zoM ((pc:Int)+1))
 have jo:Hid (Below B w (X.setCell ⟨gr,0,none⟩ (.int .i64 ((pc:Int)+1)))):=(HA.out.mono yx.out).setCell (p:=⟨gr,0,none⟩) HR.out.base _
 have HSY:Hid (Since (λk=>k=gr) X (X.setCell ⟨gr,0,none⟩ (.int .i64 ((pc:Int)+1)))):=Since.setCell (F:=λk=>k=gr) (p:=⟨gr,0,none⟩) (Since.refl _ _) (.inl rfl) _
 have HEX:Hid (zC d (X.setCell ⟨gr,0,none⟩ (.int .i64 ((pc:Int)+1))) a (.slice aa al ac)/\zC d (X.setCell ⟨gr,0,none⟩ (.int .i64 ((pc:Int)+1))) b (.slice ba bl bc)):=⟨(HXA.out _ (H0.out.trans (jo.out.mono HB0.out))),(HXB.out _ (H0.out.trans (jo.out.mono HB0.out)))⟩
 generalize World.setCell X ⟨gr,0,none⟩ _=Y at bQ jo HSY HEX ⊢
 have hYB:B<=Y.heap.size:=Nat.le_trans yx.out jo.out.size
 obtain⟨f,hmf,hfn, -⟩:=zg2.out Y _ bQ.out hYB HEX.out.1 HEX.out.2
 have hrun:Hid (∀W,Below Y.heap.size Y W->Calls Tryz.prog f #[.pointer (some ⟨gr,0,none⟩), .agg #[.int .i64 op, .int .i64 reg, .int .i64 v, .int .i64 ak, .int .i64 an, .int .u8 ao, .slice aa al ac, .int .i64 bk, .int .i64 bn, .int .u8 bo, .slice ba bl bc, .int .i64 yG]] W λe w'=>qH v0 W B gr m c.domain mb mc res e w'):=λW hW=>by
  obtain⟨f',z1h, -,hc⟩:=zg2.out W _ (bQ.out.below hW) (Nat.le_trans hYB hW.size) (HEX.out.1.below hW) (HEX.out.2.below hW)
  rw [hmf] at z1h
  cases z1h
  exact hc
 have CC:Hid (∀x,Below Y.heap.size Y x->x.cell? ⟨gi,0,none⟩=some (.int .i64 op)/\x.cell? ⟨gi,1,none⟩=some (.int .i64 reg)/\x.cell? ⟨gi,2,none⟩=some (.int .i64 v)/\x.cell? ⟨gi,3,none⟩=some (.int .i64 ak)/\x.cell? ⟨gi,4,none⟩=some (.int .i64 an)/\x.cell? ⟨gi,5,none⟩=some (.int .u8 ao)/\x.cell? ⟨gi,6,none⟩=some (.slice aa al ac)/\x.cell? ⟨gi,7,none⟩=some (.int .i64 bk)/\x.cell? ⟨gi,8,none⟩=some (.int .i64 bn)/\x.cell? ⟨gi,9,none⟩=some (.int .u8 bo)/\x.cell? ⟨gi,10,none⟩=some (.slice ba bl bc)/\x.cell? ⟨gi,11,none⟩=some (.int .i64 yG)):=λx hx=>by
  have k:=λ(i:Nat) (u:Value) (hv:(#[.int .i64 op, .int .i64 reg, .int .i64 v, .int .i64 ak, .int .i64 an, .int .u8 ao, .slice aa al ac, .int .i64 bk, .int .i64 bn, .int .u8 bo, .slice ba bl bc, .int .i64 yG] :Array Value)[i]? =some u)=>zi hx _ _ ((HSY.out.cell (p:=⟨gi,i,none⟩) (zx HX.out) HNG.out).trans ((ze HX.out i).trans hv))
  exact⟨k 0 _ rfl,k 1 _ rfl,k 2 _ rfl,k 3 _ rfl,k 4 _ rfl,k 5 _ rfl,k 6 _ rfl,k 7 _ rfl,k 8 _ rfl,k 9 _ rfl,k 10 _ rfl,k 11 _ rfl⟩
 have HMF:=qh hmf
 clear hmf zg2 HXA HXB
 refine wp_region_noPanic ?_
 refine yL (n0:=6) (S:=λx=>Below Y.heap.size Y x) (by kernel_rfl) ((Below.refl _ _).drew) (λhT=> ?_)
 refine zO 1 (λ_=>hT) ?_
 refine vL [3,6,7] 2 CC.out hT ?_
 refine zO 4 (λ_=>hT) ?_
 refine vL [6,7] 5 CC.out hT ?_
 refine qW 0 rfl (λK hK=> ?_)
 go_simp
 refine(zpR Y.drew).mono ?_
 rintro e tw0 ⟨mp,rfl,hmi, -,hb⟩
 have hlk:=jW hmi Tryz.underlying169 Tryz.underlying3 (zmf tw0) op false
 rw [HMF.out] at hlk
 simp only [Option.getD_some,Bool.false_eq_true,if_false] at hlk
 clear hmi
 have hT0:Below Y.heap.size Y tw0:=zG hT hb
 refine hK.out _ _ (λ_ _=>hT0) ?_
 clear hK K hb hT
 refine qW 3 rfl (λK hK=> ?_)
 go_simp
 refine hK.out _ _ (λ_ _=>hT0) ?_
 clear hK K
 refine qW 6 rfl (λK hK=> ?_)
 go_simp
 clear hlk
 refine(hrun.out tw0 hT0).mono ?_
 rintro e tw6 hwe
 have hbx:Below B Y tw0:=hT0.mono hYB
 obtain⟨bb,rfl,hwe⟩:=hwe.told
 have HWE:=qh (hwe.base (jo.out.trans hbx))
 clear hwe hbx
 refine hK.out _ _ (λh=>absurd rfl h) ?_
 clear hK K
 refine zO 7 (λh=>absurd h (by decide+kernel)) ?_
 refine xg (by kernel_rfl) ?_ _
 refine NoPanic.normal ?_
 clear hfn
 go_wp2_with fail
 go_ret
 exact HWE.out
theorem znG {w:World} {B gr mb mc:Nat} {pc r0 r1 r2 r3 dom:Int} {buf:List zk} {bv:Value} {m:zF} {mem:List Int} {bad:Bool} (h:xB v0 w B gr pc r0 r1 r2 r3 buf bv m dom mem mb mc bad) (hB:B<=w.heap.size) (hbl:buf.length<=1000000) (v:Int)
  (hh:v∈yK buf m.model->0<=v/\v<(mem.length:Int)/\∃n,takeB buf v=(some ⟨v,n⟩,(takeB buf v).2)):Calls Tryz.prog 82 #[.pointer (some ⟨gr,0,none⟩), .int .i64 v] w λe w'=>
  qH v0 w B gr m dom mb mc (if v∈yK buf m.model then some (⟨pc, [r0,r1,r2,r3],(takeB buf v).2⟩,mem.set v.toNat ((takeB buf v).1.getD default).n,bad) else none) e w':=by
 have zmg:=λW V (hV:xB v0 W B gr pc r0 r1 r2 r3 buf V m dom mem mb mc bad)=>zpm W V buf hV.vD hbl m.model
 have htake:=λW V (hV:xB v0 W B gr pc r0 r1 r2 r3 buf V m dom mem mb mc bad)=>zr4 W V buf hV.vD hbl v
 obtain⟨ua,uc,rfl, -⟩:=zh.slice h.vD
 obtain⟨hs,hhs⟩:∃l,l=yK buf m.model:=⟨_,rfl⟩
 rw [<-hhs] at hh zmg ⊢
 obtain⟨un,hun⟩:∃n,n=buf.length:=⟨_,rfl⟩
 rw [<-hun] at h
 have HUN:=qh hun
 have HR:=qh h
 have yx:=qh hB
 have pO:Hid (∀x,Below w.heap.size w x->Calls Tryz.prog 79 #[.slice ua un uc, .int .i64 m.model] x λe w'=>(∃sv,e= .returned sv/\xJ w' sv hs)/\Below x.heap.size x w'):=λx hx=>zmg x _ (HR.out.below hx)
 have CC:Hid (∀x,Below w.heap.size w x->x.cell? ⟨gr,5,none⟩=some (.slice ua un uc)/\x.cell? ⟨gr,6,none⟩=some (.int .i64 m.model)):=λx hx=>⟨zi hx _ _ (ze HR.out.block 5),zi hx _ _ (ze HR.out.block 6)⟩
 have HH:=qh hh
 have j3:=qh htake
 clear zmg htake hhs hun h hB hh hbl
 by_cases hv:v∈hs
 rotate_left
 ·have hcv:hs.contains v=false:=by simpa using hv
  rw [if_neg hv]
  clear hv
  clear j3 HH
  obtain⟨res,hres⟩:∃r:Option (zA × List Int × Bool),r=none:=⟨_,rfl⟩
  rw [<-hres]
  have zP:=qh hres
  clear hres
  go_enter Tryz.func82,Tryz.ntmps82
  go_upto_region 1 with fail
  refine vV (S:=λx=>Below w.heap.size w x) ((Below.refl _ _).drew) (λhH=> ?_)
  refine zu 0 CC.out ?_
  refine zu 1 CC.out ?_
  refine zu 2 CC.out ?_
  refine zu 3 CC.out ?_
  refine zu 4 CC.out ?_
  refine zu 5 CC.out ?_
  refine zu 6 CC.out ?_
  refine zu 7 CC.out ?_
  refine zu 8 CC.out ?_
  refine zu 9 CC.out ?_
  refine zu 11 CC.out ?_
  refine yA 10 rfl (λK hK=> ?_)
  go_simp
  refine(pO.out w.drew hH).mono ?_
  rintro e zp2 ⟨⟨sv,rfl,hsv⟩,hb⟩
  obtain⟨ha,hc,rfl, -⟩:=zh.slice hsv
  have zp3:Below w.heap.size w zp2:=zG hH hb
  refine hK.out _ _ zp3 (λ_=> ?_)
  clear hK K hb hH
  refine yA 12 rfl (λK hK=> ?_)
  go_simp
  refine(ze7 zp2 _ hs hsv v).mono ?_
  rintro e z1i ⟨he,hyx⟩
  rw [hcv] at he
  subst he
  have hb:Below zp2.heap.size zp2 z1i:=by rw [hyx];exact Below.refl _ _
  clear hyx hsv
  have zw6:Below w.heap.size w z1i:=zG zp3 hb
  refine hK.out _ _ zw6 (λ_=> ?_)
  clear hK K hb zp3
  refine zu 13 CC.out ?_
  refine xQ ?_
  go_wp2_with fail
  go_ret
  rw [zP.out]
  exact wP (zw6.mono yx.out)
 have hcv:hs.contains v=true:=by simpa using hv
 obtain⟨hv0,hv1,tn,htk⟩:=HH.out hv
 rw [if_pos hv,htk]
 simp only [Option.getD_some]
 obtain⟨rest,hrest⟩:∃l,l=(takeB buf v).2:=⟨_,rfl⟩
 rw [<-hrest] at htk ⊢
 clear hrest
 obtain⟨vn,rfl⟩:∃k:Nat,v=(k:Int):=⟨v.toNat,by omega⟩
 have gJ:vn<mem.length:=by omega
 simp only [Int.toNat_natCast]
 have zfu:Hid (∀x,Below w.heap.size w x->Calls Tryz.prog 109 #[.slice ua un uc, .int .i64 (vn:Int)] x λe w'=>(∃xa xc,e= .returned (.tuple #[.agg #[.int .i64 (vn:Int), .int .i64 tn], .slice xa rest.length xc, .bool true])/\w'.ownsRow x.heap.size 50 2 (.slice xa rest.length xc) rest.length (zo zk.cells rest))/\Below x.heap.size x w'):=λx hx=>(j3.out x _ (HR.out.below hx)).mono (by
  rintro e w' ⟨⟨sv,he,hbf,hrow⟩,hb⟩
  rw [htk] at he hbf hrow
  obtain⟨xa,xc,rfl, -⟩:=zh.slice hbf
  exact⟨⟨xa,xc,he,hrow rfl⟩,hb⟩)
 clear htk hv hv0
 clear j3 HH
 obtain⟨res,hres⟩:∃r:Option (zA × List Int × Bool),r=some (⟨pc, [r0,r1,r2,r3],rest⟩,mem.set vn tn,bad):=⟨_,rfl⟩
 rw [<-hres]
 have zP:=qh hres
 clear hres
 go_enter Tryz.func82,Tryz.ntmps82
 go_upto_region 1 with fail
 refine vV (S:=λx=>Below w.heap.size w x) ((Below.refl _ _).drew) (λhH=> ?_)
 refine zu 0 CC.out ?_
 refine zu 1 CC.out ?_
 refine zu 2 CC.out ?_
 refine zu 3 CC.out ?_
 refine zu 4 CC.out ?_
 refine zu 5 CC.out ?_
 refine zu 6 CC.out ?_
 refine zu 7 CC.out ?_
 refine zu 8 CC.out ?_
 refine zu 9 CC.out ?_
 refine zu 11 CC.out ?_
 refine yA 10 rfl (λK hK=> ?_)
 go_simp
 refine(pO.out w.drew hH).mono ?_
 rintro e zp4 ⟨⟨sv,rfl,hsv⟩,hb⟩
 obtain⟨ha,hc,rfl, -⟩:=zh.slice hsv
 have zp5:Below w.heap.size w zp4:=zG hH hb
 refine hK.out _ _ zp5 (λ_=> ?_)
 clear hK K hb hH
 refine yA 12 rfl (λK hK=> ?_)
 go_simp
 refine(ze7 zp4 _ hs hsv (vn:Int)).mono ?_
 rintro e zmh ⟨he,hyx⟩
 rw [hcv] at he
 subst he
 have hb:Below zp4.heap.size zp4 zmh:=by rw [hyx];exact Below.refl _ _
 clear hyx hsv
 have zkg:Below w.heap.size w zmh:=zG zp5 hb
 refine hK.out _ _ zkg (λ_=> ?_)
 clear hK K hb zp5
 refine zu 13 CC.out ?_
 refine xQ ?_
 have c5:zmh.cell? ⟨gr,5,none⟩=some (.slice ua un uc):=(CC.out _ zkg).1
 have HY:=qh zkg
 clear zkg hcv
 go_wp2_with fail
 refine(zfu.out zmh HY.out).mono ?_
 rintro e w3 ⟨⟨xa,xc,rfl,hrow⟩,hb3⟩
 clear c5
 have vT:=qh hrow
 have H3:Hid (Below w.heap.size w w3):=zG HY.out hb3
 clear hrow hb3
 have HA:=qh ((Below.refl w3.heap.size w3).alloc (Nat.le_refl _) (.cells #[.int .i64 (vn:Int), .int .i64 tn] 50))
 have HX:=qh (yj w3 (.cells #[.int .i64 (vn:Int), .int .i64 tn] 50))
 go_upto_region 4 with fail
 generalize World.alloc w3 _=X at HA HX ⊢
 obtain⟨gx,hgx⟩:∃g,g=w3.heap.size:=⟨_,rfl⟩
 rw [<-hgx] at HX ⊢
 have HG:Hid (gx≠gr/\gx≠mb):=by
  have h1:=zx HR.out.block
  have h2:=HR.out.gy.2
  have h3:=H3.out.size
  exact⟨by omega,by omega⟩
 clear hgx
 have HWX:Hid (Below w.heap.size w X):=zG H3.out HA.out
 have bO:=qh (HR.out.below (HWX.out.drew))
 have HRB:=qh (bO.out.zpQ (V:=zmh) (uj:= .slice xa rest.length xc) (buf':=rest) ⟨Nat.lt_of_lt_of_le (zx HR.out.block) HY.out.size,Nat.lt_of_lt_of_le HR.out.gy.2 HY.out.size⟩ (xO vT.out HA.out.drew))
 have HRC:=qh (HRB.out.zdk vn tn)
 have HBC:Hid (Below B w ((X.drew.setCell ⟨gr,5,none⟩ (.slice xa rest.length xc)).setCell ⟨mb,vn,none⟩ (.int .i64 tn))):=((HWX.out.drew.mono yx.out).setCell (p:=⟨gr,5,none⟩) HR.out.base _).setCell (p:=⟨mb,vn,none⟩) HR.out.gy.1 _
 have HS0:Hid (Since (λk=>k=gr\/k=mb) X X.drew/\X.drew.cell? ⟨gr,9,none⟩=some (.slice (some ⟨mb,0,none⟩) mem.length mc)):=⟨(Since.refl _ X).drew,ze bO.out.block 9⟩
 have qD:Hid (Since (λk=>k=gr\/k=mb) X (X.drew.setCell ⟨gr,5,none⟩ (.slice xa rest.length xc))/\(X.drew.setCell ⟨gr,5,none⟩ (.slice xa rest.length xc)).cell? ⟨gr,9,none⟩=some (.slice (some ⟨mb,0,none⟩) mem.length mc)):=⟨Since.setCell (p:=⟨gr,5,none⟩) HS0.out.1 (.inl (.inl rfl)) _,ze HRB.out.block 9⟩
 have HS2:Hid (Since (λk=>k=gr\/k=mb) X ((X.drew.setCell ⟨gr,5,none⟩ (.slice xa rest.length xc)).setCell ⟨mb,vn,none⟩ (.int .i64 tn))/\((X.drew.setCell ⟨gr,5,none⟩ (.slice xa rest.length xc)).setCell ⟨mb,vn,none⟩ (.int .i64 tn)).cell? ⟨gr,9,none⟩=some (.slice (some ⟨mb,0,none⟩) mem.length mc)):=⟨Since.setCell (p:=⟨mb,vn,none⟩) qD.out.1 (.inl (.inr rfl)) _,by
  have:=ze HRC.out.block 9
  rw [List.length_set] at this
  exact this⟩
 have C4:Hid (∀x,(Since (λk=>k=gr\/k=mb) X x/\x.cell? ⟨gr,9,none⟩=some (.slice (some ⟨mb,0,none⟩) mem.length mc))->x.cell? ⟨gr,9,none⟩=some (.slice (some ⟨mb,0,none⟩) mem.length mc)/\x.cell? ⟨gx,0,none⟩=some (.int .i64 (vn:Int))/\x.cell? ⟨gx,1,none⟩=some (.int .i64 tn)):=λx hx=>⟨hx.2,(hx.1.cell (p:=⟨gx,0,none⟩) (zx HX.out) (λe=>e.elim HG.out.1 HG.out.2)).trans (ze HX.out 0),(hx.1.cell (p:=⟨gx,1,none⟩) (zx HX.out) (λe=>e.elim HG.out.1 HG.out.2)).trans (ze HX.out 1)⟩
 have q0:X.drew.cell? ⟨gr,5,none⟩=some (.slice ua un uc):=ze bO.out.block 5
 have q1:X.drew.frozen? ⟨gr,5,none⟩=false:=zB bO.out.block 5
 refine vV (S:=λx=>Since (λk=>k=gr\/k=mb) X x/\x.cell? ⟨gr,9,none⟩=some (.slice (some ⟨mb,0,none⟩) mem.length mc)) (HS0.out) (λhS=> ?_)
 refine zu 0 C4.out ?_
 refine zu 1 C4.out ?_
 refine zu 2 C4.out ?_
 refine zu 3 C4.out ?_
 refine zu 4 C4.out ?_
 refine zu 5 C4.out ?_
 refine zu 6 C4.out ?_
 refine zu 7 C4.out ?_
 refine zu 8 C4.out ?_
 refine zu 9 C4.out ?_
 refine zu 10 C4.out ?_
 refine zu 11 C4.out ?_
 refine zu 12 C4.out ?_
 refine yA 13 rfl (λK hK=> ?_)
 go_simp
 have zw7:=qD.out
 clear q0 q1
 have q2:(X.setCell ⟨gr,5,none⟩ (.slice xa rest.length xc)).cell? ⟨mb,vn,none⟩=some (.int .i64 (mem.getD vn 0)):=(HRB.out.uy gJ).1
 have q3:X.frozen? ⟨mb,vn,none⟩=false:=((HR.out.below HWX.out).uy gJ).2
 refine hK.out _ _ zw7 (λ_=> ?_)
 clear hK K hS
 refine zu 14 C4.out ?_
 refine yA 15 rfl (λK hK=> ?_)
 go_simp
 have z1P:=HS2.out
 clear q2 q3
 refine hK.out _ _ z1P (λ_=> ?_)
 clear hK K zw7
 refine xQ ?_
 go_wp2_with fail
 go_ret
 rw [zP.out]
 exact j4 HRC.out HBC.out
