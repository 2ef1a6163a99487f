/- Steps. -/
import Derived.Test.YtnhahkiojbanfaaGreatDoorRyPHeads
import Derived.Test.YtnhahkiojbanfaaGreatDoorRyPWays4
set_option linter.all false
namespace Go.Proofs.YtnhahkiojbanfaaGreatDoor
open Go.RowKit
set_option maxRecDepth 100000
set_option maxHeartbeats 16000000
variable {v0:Value}
theorem ztT:(Tryz.prog.info? 170).map (λi=>(i.zero,i.size,i.bytes))=some (some .nilFunc,1,8):=by kernel_rfl
theorem zlv (P:World):(zeroValue 170).run Tryz.prog P= .ok .nilFunc P:=by
 obtain⟨i0,hi,hz0,hz1,hz2⟩:=info_parts ztT
 simp [zeroValue,typeInfo,hi,hz0]
def zlw (n:Nat) (x:zV):Prop:=(0<=x.reg/\x.reg<4)/\(0<=x.var/\x.var<(n:Int))/\zoZ x.op
theorem qK.told {w w':World} {B gr:Nat} {m:zG} {dom:Int} {mb mc:Nat} {res:Option (zy × List Int × Bool)} {e:Ending} (h:qK v0 w B gr m dom mb mc res e w'):∃b:Bool,e= .returned (.bool b)/\qK v0 w B gr m dom mb mc res (.returned (.bool b)) w':=by
 rcases h.2 with⟨-,he⟩|⟨t,mem,bad,bv, -,he, -⟩
 ·exact⟨false,he,he ▸ h⟩
 exact⟨true,he,he ▸ h⟩
theorem qK.base {w W w':World} {B gr:Nat} {m:zG} {dom:Int} {mb mc:Nat} {res:Option (zy × List Int × Bool)} {e:Ending} (h:qK v0 W B gr m dom mb mc res e w') (hb:Below B w W):qK v0 w B gr m dom mb mc res e w':=⟨hb.trans h.1,h.2⟩
theorem zqY {w0 w:World} {B gr mb mc:Nat} {pc:Nat} {r0 r1 r2 r3:Int} {buf:List zl} {bv:Value} {m:zG} {c:zI} {s:zk} (h:xE v0 w B gr (pc:Int) r0 r1 r2 r3 buf bv m c.domain s.mem mb mc s.bad) (hB:B<=w.heap.size) (hd1:1<=c.domain) (hd2:c.domain<=1000) (d:Nat) (l:List zV) (lv:Value) (hl:wZ d w0 lv l) (h0:Below w0.heap.size w0 w) (hB0:w0.heap.size<=B)
  (hx:∀j,j<l.length->zlw s.mem.length (l.getD j default)) (hbl:buf.length<=1000000):Calls Tryz.prog 83 #[.pointer (some ⟨gr,0,none⟩),lv] w λe w'=>
  qK v0 w B gr m c.domain mb mc (if (pc:Int)<(l.length:Int) then stepT c m s ⟨(pc:Int), [r0,r1,r2,r3],buf⟩ (l.getD pc default) d else none) e w':=by
 obtain⟨la,lc,rfl, -⟩:=zh.slice hl
 have hroom:=zh.room hl
 obtain⟨n,hn⟩:∃n,n=l.length:=⟨_,rfl⟩
 rw [<-hn] at hl hroom hx ⊢
 have HL:=qh hl
 have HN:=qh hn
 have HR:=qh h
 have yQ:=qh hB
 have H0:=qh h0
 have HB0:=qh hB0
 clear h0 hB0
 have c0:w.cell? ⟨gr,0,none⟩=some (.int .i64 (pc:Int)):=ze h.block 0
 clear hl hn
 rcases Nat.lt_or_ge pc n with hlt|hlt
 rotate_left
 ·have hge:(n:Int)<=(pc:Int):=by omega
  rw [if_neg (by omega)]
  clear HL HR h hx hB
  go_enter Tryz.func83,Tryz.ntmps83
  go_wp2_with fail
  go_ret
  exact gu (Below.refl _ _)
 have qA:(pc:Int)<(n:Int):=by omega
 have hwr:IntKind.i64.wrap ((pc:Int)+1)=(pc:Int)+1:=IntWalk.i64_in _ (by omega)
 clear hroom
 rw [if_pos qA]
 obtain⟨eb,eo,aa,ac,ba,bc,yg, -,⟨x0,x1,x2⟩,⟨x3,x4,x5,x6⟩,⟨x7,x8,x9,x10⟩,gB,xa,xb⟩:=wZ.part HL.out pc (by rw [<-HN.out];exact hlt)
 subst yg
 have hfx:=hx pc hlt
 replace x0:=zi H0.out _ _ x0
 replace x1:=zi H0.out _ _ x1
 replace x2:=zi H0.out _ _ x2
 replace x3:=zi H0.out _ _ x3
 replace x4:=zi H0.out _ _ x4
 replace x5:=zi H0.out _ _ x5
 replace x6:=zi H0.out _ _ x6
 replace x7:=zi H0.out _ _ x7
 replace x8:=zi H0.out _ _ x8
 replace x9:=zi H0.out _ _ x9
 replace x10:=zi H0.out _ _ x10
 replace gB:=zi H0.out _ _ gB
 obtain⟨x,hxx⟩:∃x,x=l.getD pc default:=⟨_,rfl⟩
 rw [<-hxx] at x0 x1 x2 x3 x4 x5 x6 x7 x8 x9 x10 gB xa xb hfx ⊢
 have uy:=λW V (hV:xE v0 W B gr ((pc:Int)+1) r0 r1 r2 r3 buf V m c.domain s.mem mb mc s.bad) (hW:B<=W.heap.size) (ha:zF d W x.a (.slice aa x.a.kids.length ac)) (hb:zF d W x.b (.slice ba x.b.kids.length bc))=>ztU hV hW hd1 hd2 d x _ _ ha hb hfx.1 hfx.2.1 hbl hfx.2.2
 unfold qH at uy
 have hxa:=λW (hW:Below w0.heap.size w0 W)=>xa.below hW
 have hxb:=λW (hW:Below w0.heap.size w0 W)=>xb.below hW
 clear xa xb hfx hxx
 obtain⟨res,hres⟩:∃r,r=stepT c m s ⟨(pc:Int), [r0,r1,r2,r3],buf⟩ x d:=⟨_,rfl⟩
 rw [<-hres] at uy ⊢
 clear hres
 obtain⟨op,reg,v,a,b,yH⟩:=x
 simp only [] at x0 x1 x2 x3 x4 x5 x6 x7 x8 x9 x10 gB uy hxa hxb ⊢
 obtain⟨al,hal⟩:∃n,n=a.kids.length:=⟨_,rfl⟩
 obtain⟨bl,kH⟩:∃n,n=b.kids.length:=⟨_,rfl⟩
 obtain⟨ak,hak⟩:∃n,n=a.kind:=⟨_,rfl⟩
 obtain⟨an,han⟩:∃n,n=a.n:=⟨_,rfl⟩
 obtain⟨ao,hao⟩:∃n,n=a.op:=⟨_,rfl⟩
 obtain⟨bk,hbk⟩:∃n,n=b.kind:=⟨_,rfl⟩
 obtain⟨bn,hbn⟩:∃n,n=b.n:=⟨_,rfl⟩
 obtain⟨bo,hbo⟩:∃n,n=b.op:=⟨_,rfl⟩
 rw [<-hak] at x3 uy
 rw [<-han] at x4 uy
 rw [<-hao] at x5 uy
 rw [<-hal] at x6 uy hxa
 rw [<-hbk] at x7 uy
 rw [<-hbn] at x8 uy
 rw [<-hbo] at x9 uy
 rw [<-kH] at x10 uy hxb
 clear hak han hao hal hbk hbn hbo kH
 have zgT:=qh uy
 have HXA:=qh hxa
 have HXB:=qh hxb
 have HA:=qh ((Below.refl w.heap.size w).alloc (Nat.le_refl _) (.cells #[.int .i64 op, .int .i64 reg, .int .i64 v, .int .i64 ak, .int .i64 an, .int .u8 ao, .slice aa al ac, .int .i64 bk, .int .i64 bn, .int .u8 bo, .slice ba bl bc, .int .i64 yH] 60))
 have HX:=qh (yh w (.cells #[.int .i64 op, .int .i64 reg, .int .i64 v, .int .i64 ak, .int .i64 an, .int .u8 ao, .slice aa al ac, .int .i64 bk, .int .i64 bn, .int .u8 bo, .slice ba bl bc, .int .i64 yH] 60))
 clear uy hxa hxb h hB hx HL
 go_enter Tryz.func83,Tryz.ntmps83
 go_upto_region 4 with fail
 generalize World.alloc w _=X at HA HX ⊢
 obtain⟨gi,hgi⟩:∃g,g=w.heap.size:=⟨_,rfl⟩
 rw [<-hgi] at HX ⊢
 have HNG:=qh (show gi≠gr by have:=zx HR.out.block;omega)
 clear hgi c0 x0 x1 x2 x3 x4 x5 x6 x7 x8 x9 x10 gB
 have pY:=qh (HR.out.below HA.out)
 have d0:X.cell? ⟨gr,0,none⟩=some (.int .i64 (pc:Int)):=ze pY.out.block 0
 have f0:X.frozen? ⟨gr,0,none⟩=false:=zA pY.out.block 0
 go_upto_region 5 with fail
 clear d0 f0
 have pX:=qh (pY.out.zpa ((pc:Int)+1))
 have jD:Hid (Below B w (X.setCell ⟨gr,0,none⟩ (.int .i64 ((pc:Int)+1)))):=(HA.out.mono yQ.out).setCell (p:=⟨gr,0,none⟩) HR.out.base _
 have HSY:Hid (Since (λk=>k=gr) X (X.setCell ⟨gr,0,none⟩ (.int .i64 ((pc:Int)+1)))):=Since.setCell (F:=λk=>k=gr) (p:=⟨gr,0,none⟩) (Since.refl _ _) (.inl rfl) _
 have HEX:Hid (zF d (X.setCell ⟨gr,0,none⟩ (.int .i64 ((pc:Int)+1))) a (.slice aa al ac)/\zF d (X.setCell ⟨gr,0,none⟩ (.int .i64 ((pc:Int)+1))) b (.slice ba bl bc)):=⟨(HXA.out _ (H0.out.trans (jD.out.mono HB0.out))),(HXB.out _ (H0.out.trans (jD.out.mono HB0.out)))⟩
 generalize World.setCell X ⟨gr,0,none⟩ _=Y at pX jD HSY HEX ⊢
 have hYB:B<=Y.heap.size:=Nat.le_trans yQ.out jD.out.size
 obtain⟨f,hmf,hfn, -⟩:=zgT.out Y _ pX.out hYB HEX.out.1 HEX.out.2
 have hrun:Hid (∀W,Below Y.heap.size Y W->Calls Tryz.prog f #[.pointer (some ⟨gr,0,none⟩), .agg #[.int .i64 op, .int .i64 reg, .int .i64 v, .int .i64 ak, .int .i64 an, .int .u8 ao, .slice aa al ac, .int .i64 bk, .int .i64 bn, .int .u8 bo, .slice ba bl bc, .int .i64 yH]] W λe w'=>qK v0 W B gr m c.domain mb mc res e w'):=λW hW=>by
  obtain⟨f',zyY, -,hc⟩:=zgT.out W _ (pX.out.below hW) (Nat.le_trans hYB hW.size) (HEX.out.1.below hW) (HEX.out.2.below hW)
  rw [hmf] at zyY
  cases zyY
  exact hc
 have CC:Hid (∀x,Below Y.heap.size Y x->x.cell? ⟨gi,0,none⟩=some (.int .i64 op)/\x.cell? ⟨gi,1,none⟩=some (.int .i64 reg)/\x.cell? ⟨gi,2,none⟩=some (.int .i64 v)/\x.cell? ⟨gi,3,none⟩=some (.int .i64 ak)/\x.cell? ⟨gi,4,none⟩=some (.int .i64 an)/\x.cell? ⟨gi,5,none⟩=some (.int .u8 ao)/\x.cell? ⟨gi,6,none⟩=some (.slice aa al ac)/\x.cell? ⟨gi,7,none⟩=some (.int .i64 bk)/\x.cell? ⟨gi,8,none⟩=some (.int .i64 bn)/\x.cell? ⟨gi,9,none⟩=some (.int .u8 bo)/\x.cell? ⟨gi,10,none⟩=some (.slice ba bl bc)/\x.cell? ⟨gi,11,none⟩=some (.int .i64 yH)):=λx hx=>by
  have k:=λ(i:Nat) (u:Value) (hv:(#[.int .i64 op, .int .i64 reg, .int .i64 v, .int .i64 ak, .int .i64 an, .int .u8 ao, .slice aa al ac, .int .i64 bk, .int .i64 bn, .int .u8 bo, .slice ba bl bc, .int .i64 yH] :Array Value)[i]? =some u)=>zi hx _ _ ((HSY.out.cell (p:=⟨gi,i,none⟩) (zx HX.out) HNG.out).trans ((ze HX.out i).trans hv))
  exact⟨k 0 _ rfl,k 1 _ rfl,k 2 _ rfl,k 3 _ rfl,k 4 _ rfl,k 5 _ rfl,k 6 _ rfl,k 7 _ rfl,k 8 _ rfl,k 9 _ rfl,k 10 _ rfl,k 11 _ rfl⟩
 have HMF:=qh hmf
 clear hmf zgT HXA HXB
 refine wp_region_noPanic ?_
 refine yY (n0:=6) (S:=λx=>Below Y.heap.size Y x) (by kernel_rfl) ((Below.refl _ _).drew) (λhT=> ?_)
 refine zU 1 (λ_=>hT) ?_
 refine jr [3,6,7] 2 CC.out hT ?_
 refine zU 4 (λ_=>hT) ?_
 refine jr [6,7] 5 CC.out hT ?_
 refine vM 0 rfl (λK hK=> ?_)
 go_simp
 refine(zra Y.drew).mono ?_
 rintro e tw0 ⟨mp,rfl,hmi, -,hb⟩
 have hlk:=kC hmi Tryz.underlying171 Tryz.underlying3 (zlv tw0) op false
 rw [HMF.out] at hlk
 simp only [Option.getD_some,Bool.false_eq_true,if_false] at hlk
 clear hmi
 have hT0:Below Y.heap.size Y tw0:=zD hT hb
 refine hK.out _ _ (λ_ _=>hT0) ?_
 clear hK K hb hT
 refine vM 3 rfl (λK hK=> ?_)
 go_simp
 refine hK.out _ _ (λ_ _=>hT0) ?_
 clear hK K
 refine vM 6 rfl (λK hK=> ?_)
 go_simp
 clear hlk
 refine(hrun.out tw0 hT0).mono ?_
 rintro e tw6 hwe
 have hbx:Below B Y tw0:=hT0.mono hYB
 obtain⟨bb,rfl,hwe⟩:=hwe.told
 have HWE:=qh (hwe.base (jD.out.trans hbx))
 clear hwe hbx
 refine hK.out _ _ (λh=>absurd rfl h) ?_
 clear hK K
 refine zU 7 (λh=>absurd h (by decide+kernel)) ?_
 refine xG (by kernel_rfl) ?_ _
 refine NoPanic.normal ?_
 clear hfn
 go_wp2_with fail
 go_ret
 exact HWE.out
theorem zpb {w:World} {B gr mb mc:Nat} {pc r0 r1 r2 r3 dom:Int} {buf:List zl} {bv:Value} {m:zG} {mem:List Int} {bad:Bool} (h:xE v0 w B gr pc r0 r1 r2 r3 buf bv m dom mem mb mc bad) (hB:B<=w.heap.size) (hbl:buf.length<=1000000) (v:Int)
  (hh:v∈yI buf m.model->0<=v/\v<(mem.length:Int)/\∃n,takeB buf v=(some ⟨v,n⟩,(takeB buf v).2)):Calls Tryz.prog 84 #[.pointer (some ⟨gr,0,none⟩), .int .i64 v] w λe w'=>
  qK v0 w B gr m dom mb mc (if v∈yI buf m.model then some (⟨pc, [r0,r1,r2,r3],(takeB buf v).2⟩,mem.set v.toNat ((takeB buf v).1.getD default).n,bad) else none) e w':=by
 have zlz:=λW V (hV:xE v0 W B gr pc r0 r1 r2 r3 buf V m dom mem mb mc bad)=>zpc W V buf hV.vB hbl m.model
 have htake:=λW V (hV:xE v0 W B gr pc r0 r1 r2 r3 buf V m dom mem mb mc bad)=>zrb W V buf hV.vB hbl v
 obtain⟨ua,uc,rfl, -⟩:=zh.slice h.vB
 obtain⟨hs,hhs⟩:∃l,l=yI buf m.model:=⟨_,rfl⟩
 rw [<-hhs] at hh zlz ⊢
 obtain⟨un,hun⟩:∃n,n=buf.length:=⟨_,rfl⟩
 rw [<-hun] at h
 have HUN:=qh hun
 have HR:=qh h
 have yQ:=qh hB
 have zal:Hid (∀x,Below w.heap.size w x->Calls Tryz.prog 62 #[.slice ua un uc, .int .i64 m.model] x λe w'=>(∃sv,e= .returned sv/\xU w' sv hs)/\Below x.heap.size x w'):=λx hx=>zlz x _ (HR.out.below hx)
 have CC:Hid (∀x,Below w.heap.size w x->x.cell? ⟨gr,5,none⟩=some (.slice ua un uc)/\x.cell? ⟨gr,6,none⟩=some (.int .i64 m.model)):=λx hx=>⟨zi hx _ _ (ze HR.out.block 5),zi hx _ _ (ze HR.out.block 6)⟩
 have HH:=qh hh
 have jy:=qh htake
 clear zlz htake hhs hun h hB hh hbl
 by_cases hv:v∈hs
 rotate_left
 ·have hcv:hs.contains v=false:=by simpa using hv
  rw [if_neg hv]
  clear hv
  clear jy HH
  obtain⟨res,hres⟩:∃r:Option (zy × List Int × Bool),r=none:=⟨_,rfl⟩
  rw [<-hres]
  have zQ:=qh hres
  clear hres
  go_enter Tryz.func84,Tryz.ntmps84
  go_upto_region 1 with fail
  refine vD (S:=λx=>Below w.heap.size w x) ((Below.refl _ _).drew) (λhH=> ?_)
  refine zw 0 CC.out ?_
  refine zw 1 CC.out ?_
  refine zw 2 CC.out ?_
  refine zw 3 CC.out ?_
  refine zw 4 CC.out ?_
  refine zw 5 CC.out ?_
  refine zw 6 CC.out ?_
  refine zw 7 CC.out ?_
  refine zw 8 CC.out ?_
  refine zw 9 CC.out ?_
  refine zw 11 CC.out ?_
  refine yj 10 rfl (λK hK=> ?_)
  go_simp
  refine(zal.out w.drew hH).mono ?_
  rintro e zpd ⟨⟨sv,rfl,hsv⟩,hb⟩
  obtain⟨ha,hc,rfl, -⟩:=zh.slice hsv
  have zpe:Below w.heap.size w zpd:=zD hH hb
  refine hK.out _ _ zpe (λ_=> ?_)
  clear hK K hb hH
  refine yj 12 rfl (λK hK=> ?_)
  go_simp
  refine(zeE zpd _ hs hsv v).mono ?_
  rintro e zza ⟨he,hyx⟩
  rw [hcv] at he
  subst he
  have hb:Below zpd.heap.size zpd zza:=by rw [hyx];exact Below.refl _ _
  clear hyx hsv
  have zw1:Below w.heap.size w zza:=zD zpe hb
  refine hK.out _ _ zw1 (λ_=> ?_)
  clear hK K hb zpe
  refine zw 13 CC.out ?_
  refine xP ?_
  go_wp2_with fail
  go_ret
  rw [zQ.out]
  exact gu (zw1.mono yQ.out)
 have hcv:hs.contains v=true:=by simpa using hv
 obtain⟨hv0,hv1,tn,htk⟩:=HH.out hv
 rw [if_pos hv,htk]
 simp only [Option.getD_some]
 obtain⟨rest,hrest⟩:∃l,l=(takeB buf v).2:=⟨_,rfl⟩
 rw [<-hrest] at htk ⊢
 clear hrest
 obtain⟨vn,rfl⟩:∃k:Nat,v=(k:Int):=⟨v.toNat,by omega⟩
 have ug:vn<mem.length:=by omega
 simp only [Int.toNat_natCast]
 have zfR:Hid (∀x,Below w.heap.size w x->Calls Tryz.prog 101 #[.slice ua un uc, .int .i64 (vn:Int)] x λe w'=>(∃xa xc,e= .returned (.tuple #[.agg #[.int .i64 (vn:Int), .int .i64 tn], .slice xa rest.length xc, .bool true])/\w'.ownsRow x.heap.size 110 2 (.slice xa rest.length xc) rest.length (zo zl.cells rest))/\Below x.heap.size x w'):=λx hx=>(jy.out x _ (HR.out.below hx)).mono (by
  rintro e w' ⟨⟨sv,he,hbf,hrow⟩,hb⟩
  rw [htk] at he hbf hrow
  obtain⟨xa,xc,rfl, -⟩:=zh.slice hbf
  exact⟨⟨xa,xc,he,hrow rfl⟩,hb⟩)
 clear htk hv hv0
 clear jy HH
 obtain⟨res,hres⟩:∃r:Option (zy × List Int × Bool),r=some (⟨pc, [r0,r1,r2,r3],rest⟩,mem.set vn tn,bad):=⟨_,rfl⟩
 rw [<-hres]
 have zQ:=qh hres
 clear hres
 go_enter Tryz.func84,Tryz.ntmps84
 go_upto_region 1 with fail
 refine vD (S:=λx=>Below w.heap.size w x) ((Below.refl _ _).drew) (λhH=> ?_)
 refine zw 0 CC.out ?_
 refine zw 1 CC.out ?_
 refine zw 2 CC.out ?_
 refine zw 3 CC.out ?_
 refine zw 4 CC.out ?_
 refine zw 5 CC.out ?_
 refine zw 6 CC.out ?_
 refine zw 7 CC.out ?_
 refine zw 8 CC.out ?_
 refine zw 9 CC.out ?_
 refine zw 11 CC.out ?_
 refine yj 10 rfl (λK hK=> ?_)
 go_simp
 refine(zal.out w.drew hH).mono ?_
 rintro e zpf ⟨⟨sv,rfl,hsv⟩,hb⟩
 obtain⟨ha,hc,rfl, -⟩:=zh.slice hsv
 have zpg:Below w.heap.size w zpf:=zD hH hb
 refine hK.out _ _ zpg (λ_=> ?_)
 clear hK K hb hH
 refine yj 12 rfl (λK hK=> ?_)
 go_simp
 refine(zeE zpf _ hs hsv (vn:Int)).mono ?_
 rintro e zl0 ⟨he,hyx⟩
 rw [hcv] at he
 subst he
 have hb:Below zpf.heap.size zpf zl0:=by rw [hyx];exact Below.refl _ _
 clear hyx hsv
 have zkN:Below w.heap.size w zl0:=zD zpg hb
 refine hK.out _ _ zkN (λ_=> ?_)
 clear hK K hb zpg
 refine zw 13 CC.out ?_
 refine xP ?_
 have c5:zl0.cell? ⟨gr,5,none⟩=some (.slice ua un uc):=(CC.out _ zkN).1
 have HY:=qh zkN
 clear zkN hcv
 go_wp2_with fail
 refine(zfR.out zl0 HY.out).mono ?_
 rintro e w3 ⟨⟨xa,xc,rfl,hrow⟩,hb3⟩
 clear c5
 have qW:=qh hrow
 have H3:Hid (Below w.heap.size w w3):=zD HY.out hb3
 clear hrow hb3
 have HA:=qh ((Below.refl w3.heap.size w3).alloc (Nat.le_refl _) (.cells #[.int .i64 (vn:Int), .int .i64 tn] 110))
 have HX:=qh (yh w3 (.cells #[.int .i64 (vn:Int), .int .i64 tn] 110))
 go_upto_region 4 with fail
 generalize World.alloc w3 _=X at HA HX ⊢
 obtain⟨gx,hgx⟩:∃g,g=w3.heap.size:=⟨_,rfl⟩
 rw [<-hgx] at HX ⊢
 have HG:Hid (gx≠gr/\gx≠mb):=by
  have h1:=zx HR.out.block
  have h2:=HR.out.gN.2
  have h3:=H3.out.size
  exact⟨by omega,by omega⟩
 clear hgx
 have HWX:Hid (Below w.heap.size w X):=zD H3.out HA.out
 have pY:=qh (HR.out.below (HWX.out.drew))
 have HRB:=qh (pY.out.zrc (V:=zl0) (bv':= .slice xa rest.length xc) (buf':=rest) ⟨Nat.lt_of_lt_of_le (zx HR.out.block) HY.out.size,Nat.lt_of_lt_of_le HR.out.gN.2 HY.out.size⟩ (xS qW.out HA.out.drew))
 have HRC:=qh (HRB.out.zd4 vn tn)
 have HBC:Hid (Below B w ((X.drew.setCell ⟨gr,5,none⟩ (.slice xa rest.length xc)).setCell ⟨mb,vn,none⟩ (.int .i64 tn))):=((HWX.out.drew.mono yQ.out).setCell (p:=⟨gr,5,none⟩) HR.out.base _).setCell (p:=⟨mb,vn,none⟩) HR.out.gN.1 _
 have HS0:Hid (Since (λk=>k=gr\/k=mb) X X.drew/\X.drew.cell? ⟨gr,9,none⟩=some (.slice (some ⟨mb,0,none⟩) mem.length mc)):=⟨(Since.refl _ X).drew,ze pY.out.block 9⟩
 have vL:Hid (Since (λk=>k=gr\/k=mb) X (X.drew.setCell ⟨gr,5,none⟩ (.slice xa rest.length xc))/\(X.drew.setCell ⟨gr,5,none⟩ (.slice xa rest.length xc)).cell? ⟨gr,9,none⟩=some (.slice (some ⟨mb,0,none⟩) mem.length mc)):=⟨Since.setCell (p:=⟨gr,5,none⟩) HS0.out.1 (.inl (.inl rfl)) _,ze HRB.out.block 9⟩
 have HS2:Hid (Since (λk=>k=gr\/k=mb) X ((X.drew.setCell ⟨gr,5,none⟩ (.slice xa rest.length xc)).setCell ⟨mb,vn,none⟩ (.int .i64 tn))/\((X.drew.setCell ⟨gr,5,none⟩ (.slice xa rest.length xc)).setCell ⟨mb,vn,none⟩ (.int .i64 tn)).cell? ⟨gr,9,none⟩=some (.slice (some ⟨mb,0,none⟩) mem.length mc)):=⟨Since.setCell (p:=⟨mb,vn,none⟩) vL.out.1 (.inl (.inr rfl)) _,by
  have:=ze HRC.out.block 9
  rw [List.length_set] at this
  exact this⟩
 have C4:Hid (∀x,(Since (λk=>k=gr\/k=mb) X x/\x.cell? ⟨gr,9,none⟩=some (.slice (some ⟨mb,0,none⟩) mem.length mc))->x.cell? ⟨gr,9,none⟩=some (.slice (some ⟨mb,0,none⟩) mem.length mc)/\x.cell? ⟨gx,0,none⟩=some (.int .i64 (vn:Int))/\x.cell? ⟨gx,1,none⟩=some (.int .i64 tn)):=λx hx=>⟨hx.2,(hx.1.cell (p:=⟨gx,0,none⟩) (zx HX.out) (λe=>e.elim HG.out.1 HG.out.2)).trans (ze HX.out 0),(hx.1.cell (p:=⟨gx,1,none⟩) (zx HX.out) (λe=>e.elim HG.out.1 HG.out.2)).trans (ze HX.out 1)⟩
 have q0:X.drew.cell? ⟨gr,5,none⟩=some (.slice ua un uc):=ze pY.out.block 5
 have q1:X.drew.frozen? ⟨gr,5,none⟩=false:=zA pY.out.block 5
 refine vD (S:=λx=>Since (λk=>k=gr\/k=mb) X x/\x.cell? ⟨gr,9,none⟩=some (.slice (some ⟨mb,0,none⟩) mem.length mc)) (HS0.out) (λhS=> ?_)
 refine zw 0 C4.out ?_
 refine zw 1 C4.out ?_
 refine zw 2 C4.out ?_
 refine zw 3 C4.out ?_
 refine zw 4 C4.out ?_
 refine zw 5 C4.out ?_
 refine zw 6 C4.out ?_
 refine zw 7 C4.out ?_
 refine zw 8 C4.out ?_
 refine zw 9 C4.out ?_
 refine zw 10 C4.out ?_
 refine zw 11 C4.out ?_
 refine zw 12 C4.out ?_
 refine yj 13 rfl (λK hK=> ?_)
 go_simp
 have zw2:=vL.out
 clear q0 q1
 have q2:(X.setCell ⟨gr,5,none⟩ (.slice xa rest.length xc)).cell? ⟨mb,vn,none⟩=some (.int .i64 (mem.getD vn 0)):=(HRB.out.uQ ug).1
 have q3:X.frozen? ⟨mb,vn,none⟩=false:=((HR.out.below HWX.out).uQ ug).2
 refine hK.out _ _ zw2 (λ_=> ?_)
 clear hK K hS
 refine zw 14 C4.out ?_
 refine yj 15 rfl (λK hK=> ?_)
 go_simp
 have z2B:=HS2.out
 clear q2 q3
 refine hK.out _ _ z2B (λ_=> ?_)
 clear hK K zw2
 refine xP ?_
 go_wp2_with fail
 go_ret
 rw [zQ.out]
 exact j5 HRC.out HBC.out
