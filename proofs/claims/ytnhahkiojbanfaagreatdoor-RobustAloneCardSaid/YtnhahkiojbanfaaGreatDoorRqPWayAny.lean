/- Steps. -/
import Derived.Test.YtnhahkiojbanfaaGreatDoorRqPClone
import Derived.Test.YtnhahkiojbanfaaGreatDoorRqPHeads
import Derived.Test.YtnhahkiojbanfaaGreatDoorRqPWays2
import Derived.Test.YtnhahkiojbanfaaGreatDoorRqPWays3
import Derived.Test.YtnhahkiojbanfaaGreatDoorRqPWays4
set_option linter.all false
namespace Go.Proofs.YtnhahkiojbanfaaGreatDoor
open Go.RowKit
set_option maxRecDepth 100000
set_option maxHeartbeats 16000000
variable {v0:Value}
def wyL:List (Int × Value):= [(1, .func (.func 120) #[] #[]),(2, .func (.func 121) #[] #[]),(3, .func (.func 122) #[] #[]),(4, .func (.func 123) #[] #[]),(5, .func (.func 124) #[] #[]),(6, .func (.func 125) #[] #[]),(7, .func (.func 126) #[] #[]),(8, .func (.func 127) #[] #[]),(9, .func (.func 128) #[] #[]),(12, .func (.func 129) #[] #[]),(13, .func (.func 130) #[] #[])]
theorem zoe (w:World):Calls Tryz.prog 99 #[] w (zie wyL w):=by
 have hmm:= @run_makeMap Tryz.prog
 have h0:yB (w.alloc (.map #[] 0)) w.heap.size [] :=⟨#[],0,zS w _,rfl⟩
 have hB0:Below w.heap.size w (w.alloc (.map #[] 0)):=(Below.refl _ _).alloc (Nat.le_refl _) _
 go_enter Tryz.func99,Tryz.ntmps99
 go_wp2_with(refine qw _ rfl _ _ _ 171 rfl 3 170 .i64 Tryz.underlying171 Tryz.underlying3 w.heap.size _ rfl _ rfl _ rfl h0 ?_;clear h0;intro w1 h0 hs1 hz1;replace hB0:=hB0.trans (hs1.below hB0.size (λk hk=>by omega));clear hs1 hz1)
 go_ret
 exact⟨w.heap.size,rfl,h0,Nat.le_refl _,hB0⟩
def zlE (k:Int):Prop:=k=1\/k=2\/k=3\/k=4\/k=5\/k=6\/k=7\/k=8\/k=9\/k=12\/k=13
theorem zqj {w:World} {B gr mb mc:Nat} {pc r0 r1 r2 r3:Int} {buf:List zl} {bv:Value} {m:zu} {c:zx} {s:zi} (h:yx v0 w B gr (pc+1) r0 r1 r2 r3 buf bv m c.domain s.mem mb mc s.bad) (hB:B<=w.heap.size) (hd1:1<=c.domain) (hd2:c.domain<=1000) (d:Nat) (x:zC) (ka kb:Value) (ha:zw d w x.a ka) (hb:zw d w x.b kb)
  (yO:0<=x.reg/\x.reg<4) (hvar:0<=x.var/\x.var<(s.mem.length:Int)) (hbl:buf.length<=1000000) (hop:zlE x.op):
  ∃f,qd wyL x.op=some (.func (.func f) #[] #[])/\(∀args W,(callFunc f args).run Tryz.prog W= .ok (.enter f args) W)/\
   Calls Tryz.prog f #[.pointer (some ⟨gr,0,none⟩),xw x ka kb] w λe w'=>xG v0 w B gr m c.domain mb mc (stepT c m s ⟨pc, [r0,r1,r2,r3],buf⟩ x d) e w':=by
 rcases hop with k|k|k|k|k|k|k|k|k|k|k
 ·exact⟨_,by rw [k];rfl,λ_ _=>rfl,by rw [uh k];exact znS h hB hd1 hd2 d x ka kb ha hb yO hvar hbl⟩
 ·refine⟨_,by rw [k];rfl,λ_ _=>rfl, ?_⟩
  have hw:=zl8 h hB hd1 hd2 d x ka kb ha hb yO hvar hbl
  by_cases hm:m.model=0
  ·rw [jF k hm];simp only [if_pos hm] at hw;exact hw
  simp only [if_neg hm] at hw
  cases hp:qQ buf m ⟨x.var,zW [r0,r1,r2,r3] c.domain d x.a⟩ with
  |true=>rw [zah k hm hp];simp only [hp,if_true] at hw;exact hw
  |false=>rw [zai k hm hp];simp only [hp,Bool.false_eq_true,if_false] at hw;exact hw
 ·exact⟨_,by rw [k];rfl,λ_ _=>rfl,by rw [za5 k];exact zqb h hB hd1 hd2 d x ka kb ha hb yO hvar hbl⟩
 ·exact⟨_,by rw [k];rfl,λ_ _=>rfl,by rw [uZ k];exact zkY h hB hd1 hd2 d x ka kb ha hb yO hvar hbl⟩
 ·exact⟨_,by rw [k];rfl,λ_ _=>rfl,by rw [pz k];exact zmD h hB hd1 hd2 d x ka kb ha hb yO hvar hbl⟩
 ·refine⟨_,by rw [k];rfl,λ_ _=>rfl, ?_⟩
  have hw:=zqa h hB hd1 hd2 d x ka kb ha hb yO hvar hbl
  by_cases hv:s.mem.getD x.var.toNat 0=zW [r0,r1,r2,r3] c.domain d x.a
  ·rw [p8 k hv];simp only [if_pos hv] at hw;exact hw
  rw [p9 k hv];simp only [if_neg hv] at hw;exact hw
 ·exact⟨_,by rw [k];rfl,λ_ _=>rfl,by rw [pE k];exact znR h hB hd1 hd2 d x ka kb ha hb yO hvar hbl⟩
 ·exact⟨_,by rw [k];rfl,λ_ _=>rfl,by rw [uj k];exact zjm h hB hd1 hd2 d x ka kb ha hb yO hvar hbl⟩
 ·exact⟨_,by rw [k];rfl,λ_ _=>rfl,by rw [uo k];exact zjl h hB hd1 hd2 d x ka kb ha hb yO hvar hbl⟩
 ·refine⟨_,by rw [k];rfl,λ_ _=>rfl, ?_⟩
  have hw:=zjk h hB hd1 hd2 d x ka kb ha hb yO hvar hbl
  rw [uq k]
  by_cases hv:zW [r0,r1,r2,r3] c.domain d x.a=0
  ·simp only [if_pos hv] at hw ⊢;exact hw
  simp only [if_neg hv] at hw ⊢;exact hw
 exact⟨_,by rw [k];rfl,λ_ _=>rfl,by rw [pF k];exact zmC h hB hd1 hd2 d x ka kb ha hb yO hvar hbl⟩
end Go.Proofs.YtnhahkiojbanfaaGreatDoor
namespace Go.Proofs.YtnhahkiojbanfaaGreatDoor
open Go.RowKit
set_option maxRecDepth 100000
set_option maxHeartbeats 16000000
variable {v0:Value}
theorem zqk:(Tryz.prog.info? 170).map (λi=>(i.zero,i.size,i.bytes))=some (some .nilFunc,1,8):=by kernel_rfl
theorem ziU (P:World):(zeroValue 170).run Tryz.prog P= .ok .nilFunc P:=by
 obtain⟨i0,hi,hz0,hz1,hz2⟩:=info_parts zqk
 simp [zeroValue,typeInfo,hi,hz0]
def zhx (n:Nat) (x:zC):Prop:=(0<=x.reg/\x.reg<4)/\(0<=x.var/\x.var<(n:Int))/\zlE x.op
theorem xG.told {w w':World} {B gr:Nat} {m:zu} {dom:Int} {mb mc:Nat} {res:Option (zA × List Int × Bool)} {e:Ending} (h:xG v0 w B gr m dom mb mc res e w'):∃b:Bool,e= .returned (.bool b)/\xG v0 w B gr m dom mb mc res (.returned (.bool b)) w':=by
 rcases h.2 with⟨-,he⟩|⟨t,mem,bad,bv, -,he, -⟩
 ·exact⟨false,he,he ▸ h⟩
 exact⟨true,he,he ▸ h⟩
theorem xG.base {w W w':World} {B gr:Nat} {m:zu} {dom:Int} {mb mc:Nat} {res:Option (zA × List Int × Bool)} {e:Ending} (h:xG v0 W B gr m dom mb mc res e w') (hb:Below B w W):xG v0 w B gr m dom mb mc res e w':=⟨hb.trans h.1,h.2⟩
theorem zm4 {w0 w:World} {B gr mb mc:Nat} {pc:Nat} {r0 r1 r2 r3:Int} {buf:List zl} {bv:Value} {m:zu} {c:zx} {s:zi} (h:yx v0 w B gr (pc:Int) r0 r1 r2 r3 buf bv m c.domain s.mem mb mc s.bad) (hB:B<=w.heap.size) (hd1:1<=c.domain) (hd2:c.domain<=1000) (d:Nat) (l:List zC) (lv:Value) (hl:j6 d w0 lv l) (h0:Below w0.heap.size w0 w) (hB0:w0.heap.size<=B)
  (hx:∀j,j<l.length->zhx s.mem.length (l.getD j default)) (hbl:buf.length<=1000000):Calls Tryz.prog 83 #[.pointer (some ⟨gr,0,none⟩),lv] w λe w'=>
  xG v0 w B gr m c.domain mb mc (if (pc:Int)<(l.length:Int) then stepT c m s ⟨(pc:Int), [r0,r1,r2,r3],buf⟩ (l.getD pc default) d else none) e w':=by
 obtain⟨la,lc,rfl, -⟩:=zh.slice hl
 have hroom:=zh.room hl
 obtain⟨n,hn⟩:∃n,n=l.length:=⟨_,rfl⟩
 rw [<-hn] at hl hroom hx ⊢
 have HL:=qh hl
 have HN:=qh hn
 have HR:=qh h
 have yH:=qh hB
 have H0:=qh h0
 have HB0:=qh hB0
 clear h0 hB0
 have c0:w.cell? ⟨gr,0,none⟩=some (.int .i64 (pc:Int)):=ze h.block 0
 clear hl hn
 rcases Nat.lt_or_ge pc n with hlt|hlt
 rotate_left
 ·have hge:(n:Int)<=(pc:Int):=by omega
  rw [if_neg (by omega)]
  clear HL HR h hx hB
  go_enter Tryz.func83,Tryz.ntmps83
  go_wp2_with fail
  go_ret
  exact jA (Below.refl _ _)
 have vY:(pc:Int)<(n:Int):=by omega
 have hwr:IntKind.i64.wrap ((pc:Int)+1)=(pc:Int)+1:=IntWalk.i64_in _ (by omega)
 clear hroom
 rw [if_pos vY]
 obtain⟨eb,eo,aa,ac,ba,bc,zZ, -,⟨x0,x1,x2⟩,⟨x3,x4,x5,x6⟩,⟨x7,x8,x9,x10⟩,bH,xa,xb⟩:=j6.part HL.out pc (by rw [<-HN.out];exact hlt)
 subst zZ
 have hfx:=hx pc hlt
 replace x0:=zk H0.out _ _ x0
 replace x1:=zk H0.out _ _ x1
 replace x2:=zk H0.out _ _ x2
 replace x3:=zk H0.out _ _ x3
 replace x4:=zk H0.out _ _ x4
 replace x5:=zk H0.out _ _ x5
 replace x6:=zk H0.out _ _ x6
 replace x7:=zk H0.out _ _ x7
 replace x8:=zk H0.out _ _ x8
 replace x9:=zk H0.out _ _ x9
 replace x10:=zk H0.out _ _ x10
 replace bH:=zk H0.out _ _ bH
 obtain⟨x,hxx⟩:∃x,x=l.getD pc default:=⟨_,rfl⟩
 rw [<-hxx] at x0 x1 x2 x3 x4 x5 x6 x7 x8 x9 x10 bH xa xb hfx ⊢
 have wR:=λW V (hV:yx v0 W B gr ((pc:Int)+1) r0 r1 r2 r3 buf V m c.domain s.mem mb mc s.bad) (hW:B<=W.heap.size) (ha:zw d W x.a (.slice aa x.a.kids.length ac)) (hb:zw d W x.b (.slice ba x.b.kids.length bc))=>zqj hV hW hd1 hd2 d x _ _ ha hb hfx.1 hfx.2.1 hbl hfx.2.2
 unfold xw at wR
 have hxa:=λW (hW:Below w0.heap.size w0 W)=>xa.below hW
 have hxb:=λW (hW:Below w0.heap.size w0 W)=>xb.below hW
 clear xa xb hfx hxx
 obtain⟨res,hres⟩:∃r,r=stepT c m s ⟨(pc:Int), [r0,r1,r2,r3],buf⟩ x d:=⟨_,rfl⟩
 rw [<-hres] at wR ⊢
 clear hres
 obtain⟨op,reg,v,a,b,yt⟩:=x
 simp only [] at x0 x1 x2 x3 x4 x5 x6 x7 x8 x9 x10 bH wR hxa hxb ⊢
 obtain⟨al,hal⟩:∃n,n=a.kids.length:=⟨_,rfl⟩
 obtain⟨bl,ziE⟩:∃n,n=b.kids.length:=⟨_,rfl⟩
 obtain⟨ak,hak⟩:∃n,n=a.kind:=⟨_,rfl⟩
 obtain⟨an,han⟩:∃n,n=a.n:=⟨_,rfl⟩
 obtain⟨ao,hao⟩:∃n,n=a.op:=⟨_,rfl⟩
 obtain⟨bk,hbk⟩:∃n,n=b.kind:=⟨_,rfl⟩
 obtain⟨bn,hbn⟩:∃n,n=b.n:=⟨_,rfl⟩
 obtain⟨bo,hbo⟩:∃n,n=b.op:=⟨_,rfl⟩
 rw [<-hak] at x3 wR
 rw [<-han] at x4 wR
 rw [<-hao] at x5 wR
 rw [<-hal] at x6 wR hxa
 rw [<-hbk] at x7 wR
 rw [<-hbn] at x8 wR
 rw [<-hbo] at x9 wR
 rw [<-ziE] at x10 wR hxb
 clear hak han hao hal hbk hbn hbo ziE
 have zew:=qh wR
 have HXA:=qh hxa
 have HXB:=qh hxb
 have HA:=qh ((Below.refl w.heap.size w).alloc (Nat.le_refl _) (.cells #[.int .i64 op, .int .i64 reg, .int .i64 v, .int .i64 ak, .int .i64 an, .int .u8 ao, .slice aa al ac, .int .i64 bk, .int .i64 bn, .int .u8 bo, .slice ba bl bc, .int .i64 yt] 60))
 have HX:=qh (zS w (.cells #[.int .i64 op, .int .i64 reg, .int .i64 v, .int .i64 ak, .int .i64 an, .int .u8 ao, .slice aa al ac, .int .i64 bk, .int .i64 bn, .int .u8 bo, .slice ba bl bc, .int .i64 yt] 60))
 clear wR hxa hxb h hB hx HL
 go_enter Tryz.func83,Tryz.ntmps83
 go_upto_region 4 with fail
 generalize World.alloc w _=X at HA HX ⊢
 obtain⟨gi,hgi⟩:∃g,g=w.heap.size:=⟨_,rfl⟩
 rw [<-hgi] at HX ⊢
 have HNG:=qh (show gi≠gr by have:=zy HR.out.block;omega)
 clear hgi c0 x0 x1 x2 x3 x4 x5 x6 x7 x8 x9 x10 bH
 have wM:=qh (HR.out.below HA.out)
 have d0:X.cell? ⟨gr,0,none⟩=some (.int .i64 (pc:Int)):=ze wM.out.block 0
 have f0:X.frozen? ⟨gr,0,none⟩=false:=zK wM.out.block 0
 go_upto_region 5 with fail
 clear d0 f0
 have HRY:=qh (wM.out.zkD ((pc:Int)+1))
 have uN:Hid (Below B w (X.setCell ⟨gr,0,none⟩ (.int .i64 ((pc:Int)+1)))):=(HA.out.mono yH.out).setCell (p:=⟨gr,0,none⟩) HR.out.base _
 have HSY:Hid (Since (λk=>k=gr) X (X.setCell ⟨gr,0,none⟩ (.int .i64 ((pc:Int)+1)))):=Since.setCell (F:=λk=>k=gr) (p:=⟨gr,0,none⟩) (Since.refl _ _) (.inl rfl) _
 have HEX:Hid (zw d (X.setCell ⟨gr,0,none⟩ (.int .i64 ((pc:Int)+1))) a (.slice aa al ac)/\zw d (X.setCell ⟨gr,0,none⟩ (.int .i64 ((pc:Int)+1))) b (.slice ba bl bc)):=⟨(HXA.out _ (H0.out.trans (uN.out.mono HB0.out))),(HXB.out _ (H0.out.trans (uN.out.mono HB0.out)))⟩
 generalize World.setCell X ⟨gr,0,none⟩ _=Y at HRY uN HSY HEX ⊢
 have hYB:B<=Y.heap.size:=Nat.le_trans yH.out uN.out.size
 obtain⟨f,hmf,hfn, -⟩:=zew.out Y _ HRY.out hYB HEX.out.1 HEX.out.2
 have hrun:Hid (∀W,Below Y.heap.size Y W->Calls Tryz.prog f #[.pointer (some ⟨gr,0,none⟩), .agg #[.int .i64 op, .int .i64 reg, .int .i64 v, .int .i64 ak, .int .i64 an, .int .u8 ao, .slice aa al ac, .int .i64 bk, .int .i64 bn, .int .u8 bo, .slice ba bl bc, .int .i64 yt]] W λe w'=>xG v0 W B gr m c.domain mb mc res e w'):=λW hW=>by
  obtain⟨f',zvr, -,hc⟩:=zew.out W _ (HRY.out.below hW) (Nat.le_trans hYB hW.size) (HEX.out.1.below hW) (HEX.out.2.below hW)
  rw [hmf] at zvr
  cases zvr
  exact hc
 have CC:Hid (∀x,Below Y.heap.size Y x->x.cell? ⟨gi,0,none⟩=some (.int .i64 op)/\x.cell? ⟨gi,1,none⟩=some (.int .i64 reg)/\x.cell? ⟨gi,2,none⟩=some (.int .i64 v)/\x.cell? ⟨gi,3,none⟩=some (.int .i64 ak)/\x.cell? ⟨gi,4,none⟩=some (.int .i64 an)/\x.cell? ⟨gi,5,none⟩=some (.int .u8 ao)/\x.cell? ⟨gi,6,none⟩=some (.slice aa al ac)/\x.cell? ⟨gi,7,none⟩=some (.int .i64 bk)/\x.cell? ⟨gi,8,none⟩=some (.int .i64 bn)/\x.cell? ⟨gi,9,none⟩=some (.int .u8 bo)/\x.cell? ⟨gi,10,none⟩=some (.slice ba bl bc)/\x.cell? ⟨gi,11,none⟩=some (.int .i64 yt)):=λx hx=>by
  have k:=λ(i:Nat) (u:Value) (hv:(#[.int .i64 op, .int .i64 reg, .int .i64 v, .int .i64 ak, .int .i64 an, .int .u8 ao, .slice aa al ac, .int .i64 bk, .int .i64 bn, .int .u8 bo, .slice ba bl bc, .int .i64 yt] :Array Value)[i]? =some u)=>zk hx _ _ ((HSY.out.cell (p:=⟨gi,i,none⟩) (zy HX.out) HNG.out).trans ((ze HX.out i).trans hv))
  exact⟨k 0 _ rfl,k 1 _ rfl,k 2 _ rfl,k 3 _ rfl,k 4 _ rfl,k 5 _ rfl,k 6 _ rfl,k 7 _ rfl,k 8 _ rfl,k 9 _ rfl,k 10 _ rfl,k 11 _ rfl⟩
 have HMF:=qh hmf
 clear hmf zew HXA HXB
 refine wp_region_noPanic ?_
 refine yh (n0:=6) (S:=λx=>Below Y.heap.size Y x) (by kernel_rfl) ((Below.refl _ _).drew) (λhT=> ?_)
 refine zJ 1 (λ_=>hT) ?_
 refine qP [3,6,7] 2 CC.out hT ?_
 refine zJ 4 (λ_=>hT) ?_
 refine qP [6,7] 5 CC.out hT ?_
 refine qx 0 rfl (λK hK=> ?_)
 go_simp
 refine(zoe Y.drew).mono ?_
 rintro e tw0 ⟨mp,rfl,hmi, -,hb⟩
 have hlk:=vR hmi Tryz.underlying171 Tryz.underlying3 (ziU tw0) op false
 rw [HMF.out] at hlk
 simp only [Option.getD_some,Bool.false_eq_true,if_false] at hlk
 clear hmi
 have hT0:Below Y.heap.size Y tw0:=zM hT hb
 refine hK.out _ _ (λ_ _=>hT0) ?_
 clear hK K hb hT
 refine qx 3 rfl (λK hK=> ?_)
 go_simp
 refine hK.out _ _ (λ_ _=>hT0) ?_
 clear hK K
 refine qx 6 rfl (λK hK=> ?_)
 go_simp
 clear hlk
 refine(hrun.out tw0 hT0).mono ?_
 rintro e tw6 hwe
 have hbx:Below B Y tw0:=hT0.mono hYB
 obtain⟨bb,rfl,hwe⟩:=hwe.told
 have HWE:=qh (hwe.base (uN.out.trans hbx))
 clear hwe hbx
 refine hK.out _ _ (λh=>absurd rfl h) ?_
 clear hK K
 refine zJ 7 (λh=>absurd h (by decide+kernel)) ?_
 refine yA (by kernel_rfl) ?_ _
 refine NoPanic.normal ?_
 clear hfn
 go_wp2_with fail
 go_ret
 exact HWE.out
theorem zkG {w:World} {B gr mb mc:Nat} {pc r0 r1 r2 r3 dom:Int} {buf:List zl} {bv:Value} {m:zu} {mem:List Int} {bad:Bool} (h:yx v0 w B gr pc r0 r1 r2 r3 buf bv m dom mem mb mc bad) (hB:B<=w.heap.size) (hbl:buf.length<=1000000) (v:Int)
  (hh:v∈yE buf m.model->0<=v/\v<(mem.length:Int)/\∃n,takeB buf v=(some ⟨v,n⟩,(takeB buf v).2)):Calls Tryz.prog 84 #[.pointer (some ⟨gr,0,none⟩), .int .i64 v] w λe w'=>
  xG v0 w B gr m dom mb mc (if v∈yE buf m.model then some (⟨pc, [r0,r1,r2,r3],(takeB buf v).2⟩,mem.set v.toNat ((takeB buf v).1.getD default).n,bad) else none) e w':=by
 have ziV:=λW V (hV:yx v0 W B gr pc r0 r1 r2 r3 buf V m dom mem mb mc bad)=>zmg W V buf hV.qm hbl m.model
 have htake:=λW V (hV:yx v0 W B gr pc r0 r1 r2 r3 buf V m dom mem mb mc bad)=>znX W V buf hV.qm hbl v
 obtain⟨ua,uc,rfl, -⟩:=zh.slice h.qm
 obtain⟨hs,hhs⟩:∃l,l=yE buf m.model:=⟨_,rfl⟩
 rw [<-hhs] at hh ziV ⊢
 obtain⟨un,hun⟩:∃n,n=buf.length:=⟨_,rfl⟩
 rw [<-hun] at h
 have HUN:=qh hun
 have HR:=qh h
 have yH:=qh hB
 have zbu:Hid (∀x,Below w.heap.size w x->Calls Tryz.prog 62 #[.slice ua un uc, .int .i64 m.model] x λe w'=>(∃sv,e= .returned sv/\qI w' sv hs)/\Below x.heap.size x w'):=λx hx=>ziV x _ (HR.out.below hx)
 have CC:Hid (∀x,Below w.heap.size w x->x.cell? ⟨gr,5,none⟩=some (.slice ua un uc)/\x.cell? ⟨gr,6,none⟩=some (.int .i64 m.model)):=λx hx=>⟨zk hx _ _ (ze HR.out.block 5),zk hx _ _ (ze HR.out.block 6)⟩
 have HH:=qh hh
 have jm:=qh htake
 clear ziV htake hhs hun h hB hh hbl
 by_cases hv:v∈hs
 rotate_left
 ·have hcv:hs.contains v=false:=by simpa using hv
  rw [if_neg hv]
  clear hv
  clear jm HH
  obtain⟨res,hres⟩:∃r:Option (zA × List Int × Bool),r=none:=⟨_,rfl⟩
  rw [<-hres]
  have yK:=qh hres
  clear hres
  go_enter Tryz.func84,Tryz.ntmps84
  go_upto_region 1 with fail
  refine gX (S:=λx=>Below w.heap.size w x) ((Below.refl _ _).drew) (λhH=> ?_)
  refine zB 0 CC.out ?_
  refine zB 1 CC.out ?_
  refine zB 2 CC.out ?_
  refine zB 3 CC.out ?_
  refine zB 4 CC.out ?_
  refine zB 5 CC.out ?_
  refine zB 6 CC.out ?_
  refine zB 7 CC.out ?_
  refine zB 8 CC.out ?_
  refine zB 9 CC.out ?_
  refine zB 11 CC.out ?_
  refine yZ 10 rfl (λK hK=> ?_)
  go_simp
  refine(zbu.out w.drew hH).mono ?_
  rintro e zmh ⟨⟨sv,rfl,hsv⟩,hb⟩
  obtain⟨ha,hc,rfl, -⟩:=zh.slice hsv
  have zmi:Below w.heap.size w zmh:=zM hH hb
  refine hK.out _ _ zmi (λ_=> ?_)
  clear hK K hb hH
  refine yZ 12 rfl (λK hK=> ?_)
  go_simp
  refine(zcb zmh _ hs hsv v).mono ?_
  rintro e zvs ⟨he,hyx⟩
  rw [hcv] at he
  subst he
  have hb:Below zmh.heap.size zmh zvs:=by rw [hyx];exact Below.refl _ _
  clear hyx hsv
  have zrG:Below w.heap.size w zvs:=zM zmi hb
  refine hK.out _ _ zrG (λ_=> ?_)
  clear hK K hb zmi
  refine zB 13 CC.out ?_
  refine vN ?_
  go_wp2_with fail
  go_ret
  rw [yK.out]
  exact jA (zrG.mono yH.out)
 have hcv:hs.contains v=true:=by simpa using hv
 obtain⟨hv0,hv1,tn,htk⟩:=HH.out hv
 rw [if_pos hv,htk]
 simp only [Option.getD_some]
 obtain⟨rest,hrest⟩:∃l,l=(takeB buf v).2:=⟨_,rfl⟩
 rw [<-hrest] at htk ⊢
 clear hrest
 obtain⟨vn,rfl⟩:∃k:Nat,v=(k:Int):=⟨v.toNat,by omega⟩
 have kW:vn<mem.length:=by omega
 simp only [Int.toNat_natCast]
 have zvX:Hid (∀x,Below w.heap.size w x->Calls Tryz.prog 101 #[.slice ua un uc, .int .i64 (vn:Int)] x λe w'=>(∃xa xc,e= .returned (.tuple #[.agg #[.int .i64 (vn:Int), .int .i64 tn], .slice xa rest.length xc, .bool true])/\w'.ownsRow x.heap.size 110 2 (.slice xa rest.length xc) rest.length (zq zl.cells rest))/\Below x.heap.size x w'):=λx hx=>(jm.out x _ (HR.out.below hx)).mono (by
  rintro e w' ⟨⟨sv,he,hbf,hrow⟩,hb⟩
  rw [htk] at he hbf hrow
  obtain⟨xa,xc,rfl, -⟩:=zh.slice hbf
  exact⟨⟨xa,xc,he,hrow rfl⟩,hb⟩)
 clear htk hv hv0
 clear jm HH
 obtain⟨res,hres⟩:∃r:Option (zA × List Int × Bool),r=some (⟨pc, [r0,r1,r2,r3],rest⟩,mem.set vn tn,bad):=⟨_,rfl⟩
 rw [<-hres]
 have yK:=qh hres
 clear hres
 go_enter Tryz.func84,Tryz.ntmps84
 go_upto_region 1 with fail
 refine gX (S:=λx=>Below w.heap.size w x) ((Below.refl _ _).drew) (λhH=> ?_)
 refine zB 0 CC.out ?_
 refine zB 1 CC.out ?_
 refine zB 2 CC.out ?_
 refine zB 3 CC.out ?_
 refine zB 4 CC.out ?_
 refine zB 5 CC.out ?_
 refine zB 6 CC.out ?_
 refine zB 7 CC.out ?_
 refine zB 8 CC.out ?_
 refine zB 9 CC.out ?_
 refine zB 11 CC.out ?_
 refine yZ 10 rfl (λK hK=> ?_)
 go_simp
 refine(zbu.out w.drew hH).mono ?_
 rintro e zmj ⟨⟨sv,rfl,hsv⟩,hb⟩
 obtain⟨ha,hc,rfl, -⟩:=zh.slice hsv
 have zmk:Below w.heap.size w zmj:=zM hH hb
 refine hK.out _ _ zmk (λ_=> ?_)
 clear hK K hb hH
 refine yZ 12 rfl (λK hK=> ?_)
 go_simp
 refine(zcb zmj _ hs hsv (vn:Int)).mono ?_
 rintro e ziW ⟨he,hyx⟩
 rw [hcv] at he
 subst he
 have hb:Below zmj.heap.size zmj ziW:=by rw [hyx];exact Below.refl _ _
 clear hyx hsv
 have zhs:Below w.heap.size w ziW:=zM zmk hb
 refine hK.out _ _ zhs (λ_=> ?_)
 clear hK K hb zmk
 refine zB 13 CC.out ?_
 refine vN ?_
 have c5:ziW.cell? ⟨gr,5,none⟩=some (.slice ua un uc):=(CC.out _ zhs).1
 have HY:=qh zhs
 clear zhs hcv
 go_wp2_with fail
 refine(zvX.out ziW HY.out).mono ?_
 rintro e w3 ⟨⟨xa,xc,rfl,hrow⟩,hb3⟩
 clear c5
 have je:=qh hrow
 have H3:Hid (Below w.heap.size w w3):=zM HY.out hb3
 clear hrow hb3
 have HA:=qh ((Below.refl w3.heap.size w3).alloc (Nat.le_refl _) (.cells #[.int .i64 (vn:Int), .int .i64 tn] 110))
 have HX:=qh (zS w3 (.cells #[.int .i64 (vn:Int), .int .i64 tn] 110))
 go_upto_region 4 with fail
 generalize World.alloc w3 _=X at HA HX ⊢
 obtain⟨gx,hgx⟩:∃g,g=w3.heap.size:=⟨_,rfl⟩
 rw [<-hgx] at HX ⊢
 have HG:Hid (gx≠gr/\gx≠mb):=by
  have h1:=zy HR.out.block
  have h2:=HR.out.jD.2
  have h3:=H3.out.size
  exact⟨by omega,by omega⟩
 clear hgx
 have bN:Hid (Below w.heap.size w X):=zM H3.out HA.out
 have wM:=qh (HR.out.below (bN.out.drew))
 have HRB:=qh (wM.out.zm0 (V:=ziW) (bW:= .slice xa rest.length xc) (buf':=rest) ⟨Nat.lt_of_lt_of_le (zy HR.out.block) HY.out.size,Nat.lt_of_lt_of_le HR.out.jD.2 HY.out.size⟩ (qC je.out HA.out.drew))
 have HRC:=qh (HRB.out.zaZ vn tn)
 have HBC:Hid (Below B w ((X.drew.setCell ⟨gr,5,none⟩ (.slice xa rest.length xc)).setCell ⟨mb,vn,none⟩ (.int .i64 tn))):=((bN.out.drew.mono yH.out).setCell (p:=⟨gr,5,none⟩) HR.out.base _).setCell (p:=⟨mb,vn,none⟩) HR.out.jD.1 _
 have HS0:Hid (Since (λk=>k=gr\/k=mb) X X.drew/\X.drew.cell? ⟨gr,9,none⟩=some (.slice (some ⟨mb,0,none⟩) mem.length mc)):=⟨(Since.refl _ X).drew,ze wM.out.block 9⟩
 have HS1:Hid (Since (λk=>k=gr\/k=mb) X (X.drew.setCell ⟨gr,5,none⟩ (.slice xa rest.length xc))/\(X.drew.setCell ⟨gr,5,none⟩ (.slice xa rest.length xc)).cell? ⟨gr,9,none⟩=some (.slice (some ⟨mb,0,none⟩) mem.length mc)):=⟨Since.setCell (p:=⟨gr,5,none⟩) HS0.out.1 (.inl (.inl rfl)) _,ze HRB.out.block 9⟩
 have HS2:Hid (Since (λk=>k=gr\/k=mb) X ((X.drew.setCell ⟨gr,5,none⟩ (.slice xa rest.length xc)).setCell ⟨mb,vn,none⟩ (.int .i64 tn))/\((X.drew.setCell ⟨gr,5,none⟩ (.slice xa rest.length xc)).setCell ⟨mb,vn,none⟩ (.int .i64 tn)).cell? ⟨gr,9,none⟩=some (.slice (some ⟨mb,0,none⟩) mem.length mc)):=⟨Since.setCell (p:=⟨mb,vn,none⟩) HS1.out.1 (.inl (.inr rfl)) _,by
  have:=ze HRC.out.block 9
  rw [List.length_set] at this
  exact this⟩
 have C4:Hid (∀x,(Since (λk=>k=gr\/k=mb) X x/\x.cell? ⟨gr,9,none⟩=some (.slice (some ⟨mb,0,none⟩) mem.length mc))->x.cell? ⟨gr,9,none⟩=some (.slice (some ⟨mb,0,none⟩) mem.length mc)/\x.cell? ⟨gx,0,none⟩=some (.int .i64 (vn:Int))/\x.cell? ⟨gx,1,none⟩=some (.int .i64 tn)):=λx hx=>⟨hx.2,(hx.1.cell (p:=⟨gx,0,none⟩) (zy HX.out) (λe=>e.elim HG.out.1 HG.out.2)).trans (ze HX.out 0),(hx.1.cell (p:=⟨gx,1,none⟩) (zy HX.out) (λe=>e.elim HG.out.1 HG.out.2)).trans (ze HX.out 1)⟩
 have q0:X.drew.cell? ⟨gr,5,none⟩=some (.slice ua un uc):=ze wM.out.block 5
 have q1:X.drew.frozen? ⟨gr,5,none⟩=false:=zK wM.out.block 5
 refine gX (S:=λx=>Since (λk=>k=gr\/k=mb) X x/\x.cell? ⟨gr,9,none⟩=some (.slice (some ⟨mb,0,none⟩) mem.length mc)) (HS0.out) (λhS=> ?_)
 refine zB 0 C4.out ?_
 refine zB 1 C4.out ?_
 refine zB 2 C4.out ?_
 refine zB 3 C4.out ?_
 refine zB 4 C4.out ?_
 refine zB 5 C4.out ?_
 refine zB 6 C4.out ?_
 refine zB 7 C4.out ?_
 refine zB 8 C4.out ?_
 refine zB 9 C4.out ?_
 refine zB 10 C4.out ?_
 refine zB 11 C4.out ?_
 refine zB 12 C4.out ?_
 refine yZ 13 rfl (λK hK=> ?_)
 go_simp
 have zrH:=HS1.out
 clear q0 q1
 have q2:(X.setCell ⟨gr,5,none⟩ (.slice xa rest.length xc)).cell? ⟨mb,vn,none⟩=some (.int .i64 (mem.getD vn 0)):=(HRB.out.kD kW).1
 have q3:X.frozen? ⟨mb,vn,none⟩=false:=((HR.out.below bN.out).kD kW).2
 refine hK.out _ _ zrH (λ_=> ?_)
 clear hK K hS
 refine zB 14 C4.out ?_
 refine yZ 15 rfl (λK hK=> ?_)
 go_simp
 have zvY:=HS2.out
 clear q2 q3
 refine hK.out _ _ zvY (λ_=> ?_)
 clear hK K zrH
 refine vN ?_
 go_wp2_with fail
 go_ret
 rw [yK.out]
 exact qV HRC.out HBC.out
