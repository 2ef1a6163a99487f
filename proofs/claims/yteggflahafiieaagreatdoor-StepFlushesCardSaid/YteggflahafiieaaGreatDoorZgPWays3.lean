/- Steps. -/
import Derived.Test.YteggflahafiieaaGreatDoorZgPWays2
import Derived.Test.YteggflahafiieaaGreatDoorZgPWays4
set_option linter.all false
namespace Go.Proofs.YteggflahafiieaaGreatDoor
open Go.RowKit
set_option maxRecDepth 100000
set_option maxHeartbeats 16000000
variable {v0:Value}
theorem zrc {w:World} {B gr mb mc:Nat} {pc r0 r1 r2 r3 dom:Int} {buf:List zi} {bv:Value} {m:zF} {mem:List Int} {bad:Bool} (h:xq v0 w B gr pc r0 r1 r2 r3 buf bv m dom mem mb mc bad) (hB:B<=w.heap.size) (hd1:1<=dom) (hd2:dom<=1000) (d:Nat) (x:zT) (ka kb:Value) (ha:zx d w x.a ka) (hb:zx d w x.b kb)
  (xP:0<=x.reg/\x.reg<4) (hvar:0<=x.var/\x.var<(mem.length:Int)) (hbl:buf.length<=1000000):Calls Tryz.prog 128 #[.pointer (some ⟨gr,0,none⟩),qd x ka kb] w λe w'=>
  qo v0 w B gr m dom mb mc (if m.model=0 then some (⟨pc, [r0,r1,r2,r3],buf⟩,mem.set x.var.toNat (zZ [r0,r1,r2,r3] dom d x.a),bad) else if xY buf m ⟨x.var,zZ [r0,r1,r2,r3] dom d x.a⟩=true then some (⟨pc, [r0,r1,r2,r3],vF buf m ⟨x.var,zZ [r0,r1,r2,r3] dom d x.a⟩⟩,mem,bad) else none) e w':=by
 have yG:=λW V (hV:xq v0 W B gr pc r0 r1 r2 r3 buf V m dom mem mb mc bad) (hW:Below w.heap.size w W)=>bg hV hd1 hd2 d x.a ka (ha.below hW)
 obtain⟨aa,ac,rfl, -⟩:=ha.slice
 obtain⟨ba,bc,rfl, -⟩:=hb.slice
 obtain⟨ua,uc,rfl, -⟩:=ze.slice h.qJ
 obtain⟨op,reg,v,a,b,yA⟩:=x
 simp only [] at xP hvar ha hb yG ⊢
 obtain⟨reg,rfl⟩:∃k:Nat,reg=(k:Int):=⟨reg.toNat,by omega⟩
 obtain⟨v,rfl⟩:∃k:Nat,v=(k:Int):=⟨v.toNat,by omega⟩
 have hr4:reg<4:=by omega
 have kW:v<mem.length:=by omega
 have wX:(v:Int)<(mem.length:Int):=hvar.2
 have hrI:(reg:Int)<4:=xP.2
 try simp only [Int.toNat_natCast]
 clear ha hb
 unfold qd
 simp only []
 unfold xQ at yG
 generalize hva:zZ [r0,r1,r2,r3] dom d a=va at yG ⊢
 clear hva
 generalize a.kind=ak at yG ⊢
 generalize a.n=an at yG ⊢
 generalize a.op=ao at yG ⊢
 generalize a.kids.length=al at yG ⊢
 generalize b.kind=bk at ⊢
 generalize b.n=bn at ⊢
 generalize b.op=bo at ⊢
 generalize b.kids.length=bl at ⊢
 have HEA:=qh yG
 clear yG
 obtain⟨res,hres⟩:∃r:Option (zo × List Int × Bool),r=(if m.model=0 then some (⟨pc, [r0,r1,r2,r3],buf⟩,mem.set v (va),bad) else if xY buf m ⟨(v:Int),va⟩=true then some (⟨pc, [r0,r1,r2,r3],vF buf m ⟨(v:Int),va⟩⟩,mem,bad) else none):=⟨_,rfl⟩
 rw [<-hres]
 have zJ:=qh hres
 clear hres
 obtain⟨un,hun⟩:∃n,n=buf.length:=⟨_,rfl⟩
 rw [<-hun] at h hbl
 have HUN:=qh hun
 have HR:=qh h
 have yM:=qh hB
 have HA:=qh ((Below.refl w.heap.size w).alloc (Nat.le_refl _) (.cells #[.int .i64 op, .int .i64 (reg:Int), .int .i64 (v:Int), .int .i64 ak, .int .i64 an, .int .u8 ao, .slice aa al ac, .int .i64 bk, .int .i64 bn, .int .u8 bo, .slice ba bl bc, .int .i64 yA] 53))
 have HX:=qh (yE w (.cells #[.int .i64 op, .int .i64 (reg:Int), .int .i64 (v:Int), .int .i64 ak, .int .i64 an, .int .u8 ao, .slice aa al ac, .int .i64 bk, .int .i64 bn, .int .u8 bo, .slice ba bl bc, .int .i64 yA] 53))
 clear h hun hB
 go_enter Tryz.func128,Tryz.ntmps128
 go_upto_region 1 with fail
 generalize World.alloc w _=W at HA HX ⊢
 obtain⟨gi,hgi⟩:∃g,g=w.heap.size:=⟨_,rfl⟩
 rw [<-hgi] at HX ⊢
 clear hgi
 have HRW:=qh (HR.out.below HA.out)
 have vX:Hid (Below B w W):=HA.out.mono yM.out
 have CC:Hid (∀x,Below W.heap.size W x->x.cell? ⟨gi,2,none⟩=some (.int .i64 (v:Int))/\x.cell? ⟨gi,3,none⟩=some (.int .i64 ak)/\x.cell? ⟨gi,4,none⟩=some (.int .i64 an)/\x.cell? ⟨gi,5,none⟩=some (.int .u8 ao)/\x.cell? ⟨gi,6,none⟩=some (.slice aa al ac)/\x.cell? ⟨gr,5,none⟩=some (.slice ua un uc)/\x.cell? ⟨gr,6,none⟩=some (.int .i64 m.model)/\x.cell? ⟨gr,7,none⟩=some (.int .i64 m.bound)/\x.cell? ⟨gr,9,none⟩=some (.slice (some ⟨mb,0,none⟩) mem.length mc)):=λx hx=>⟨zh hx _ _ (za HX.out 2),zh hx _ _ (za HX.out 3),zh hx _ _ (za HX.out 4),zh hx _ _ (za HX.out 5),zh hx _ _ (za HX.out 6),zh hx _ _ (za HRW.out.block 5),zh hx _ _ (za HRW.out.block 6),zh hx _ _ (za HRW.out.block 7),zh hx _ _ (za HRW.out.block 9)⟩
 obtain⟨c0,c1,c2,c3,c4,c5,c6,c7,c8⟩:=CC.out W (Below.refl _ _)
 go_wp2_with fail
 refine(HEA.out W _ HRW.out HA.out).mono ?_
 rintro e w2 ⟨rfl,hb2⟩
 have HB2:=qh hb2
 have HR2:=qh (HRW.out.below hb2)
 have HBB:Hid (Below B w w2):=vX.out.trans (hb2.mono (Nat.le_trans yM.out HA.out.size))
 clear hb2 c0 c1 c2 c3 c4 c5 c6 c7 c8
 have C2:Hid (∀x,Below w2.heap.size w2 x->x.cell? ⟨gi,2,none⟩=some (.int .i64 (v:Int))/\x.cell? ⟨gr,5,none⟩=some (.slice ua un uc)/\x.cell? ⟨gr,6,none⟩=some (.int .i64 m.model)/\x.cell? ⟨gr,7,none⟩=some (.int .i64 m.bound)/\x.cell? ⟨gr,9,none⟩=some (.slice (some ⟨mb,0,none⟩) mem.length mc)):=λx hx=>⟨zh (zB HB2.out hx) _ _ (za HX.out 2),zh hx _ _ (za HR2.out.block 5),zh hx _ _ (za HR2.out.block 6),zh hx _ _ (za HR2.out.block 7),zh hx _ _ (za HR2.out.block 9)⟩
 obtain⟨-, -,e6, -, -⟩:=C2.out w2 (Below.refl _ _)
 by_cases hm:m.model=0
 ·have hm1:((m.model:Int)==0)=true:=by simp [hm]
  have HM:=qh hm
  clear hm
  go_upto_region 3 with fail
  clear e6 hm1
  refine wp_region_noPanic ?_
  refine yS (n0:=8) (S:=λx=>Below w2.heap.size w2 x) (by kernel_rfl) ((Below.refl _ _).drew) (λhT=> ?_)
  refine zP 0 (λ_=>hT) ?_
  refine zP 1 (λ_=>hT) ?_
  refine zP 2 (λ_=>hT) ?_
  refine vK [7,8] 3 C2.out hT ?_
  refine zP 4 (λ_=>hT) ?_
  refine vK [7,8] 5 C2.out hT ?_
  refine zP 6 (λ_=>hT) ?_
  refine zP 7 (λ_=>hT) ?_
  refine jD 8 rfl (λK hK=> ?_)
  obtain⟨q0,q1⟩:=(HR2.out.below hT).wR kW
  go_simp
  refine hK.out _ _ (λh=>absurd rfl h) ?_
  clear hK K
  refine xO (by kernel_rfl) ?_ _
  refine NoPanic.normal ?_
  clear q0 q1
  have HR3:=qh ((HR2.out.below hT).zcg v va)
  have HB3:Hid (Below B w (w2.drew.setCell ⟨mb,v,none⟩ (.int .i64 va))):=HBB.out.drew.setCell (p:=⟨mb,v,none⟩) HR2.out.kQ.1 _
  go_wp2_with fail
  go_ret
  rw [zJ.out,if_pos HM.out]
  exact vV HR3.out HB3.out
 have hm1:((m.model:Int)==0)=false:=by simp [hm]
 have HM:=qh hm
 clear hm
 have bM:Hid (∀x,Below w2.heap.size w2 x->Calls Tryz.prog 90 #[.slice ua un uc, .agg #[.int .i64 m.model, .int .i64 m.bound], .agg #[.int .i64 (v:Int), .int .i64 va]] x λe w'=>(∃wO,e= .returned (.tuple #[wO, .bool (xY buf m ⟨(v:Int),va⟩)])/\zW w' wO (vF buf m ⟨(v:Int),va⟩)/\(xY buf m ⟨(v:Int),va⟩=true->w'.ownsRow x.heap.size 136 2 wO (vF buf m ⟨(v:Int),va⟩).length (zl zi.cells (vF buf m ⟨(v:Int),va⟩))))/\Below x.heap.size x w'):=λx hx=>zoo x _ buf (HR2.out.below hx).qJ (by rw [<-HUN.out];exact hbl) m ⟨(v:Int),va⟩
 obtain⟨pb,hpb⟩:∃l,l=vF buf m ⟨(v:Int),va⟩:=⟨_,rfl⟩
 rw [<-hpb] at bM zJ
 clear hpb
 go_upto_region 5 with fail
 clear e6 hm1
 cases hok:xY buf m ⟨(v:Int),va⟩ with
 |true=>
  rw [hok] at bM zJ
  clear hok
  refine wp_region_noPanic ?_
  refine yS (n0:=21) (S:=λx=>Below w2.heap.size w2 x) (by kernel_rfl) ((Below.refl _ _).drew) (λhT=> ?_)
  refine zP 0 (λ_=>hT) ?_
  refine zP 1 (λ_=>hT) ?_
  refine zP 2 (λ_=>hT) ?_
  refine zP 3 (λ_=>hT) ?_
  refine zP 4 (λ_=>hT) ?_
  refine vK [14,15,16,17,18,19,20,21,22] 5 C2.out hT ?_
  refine zP 6 (λ_=>hT) ?_
  refine zP 7 (λ_=>hT) ?_
  refine zP 8 (λ_=>hT) ?_
  refine vK [14,15,16,17,18,19,20,21,22] 9 C2.out hT ?_
  refine zP 10 (λ_=>hT) ?_
  refine vK [13,14,15,16,17,18,19,20,21,22] 11 C2.out hT ?_
  refine zP 12 (λ_=>hT) ?_
  refine zP 13 (λ_=>hT) ?_
  refine jD 14 rfl (λK hK=> ?_)
  go_simp
  refine(bM.out w2.drew hT).mono ?_
  rintro e zcI ⟨⟨wO,rfl,hbf,hrow⟩,hb⟩
  obtain⟨xa,xc,rfl, -⟩:=ze.slice hbf
  have jh:=qh hrow
  clear hbf hrow
  have kT:Below w2.heap.size w2 zcI:=zB hT hb
  refine hK.out _ _ (λ_ _=>kT) ?_
  clear hK K hb hT
  refine zP 15 (λ_=>kT) ?_
  refine zP 16 (λ_=>kT) ?_
  refine zP 17 (λ_=>kT) ?_
  refine zP 18 (λ_=>kT) ?_
  refine zP 19 (λ_=>kT) ?_
  refine zP 20 (λ_=>kT) ?_
  refine jD 21 rfl (λK hK=> ?_)
  have HBK:=qh ((HR2.out.below kT).block)
  have q0:zcI.cell? ⟨gr,5,none⟩=some (.slice ua un uc):=za HBK.out 5
  have q1:zcI.frozen? ⟨gr,5,none⟩=false:=zw HBK.out 5
  go_simp
  refine hK.out _ _ (λh=>absurd rfl h) ?_
  clear hK K
  refine zP 22 (λh=>absurd h (by decide+kernel)) ?_
  refine xO (by kernel_rfl) ?_ _
  refine NoPanic.normal ?_
  clear q0 q1
  have HB3:Hid (Below B w (zcI.setCell ⟨gr,5,none⟩ (.slice xa pb.length xc))):=(HBB.out.trans (kT.mono (Nat.le_trans yM.out (Nat.le_trans HA.out.size HB2.out.size)))).setCell (p:=⟨gr,5,none⟩) HRW.out.base _
  have HR3:=qh ((HR2.out.below kT).zsL (V:=w2.drew) ⟨zq HR2.out.block,HR2.out.kQ.2⟩ (jh.out rfl))
  go_wp2_with fail
  go_ret
  first|rw [zJ.out,if_neg HM.out,if_pos rfl] |rw [zJ.out,if_neg HM.out,if_pos trivial]
  exact vV HR3.out HB3.out
 |false=>
 rw [hok] at bM zJ
 clear hok
 refine wp_region_noPanic ?_
 refine yS (n0:=21) (S:=λx=>Below w2.heap.size w2 x) (by kernel_rfl) ((Below.refl _ _).drew) (λhT=> ?_)
 refine zP 0 (λ_=>hT) ?_
 refine zP 1 (λ_=>hT) ?_
 refine zP 2 (λ_=>hT) ?_
 refine zP 3 (λ_=>hT) ?_
 refine zP 4 (λ_=>hT) ?_
 refine vK [14,15,16,17,18,19,20,21,22] 5 C2.out hT ?_
 refine zP 6 (λ_=>hT) ?_
 refine zP 7 (λ_=>hT) ?_
 refine zP 8 (λ_=>hT) ?_
 refine vK [14,15,16,17,18,19,20,21,22] 9 C2.out hT ?_
 refine zP 10 (λ_=>hT) ?_
 refine vK [13,14,15,16,17,18,19,20,21,22] 11 C2.out hT ?_
 refine zP 12 (λ_=>hT) ?_
 refine zP 13 (λ_=>hT) ?_
 refine jD 14 rfl (λK hK=> ?_)
 go_simp
 refine(bM.out w2.drew hT).mono ?_
 rintro e zbA ⟨⟨wO,rfl,hbf,hrow⟩,hb⟩
 obtain⟨xa,xc,rfl, -⟩:=ze.slice hbf
 have jh:=qh hrow
 clear hbf hrow
 have kT:Below w2.heap.size w2 zbA:=zB hT hb
 refine hK.out _ _ (λ_ _=>kT) ?_
 clear hK K hb hT
 refine zP 15 (λ_=>kT) ?_
 refine zP 16 (λ_=>kT) ?_
 refine zP 17 (λ_=>kT) ?_
 refine zP 18 (λ_=>kT) ?_
 refine zP 19 (λ_=>kT) ?_
 refine zP 20 (λ_=>kT) ?_
 refine jD 21 rfl (λK hK=> ?_)
 have HBK:=qh ((HR2.out.below kT).block)
 have q0:zbA.cell? ⟨gr,5,none⟩=some (.slice ua un uc):=za HBK.out 5
 have q1:zbA.frozen? ⟨gr,5,none⟩=false:=zw HBK.out 5
 go_simp
 refine hK.out _ _ (λh=>absurd rfl h) ?_
 clear hK K
 refine zP 22 (λh=>absurd h (by decide+kernel)) ?_
 refine xO (by kernel_rfl) ?_ _
 refine NoPanic.normal ?_
 clear q0 q1
 have HB3:Hid (Below B w (zbA.setCell ⟨gr,5,none⟩ (.slice xa pb.length xc))):=(HBB.out.trans (kT.mono (Nat.le_trans yM.out (Nat.le_trans HA.out.size HB2.out.size)))).setCell (p:=⟨gr,5,none⟩) HRW.out.base _
 go_wp2_with fail
 go_ret
 rw [zJ.out,if_neg HM.out,if_neg (λh=>by cases h)]
 exact kC HB3.out
end Go.Proofs.YteggflahafiieaaGreatDoor
namespace Go.Proofs.YteggflahafiieaaGreatDoor
open Go.RowKit
set_option maxRecDepth 100000
set_option maxHeartbeats 16000000
variable {v0:Value}
def wyL:List (Int × Value):= [(1, .func (.func 127) #[] #[]),(2, .func (.func 128) #[] #[]),(3, .func (.func 129) #[] #[]),(4, .func (.func 130) #[] #[]),(5, .func (.func 131) #[] #[]),(6, .func (.func 132) #[] #[]),(7, .func (.func 133) #[] #[]),(8, .func (.func 134) #[] #[]),(9, .func (.func 135) #[] #[]),(12, .func (.func 136) #[] #[]),(13, .func (.func 137) #[] #[])]
theorem zsK (w:World):Calls Tryz.prog 100 #[] w (znP wyL w):=by
 have hmm:= @run_makeMap Tryz.prog
 have h0:wQ (w.alloc (.map #[] 0)) w.heap.size [] :=⟨#[],0,yE w _,rfl⟩
 have hB0:Below w.heap.size w (w.alloc (.map #[] 0)):=(Below.refl _ _).alloc (Nat.le_refl _) _
 go_enter Tryz.func100,Tryz.ntmps100
 go_wp2_with(refine qU _ rfl _ _ _ 187 rfl 3 186 .i64 Tryz.underlying187 Tryz.underlying3 w.heap.size _ rfl _ rfl _ rfl h0 ?_;clear h0;intro w1 h0 hs1 hz1;replace hB0:=hB0.trans (hs1.below hB0.size (λk hk=>by omega));clear hs1 hz1)
 go_ret
 exact⟨w.heap.size,rfl,h0,Nat.le_refl _,hB0⟩
def zqJ (k:Int):Prop:=k=1\/k=2\/k=3\/k=4\/k=5\/k=6\/k=7\/k=8\/k=9\/k=12\/k=13
theorem zvr {w:World} {B gr mb mc:Nat} {pc r0 r1 r2 r3:Int} {buf:List zi} {bv:Value} {m:zF} {c:zK} {s:zm} (h:xq v0 w B gr (pc+1) r0 r1 r2 r3 buf bv m c.domain s.mem mb mc s.bad) (hB:B<=w.heap.size) (hd1:1<=c.domain) (hd2:c.domain<=1000) (d:Nat) (x:zT) (ka kb:Value) (ha:zx d w x.a ka) (hb:zx d w x.b kb)
  (xP:0<=x.reg/\x.reg<4) (hvar:0<=x.var/\x.var<(s.mem.length:Int)) (hbl:buf.length<=1000000) (hop:zqJ x.op):
  ∃f,wz wyL x.op=some (.func (.func f) #[] #[])/\(∀args W,(callFunc f args).run Tryz.prog W= .ok (.enter f args) W)/\
   Calls Tryz.prog f #[.pointer (some ⟨gr,0,none⟩),qd x ka kb] w λe w'=>qo v0 w B gr m c.domain mb mc (stepT c m s ⟨pc, [r0,r1,r2,r3],buf⟩ x d) e w':=by
 rcases hop with k|k|k|k|k|k|k|k|k|k|k
 ·exact⟨_,by rw [k];rfl,λ_ _=>rfl,by rw [kY k];exact zse h hB hd1 hd2 d x ka kb ha hb xP hvar hbl⟩
 ·refine⟨_,by rw [k];rfl,λ_ _=>rfl, ?_⟩
  have hw:=zrc h hB hd1 hd2 d x ka kb ha hb xP hvar hbl
  by_cases hm:m.model=0
  ·rw [kJ k hm];simp only [if_pos hm] at hw;exact hw
  simp only [if_neg hm] at hw
  cases hp:xY buf m ⟨x.var,zZ [r0,r1,r2,r3] c.domain d x.a⟩ with
  |true=>rw [kK k hm hp];simp only [hp,if_true] at hw;exact hw
  |false=>rw [kL k hm hp];simp only [hp,Bool.false_eq_true,if_false] at hw;exact hw
 ·exact⟨_,by rw [k];rfl,λ_ _=>rfl,by rw [uW k];exact zuJ h hB hd1 hd2 d x ka kb ha hb xP hvar hbl⟩
 ·exact⟨_,by rw [k];rfl,λ_ _=>rfl,by rw [ku k];exact zqS h hB hd1 hd2 d x ka kb ha hb xP hvar hbl⟩
 ·exact⟨_,by rw [k];rfl,λ_ _=>rfl,by rw [jV k];exact zsS h hB hd1 hd2 d x ka kb ha hb xP hvar hbl⟩
 ·refine⟨_,by rw [k];rfl,λ_ _=>rfl, ?_⟩
  have hw:=zv3 h hB hd1 hd2 d x ka kb ha hb xP hvar hbl
  by_cases hv:s.mem.getD x.var.toNat 0=zZ [r0,r1,r2,r3] c.domain d x.a
  ·rw [kZ k hv];simp only [if_pos hv] at hw;exact hw
  rw [wh k hv];simp only [if_neg hv] at hw;exact hw
 ·exact⟨_,by rw [k];rfl,λ_ _=>rfl,by rw [jW k];exact zsd h hB hd1 hd2 d x ka kb ha hb xP hvar hbl⟩
 ·exact⟨_,by rw [k];rfl,λ_ _=>rfl,by rw [jG k];exact zoJ h hB hd1 hd2 d x ka kb ha hb xP hvar hbl⟩
 ·exact⟨_,by rw [k];rfl,λ_ _=>rfl,by rw [jk k];exact zoI h hB hd1 hd2 d x ka kb ha hb xP hvar hbl⟩
 ·refine⟨_,by rw [k];rfl,λ_ _=>rfl, ?_⟩
  have hw:=zoH h hB hd1 hd2 d x ka kb ha hb xP hvar hbl
  rw [jH k]
  by_cases hv:zZ [r0,r1,r2,r3] c.domain d x.a=0
  ·simp only [if_pos hv] at hw ⊢;exact hw
  simp only [if_neg hv] at hw ⊢;exact hw
 exact⟨_,by rw [k];rfl,λ_ _=>rfl,by rw [gV k];exact zsR h hB hd1 hd2 d x ka kb ha hb xP hvar hbl⟩
