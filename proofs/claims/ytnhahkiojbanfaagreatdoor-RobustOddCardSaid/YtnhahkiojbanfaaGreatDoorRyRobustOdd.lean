/- Steps. -/
import Derived.Test.YtnhahkiojbanfaaGreatDoorRyAwake19
set_option linter.all false
namespace Go.Proofs.YtnhahkiojbanfaaGreatDoor
open Go.RowKit
set_option maxRecDepth 100000
set_option maxHeartbeats 16000000
theorem zk9 (w:World) (sv:Value) (l0:List Int) (hn:jv w .u8 sv l0) (hcap:∀a n c,sv= .slice a n c->n<=c) (m:zG) (room:Int) (dom:Int):
  Calls Tryz.prog 4 #[sv,xO m, .int .i64 room, .int .i64 dom] w λe w'=>e= .returned (.bool true)/\Below w.heap.size w w':=by
 obtain⟨sa,sc,rfl, -⟩:∃a c,sv= .slice a l0.length c/\True:=by obtain⟨a,c,h, -⟩:=hn;exact⟨a,c,h,trivial⟩
 obtain⟨mo,bo⟩:=m
 unfold xO
 dsimp only
 have hb0:=(Below.refl w.heap.size w).alloc (Nat.le_refl _) (.cells #[.int .i64 mo, .int .i64 bo] 29)
 have hsm:=zgy _ _ l0 (hn.below hb0) hcap
 have q1:=yh w (.cells #[.int .i64 mo, .int .i64 bo] 29)
 generalize l0.length=ln at hsm ⊢
 have HB0:=qh hb0
 have HSM:=qh hsm
 have Q1:=qh q1
 clear hn hcap hb0 hsm q1
 go_enter Tryz.func4,Tryz.ntmps4
 go_upto_region 1 with fail
 generalize World.alloc w _=W0 at HB0 HSM Q1 ⊢
 obtain⟨gm,hgm⟩:∃g,g=w.heap.size:=⟨_,rfl⟩
 rw [<-hgm] at Q1 ⊢
 clear hgm
 go_upto_region 2 with(go_at_call 7;go_must(refine(HSM.out).mono ?_);rintro en W1 ⟨⟨c,tv,rfl,hc,hok,hct⟩,hb⟩;(have HB1:=qh hb);(have HC1:=qh hc);(obtain⟨ca,cc,rfl, -⟩:=zh.slice hc);clear hb hc hok hct;unfold yO)
 obtain⟨r,hr⟩:∃r:Int,r=if 100<room/\room<=100000 then 100 else room:=⟨_,rfl⟩
 obtain⟨C,hC⟩:∃C:zI,C=⟨c.vars,dom,c.threads⟩:=⟨_,rfl⟩
 have hx1:=λy hy=>uS y C (.slice ca c.threads.length cc) 3 hy ⟨mo,bo⟩ r
 have hx2:=λy hy=>zgs y C (.slice ca c.threads.length cc) 3 hy ⟨mo,bo⟩ r
 obtain⟨⟨bl,ms,er⟩,hR⟩:∃p,p=qU C ⟨mo,bo⟩ r 3:=⟨_,rfl⟩
 rw [<-hR] at hx1 hx2
 clear hR
 subst hC
 unfold yO xO at hx1 hx2
 dsimp only at hx1 hx2
 generalize c.vars=vars at hx1 hx2 ⊢
 generalize c.domain=zzK
 generalize c.threads=cs at HC1 hx1 hx2 ⊢
 generalize cs.length=cn at HC1 hx1 hx2 ⊢
 clear c
 have HX1:=qh hx1
 have HX2:=qh hx2
 have HRR:=qh hr
 clear hx1 hx2 hr
 have ha:=(Below.refl W1.heap.size W1).alloc (Nat.le_refl _) (.cells #[.int .i64 vars, .int .i64 zzK, .slice ca cn cc] 26)
 have hz:=yh W1 (.cells #[.int .i64 vars, .int .i64 zzK, .slice ca cn cc] 26)
 have hw1:=HB1.out.trans (ha.mono HB1.out.size)
 have HBV:=qh (HB0.out.trans (hw1.mono HB0.out.size))
 have HAV:=qh ha
 have K1:=qh ((hw1.block _ (zx Q1.out)).trans Q1.out)
 have K3:=qh hz
 have HGW:Hid (w.heap.size<=W1.heap.size):=Nat.le_trans HB0.out.size HB1.out.size
 have HGN:Hid (gm≠W1.heap.size):=by
  have:=zx ((HB1.out.block _ (zx Q1.out)).trans Q1.out)
  exact Nat.ne_of_lt this
 clear ha hz hw1 HB0 HB1 Q1 HSM
 generalize World.alloc W1 _=V0 at HBV HAV K1 K3 ⊢
 obtain⟨gc,hgc⟩:∃g,g=W1.heap.size:=⟨_,rfl⟩
 have HGC:=qh hgc
 rw [<-hgc] at K3 HGW HGN ⊢
 clear hgc
 have k1:=ze K3.out 1
 have f1:=zA K3.out 1
 go_upto_region 3 with fail
 clear k1 f1
 have hs1:Since (λk=>k=gc) V0 (V0.setCell ⟨gc,1,none⟩ (.int .i64 dom)):=Since.setCell (F:=λk=>k=gc) (p:=⟨gc,1,none⟩) (Since.refl _ _) (.inl rfl) _
 have h3:(V0.setCell ⟨gc,1,none⟩ (.int .i64 dom)).heap[gc]? =some (.cells #[.int .i64 vars, .int .i64 dom, .slice ca cn cc] 26 (0,0)):=by have:=zu K3.out 1 (.int .i64 dom);simpa using this
 have h4:=(hs1.block _ (zx K1.out) HGN.out).trans K1.out
 have hbl:=HBV.out.trans (hs1.below HBV.out.size (λk hk=>by rw [hk];exact HGW.out))
 have hrows:yJ 3 (V0.setCell ⟨gc,1,none⟩ (.int .i64 dom)) (.slice ca cn cc) cs:=zh.below (qo.stays 3) HC1.out (HAV.out.trans (hs1.below HAV.out.size (λk hk=>by rw [hk,HGC.out];exact Nat.le_refl _)))
 have H3:=qh h3
 have H4:=qh h4
 have vH:=qh hbl
 have HRS:=qh hrows
 clear hs1 h3 h4 hbl hrows HBV HAV K1 K3 HGW HGN HGC HC1
 generalize World.setCell V0 _ _=V at H3 H4 vH HRS ⊢
 have CX:Hid (∀y,Below V.heap.size V y->y.cell? ⟨gc,0,none⟩=some (.int .i64 vars)/\y.cell? ⟨gc,1,none⟩=some (.int .i64 dom)/\y.cell? ⟨gc,2,none⟩=some (.slice ca cn cc)/\y.cell? ⟨gm,0,none⟩=some (.int .i64 mo)/\y.cell? ⟨gm,1,none⟩=some (.int .i64 bo)/\yJ 3 y (.slice ca cn cc) cs):=λy hy=>
  ⟨zi hy _ _ (ze H3.out 0),zi hy _ _ (ze H3.out 1),zi hy _ _ (ze H3.out 2),zi hy _ _ (ze H4.out 0),zi hy _ _ (ze H4.out 1),zh.below (qo.stays 3) HRS.out hy⟩
 clear H3 H4 HRS
 go_cut [25] (λs25 w'=>s25= .bool (decide (100<room/\room<=100000))/\w'=V)
 case first=>
  by_cases h1:100<room
  ·by_cases h2:room<=100000
   ·go_wp2_with fail
    go_meet
    case rel=>exact⟨congrArg Value.bool (decide_eq_true (p:=100<room/\room<=100000) ⟨h1,h2⟩).symm,rfl⟩
   replace h2:100000<room:=by omega
   go_wp2_with fail
   go_meet
   case rel=>exact⟨congrArg Value.bool (by rw [Bool.eq_iff_iff];first|(simp;omega)|simp [h1]),rfl⟩
  replace h1:room<=100:=by omega
  go_wp2_with fail
  go_meet
  case rel=>exact⟨congrArg Value.bool (by rw [Bool.eq_iff_iff];first|(simp;omega)|simp [h1]),rfl⟩
 case rest=>
 obtain⟨rfl,hwv⟩:=hcut
 obtain rfl:V=wc:=hwv.symm
 go_upto_if 25 with fail
 go_cut [2] (λs2 w'=>s2= .int .i64 r/\w'=V)
 case first=>
  by_cases h:100<room/\room<=100000
  ·have hr4:r=100:=by rw [HRR.out,if_pos h]
   rw [decide_eq_true h]
   go_wp2_with fail
   go_meet
   case rel=>exact⟨by rw [hr4],rfl⟩
  have hr4:r=room:=by rw [HRR.out,if_neg h]
  rw [decide_eq_false h]
  go_wp2_with fail
  go_meet
  case rel=>exact⟨by rw [hr4],rfl⟩
 case rest=>
 obtain⟨rfl,hwv⟩:=hcut
 obtain rfl:V=wc:=hwv.symm
 clear HRR
 obtain⟨z0,z1,z2,x0,x1,hx⟩:=CX.out V (Below.refl _ _)
 have HRW:=qh hx
 clear hx
 go_upto_region 6 with(go_at_call 9;go_must(refine(HX1.out _ HRW.out).mono ?_);rintro e X5 ⟨⟨xa,xn,xc,rfl,hm⟩,hb⟩;(have HM1:=qh hm);(have jQ:=qh hb);clear hm hb)
 clear z0 z1 z2 x0 x1 HRW
 try dsimp only
 obtain⟨z0,z1,z2,x0,x1,hx⟩:=CX.out X5 jQ.out
 have HRW:=qh hx
 clear hx
 go_upto_region 7 with(go_at_call 10;go_must(refine(HX2.out _ HRW.out).mono ?_);rintro e X6 ⟨⟨ya,yn,yc,rfl,hm⟩,hb⟩;(have uY:=qh hm);(have HB6:=qh (zD jQ.out hb));(have kV:=qh (zh.below zbo.stays HM1.out hb));clear hm hb)
 clear z0 z1 z2 x0 x1 HRW
 try dsimp only
 have hb1:(bl==bl)=true:=by simp
 have hb2:(er==er)=true:=by simp
 go_wp2_with(first|(go_at_call 12;go_must(refine(zg6 X6).mono ?_);rintro e X7 ⟨rfl,hb⟩;(have HB7:=qh (zD HB6.out hb));(have HM4:=qh (zh.below zbo.stays kV.out hb));(have HM5:=qh (zh.below zbo.stays uY.out hb));clear hb)|(go_at_call 11;go_must(refine(zg7 X7 _ _ ms HM4.out HM5.out).mono ?_);rintro e X8 ⟨rfl,hb⟩;(have HB8:=qh (zD HB7.out hb));clear hb))
 go_ret
 exact⟨rfl,vH.out.trans (HB8.out.mono vH.out.size)⟩
