/- Steps. -/
import Derived.Test.YtknmdmimecepfaaGreatDoorVgDek
set_option linter.all false
namespace Go.Proofs.YtknmdmimecepfaaGreatDoor
open Go.RowKit
set_option maxRecDepth 100000
set_option maxHeartbeats 16000000
structure uH (X:World) (g:Nat) (d:Nat) (c:zo) (ta:Option Addr) (tc:Nat):Prop where
 blk:X.heap[g]? =some (.cells #[.int .i64 c.vars, .int .i64 c.domain, .slice ta c.threads.length tc] 25 (0,0))
 rows:yw d X (.slice ta c.threads.length tc) c.threads
theorem uH.later {X Y:World} {g d:Nat} {c:zo} {ta:Option Addr} {tc:Nat} (h:uH X g d c ta tc) (hb:Below X.heap.size X Y):uH Y g d c ta tc:=⟨(hb.block _ (zB h.blk)).trans h.blk,zh.below (qC.stays d) h.rows hb⟩
theorem uH.cells {X:World} {g d:Nat} {c:zo} {ta:Option Addr} {tc:Nat} (h:uH X g d c ta tc):X.cell? ⟨g,0,none⟩=some (.int .i64 c.vars)/\X.cell? ⟨g,1,none⟩=some (.int .i64 c.domain)/\X.cell? ⟨g,2,none⟩=some (.slice ta c.threads.length tc):=⟨za h.blk 0,za h.blk 1,za h.blk 2⟩
theorem zhC (w:World) (sv:Value) (l0:List Int) (hn:vU w .u8 sv l0) (model:Int) (_hm:(Lit.int .i64 model).wf=true) (how:Int) (hw:(Lit.int .u8 how).wf=true) (nn:Int) (zyq:(Lit.int .i64 nn).wf=true):
  Calls Tryz.prog 4 #[sv, .int .i64 model, .int .u8 how, .int .i64 nn] w λe w'=>e= .returned (.bool true)/\Below w.heap.size w w':=by
 obtain⟨hh0,hh1⟩:0<=how/\how<=255:=by
  have h:(decide (IntKind.u8.min<=how) && decide (how<=IntKind.u8.max))=true:=hw
  have e1:IntKind.u8.min=0:=by decide
  have e2:IntKind.u8.max=255:=by decide
  rw [e1,e2] at h
  simp only [Bool.and_eq_true,decide_eq_true_eq] at h
  exact h
 obtain⟨sa,sc,rfl, -⟩:∃a c,sv= .slice a l0.length c/\True:=by obtain⟨a,c,h, -⟩:=hn;exact⟨a,c,h,trivial⟩
 obtain⟨ln,hln⟩:∃n,n=l0.length:=⟨_,rfl⟩
 rw [<-hln] at hn ⊢
 have HN:=qh hn
 clear hn hln hw
 go_enter Tryz.func4,Tryz.ntmps4
 go_upto_region 2 with(first|(go_at_call 12;go_must(refine(HM4.out).mono ?_);rintro en W3 ⟨⟨c,ta,tc,css,rfl,hok,hrow⟩,hb⟩;(have yS:=qh hrow.slice);(have qx:=qh hok);(have HB3:=qh (zm HB2.out hb));clear hrow hok hb HM4;unfold xL)|(go_at_call 13;go_must(refine(zmc w).mono ?_);rintro en W2 ⟨⟨kv,rfl,hks⟩,hb⟩;(have HM4:=qh (zlw W2 _ l0 (HN.out.below hb) kv zcc hks (by decide) (by decide) zn2));(have HB2:=qh hb);clear hks hb HN))
 have HNW:=qh (zT W3 (.cells #[.int .i64 c.vars, .int .i64 c.domain, .slice ta c.threads.length tc] 25))
 have HAL:=qh (zK W3 (.cells #[.int .i64 c.vars, .int .i64 c.domain, .slice ta c.threads.length tc] 25))
 generalize World.alloc W3 _=X2 at HNW HAL ⊢
 obtain⟨g,hg⟩:∃q,q=W3.heap.size:=⟨_,rfl⟩
 have HG:Hid (w.heap.size<=g):=by rw [hg];exact HB3.out.size
 rw [<-hg] at HNW ⊢
 have bU:Hid (W3.heap.size=g):=hg.symm
 clear hg
 have gY:Hid (uH X2 g 3 c ta tc):=⟨HNW.out,zh.below (qC.stays 3) yS.out HAL.out⟩
 have qz:=qh (zm HB3.out HAL.out)
 have hrl:∀i,i<c.threads.length->(c.threads.getD i []).length<=600:=λi hi=>zhx qx.out hi
 have hc4:=(yI qx.out).2.2.2.2.2
 obtain⟨T,hT⟩:∃T,T=c.threads:=⟨_,rfl⟩
 obtain⟨tn,htn⟩:∃n,n=T.length:=⟨_,rfl⟩
 have HTN:=qh htn
 have hcc:=gY.out.cells
 have hcf:=λk=>zF gY.out.blk k
 rw [<-hT] at hrl hc4
 rw [<-hT, <-htn] at hcc ⊢
 rw [<-htn] at hc4
 obtain⟨c0,c1,c2⟩:=hcc
 have HT:=qh hT
 have HRL:=qh hrl
 have zyr:(tn:Int)<=4:=by omega
 have hrs:∀k u,yw 3 (X2.setCell ⟨g,k,none⟩ u) (.slice ta tn tc) T:=λk u=>by
  have h1:=zh.below (qC.stays 3) yS.out ((HAL.out).setCell (p:=⟨g,k,none⟩) (by rw [<-bU.out];exact Nat.le_refl _) u)
  rw [<-hT, <-htn] at h1
  exact h1
 have HRS:=qh hrs
 clear hT htn hrl hrs HB3 HB2 HAL HNW yS bU
 have f0:=hcf 0
 have f1:=hcf 1
 clear hcf
 go_upto_block 0 with fail
 go_cut [18] (λzys w'=>∃c':zo,Hid (c'.threads=T)/\Hid (uH w' g 3 c' ta tc)/\Hid (Below w.heap.size w w'))
 case first=>
  by_cases k0:how % 3=0
  ·go_wp2_with fail
   go_meet
   case rel=>
   refine⟨⟨c.vars,nn,T⟩,rfl,⟨?_, ?_⟩,qz.out.setCell (p:=⟨g,1,none⟩) HG.out _⟩
   ·have:=zw gY.out.blk 1 (.int .i64 nn);rw [<-HT.out] at this;simpa using this
   have:=HRS.out 1 (.int .i64 nn);rw [HTN.out] at this;exact this
  by_cases k1:how % 3=1
  ·go_wp2_with fail
   go_meet
   case rel=>
   refine⟨⟨nn,c.domain,T⟩,rfl,⟨?_, ?_⟩,qz.out.setCell (p:=⟨g,0,none⟩) HG.out _⟩
   ·have:=zw gY.out.blk 0 (.int .i64 nn);rw [<-HT.out] at this;simpa using this
   have:=HRS.out 0 (.int .i64 nn);rw [HTN.out] at this;exact this
  go_wp2_with fail
  go_meet
  case rel=>exact⟨c,HT.out.symm,gY.out,qz.out⟩
 case rest=>
 obtain⟨c',HT2,HCX,qM⟩:=hcut
 have hl4:c'.threads.length<=4:=by rw [HT2.out, <-HTN.out];exact hc4
 have hrows:∀i,i<c'.threads.length->(c'.threads.getD i []).length<=600:=λi hi=>by rw [HT2.out] at hi ⊢;exact HRL.out i hi
 have hfw:∀X,uH X g 3 c' ta tc->_:=λX h=>zgZ X c' _ 3 h.rows (by omega) (λi hi=>Nat.le_trans (hrows i hi) (by omega))
 have hev:∀X,uH X g 3 c' ta tc->_:=λX h=>zix X c' _ 3 h.rows (by omega) (λi hi=>Nat.le_trans (hrows i hi) (by omega))
 have hwi:codeOk c'=true->∀X,uH X g 3 c' ta tc->_:=λhc X h=>zlu X c' _ 3 h.rows (by omega) (λi hi=>Nat.le_trans (hrows i hi) (by omega)) (by have:=yI hc;omega) (yI hc).2.2.2.1
 have hou:∀X,uH X g 3 c' ta tc->_:=λX h=>jC X c' _ 3 h.rows (by omega) (λi hi=>Nat.le_trans (hrows i hi) (by omega)) model
 have haw:∀X,uH X g 3 c' ta tc->_:=λX _=>ziB X
 have hcv:∀X,uH X g 3 c' ta tc->_:=λX h=>h.cells
 obtain⟨n,hn⟩:∃n,n=c'.threads.length:=⟨_,rfl⟩
 unfold xL at hfw hev hwi hou
 have hne:tn=n:=by rw [hn,HT2.out,HTN.out]
 rw [<-hn] at hfw hev hwi hou hcv
 obtain⟨fw,zdO⟩:∃b,b=(yF c' && codeOk c'):=⟨_,rfl⟩
 obtain⟨en,zcx⟩:∃b,b=zQ c' n:=⟨_,rfl⟩
 obtain⟨wb,zdP⟩:∃b,b=vB c':=⟨_,rfl⟩
 have hel:en<=100000*n:=by rw [zcx,hn];exact zdI (λi hi=>Nat.le_trans (hrows i hi) (by omega)) _ (Nat.le_refl _)
 rw [<-zdO] at hfw
 rw [<-zcx] at hev
 rw [<-zdP] at hwi
 have hn4:n<=4:=by omega
 have zdQ:=qh zdO
 have zf2:=qh zcx
 have zhy:=qh zdP
 have HFW:=qh hfw
 have HEV:=qh hev
 have HWI:=qh hwi
 have gW:=qh hou
 have pV:=qh haw
 have HV:=qh hcv
 have HNN:=qh hn
 have zb9:=qh HCX.out
 have zk1:=qh qM.out
 clear hfw hev hwi hou haw hcv hn zdO zcx zdP hrows hl4 hne HCX qM gY qz HRS c0 c1 c2 f0 f1
 obtain⟨c0,c1,c2⟩:=HV.out wc zb9.out
 cases fw with
 |false=>
  have zZ:Hid ((yF c' && codeOk c')=false\/model<0\/2<model):= .inl zdQ.out.symm
  go_upto_region 14 with(go_at_call 14;go_must(refine(HFW.out wc zb9.out).mono ?_);rintro e V1 ⟨rfl,hb⟩;(have zbA:=qh (zm zk1.out hb));(have j5:=qh (zb9.out.later hb));clear hb c0 c1 c2;obtain⟨c0,c1,c2⟩:=HV.out V1 j5.out)
  go_upto_region 15 with(go_at_call 8;go_must(refine(gW.out V1 j5.out).mono ?_);rintro e V2 ho;(obtain⟨rfl,hb⟩:=ho.arg zZ.out);(have pW:=qh (zm zbA.out hb));(have jU:=qh (j5.out.later hb));clear hb ho c0 c1 c2)
  go_wp2_with(go_at_call 10;go_must(refine(pV.out V2 jU.out).mono ?_);rintro e V3 ⟨rfl,hb⟩;(have zaE:=qh (zm pW.out hb));clear hb)
  go_ret
  exact⟨by first|rfl|simp,zaE.out⟩
 |true=>
 by_cases hm0:model<0
 ·have zZ:Hid ((yF c' && codeOk c')=false\/model<0\/2<model):= .inr (.inl hm0)
  go_upto_region 14 with(go_at_call 14;go_must(refine(HFW.out wc zb9.out).mono ?_);rintro e V1 ⟨rfl,hb⟩;(have zbA:=qh (zm zk1.out hb));(have j5:=qh (zb9.out.later hb));clear hb c0 c1 c2;obtain⟨c0,c1,c2⟩:=HV.out V1 j5.out)
  go_upto_region 15 with(go_at_call 8;go_must(refine(gW.out V1 j5.out).mono ?_);rintro e V2 ho;(obtain⟨rfl,hb⟩:=ho.arg zZ.out);(have pW:=qh (zm zbA.out hb));(have jU:=qh (j5.out.later hb));clear hb ho c0 c1 c2)
  go_wp2_with(go_at_call 10;go_must(refine(pV.out V2 jU.out).mono ?_);rintro e V3 ⟨rfl,hb⟩;(have zaE:=qh (zm pW.out hb));clear hb)
  go_ret
  exact⟨by first|rfl|simp,zaE.out⟩
 by_cases hm2:2<model
 ·have zZ:Hid ((yF c' && codeOk c')=false\/model<0\/2<model):= .inr (.inr hm2)
  go_upto_region 14 with(go_at_call 14;go_must(refine(HFW.out wc zb9.out).mono ?_);rintro e V1 ⟨rfl,hb⟩;(have zbA:=qh (zm zk1.out hb));(have j5:=qh (zb9.out.later hb));clear hb c0 c1 c2;obtain⟨c0,c1,c2⟩:=HV.out V1 j5.out)
  go_upto_region 15 with(go_at_call 8;go_must(refine(gW.out V1 j5.out).mono ?_);rintro e V2 ho;(obtain⟨rfl,hb⟩:=ho.arg zZ.out);(have pW:=qh (zm zbA.out hb));(have jU:=qh (j5.out.later hb));clear hb ho c0 c1 c2)
  go_wp2_with(go_at_call 10;go_must(refine(pV.out V2 jU.out).mono ?_);rintro e V3 ⟨rfl,hb⟩;(have zaE:=qh (zm pW.out hb));clear hb)
  go_ret
  exact⟨by first|rfl|simp,zaE.out⟩
 have wF:Hid (¬((yF c' && codeOk c')=false\/model<0\/2<model)):=by
  rintro(h1|h1|h1)
  ·rw [<-zdQ.out] at h1;cases h1
  ·omega
  omega
 have hck:codeOk c'=true:=by have:=zdQ.out;simp at this;exact this.2
 have zhz:=qh (HWI.out hck)
 clear hck
 go_upto_region 10 with(go_at_call 14;go_must(refine(HFW.out wc zb9.out).mono ?_);rintro e V1 ⟨rfl,hb⟩;(have zbA:=qh (zm zk1.out hb));(have j5:=qh (zb9.out.later hb));clear hb c0 c1 c2;obtain⟨c0,c1,c2⟩:=HV.out V1 j5.out)
 by_cases he8:8<en
 ·have HLG:Hid (8<zQ c' c'.threads.length\/vB c'=true):= .inl (by rw [<-HNN.out, <-zf2.out];exact he8)
  have znF:(8:Int)<(en:Int):=by omega
  go_upto_region 14 with(go_at_call 15;go_must(refine(HEV.out V1 j5.out).mono ?_);rintro e V2 ⟨rfl,hb⟩;(have pW:=qh (zm zbA.out hb));(have jU:=qh (j5.out.later hb));clear hb c0 c1 c2;obtain⟨c0,c1,c2⟩:=HV.out V2 jU.out)
  go_upto_region 15 with(go_at_call 8;go_must(refine(gW.out V2 jU.out).mono ?_);rintro e V4 ho;(obtain⟨rfl,hb⟩:=ho.long wF.out HLG.out);(have zdZ:=qh (zm pW.out hb));(have zaF:=qh (jU.out.later hb));clear hb ho c0 c1 c2)
  go_wp2_with(go_at_call 10;go_must(refine(pV.out V4 zaF.out).mono ?_);rintro e V5 ⟨rfl,hb⟩;(have zea:=qh (zm zdZ.out hb));clear hb)
  go_ret
  exact⟨by first|rfl|simp,zea.out⟩
 have znF:¬(8:Int)<(en:Int):=by omega
 cases wb with
 |true=>
  have HLG:Hid (8<zQ c' c'.threads.length\/vB c'=true):= .inr zhy.out.symm
  go_upto_region 14 with(first|(go_at_call 16;go_must(refine(zhz.out V2 jU.out).mono ?_);rintro e V3 ⟨rfl,hb⟩;(have zaE:=qh (zm pW.out hb));(have zbB:=qh (jU.out.later hb));clear hb c0 c1 c2;obtain⟨c0,c1,c2⟩:=HV.out V3 zbB.out)|(go_at_call 15;go_must(refine(HEV.out V1 j5.out).mono ?_);rintro e V2 ⟨rfl,hb⟩;(have pW:=qh (zm zbA.out hb));(have jU:=qh (j5.out.later hb));clear hb c0 c1 c2;obtain⟨c0,c1,c2⟩:=HV.out V2 jU.out))
  go_upto_region 15 with(go_at_call 8;go_must(refine(gW.out V3 zbB.out).mono ?_);rintro e V4 ho;(obtain⟨rfl,hb⟩:=ho.long wF.out HLG.out);(have zdZ:=qh (zm zaE.out hb));(have zaF:=qh (zbB.out.later hb));clear hb ho c0 c1 c2)
  go_wp2_with(go_at_call 10;go_must(refine(pV.out V4 zaF.out).mono ?_);rintro e V5 ⟨rfl,hb⟩;(have zea:=qh (zm zdZ.out hb));clear hb)
  go_ret
  exact⟨by first|rfl|simp,zea.out⟩
 |false=>
 have HLG:Hid (¬(8<zQ c' c'.threads.length\/vB c'=true)):=by
  rintro(h1|h1)
  ·rw [<-HNN.out, <-zf2.out] at h1;exact he8 h1
  rw [<-zhy.out] at h1;cases h1
 go_upto_region 12 with(first|(go_at_call 16;go_must(refine(zhz.out V2 jU.out).mono ?_);rintro e V3 ⟨rfl,hb⟩;(have zaE:=qh (zm pW.out hb));(have zbB:=qh (jU.out.later hb));clear hb c0 c1 c2;obtain⟨c0,c1,c2⟩:=HV.out V3 zbB.out)|(go_at_call 15;go_must(refine(HEV.out V1 j5.out).mono ?_);rintro e V2 ⟨rfl,hb⟩;(have pW:=qh (zm zbA.out hb));(have jU:=qh (j5.out.later hb));clear hb c0 c1 c2;obtain⟨c0,c1,c2⟩:=HV.out V2 jU.out))
 by_cases he5:5<en
 ·have zvK:(5:Int)<(en:Int):=by omega
  go_wp2_with(first|(go_at_call 15;go_must(refine(HEV.out V3 zbB.out).mono ?_);rintro e V4 ⟨rfl,hb⟩;(have zdZ:=qh (zm zaE.out hb));(have zaF:=qh (zbB.out.later hb));clear hb c0 c1 c2;obtain⟨c0,c1,c2⟩:=HV.out V4 zaF.out)|(go_at_call 10;go_must(refine(pV.out V4 zaF.out).mono ?_);rintro e V5 ⟨rfl,hb⟩;(have zea:=qh (zm zdZ.out hb));clear hb))
  go_ret
  exact⟨rfl,zea.out⟩
 have zvK:¬(5:Int)<(en:Int):=by omega
 go_upto_region 15 with(first|(go_at_call 15;go_must(refine(HEV.out V3 zbB.out).mono ?_);rintro e V4 ⟨rfl,hb⟩;(have zdZ:=qh (zm zaE.out hb));(have zaF:=qh (zbB.out.later hb));clear hb c0 c1 c2;obtain⟨c0,c1,c2⟩:=HV.out V4 zaF.out)|(go_at_call 8;go_must(refine(gW.out V4 zaF.out).mono ?_);rintro e V5 ho;(obtain⟨r,a,cap,rfl, -, -,hb⟩:=ho.ok wF.out HLG.out);(have zea:=qh (zm zdZ.out hb));(have zvL:=qh (zaF.out.later hb));clear hb ho c0 c1 c2))
 go_wp2_with(go_at_call 10;go_must(refine(pV.out V5 zvL.out).mono ?_);rintro e V6 ⟨rfl,hb⟩;(have zvM:=qh (zm zea.out hb));clear hb)
 go_ret
 exact⟨by first|rfl|simp,zvM.out⟩
