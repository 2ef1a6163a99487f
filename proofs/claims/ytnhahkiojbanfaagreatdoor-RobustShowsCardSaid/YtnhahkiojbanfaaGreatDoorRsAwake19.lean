/- Steps. -/
import Derived.Test.YtnhahkiojbanfaaGreatDoorRsDek
import Derived.Test.YtnhahkiojbanfaaGreatDoorRsPRobust
set_option linter.all false
namespace Go.Proofs.YtnhahkiojbanfaaGreatDoor
open Go.RowKit
set_option maxRecDepth 100000
set_option maxHeartbeats 16000000
def zb3:zy:=⟨1,1⟩
def zhY:zy:=⟨3,1⟩
theorem zlf:(xC qF zb3 400 1).1=false/\(xC qF zb3 400 1).2.2=0/\4<(xC qF zb3 400 1).2.1.length:=by decide+kernel
theorem zlg:(xC qF kS 400 1).1=true/\(xC qF kS 400 1).2.2=0/\(xC qF kS 400 1).2.1.length=0:=by decide+kernel
theorem zyI:(xC qF zb3 3 1).2.2=40:=by decide+kernel
theorem zyJ:(xC qF zhY 400 1).2.2=1:=by decide+kernel
def zhZ (b:Bool) (k:Int) (p:Nat->Prop) (w:World) (e:Ending) (w':World):Prop:=(∃(a:Option Addr) (n c:Nat),e= .returned (.tuple #[.bool b, .slice a n c, .int .i64 k])/\p n)/\Below w.heap.size w w'
theorem zek {b:Bool} {k:Int} {p:Nat->Prop} {w w':World} {r:Bool × List zq × Int} {e:Ending} (h1:r.1=b) (h2:r.2.2=k) (h3:p r.2.1.length) (h:zlh w r e w'):zhZ b k p w e w':=by
 obtain⟨⟨a,n,c,rfl,hm⟩,hb⟩:=h
 obtain⟨_,_,q, -⟩:=zh.slice hm
 cases q
 rw [h1,h2]
 exact⟨⟨a,_,c,rfl,h3⟩,hb⟩
theorem zxO (w:World):Calls Tryz.prog 25 #[] w λe w'=>(∃(ta:Option Addr) (tc:Nat),e= .returned (.agg #[.int .i64 2, .int .i64 2, .slice ta 2 tc])/\yS 1 w' (.slice ta 2 tc) qF.threads)/\Below w.heap.size w w':=by
 refine(zoR w).mono ?_
 rintro e w' ⟨⟨tv,rfl,ht⟩,hb⟩
 obtain⟨ta,tc,rfl, -⟩:=zh.slice ht
 exact⟨⟨ta,tc,rfl,ht⟩,hb⟩
theorem zyK (w:World) (ta:Option Addr) (tc:Nat) (h:yS 1 w (.slice ta 2 tc) qF.threads):Calls Tryz.prog 9 #[.agg #[.int .i64 2, .int .i64 2, .slice ta 2 tc], .agg #[.int .i64 1, .int .i64 1], .int .i64 400] w (zhZ false 0 (λn=>4<n) w):=(uT w qF _ 1 h zb3 400).mono λ_ _ h=>zek zlf.1 zlf.2.1 zlf.2.2 h
theorem zyL (w:World) (ta:Option Addr) (tc:Nat) (h:yS 1 w (.slice ta 2 tc) qF.threads):Calls Tryz.prog 9 #[.agg #[.int .i64 2, .int .i64 2, .slice ta 2 tc], .agg #[.int .i64 0, .int .i64 1], .int .i64 400] w (zhZ true 0 (λn=>n=0) w):=(uT w qF _ 1 h kS 400).mono λ_ _ h=>zek zlg.1 zlg.2.1 zlg.2.2 h
theorem zyM (w:World) (ta:Option Addr) (tc:Nat) (h:yS 1 w (.slice ta 2 tc) qF.threads):Calls Tryz.prog 9 #[.agg #[.int .i64 2, .int .i64 2, .slice ta 2 tc], .agg #[.int .i64 1, .int .i64 1], .int .i64 3] w (zhZ (xC qF zb3 3 1).1 40 (λ_=>True) w):=(uT w qF _ 1 h zb3 3).mono λ_ _ h=>zek rfl zyI trivial h
theorem zyN (w:World) (ta:Option Addr) (tc:Nat) (h:yS 1 w (.slice ta 2 tc) qF.threads):Calls Tryz.prog 9 #[.agg #[.int .i64 2, .int .i64 2, .slice ta 2 tc], .agg #[.int .i64 3, .int .i64 1], .int .i64 400] w (zhZ (xC qF zhY 400 1).1 1 (λ_=>True) w):=(uT w qF _ 1 h zhY 400).mono λ_ _ h=>zek rfl zyJ trivial h
theorem zne (w:World):Calls Tryz.prog 12 #[] w λe w'=>e= .returned (.bool true)/\Below w.heap.size w w':=by
 have hc3:=zyM
 have hc4:=zyN
 generalize (xC qF zb3 3 1).1=q3 at hc3
 generalize (xC qF zhY 400 1).1=q4 at hc4
 have HC3:=qh hc3
 have HC4:=qh hc4
 clear hc3 hc4
 go_enter Tryz.func12,Tryz.ntmps12
 go_upto_region 2 with(go_at_call 25;go_must(refine(zxO _).mono ?_);rintro e W1 ⟨⟨ta,tc,rfl,ht⟩,hb⟩;have HT1:=qh ht;have HB0:=qh hb;clear ht hb)
 have ha:=(Below.refl W1.heap.size W1).alloc (Nat.le_refl _) (.cells #[.int .i64 2, .int .i64 2, .slice ta 2 tc] 26)
 have hz:=yj W1 (.cells #[.int .i64 2, .int .i64 2, .slice ta 2 tc] 26)
 have HT2:=qh (zh.below (qD.stays 1) HT1.out ha)
 have HB1:=qh (HB0.out.trans (ha.mono HB0.out.size))
 have HZ:=qh hz
 clear ha hz HT1 HB0
 generalize World.alloc W1 _=X1 at HT2 HB1 HZ ⊢
 generalize W1.heap.size=g at HZ ⊢
 have CX:Hid (∀y,Below X1.heap.size X1 y->y.cell? ⟨g,0,none⟩=some (.int .i64 2)/\y.cell? ⟨g,1,none⟩=some (.int .i64 2)/\y.cell? ⟨g,2,none⟩=some (.slice ta 2 tc)/\yS 1 y (.slice ta 2 tc) qF.threads):=λy hy=>⟨zk hy _ _ (ze HZ.out 0),zk hy _ _ (ze HZ.out 1),zk hy _ _ (ze HZ.out 2),zh.below (qD.stays 1) HT2.out hy⟩
 clear HT2 HZ
 have vC:Hid (Below X1.heap.size X1 X1):=Below.refl _ _
 obtain⟨x0,x1,x2,hx⟩:=CX.out X1 vC.out
 have HRW:=qh hx
 clear hx
 go_upto_region 3 with(go_at_call 9;go_must(refine(zyK X1 ta tc HRW.out).mono ?_);rintro e X2 ⟨⟨a2,n2,c2,rfl,hp2⟩,hb⟩;(have HS2:=qh (zH vC.out hb));clear hb)
 clear x0 x1 x2 HRW
 obtain⟨x0,x1,x2,hx⟩:=CX.out X2 HS2.out
 have HRW:=qh hx
 clear hx
 go_upto_region 4 with(go_at_call 9;go_must(refine(zyL X2 ta tc HRW.out).mono ?_);rintro e X3 ⟨⟨a3,n3,c3,rfl,hp3⟩,hb⟩;(have HS3:=qh (zH HS2.out hb));clear hb)
 clear x0 x1 x2 HRW
 obtain⟨x0,x1,x2,hx⟩:=CX.out X3 HS3.out
 have HRW:=qh hx
 clear hx
 go_upto_region 5 with(go_at_call 9;go_must(refine(HC3.out X3 ta tc HRW.out).mono ?_);rintro e X4 ⟨⟨a4,n4,c4,rfl,hp4⟩,hb⟩;(have HS4:=qh (zH HS3.out hb));clear hb)
 clear x0 x1 x2 HRW
 obtain⟨x0,x1,x2,hx⟩:=CX.out X4 HS4.out
 have HRW:=qh hx
 clear hx
 go_upto_region 6 with(go_at_call 9;go_must(refine(HC4.out X4 ta tc HRW.out).mono ?_);rintro e X5 ⟨⟨a5,n5,c5,rfl,hp5⟩,hb⟩;(have HS5:=qh (zH HS4.out hb));clear hb)
 clear x0 x1 x2 HRW
 subst hp3
 have h4:(4:Int)<(n2:Int):=by omega
 have h4d:decide ((4:Int)<(n2:Int))=true:=decide_eq_true h4
 go_wp2_with fail
 go_ret
 exact⟨rfl,HB1.out.trans (HS5.out.mono HB1.out.size)⟩
theorem znf {c:zD} {m:zy} {R d:Nat} (h:(xC c m R d).2.2=0):xC c kS R d=(true, [],0):=by
 refine zjI rfl ?_
 obtain⟨S,T, -,h2, -⟩:=zcy h
 unfold xC
 rw [h2]
 dsimp only
 rw [if_pos rfl,if_pos rfl]
 unfold zbh
 split<;>rfl
structure zyP (m:zy) (R1 R2:Bool × List zq × Int) (E2:yH × Int) (RPL:List zq->zi × Int):Prop where
 err:R1.2.2=0\/R1=(false, [],40)
 sc:R1.2.2=0->R2=(true, [],0)
 none:R1.2.2=0->m.model=0->R1=(true, [],0)
 yes:R1.2.2=0->R1.1=true->R1=(true, [],0)
 no:R1.2.2=0->R1.1=false->∃s:zi,RPL R1.2.1=(s,0)/\wR s=true/\∃T:yH,E2=(T,0)/\∀u∈T.states,s≠⟨u.threads,u.mem,s.bad⟩
theorem zxP {c:zD} {m:zy} (hm:qA c m=true):zyP m (xC c m 300 3) (xC c kS 300 3) (yt c kS 300 3) (λl=>zbi c m l 3):=by
 have hc:((300:Nat):Int)=300:=rfl
 refine⟨?_,λh=> ?_,λh h0=> ?_,λh h1=> ?_,λh h1=> ?_⟩
 ·have:=zph (c:=c) (m:=m) (d:=3) (R:=300) hm (by omega) (by omega)
  rwa [hc] at this
 ·have:=znf (c:=c) (m:=m) (d:=3) (R:=300) (by rw [hc];exact h)
  rwa [hc] at this
 ·have:=zjI (c:=c) (m:=m) (d:=3) (R:=300) h0 (by rw [hc];exact h)
  rwa [hc] at this
 ·obtain⟨S,T, -, -, -,h4⟩:=zcy (c:=c) (m:=m) (d:=3) (R:=300) (by rw [hc];exact h)
  rw [hc] at h4
  rcases h4 with h4|⟨i, -,h5, -⟩
  ·exact h4
  rw [h5] at h1;cases h1
 obtain⟨S,T, -,h2, -,h4⟩:=zcy (c:=c) (m:=m) (d:=3) (R:=300) (by rw [hc];exact h)
 rw [hc] at h2 h4
 rcases h4 with h4|⟨i, -,h5,h6,h7,h8⟩
 ·rw [h4] at h1;cases h1
 refine⟨S.states.getD i default, ?_,h7,T,h2,h8⟩
 rw [h5]
 exact h6
theorem zib (w:World) (sv:Value) (l0:List Int) (hn:jG w .u8 sv l0) (hcap:∀a n c,sv= .slice a n c->n<=c) (q:Int) (q0:0<=q) (q1:q<=255):
  Calls Tryz.prog 5 #[sv, .int .u8 q] w λe w'=>e= .returned (.bool true)/\Below w.heap.size w w':=by
 have HSM:Hid (∀y,Below w.heap.size w y->Calls Tryz.prog 7 #[sv] y (zhi y)):=λy hy=>zng y sv l0 (hn.below hy) hcap
 obtain⟨sa,sc,rfl, -⟩:∃a c,sv= .slice a l0.length c/\True:=by obtain⟨a,c,h, -⟩:=hn;exact⟨a,c,h,trivial⟩
 generalize l0.length=ln at HSM ⊢
 clear hn hcap
 have zic:=λy=>znh y q q0 q1
 have hmay:=λc (h:codeOk c=true)=>zqL h q
 unfold qg at zic
 obtain⟨M,hM⟩:∃M,M=zhF q:=⟨_,rfl⟩
 rw [<-hM] at zic hmay
 clear hM
 obtain⟨mo,bo⟩:=M
 dsimp only at zic
 have zwy:=qh zic
 have zbg:=qh hmay
 clear zic hmay q0 q1
 go_enter Tryz.func5,Tryz.ntmps5
 go_upto_region 4 with(go_at_call 12;go_must(refine(zne _).mono ?_);rintro e W0 ⟨rfl,hb⟩;(have HB0:=qh hb);clear hb)
 have zyQ:=qh (HSM.out W0 HB0.out)
 go_upto_region 5 with(first|(go_at_call 7;go_must(refine(zyQ.out).mono ?_);rintro en W1 ⟨⟨c,tv,rfl,hc,hok,hct⟩,hb⟩;(have HB1:=qh hb);(have HC1:=qh hc);(have je:=qh hok);(obtain⟨ca,cc,rfl, -⟩:=zh.slice hc);clear hb hc hok hct;unfold yQ)|(go_at_call 8;go_must(refine(zwy.out _).mono ?_);rintro en W2 ⟨rfl,hb⟩;(have HB2:=qh hb);clear hb))
 have hx1:=λy hy=>uT y c (.slice ca c.threads.length cc) 3 hy ⟨mo,bo⟩ 300
 have hx2:=λy hy=>uT y c (.slice ca c.threads.length cc) 3 hy kS 300
 have hx3:=λy hy=>zni y c (.slice ca c.threads.length cc) 3 hy kS 300
 have hrp:=λy hy lv l hl=>zlj y c (.slice ca c.threads.length cc) 3 hy ⟨mo,bo⟩ lv l hl
 have hsf:=zxP (c:=c) (m:=⟨mo,bo⟩) (zbg.out c je.out)
 obtain⟨R1,hR1⟩:∃R,R=xC c ⟨mo,bo⟩ 300 3:=⟨_,rfl⟩
 obtain⟨R2,hR2⟩:∃R,R=xC c kS 300 3:=⟨_,rfl⟩
 obtain⟨E2,hE2⟩:∃E,E=yt c kS 300 3:=⟨_,rfl⟩
 obtain⟨RPL,ztX⟩:∃RPL:List zq->zi × Int,RPL=λl=>zbi c ⟨mo,bo⟩ l 3:=⟨_,rfl⟩
 have zw0:∀l,zbi c ⟨mo,bo⟩ l 3=RPL l:=λl=>by rw [ztX]
 rw [<-hR1] at hx1 hsf
 rw [<-hR2] at hx2 hsf
 rw [<-hE2] at hx3 hsf
 rw [<-ztX] at hsf
 simp only [zw0] at hrp
 clear hR1 hR2 hE2 ztX zw0
 unfold yQ qg at hx1 hx2 hx3 hrp
 unfold kS at hx2 hx3
 dsimp only at hx1 hx2 hx3 hrp
 generalize c.vars=vars at hx1 hx2 hx3 hrp ⊢
 generalize c.domain=dom at hx1 hx2 hx3 hrp ⊢
 generalize c.threads=cs at HC1 hx1 hx2 hx3 hrp ⊢
 generalize cs.length=cn at HC1 hx1 hx2 hx3 hrp ⊢
 clear je
 clear zbg
 clear c
 have HX1:=qh hx1
 have HX2:=qh hx2
 have HX3:=qh hx3
 have HRP:=qh hrp
 have HSF:=qh hsf
 clear hx1 hx2 hx3 hrp hsf
 have ha:=xO W2 (.cells #[.int .i64 vars, .int .i64 dom, .slice ca cn cc] 26) (.cells #[.int .i64 mo, .int .i64 bo] 29)
 have hw1:=HB2.out.trans (ha.mono HB2.out.size)
 have hw0:=HB1.out.trans (hw1.mono HB1.out.size)
 have HBV:=qh (HB0.out.trans (hw0.mono HB0.out.size))
 have HCV:=qh (zh.below (qD.stays 3) HC1.out hw1)
 have K1:=qh (xP W2 (.cells #[.int .i64 vars, .int .i64 dom, .slice ca cn cc] 26) (.cells #[.int .i64 mo, .int .i64 bo] 29))
 have K2:=qh (xw W2 (.cells #[.int .i64 vars, .int .i64 dom, .slice ca cn cc] 26) (.cells #[.int .i64 mo, .int .i64 bo] 29))
 clear ha hw1 hw0 HB0 zyQ HB1 HB2 HC1 HSM zwy
 generalize World.alloc (World.alloc W2 _) _=V at HBV HCV K1 K2 ⊢
 generalize W2.heap.size=gc at K1 K2 ⊢
 have CX:Hid (∀y,Below V.heap.size V y->y.cell? ⟨gc,0,none⟩=some (.int .i64 vars)/\y.cell? ⟨gc,1,none⟩=some (.int .i64 dom)/\y.cell? ⟨gc,2,none⟩=some (.slice ca cn cc)/\y.cell? ⟨gc+1,0,none⟩=some (.int .i64 mo)/\y.cell? ⟨gc+1,1,none⟩=some (.int .i64 bo)/\yS 3 y (.slice ca cn cc) cs):=λy hy=>
  ⟨zk hy _ _ (ze K1.out 0),zk hy _ _ (ze K1.out 1),zk hy _ _ (ze K1.out 2),zk hy _ _ (ze K2.out 0),zk hy _ _ (ze K2.out 1),zh.below (qD.stays 3) HCV.out hy⟩
 clear K1 K2 HCV
 obtain⟨b1,ms,er⟩:=R1
 obtain⟨z0,z1,z2,x0,x1,hx⟩:=CX.out V (Below.refl _ _)
 have HRW:=qh hx
 clear hx
 go_upto_region 6 with(go_at_call 9;go_must(refine(HX1.out _ HRW.out).mono ?_);rintro e X5 ⟨⟨xa,xn,xc,rfl,hm⟩,hb⟩;(have HM1:=qh hm);(have gJ:=qh hb);clear hm hb)
 clear z0 z1 z2 x0 x1 HRW
 try dsimp only
 obtain⟨b2,ks,er2⟩:=R2
 obtain⟨z0,z1,z2,x0,x1,hx⟩:=CX.out X5 gJ.out
 have HRW:=qh hx
 clear hx
 go_upto_region 7 with(go_at_call 9;go_must(refine(HX2.out _ HRW.out).mono ?_);rintro e X6 ⟨⟨ya,yn,yc,rfl,hm⟩,hb⟩;(have HB6:=qh (zH gJ.out hb));(have kT:=qh (zh.below zcZ.stays HM1.out hb));clear hm hb)
 clear z0 z1 z2 x0 x1 HRW HX1 HX2 HM1
 try dsimp only
 have zpi:=HSF.out.err
 dsimp only at zpi
 by_cases he0:er=0
 rotate_left
 ·have h40:er=40:=by
   rcases zpi with h|h
   ·exact absurd h he0
   exact congrArg (λp=>p.2.2) h
  subst h40
  clear zpi he0
  go_wp2_with fail
  go_ret
  exact⟨rfl,HBV.out.trans (HB6.out.mono HBV.out.size)⟩
 subst he0
 clear zpi
 have hsc:=HSF.out.sc rfl
 simp only [Prod.mk.injEq] at hsc
 obtain⟨rfl,rfl,rfl⟩:=hsc
 have hnone:mo=0->b1=true:=λh=>congrArg (λp=>p.1) (HSF.out.none rfl h)
 obtain⟨z0,z1,z2,x0,x1, -⟩:=CX.out X6 HB6.out
 have hmo:((mo==0) && !b1)=false:=by
  by_cases h:mo=0
  ·rw [hnone h];simp
  rw [beq_eq_false_iff_ne.2 h];rfl
 go_upto_region 9 with fail
 go_cut [62] (λs62 w'=>s62= .bool false/\w'=X6)
 case first=>
  by_cases h:mo=0
  ·have hb:=hnone h
   subst hb
   subst h
   go_wp2_with fail
   go_meet
   case rel=>exact⟨rfl,rfl⟩
  have hne:(mo==0)=false:=beq_eq_false_iff_ne.2 h
  have hne2:decide (mo=0)=false:=decide_eq_false h
  go_wp2_with fail
  go_meet
  case rel=>exact⟨rfl,rfl⟩
 case rest=>
 obtain⟨rfl,hwv⟩:=hcut
 obtain rfl:X6=wc:=hwv.symm
 clear hmo hnone z0 z1 z2 x0 x1
 cases b1 with
 |true=>
  have hyes:=HSF.out.yes rfl rfl
  simp only [Prod.mk.injEq] at hyes
  obtain⟨-,rfl, -⟩:=hyes
  obtain⟨_,_,qq, -⟩:=zh.slice kT.out
  cases qq
  go_wp2_with fail
  go_ret
  exact⟨rfl,HBV.out.trans (HB6.out.mono HBV.out.size)⟩
 |false=>
 obtain⟨s,hr,hcl,T,hT,hne⟩:=HSF.out.no rfl rfl
 dsimp only at hr
 clear HSF
 subst hT
 obtain⟨bs,hbs⟩:∃b,b=s.bad:=⟨_,rfl⟩
 obtain⟨n1,hn1⟩:∃n,n=T.states.length:=⟨_,rfl⟩
 obtain⟨n2,hn2⟩:∃n,n=T.moves.length:=⟨_,rfl⟩
 obtain⟨n3,hn3⟩:∃n,n=T.next.length:=⟨_,rfl⟩
 have HR:Hid (∀y lv,yS 3 y (.slice ca cn cc) cs->j6 y lv ms->Calls Tryz.prog 13 #[.agg #[.int .i64 vars, .int .i64 dom, .slice ca cn cc], .agg #[.int .i64 mo, .int .i64 bo],lv] y (zy0 s bs 0 y)):=λy lv hy hl=>(HRP.out y hy lv ms hl).mono λ_ _ h=>zxE hr hbs h
 have HX:Hid (∀y,yS 3 y (.slice ca cn cc) cs->Calls Tryz.prog 14 #[.agg #[.int .i64 vars, .int .i64 dom, .slice ca cn cc], .agg #[.int .i64 0, .int .i64 1], .int .i64 300] y (zyz T 0 n1 n2 n3 y)):=λy hy=>(HX3.out y hy).mono λ_ _ h=>zxD rfl hn1 hn2 hn3 h
 have HCL:=qh hcl
 have kU:=qh hne
 have HBS:=qh hbs
 have uY:=qh hn1
 clear hr hcl hne hbs hn1 hn2 hn3 HRP HX3
 obtain⟨z0,z1,z2,x0,x1,hx⟩:=CX.out X6 HB6.out
 have HRW:=qh hx
 clear hx
 go_upto_region 14 with(go_at_call 13;go_must(refine(HR.out _ _ HRW.out kT.out).mono ?_);rintro e W13 ⟨⟨ta,tb,tn,tc,tk,tf,rfl,hs⟩,hb⟩;(have HSP:=qh hs);(have yR:=qh hb);clear hs hb)
 have hz:=yj W13 (.cells #[.slice ta tn tc, .slice tb tk tf, .bool bs] 42)
 have ha:=(Below.refl W13.heap.size W13).alloc (Nat.le_refl _) (.cells #[.slice ta tn tc, .slice tb tk tf, .bool bs] 42)
 have HST:=qh (HSP.out.below ha)
 have ztY:=qh (zH HB6.out (zH yR.out ha))
 have HZ:=qh hz
 clear hz ha yR HSP z0 z1 z2 x0 x1 HRW HR kT
 generalize World.alloc W13 _=X13 at HZ HST ztY ⊢
 generalize W13.heap.size=gs at HZ ⊢
 obtain⟨z0,z1,z2,x0,x1,hx⟩:=CX.out X13 ztY.out
 have HRW:=qh hx
 clear hx
 go_upto_region 15 with(go_at_call 14;go_must(refine(HX.out _ HRW.out).mono ?_);rintro e W14 ⟨⟨a1,a2,a3,c1,c2,c3,rfl,hs⟩,hb⟩;(have HSP:=qh hs);(have yR:=qh hb);clear hs hb)
 have hz:=yj W14 (.cells #[.slice a1 n1 c1, .slice a2 n2 c2, .slice a3 n3 c3] 49)
 have ha:=(Below.refl W14.heap.size W14).alloc (Nat.le_refl _) (.cells #[.slice a1 n1 c1, .slice a2 n2 c2, .slice a3 n3 c3] 49)
 have HTS:=qh (HSP.out.below ha)
 have HD:=qh (zH yR.out ha)
 have HZ2:=qh hz
 clear hz ha yR HSP z0 z1 z2 x0 x1 HRW HX
 generalize World.alloc W14 _=X14 at HZ2 HTS HD ⊢
 generalize W14.heap.size=gt at HZ2 ⊢
 have z5u:=qh (zH ztY.out HD.out)
 have CT:Hid (∀y,Below X14.heap.size X14 y->(y.cell? ⟨gs,0,none⟩=some (.slice ta tn tc)/\y.cell? ⟨gs,1,none⟩=some (.slice tb tk tf)/\y.cell? ⟨gs,2,none⟩=some (.bool bs))/\y.cell? ⟨gt,0,none⟩=some (.slice a1 n1 c1)/\zX y s (.slice ta tn tc) (.slice tb tk tf)):=λy hy=>by
  have hd:=zH HD.out hy
  exact⟨⟨zk hd _ _ (ze HZ.out 0),zk hd _ _ (ze HZ.out 1),zk hd _ _ (ze HZ.out 2)⟩,zk hy _ _ (ze HZ2.out 0),HST.out.below hd⟩
 clear HZ HZ2 HST HD
 have qx:Hid (Calls Tryz.prog 15 #[.agg #[.slice ta tn tc, .slice tb tk tf, .bool bs]] X14 λe w'=>e= .returned (.bool true)/\Below X14.heap.size X14 w'):=by
  have h:=zkX X14 s _ _ (CT.out X14 (Below.refl _ _)).2.2
  rw [HCL.out] at h
  unfold yA at h
  rw [<-HBS.out] at h
  exact h
 obtain⟨⟨s0,s1,s2⟩,t0, -⟩:=CT.out X14 (Below.refl _ _)
 go_upto_region 17 with(go_at_call 15;go_must(refine(qx.out).mono ?_);rintro e X15 ⟨rfl,hb⟩;(have z5v:=qh hb);clear hb)
 clear s0 s1 s2 t0 qx
 have hn63:n1<=9223372036854775807:=by obtain⟨a,c,e,h⟩:=zh.slice HTS.out.1;have:=uY.out;cases e;omega
 go_wp2_with fail
 go_loopg [18] n1 (λgg s18 wr=>∃i:Nat,i<=n1/\Hid (gg=n1 - i)/\s18= .int .i64 i/\Hid (Below X14.heap.size X14 wr))
 case atStart=>exact⟨0,Nat.zero_le _,rfl,rfl,z5v.out⟩
 case round=>
 obtain⟨i,hi,HG,rfl,zL⟩:=hrel
 obtain⟨wo,rfl⟩:∃X:World,X=wr:=⟨_,rfl⟩
 obtain⟨⟨s0,s1,s2⟩,t0, -⟩:=CT.out wo zL.out
 by_cases hlt:i<n1
 rotate_left
 ·obtain rfl:i=n1:=by omega
  go_wp2_with fail
  go_ret
  exact⟨rfl,HBV.out.trans ((zH z5u.out zL.out).mono HBV.out.size)⟩
 have qN:(i:Int)<(n1:Int):=by omega
 obtain⟨eb,eo,yv,mv,yh, -,y0,y1,y2,hst⟩:=kH.part (zh.below qo.stays HTS.out.1 zL.out) i (by rw [<-uY.out];exact hlt)
 have HEA:=qh yh
 subst yh
 obtain⟨u,hu⟩:∃u,u=T.states.getD i default:=⟨_,rfl⟩
 have hmem:u∈T.states:=by rw [hu];exact xS (by rw [<-uY.out];exact hlt)
 rw [<-hu] at y2 hst
 have hne:=kU.out u hmem
 obtain⟨qa,qc,rfl, -⟩:=zh.slice hst.threads
 obtain⟨ra,rc,rfl, -⟩:=zh.slice hst.mem
 obtain⟨qn,hqn⟩:∃x,x=u.threads.length:=⟨_,rfl⟩
 obtain⟨rn,hrn⟩:∃x,x=u.mem.length:=⟨_,rfl⟩
 rw [<-hqn, <-hrn] at hst
 rw [<-hqn] at y0
 rw [<-hrn] at y1
 obtain⟨bu,hbu⟩:∃b,b=u.bad:=⟨_,rfl⟩
 rw [<-hbu] at y2
 have HU:=qh hst
 have z5w:=qh hne
 clear hst hne hu hmem hqn hrn hbu
 go_upto_region 21 with fail
 have hz:=yj wo (.cells #[.slice qa qn qc, .slice ra rn rc, .bool bu] 42)
 have ha:=(Below.refl wo.heap.size wo).alloc (Nat.le_refl _) (.cells #[.slice qa qn qc, .slice ra rn rc, .bool bu] 42)
 have HZ:=qh hz
 have HA:=qh ha
 clear hz ha y0 y1 y2 s0 s1 s2 t0
 generalize World.alloc wo _=w2 at HZ HA ⊢
 obtain⟨gq,hgq⟩:∃g,g=wo.heap.size:=⟨_,rfl⟩
 rw [<-hgq] at HZ ⊢
 have HGQ:=qh hgq
 clear hgq
 obtain⟨⟨s0,s1,s2⟩, -, -⟩:=CT.out w2 (zH zL.out HA.out)
 have f2:=zA HZ.out 2
 have e2:=ze HZ.out 2
 go_upto_region 22 with fail
 clear s0 s1 s2 f2 e2
 have hs1:Since (λk=>k=gq) w2 (w2.setCell ⟨gq,2,none⟩ (.bool bs)):=Since.setCell (F:=λk=>k=gq) (p:=⟨gq,2,none⟩) (Since.refl _ _) (.inl rfl) _
 have h3:(w2.setCell ⟨gq,2,none⟩ (.bool bs)).heap[gq]? =some (.cells #[.slice qa qn qc, .slice ra rn rc, .bool bs] 42 (0,0)):=by have:=zu HZ.out 2 (.bool bs);simpa using this
 have h4:Below wo.heap.size wo (w2.setCell ⟨gq,2,none⟩ (.bool bs)):=HA.out.trans (hs1.below HA.out.size (λk hk=>by rw [hk,HGQ.out];exact Nat.le_refl _))
 have H3:=qh h3
 have H4:=qh h4
 clear hs1 h3 h4 HZ HA HGQ
 generalize World.setCell w2 _ _=w3 at H3 H4 ⊢
 have HB3:=qh (zH zL.out H4.out)
 obtain⟨⟨s0,s1,s2⟩, -,hss⟩:=CT.out w3 HB3.out
 have u0:=ze H3.out 0
 have u1:=ze H3.out 1
 have u2:=ze H3.out 2
 have hu3:=HU.out.below H4.out
 have HSM:Hid (Calls Tryz.prog 16 #[.agg #[.slice ta tn tc, .slice tb tk tf, .bool bs], .agg #[.slice qa qn qc, .slice ra rn rc, .bool bs]] w3 λe w'=>e= .returned (.bool false)/\Below w3.heap.size w3 w'):=by
  have h:=zqM w3 s ⟨u.threads,u.mem,s.bad⟩ bs bs HBS.out HBS.out _ _ _ _ _ _ _ _ _ _ _ _ hss ⟨hu3.threads,hu3.mem⟩
  rw [decide_eq_false z5w.out] at h
  exact h
 clear hss hu3
 go_wp2_with(go_at_call 16;go_must(refine(HSM.out).mono ?_);rintro e w4 ⟨rfl,hb⟩;(have vF:=qh (zH HB3.out hb));clear hb)
 go_roundg (n1 - (i+1))
 case measure=>rw [HG.out];omega
 case rel=>exact⟨i+1,by omega,rfl,by simp,vF.out⟩
