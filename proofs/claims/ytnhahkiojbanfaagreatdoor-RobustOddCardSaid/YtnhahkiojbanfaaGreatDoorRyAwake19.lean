/- Steps. -/
import Derived.Test.YtnhahkiojbanfaaGreatDoorRyPRobust
import Derived.Test.YtnhahkiojbanfaaGreatDoorRyRTrace
set_option linter.all false
namespace Go.Proofs.YtnhahkiojbanfaaGreatDoor
open Go.RowKit
set_option maxRecDepth 100000
set_option maxHeartbeats 16000000
def zbF:zG:=⟨1,1⟩
def ziM:zG:=⟨3,1⟩
theorem zmF:(qU qz zbF 400 1).1=false/\(qU qz zbF 400 1).2.2=0/\4<(qU qz zbF 400 1).2.1.length:=by decide+kernel
theorem zmG:(qU qz scM 400 1).1=true/\(qU qz scM 400 1).2.2=0/\(qU qz scM 400 1).2.1.length=0:=by decide+kernel
theorem z1m:(qU qz zbF 3 1).2.2=40:=by decide+kernel
theorem z1n:(qU qz ziM 400 1).2.2=1:=by decide+kernel
def ziN (b:Bool) (k:Int) (p:Nat->Prop) (w:World) (e:Ending) (w':World):Prop:=(∃(a:Option Addr) (n c:Nat),e= .returned (.tuple #[.bool b, .slice a n c, .int .i64 k])/\p n)/\Below w.heap.size w w'
theorem ze2 {b:Bool} {k:Int} {p:Nat->Prop} {w w':World} {r:Bool × List zq × Int} {e:Ending} (h1:r.1=b) (h2:r.2.2=k) (h3:p r.2.1.length) (h:zhO w r e w'):ziN b k p w e w':=by
 obtain⟨⟨a,n,c,rfl,hm⟩,hb⟩:=h
 obtain⟨_,_,q, -⟩:=zh.slice hm
 cases q
 rw [h1,h2]
 exact⟨⟨a,_,c,rfl,h3⟩,hb⟩
theorem zyk (w:World):Calls Tryz.prog 25 #[] w λe w'=>(∃(ta:Option Addr) (tc:Nat),e= .returned (.agg #[.int .i64 2, .int .i64 2, .slice ta 2 tc])/\yJ 1 w' (.slice ta 2 tc) qz.threads)/\Below w.heap.size w w':=by
 refine(zoQ w).mono ?_
 rintro e w' ⟨⟨tv,rfl,ht⟩,hb⟩
 obtain⟨ta,tc,rfl, -⟩:=zh.slice ht
 exact⟨⟨ta,tc,rfl,ht⟩,hb⟩
theorem z1o (w:World) (ta:Option Addr) (tc:Nat) (h:yJ 1 w (.slice ta 2 tc) qz.threads):Calls Tryz.prog 9 #[.agg #[.int .i64 2, .int .i64 2, .slice ta 2 tc], .agg #[.int .i64 1, .int .i64 1], .int .i64 400] w (ziN false 0 (λn=>4<n) w):=(uS w qz _ 1 h zbF 400).mono λ_ _ h=>ze2 zmF.1 zmF.2.1 zmF.2.2 h
theorem z1p (w:World) (ta:Option Addr) (tc:Nat) (h:yJ 1 w (.slice ta 2 tc) qz.threads):Calls Tryz.prog 9 #[.agg #[.int .i64 2, .int .i64 2, .slice ta 2 tc], .agg #[.int .i64 0, .int .i64 1], .int .i64 400] w (ziN true 0 (λn=>n=0) w):=(uS w qz _ 1 h scM 400).mono λ_ _ h=>ze2 zmG.1 zmG.2.1 zmG.2.2 h
theorem z1q (w:World) (ta:Option Addr) (tc:Nat) (h:yJ 1 w (.slice ta 2 tc) qz.threads):Calls Tryz.prog 9 #[.agg #[.int .i64 2, .int .i64 2, .slice ta 2 tc], .agg #[.int .i64 1, .int .i64 1], .int .i64 3] w (ziN (qU qz zbF 3 1).1 40 (λ_=>True) w):=(uS w qz _ 1 h zbF 3).mono λ_ _ h=>ze2 rfl z1m trivial h
theorem z1r (w:World) (ta:Option Addr) (tc:Nat) (h:yJ 1 w (.slice ta 2 tc) qz.threads):Calls Tryz.prog 9 #[.agg #[.int .i64 2, .int .i64 2, .slice ta 2 tc], .agg #[.int .i64 3, .int .i64 1], .int .i64 400] w (ziN (qU qz ziM 400 1).1 1 (λ_=>True) w):=(uS w qz _ 1 h ziM 400).mono λ_ _ h=>ze2 rfl z1n trivial h
theorem zg6 (w:World):Calls Tryz.prog 12 #[] w λe w'=>e= .returned (.bool true)/\Below w.heap.size w w':=by
 have hc3:=z1q
 have hc4:=z1r
 generalize (qU qz zbF 3 1).1=q3 at hc3
 generalize (qU qz ziM 400 1).1=q4 at hc4
 have HC3:=qh hc3
 have HC4:=qh hc4
 clear hc3 hc4
 go_enter Tryz.func12,Tryz.ntmps12
 go_upto_region 2 with(go_at_call 25;go_must(refine(zyk _).mono ?_);rintro e W1 ⟨⟨ta,tc,rfl,ht⟩,hb⟩;have HT1:=qh ht;have HB0:=qh hb;clear ht hb)
 have ha:=(Below.refl W1.heap.size W1).alloc (Nat.le_refl _) (.cells #[.int .i64 2, .int .i64 2, .slice ta 2 tc] 26)
 have hz:=yh W1 (.cells #[.int .i64 2, .int .i64 2, .slice ta 2 tc] 26)
 have HT2:=qh (zh.below (qo.stays 1) HT1.out ha)
 have HB1:=qh (HB0.out.trans (ha.mono HB0.out.size))
 have HZ:=qh hz
 clear ha hz HT1 HB0
 generalize World.alloc W1 _=X1 at HT2 HB1 HZ ⊢
 generalize W1.heap.size=g at HZ ⊢
 have CX:Hid (∀y,Below X1.heap.size X1 y->y.cell? ⟨g,0,none⟩=some (.int .i64 2)/\y.cell? ⟨g,1,none⟩=some (.int .i64 2)/\y.cell? ⟨g,2,none⟩=some (.slice ta 2 tc)/\yJ 1 y (.slice ta 2 tc) qz.threads):=λy hy=>⟨zi hy _ _ (ze HZ.out 0),zi hy _ _ (ze HZ.out 1),zi hy _ _ (ze HZ.out 2),zh.below (qo.stays 1) HT2.out hy⟩
 clear HT2 HZ
 have vL:Hid (Below X1.heap.size X1 X1):=Below.refl _ _
 obtain⟨x0,x1,x2,hx⟩:=CX.out X1 vL.out
 have HRW:=qh hx
 clear hx
 go_upto_region 3 with(go_at_call 9;go_must(refine(z1o X1 ta tc HRW.out).mono ?_);rintro e X2 ⟨⟨a2,n2,c2,rfl,hp2⟩,hb⟩;(have HS2:=qh (zD vL.out hb));clear hb)
 clear x0 x1 x2 HRW
 obtain⟨x0,x1,x2,hx⟩:=CX.out X2 HS2.out
 have HRW:=qh hx
 clear hx
 go_upto_region 4 with(go_at_call 9;go_must(refine(z1p X2 ta tc HRW.out).mono ?_);rintro e X3 ⟨⟨a3,n3,c3,rfl,hp3⟩,hb⟩;(have HS3:=qh (zD HS2.out hb));clear hb)
 clear x0 x1 x2 HRW
 obtain⟨x0,x1,x2,hx⟩:=CX.out X3 HS3.out
 have HRW:=qh hx
 clear hx
 go_upto_region 5 with(go_at_call 9;go_must(refine(HC3.out X3 ta tc HRW.out).mono ?_);rintro e X4 ⟨⟨a4,n4,c4,rfl,hp4⟩,hb⟩;(have HS4:=qh (zD HS3.out hb));clear hb)
 clear x0 x1 x2 HRW
 obtain⟨x0,x1,x2,hx⟩:=CX.out X4 HS4.out
 have HRW:=qh hx
 clear hx
 go_upto_region 6 with(go_at_call 9;go_must(refine(HC4.out X4 ta tc HRW.out).mono ?_);rintro e X5 ⟨⟨a5,n5,c5,rfl,hp5⟩,hb⟩;(have HS5:=qh (zD HS4.out hb));clear hb)
 clear x0 x1 x2 HRW
 subst hp3
 have h4:(4:Int)<(n2:Int):=by omega
 have h4d:decide ((4:Int)<(n2:Int))=true:=decide_eq_true h4
 go_wp2_with fail
 go_ret
 exact⟨rfl,HB1.out.trans (HS5.out.mono HB1.out.size)⟩
def z9D (l:List zk) (r:Int):Prop:=(∃i:Nat,i<l.length/\r=i/\(l.getD i default).bad=true/\∀j,j<i->(l.getD j default).bad=false)\/(r= -1/\∀j,j<l.length->(l.getD j default).bad=false)
theorem zsX {c:zI} (h:codeOk c=true) (q:Int):jh c (zhX q)=true:=by
 unfold jh zhX
 simp only [Bool.and_eq_true,decide_eq_true_eq]
 have h1:=Int.emod_nonneg q (show(3:Int)≠0 by omega)
 have h2:=Int.emod_lt_of_pos q (show(0:Int)<3 by omega)
 have h3:=Int.emod_nonneg (q / 3) (show(3:Int)≠0 by omega)
 have h4:=Int.emod_lt_of_pos (q / 3) (show(0:Int)<3 by omega)
 exact⟨⟨⟨⟨h,by omega⟩,by omega⟩,by omega⟩,by omega⟩
theorem zwN {x:Int} (h:(Lit.int .u8 x).wf=true):0<=x/\x<=255:=by
 constructor
 ·simp [Lit.wf,IntKind.min,IntKind.max,IntKind.signed] at h;omega
 simp [Lit.wf,IntKind.min,IntKind.max,IntKind.signed,IntKind.bits] at h;omega
theorem zrH {x:Int} (h:(Lit.int .u16 x).wf=true):0<=x/\x<=65535:=by
 constructor
 ·simp [Lit.wf,IntKind.min,IntKind.max,IntKind.signed] at h;omega
 simp [Lit.wf,IntKind.min,IntKind.max,IntKind.signed,IntKind.bits] at h;omega
theorem zjv (w:World) (sv:Value) (l0:List Int) (hn:jv w .u8 sv l0) (hcap:∀a n c,sv= .slice a n c->n<=c) (q:Int) (q0:0<=q) (q1:q<=255) (room:Int) (r0:0<=room) (r1:room<=65535):
  Calls Tryz.prog 3 #[sv, .int .u8 q, .int .u16 room] w λe w'=>e= .returned (.bool true)/\Below w.heap.size w w':=by
 have HSM:Hid (∀y,Below w.heap.size w y->Calls Tryz.prog 7 #[sv] y (zgV y)):=λy hy=>zgy y sv l0 (hn.below hy) hcap
 obtain⟨sa,sc,rfl, -⟩:∃a c,sv= .slice a l0.length c/\True:=by obtain⟨a,c,h, -⟩:=hn;exact⟨a,c,h,trivial⟩
 generalize l0.length=ln at HSM ⊢
 clear hn hcap
 have ziO:=λy=>znv y q q0 q1
 have hmay:=λc (h:codeOk c=true)=>zsX h q
 unfold xO at ziO
 obtain⟨M,hM⟩:∃M,M=zhX q:=⟨_,rfl⟩
 rw [<-hM] at ziO hmay
 clear hM
 obtain⟨mo,bo⟩:=M
 dsimp only at ziO
 have zxu:=qh ziO
 have zdo:=qh hmay
 clear ziO hmay q0 q1
 go_enter Tryz.func3,Tryz.ntmps3
 have z1s:=qh (HSM.out w (Below.refl _ _))
 go_upto_region 2 with(first|(go_at_call 7;go_must(refine(z1s.out).mono ?_);rintro en W1 ⟨⟨c,tv,rfl,hc,hok,hct⟩,hb⟩;(have HB1:=qh hb);(have HC1:=qh hc);(have jk:=qh hok);(obtain⟨ca,cc,rfl, -⟩:=zh.slice hc);clear hb hc hok hct;unfold yO)|(go_at_call 8;go_must(refine(zxu.out _).mono ?_);rintro en W2 ⟨rfl,hb⟩;(have HB2:=qh hb);clear hb))
 have hx1:=λr y hy=>uS y c (.slice ca c.threads.length cc) 3 hy ⟨mo,bo⟩ r
 have hx2:=λr y hy=>zgs y c (.slice ca c.threads.length cc) 3 hy ⟨mo,bo⟩ r
 obtain⟨RX,hRX⟩:∃RX:Int->Bool × List zq × Int,RX=λr=>qU c ⟨mo,bo⟩ r 3:=⟨_,rfl⟩
 have z1t:∀r,qU c ⟨mo,bo⟩ r 3=RX r:=λr=>by rw [hRX]
 simp only [z1t] at hx1 hx2
 clear hRX z1t
 unfold yO xO at hx1 hx2
 dsimp only at hx1 hx2
 generalize c.vars=vars at hx1 hx2 ⊢
 generalize c.domain=dom at hx1 hx2 ⊢
 generalize c.threads=cs at HC1 hx1 hx2 ⊢
 generalize cs.length=cn at HC1 hx1 hx2 ⊢
 clear jk
 clear zdo
 clear c
 have HX1:=qh hx1
 have HX2:=qh hx2
 clear hx1 hx2 z1s
 have ha:=xB W2 (.cells #[.int .i64 vars, .int .i64 dom, .slice ca cn cc] 26) (.cells #[.int .i64 mo, .int .i64 bo] 29)
 have hw1:=HB2.out.trans (ha.mono HB2.out.size)
 have HBV:=qh (HB1.out.trans (hw1.mono HB1.out.size))
 have HCV:=qh (zh.below (qo.stays 3) HC1.out hw1)
 have K1:=qh (xA W2 (.cells #[.int .i64 vars, .int .i64 dom, .slice ca cn cc] 26) (.cells #[.int .i64 mo, .int .i64 bo] 29))
 have K2:=qh (xg W2 (.cells #[.int .i64 vars, .int .i64 dom, .slice ca cn cc] 26) (.cells #[.int .i64 mo, .int .i64 bo] 29))
 clear ha hw1 HB1 HB2 HC1 HSM zxu
 generalize World.alloc (World.alloc W2 _) _=V at HBV HCV K1 K2 ⊢
 generalize W2.heap.size=gc at K1 K2 ⊢
 have CX:Hid (∀y,Below V.heap.size V y->y.cell? ⟨gc,0,none⟩=some (.int .i64 vars)/\y.cell? ⟨gc,1,none⟩=some (.int .i64 dom)/\y.cell? ⟨gc,2,none⟩=some (.slice ca cn cc)/\y.cell? ⟨gc+1,0,none⟩=some (.int .i64 mo)/\y.cell? ⟨gc+1,1,none⟩=some (.int .i64 bo)/\yJ 3 y (.slice ca cn cc) cs):=λy hy=>
  ⟨zi hy _ _ (ze K1.out 0),zi hy _ _ (ze K1.out 1),zi hy _ _ (ze K1.out 2),zi hy _ _ (ze K2.out 0),zi hy _ _ (ze K2.out 1),zh.below (qo.stays 3) HCV.out hy⟩
 clear K1 K2 HCV
 go_cut [24,25,26] (λs24 s25 s26 w'=>∃(b of:Nat),s24= .slice (some ⟨b,of,none⟩) 2 2/\s25= .int .i64 2/\s26= .int .i64 0/\Hid (∀j,j<2->∃r,w'.cell? ⟨b,of+j,none⟩=some (.int .i64 r))/\Hid (Below V.heap.size V w'))
 case first=>
  go_wp2_with fail
  go_meet
  case rel=>
  refine⟨_,0,rfl,rfl,rfl,λj hj=> ?_,(Below.refl _ V).alloc (Nat.le_refl _) _⟩
  rw [ze (yh V _),Nat.zero_add]
  rcases(show j=0\/j=1 by omega) with rfl|rfl
  ·exact⟨_,rfl⟩
  exact⟨_,rfl⟩
 case rest=>
 obtain⟨b,of,rfl,rfl,rfl,HCE,HBC⟩:=hcut
 obtain⟨Z,rfl⟩:∃Z:World,Z=wc:=⟨_,rfl⟩
 clear r0 r1
 go_wp2_with fail
 go_loopg [26] 2 (λgg s26 wr=>∃i:Nat,i<=2/\Hid (gg=2 - i)/\s26= .int .i64 i/\Hid (Below Z.heap.size Z wr))
 case atStart=>exact⟨0,Nat.zero_le _,rfl,rfl,Below.refl _ _⟩
 case round=>
 obtain⟨i,hi,HG,rfl,HZR⟩:=hrel
 obtain⟨X4,rfl⟩:∃X:World,X=wr:=⟨_,rfl⟩
 by_cases hlt:i<2
 rotate_left
 ·obtain rfl:i=2:=by omega
  go_wp2_with(go_at_call 12;go_must(refine(zg6 _).mono ?_);rintro e Y ⟨rfl,hb⟩;(have HA:=qh hb);clear hb)
  go_ret
  exact⟨rfl,HBV.out.trans (((zD HBC.out HZR.out).trans (HA.out.mono (zD HBC.out HZR.out).size)).mono HBV.out.size)⟩
 have qA:(i:Int)<2:=by omega
 obtain⟨r,hr⟩:=HCE.out i hlt
 have hr4:=zi HZR.out _ _ hr
 clear hr
 have hx1:=HX1.out r
 have hx2:=HX2.out r
 obtain⟨⟨bl,ms,er⟩,hR⟩:∃p,p=RX r:=⟨_,rfl⟩
 rw [<-hR] at hx1 hx2
 have gF:=qh hx1
 have HY2:=qh hx2
 clear hx1 hx2 hR
 have HV4:=qh (zD HBC.out HZR.out)
 go_upto_region 5 with fail
 clear hr4
 obtain⟨z0,z1,z2,x0,x1,hx⟩:=CX.out X4 HV4.out
 have HRW:=qh hx
 clear hx
 go_upto_region 6 with(go_at_call 9;go_must(refine(gF.out _ HRW.out).mono ?_);rintro e X5 ⟨⟨xa,xn,xc,rfl,hm⟩,hb⟩;(have HM1:=qh hm);(have jQ:=qh hb);clear hm hb)
 clear z0 z1 z2 x0 x1 HRW
 try dsimp only
 obtain⟨z0,z1,z2,x0,x1,hx⟩:=CX.out X5 (zD HV4.out jQ.out)
 have HRW:=qh hx
 clear hx
 go_upto_region 7 with(go_at_call 10;go_must(refine(HY2.out _ HRW.out).mono ?_);rintro e X6 ⟨⟨ya,yn,yc,rfl,hm⟩,hb⟩;(have uY:=qh hm);(have HB6:=qh (zD jQ.out hb));(have kV:=qh (zh.below zbo.stays HM1.out hb));clear hm hb)
 clear z0 z1 z2 x0 x1 HRW
 try dsimp only
 have hb1:(bl !=bl)=false:=by simp
 have hb2:(er !=er)=false:=by simp
 go_wp2_with(go_at_call 11;go_must(refine(zg7 X6 _ _ ms kV.out uY.out).mono ?_);rintro e X7 ⟨rfl,hb⟩;(have HB7:=qh (zD HB6.out hb));clear hb)
 go_roundg (2 - (i+1))
 case measure=>rw [HG.out];omega
 case rel=>exact⟨i+1,by omega,rfl,by simp,zD HZR.out HB7.out⟩
