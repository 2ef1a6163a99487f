/- Steps. -/
import Derived.Test.YtnhahkiojbanfaaGreatDoorRqDek
import Derived.Test.YtnhahkiojbanfaaGreatDoorRqLoadsP
import Derived.Test.YtnhahkiojbanfaaGreatDoorRqPRobust
set_option linter.all false
namespace Go.Proofs.YtnhahkiojbanfaaGreatDoor
open Go.RowKit
set_option maxRecDepth 100000
set_option maxHeartbeats 16000000
def bL:zu:=⟨1,1⟩
def zfk:zu:=⟨3,1⟩
theorem zil:(yD yR bL 400 1).1=false/\(yD yR bL 400 1).2.2=0/\4<(yD yR bL 400 1).2.1.length:=by decide+kernel
theorem zim:(yD yR jf 400 1).1=true/\(yD yR jf 400 1).2.2=0/\(yD yR jf 400 1).2.1.length=0:=by decide+kernel
theorem ztM:(yD yR bL 3 1).2.2=40:=by decide+kernel
theorem ztN:(yD yR zfk 400 1).2.2=1:=by decide+kernel
def zfl (b:Bool) (k:Int) (p:Nat->Prop) (w:World) (e:Ending) (w':World):Prop:=(∃(a:Option Addr) (n c:Nat),e= .returned (.tuple #[.bool b, .slice a n c, .int .i64 k])/\p n)/\Below w.heap.size w w'
theorem zbN {b:Bool} {k:Int} {p:Nat->Prop} {w w':World} {r:Bool × List zo × Int} {e:Ending} (h1:r.1=b) (h2:r.2.2=k) (h3:p r.2.1.length) (h:zin w r e w'):zfl b k p w e w':=by
 obtain⟨⟨a,n,c,rfl,hm⟩,hb⟩:=h
 obtain⟨_,_,q, -⟩:=zh.slice hm
 cases q
 rw [h1,h2]
 exact⟨⟨a,_,c,rfl,h3⟩,hb⟩
theorem zsp (w:World):Calls Tryz.prog 25 #[] w λe w'=>(∃(ta:Option Addr) (tc:Nat),e= .returned (.agg #[.int .i64 2, .int .i64 2, .slice ta 2 tc])/\yS 1 w' (.slice ta 2 tc) yR.threads)/\Below w.heap.size w w':=by
 refine(zlx w).mono ?_
 rintro e w' ⟨⟨tv,rfl,ht⟩,hb⟩
 obtain⟨ta,tc,rfl, -⟩:=zh.slice ht
 exact⟨⟨ta,tc,rfl,ht⟩,hb⟩
theorem ztO (w:World) (ta:Option Addr) (tc:Nat) (h:yS 1 w (.slice ta 2 tc) yR.threads):Calls Tryz.prog 9 #[.agg #[.int .i64 2, .int .i64 2, .slice ta 2 tc], .agg #[.int .i64 1, .int .i64 1], .int .i64 400] w (zfl false 0 (λn=>4<n) w):=(kE w yR _ 1 h bL 400).mono λ_ _ h=>zbN zil.1 zil.2.1 zil.2.2 h
theorem ztP (w:World) (ta:Option Addr) (tc:Nat) (h:yS 1 w (.slice ta 2 tc) yR.threads):Calls Tryz.prog 9 #[.agg #[.int .i64 2, .int .i64 2, .slice ta 2 tc], .agg #[.int .i64 0, .int .i64 1], .int .i64 400] w (zfl true 0 (λn=>n=0) w):=(kE w yR _ 1 h jf 400).mono λ_ _ h=>zbN zim.1 zim.2.1 zim.2.2 h
theorem ztQ (w:World) (ta:Option Addr) (tc:Nat) (h:yS 1 w (.slice ta 2 tc) yR.threads):Calls Tryz.prog 9 #[.agg #[.int .i64 2, .int .i64 2, .slice ta 2 tc], .agg #[.int .i64 1, .int .i64 1], .int .i64 3] w (zfl (yD yR bL 3 1).1 40 (λ_=>True) w):=(kE w yR _ 1 h bL 3).mono λ_ _ h=>zbN rfl ztM trivial h
theorem ztR (w:World) (ta:Option Addr) (tc:Nat) (h:yS 1 w (.slice ta 2 tc) yR.threads):Calls Tryz.prog 9 #[.agg #[.int .i64 2, .int .i64 2, .slice ta 2 tc], .agg #[.int .i64 3, .int .i64 1], .int .i64 400] w (zfl (yD yR zfk 400 1).1 1 (λ_=>True) w):=(kE w yR _ 1 h zfk 400).mono λ_ _ h=>zbN rfl ztN trivial h
theorem zjw (w:World):Calls Tryz.prog 12 #[] w λe w'=>e= .returned (.bool true)/\Below w.heap.size w w':=by
 have hc3:=ztQ
 have hc4:=ztR
 generalize (yD yR bL 3 1).1=q3 at hc3
 generalize (yD yR zfk 400 1).1=q4 at hc4
 have HC3:=qh hc3
 have HC4:=qh hc4
 clear hc3 hc4
 go_enter Tryz.func12,Tryz.ntmps12
 go_upto_region 2 with(go_at_call 25;go_must(refine(zsp _).mono ?_);rintro e W1 ⟨⟨ta,tc,rfl,ht⟩,hb⟩;have HT1:=qh ht;have HB0:=qh hb;clear ht hb)
 have ha:=(Below.refl W1.heap.size W1).alloc (Nat.le_refl _) (.cells #[.int .i64 2, .int .i64 2, .slice ta 2 tc] 26)
 have hz:=zS W1 (.cells #[.int .i64 2, .int .i64 2, .slice ta 2 tc] 26)
 have HT2:=qh (zh.below (qU.stays 1) HT1.out ha)
 have HB1:=qh (HB0.out.trans (ha.mono HB0.out.size))
 have HZ:=qh hz
 clear ha hz HT1 HB0
 generalize World.alloc W1 _=X1 at HT2 HB1 HZ ⊢
 generalize W1.heap.size=g at HZ ⊢
 have CX:Hid (∀y,Below X1.heap.size X1 y->y.cell? ⟨g,0,none⟩=some (.int .i64 2)/\y.cell? ⟨g,1,none⟩=some (.int .i64 2)/\y.cell? ⟨g,2,none⟩=some (.slice ta 2 tc)/\yS 1 y (.slice ta 2 tc) yR.threads):=λy hy=>⟨zk hy _ _ (ze HZ.out 0),zk hy _ _ (ze HZ.out 1),zk hy _ _ (ze HZ.out 2),zh.below (qU.stays 1) HT2.out hy⟩
 clear HT2 HZ
 have HS1:Hid (Below X1.heap.size X1 X1):=Below.refl _ _
 obtain⟨x0,x1,x2,hx⟩:=CX.out X1 HS1.out
 have HRW:=qh hx
 clear hx
 go_upto_region 3 with(go_at_call 9;go_must(refine(ztO X1 ta tc HRW.out).mono ?_);rintro e X2 ⟨⟨a2,n2,c2,rfl,hp2⟩,hb⟩;(have HS2:=qh (zM HS1.out hb));clear hb)
 clear x0 x1 x2 HRW
 obtain⟨x0,x1,x2,hx⟩:=CX.out X2 HS2.out
 have HRW:=qh hx
 clear hx
 go_upto_region 4 with(go_at_call 9;go_must(refine(ztP X2 ta tc HRW.out).mono ?_);rintro e X3 ⟨⟨a3,n3,c3,rfl,hp3⟩,hb⟩;(have HS3:=qh (zM HS2.out hb));clear hb)
 clear x0 x1 x2 HRW
 obtain⟨x0,x1,x2,hx⟩:=CX.out X3 HS3.out
 have HRW:=qh hx
 clear hx
 go_upto_region 5 with(go_at_call 9;go_must(refine(HC3.out X3 ta tc HRW.out).mono ?_);rintro e X4 ⟨⟨a4,n4,c4,rfl,hp4⟩,hb⟩;(have HS4:=qh (zM HS3.out hb));clear hb)
 clear x0 x1 x2 HRW
 obtain⟨x0,x1,x2,hx⟩:=CX.out X4 HS4.out
 have HRW:=qh hx
 clear hx
 go_upto_region 6 with(go_at_call 9;go_must(refine(HC4.out X4 ta tc HRW.out).mono ?_);rintro e X5 ⟨⟨a5,n5,c5,rfl,hp5⟩,hb⟩;(have HS5:=qh (zM HS4.out hb));clear hb)
 clear x0 x1 x2 HRW
 subst hp3
 have h4:(4:Int)<(n2:Int):=by omega
 have h4d:decide ((4:Int)<(n2:Int))=true:=decide_eq_true h4
 go_wp2_with fail
 go_ret
 exact⟨rfl,HB1.out.trans (HS5.out.mono HB1.out.size)⟩
theorem zfn (w:World) (sv:Value) (l0:List Int) (hn:vo w .u8 sv l0) (hcap:∀a n c,sv= .slice a n c->n<=c) (q:Int) (q0:0<=q) (q1:q<=255):
  Calls Tryz.prog 6 #[sv, .int .u8 q] w λe w'=>e= .returned (.bool true)/\Below w.heap.size w w':=by
 have HSM:Hid (∀y,Below w.heap.size w y->Calls Tryz.prog 7 #[sv] y (zcA y)):=λy hy=>zlj y sv l0 (hn.below hy) hcap
 obtain⟨sa,sc,rfl, -⟩:∃a c,sv= .slice a l0.length c/\True:=by obtain⟨a,c,h, -⟩:=hn;exact⟨a,c,h,trivial⟩
 generalize l0.length=ln at HSM ⊢
 clear hn hcap
 have zfo:=λy=>zjj y q q0 q1
 have hmay:=λc (h:codeOk c=true)=>znl h q
 unfold vZ at zfo
 obtain⟨M,hM⟩:∃M,M=zeK q:=⟨_,rfl⟩
 rw [<-hM] at zfo hmay
 clear hM
 obtain⟨mo,bo⟩:=M
 dsimp only at zfo
 have zrj:=qh zfo
 have zfQ:=qh hmay
 clear zfo hmay q0 q1
 go_enter Tryz.func6,Tryz.ntmps6
 go_upto_region 4 with(go_at_call 12;go_must(refine(zjw _).mono ?_);rintro e W0 ⟨rfl,hb⟩;(have HB0:=qh hb);clear hb)
 have ztU:=qh (HSM.out W0 HB0.out)
 go_upto_region 5 with(first|(go_at_call 7;go_must(refine(ztU.out).mono ?_);rintro en W1 ⟨⟨c,tv,rfl,hc,hok,hct,hc5⟩,hb⟩;(have HB1:=qh hb);(have HC1:=qh hc);(have vK:=qh hok);(have HCT:=qh hct);(have HC5:=qh hc5);(obtain⟨ca,cc,rfl, -⟩:=zh.slice hc);clear hb hc hok hct hc5;unfold xW)|(go_at_call 8;go_must(refine(zrj.out _).mono ?_);rintro en W2 ⟨rfl,hb⟩;(have HB2:=qh hb);clear hb))
 have hbd:=yQ vK.out
 obtain⟨ht1,ht2⟩:=zsb vK.out
 have hr1:(yD ⟨c.vars,c.domain,c.threads.take 1⟩ ⟨mo,bo⟩ 300 3)=(true, [],0)\/(yD ⟨c.vars,c.domain,c.threads.take 1⟩ ⟨mo,bo⟩ 300 3)=(false, [],40):=by
  have hc3:((300:Nat):Int)=300:=rfl
  rcases zly (c:=⟨c.vars,c.domain,c.threads.take 1⟩) (m:=⟨mo,bo⟩) (d:=3) (R:=300) (zfQ.out _ ht1) (by omega) (by omega) with h|h
  ·have:=zio (c:=⟨c.vars,c.domain,c.threads.take 1⟩) (m:=⟨mo,bo⟩) (d:=3) (R:=300) ht2 h
   rw [hc3] at this
   exact .inl this
  rw [hc3] at h
  exact .inr h
 have hr2:yD (wX c) ⟨mo,bo⟩ 300 3=(true, [],0):=by
  have hc3:((300:Nat):Int)=300:=rfl
  have:=zhT (c:=wX c) (m:=⟨mo,bo⟩) (d:=3) (zfQ.out _ (zpl vK.out)) (zsa HC5.out) (by simpa [wX] using HCT.out)
  rwa [hc3] at this
 have hx1:=λy tv hy=>kE y ⟨c.vars,c.domain,c.threads.take 1⟩ tv 3 hy ⟨mo,bo⟩ 300
 have hx2:=λy tv hy=>kE y (wX c) tv 3 hy ⟨mo,bo⟩ 300
 rw [hr2] at hx2
 obtain⟨R1,hR1⟩:∃R,R=yD ⟨c.vars,c.domain,c.threads.take 1⟩ ⟨mo,bo⟩ 300 3:=⟨_,rfl⟩
 rw [<-hR1] at hx1 hr1
 clear hR1 hr2 ht1 ht2
 unfold xW vZ at hx1 hx2
 unfold wX at hx2
 dsimp only at hx1 hx2
 have hc5:=HC5.out
 have hct:=HCT.out
 have hl1:=hbd.2.2.2.2.1
 generalize c.vars=vars at hx1 hx2 ⊢
 generalize c.domain=dom at hx1 hx2 ⊢
 generalize c.threads=cs at HC1 hx1 hx2 hc5 hct hl1 ⊢
 obtain⟨cn,hcn⟩:∃n,n=cs.length:=⟨_,rfl⟩
 rw [<-hcn] at HC1 hc5 hct hl1 ⊢
 clear vK
 clear zfQ
 clear HC5 HCT hbd
 clear c
 have hcc:cn<=cc:=by obtain⟨a,cap,e,h, -⟩:=HC1.out;cases e;omega
 have z05:cc<=9223372036854775807:=by obtain⟨a,cap,e,h, -⟩:=HC1.out;cases e;omega
 have HX1:=qh hx1
 have HX2:=qh hx2
 have HR1:=qh hr1
 have HC5:=qh hc5
 have HCN:=qh hcn
 clear hx1 hx2 hr1 hc5 hcn
 have ha:=xQ W2 (.cells #[.int .i64 vars, .int .i64 dom, .slice ca cn cc] 26) (.cells #[.int .i64 mo, .int .i64 bo] 29)
 have qN:=qh (HB0.out.trans ((HB1.out.trans (HB2.out.mono HB1.out.size)).mono HB0.out.size))
 have HRW:=qh (zh.below (qU.stays 3) HC1.out HB2.out)
 have HAV:=qh ha
 have K1:=qh (xR W2 (.cells #[.int .i64 vars, .int .i64 dom, .slice ca cn cc] 26) (.cells #[.int .i64 mo, .int .i64 bo] 29))
 have K2:=qh (yT W2 (.cells #[.int .i64 vars, .int .i64 dom, .slice ca cn cc] 26) (.cells #[.int .i64 mo, .int .i64 bo] 29))
 clear ha HB0 ztU HB1 HB2 HC1 HSM zrj
 generalize World.alloc (World.alloc W2 _) _=V at HAV K1 K2 ⊢
 obtain⟨gc,hgc⟩:∃g,g=W2.heap.size:=⟨_,rfl⟩
 rw [<-hgc] at K1 K2 ⊢
 have HGC:=qh hgc
 clear hgc
 have z0:=ze K1.out 0
 have z1:=ze K1.out 1
 have z2:=ze K1.out 2
 go_upto_region 6 with fail
 clear z0 z1 z2
 have hz:=zS V (.cells #[.int .i64 vars, .int .i64 dom, .slice ca cn cc] 26)
 have ha:=(Below.refl V.heap.size V).alloc (Nat.le_refl _) (.cells #[.int .i64 vars, .int .i64 dom, .slice ca cn cc] 26)
 have HL:=qh hz
 have HA5:=qh (HAV.out.trans (ha.mono HAV.out.size))
 have K3:=qh ((ha.block _ (zy K1.out)).trans K1.out)
 have K4:=qh ((ha.block _ (zy K2.out)).trans K2.out)
 have HGV:Hid (gc+1<V.heap.size):=zy K2.out
 clear hz ha K1 K2 HAV
 generalize World.alloc V _=X5 at HL HA5 K3 K4 ⊢
 generalize V.heap.size=gl at HL HGV ⊢
 have HGL:=HGV.out
 have z2:=ze K3.out 2
 have f2:=zK K3.out 2
 have z0I:(1:Int)<=(cc:Int):=by omega
 have z0J:(1:Int)<=(cn:Int):=by omega
 go_upto_region 7 with fail
 clear z2 f2
 have hs1:Since (λk=>k=gc) X5 (X5.setCell ⟨gc,2,none⟩ (.slice ca 1 cc)):=Since.setCell (F:=λk=>k=gc) (p:=⟨gc,2,none⟩) (Since.refl _ _) (.inl rfl) _
 have h3:(X5.setCell ⟨gc,2,none⟩ (.slice ca 1 cc)).heap[gc]? =some (.cells #[.int .i64 vars, .int .i64 dom, .slice ca 1 cc] 26 (0,0)):=by have:=zD K3.out 2 (.slice ca 1 cc);simpa using this
 have h4:=(hs1.block _ (zy K4.out) (by omega)).trans K4.out
 have h5:=(hs1.block _ (zy HL.out) (by omega)).trans HL.out
 have h6:=HA5.out.trans (hs1.below HA5.out.size (λk hk=>by rw [hk,HGC.out];exact Nat.le_refl _))
 have H3:=qh h3
 have H4:=qh h4
 have H5:=qh h5
 have H6:=qh h6
 clear hs1 h3 h4 h5 h6 HL HA5 K3 K4
 generalize World.setCell X5 _ _=X6 at H3 H4 H5 H6 ⊢
 have CM:Hid (∀y,Below X6.heap.size X6 y->y.cell? ⟨gc+1,0,none⟩=some (.int .i64 mo)/\y.cell? ⟨gc+1,1,none⟩=some (.int .i64 bo)):=λy hy=>⟨zk hy _ _ (ze H4.out 0),zk hy _ _ (ze H4.out 1)⟩
 have ztV:=zna (zh.below (qU.stays 3) HRW.out H6.out) (by rw [<-HCN.out];exact hl1)
 have ztW:=qh ztV
 clear ztV
 have z0:=ze H3.out 0
 have z1:=ze H3.out 1
 have z2:=ze H3.out 2
 obtain⟨x0,x1⟩:=CM.out X6 (Below.refl _ _)
 obtain⟨b1,ms,er⟩:=R1
 go_upto_region 8 with(go_at_call 9;go_must(refine(HX1.out X6 _ ztW.out).mono ?_);rintro e X7 ⟨⟨xa,xn,xc,rfl, -⟩,hb⟩;(have HB7:=qh hb);clear hb)
 try dsimp only
 clear z0 z1 z2 x0 x1 HX1 ztW H3
 have HL7:=qh ((HB7.out.block _ (zy H5.out)).trans H5.out)
 have HD7:=qh (zM H6.out HB7.out)
 clear H5 H4
 have hg7:gl<X7.heap.size:=zy HL7.out
 have ztY:gc<=X7.heap.size:=by rw [HGC.out];exact HD7.out.size
 go_upto_block 0 with fail
 go_cut [12] (λs12 w'=>∃(tc:Nat) (ta:Option Addr) (css:List (List Value)),s12= .slice ta cn tc/\Hid (gM gl X7 w' (.slice ta cn tc) (cs.map xA) css))
 case first=>
  go_wp2_with fail
  go_loopg [12,13] cn (λgg s12 s13 wr=>∃(i tc:Nat) (ta:Option Addr) (tl:List (List zC)) (css:List (List Value)),i<=cn/\Hid (gg=cn - i)/\s12= .slice ta i tc/\s13= .int .i64 i/\Hid (gM gl X7 wr (.slice ta i tc) tl css)/\Hid (tl=(cs.take i).map xA)/\Hid (tl.length=i))
  case atStart=>exact⟨0,0,none, [], [],Nat.zero_le _,rfl,rfl,rfl,gM.start (Below.refl _ _),rfl,rfl⟩
  case round=>
  obtain⟨i,tc,ta,tl,css,hi,HG,rfl,rfl,HGO,HTL,HTN⟩:=hrel
  obtain⟨wo,rfl⟩:∃X:World,X=wr:=⟨_,rfl⟩
  have CL:Hid (∀y,Below X7.heap.size X7 y->y.cell? ⟨gl,0,none⟩=some (.int .i64 vars)/\y.cell? ⟨gl,1,none⟩=some (.int .i64 dom)/\y.cell? ⟨gl,2,none⟩=some (.slice ca cn cc)):=λy hy=>⟨zk hy _ _ (ze HL7.out 0),zk hy _ _ (ze HL7.out 1),zk hy _ _ (ze HL7.out 2)⟩
  obtain⟨-, -,l2⟩:=CL.out wo HGO.out.below
  by_cases hlt:i<cn
  rotate_left
  ·obtain rfl:i=cn:=by omega
   have hfull:tl=cs.map xA:=by rw [HTL.out,HCN.out,List.take_length]
   subst hfull
   go_wp2_with fail
   go_meet
   case rel=>exact⟨tc,ta,css,rfl,HGO.out⟩
  have vY:(i:Int)<(cn:Int):=by omega
  obtain⟨eb,eo,ka0,kc0,zZ, -,r0,hins⟩:=yS.part HRW.out i (by rw [<-HCN.out];exact hlt)
  have HEA:=qh zZ
  subst zZ
  obtain⟨row,hrow⟩:∃r,r=cs.getD i [] :=⟨_,rfl⟩
  have h5r:=HC5.out i hlt
  rw [<-hrow] at r0 hins h5r
  obtain⟨rn,hrn⟩:∃n,n=row.length:=⟨_,rfl⟩
  rw [<-hrn] at r0 hins h5r
  have CRW:Hid (∀y,Below X7.heap.size X7 y->y.cell? ⟨gl,2,none⟩=some (.slice (some ⟨eb,eo,none⟩) cn cc)/\y.cell? ⟨eb,eo+i,none⟩=some (.slice ka0 rn kc0)):=λy hy=>⟨(CL.out y hy).2.2,zk (zM HD7.out hy) _ _ r0⟩
  have HIN:=qh hins
  have HRN:=qh hrn
  have zvO:=qh hrow
  clear hins hrn hrow r0 l2
  have hoz:gc<=wo.heap.size:=Nat.le_trans ztY HGO.out.below.size
  obtain⟨l2,r0⟩:=CRW.out wo HGO.out.below
  go_upto_block 2 with fail
  clear l2 r0
  go_cut [14] (λs14 w'=>∃(kn kc:Nat) (ka:Option Addr) (cs2:List (List Value)),s14= .slice ka kn kc/\Hid (GIn gc wo w' (.slice ka kn kc) (xA row) cs2)/\kn<=5)
  case first=>
   go_wp2_with fail
   go_loopg [14,15] rn (λgg s14 s15 wr=>∃(k kn kc:Nat) (ka:Option Addr) (kl:List zC) (cs2:List (List Value)),k<=rn/\Hid (gg=rn - k)/\s14= .slice ka kn kc/\s15= .int .i64 k/\Hid (GIn gc wo wr (.slice ka kn kc) kl cs2)/\Hid (kl=xA (row.take k))/\Hid (kl.length=kn)/\kn<=k)
   case atStart=>exact⟨0,0,0,none, [], [],Nat.zero_le _,rfl,rfl,rfl,GIn.start hoz (Below.refl _ _),rfl,rfl,Nat.le_refl _⟩
   case round=>
   obtain⟨k,kn,kc,ka,kl,cs2,hk,HG2,rfl,rfl,HGI,HKL,HKN,hkn⟩:=hrel
   obtain⟨w2,rfl⟩:∃X:World,X=wr:=⟨_,rfl⟩
   have HB2:=qh (zM HGO.out.below HGI.out.below)
   obtain⟨l2,r0⟩:=CRW.out w2 HB2.out
   by_cases hkl:k<rn
   rotate_left
   ·obtain rfl:k=rn:=by omega
    have hfull:kl=xA row:=by
     rw [HKL.out,HRN.out,List.take_length]
    subst hfull
    go_wp2_with fail
    go_meet
    case rel=>exact⟨kn,kc,ka,cs2,rfl,HGI.out,by omega⟩
   have hkI:(k:Int)<(rn:Int):=by omega
   obtain⟨ib,io,hka,aa,ba,an,ac,bn,bc,hcells,zlz⟩:=zvK HIN.out k (by rw [<-HRN.out];exact hkl)
   have HKA:=qh hka
   subst hka
   obtain⟨x,hx⟩:∃x,x=row.getD k default:=⟨_,rfl⟩
   have hnext:=zlk (l:=row) (k:=k) (by rw [<-HRN.out];exact hkl)
   rw [<-hx] at hcells zlz hnext
   obtain⟨⟨i0,i1,i2,i3⟩,⟨i4,i5,i6,i7⟩,i8,i9,i10,i11⟩:=hcells w2 (zM HD7.out HB2.out)
   have zxA:=qh zlz
   have HNX:=qh hnext
   clear hcells zlz hnext hx
   by_cases hop:x.op=1
   rotate_left
   ·have hope:(x.op==1)=false:=beq_eq_false_iff_ne.2 hop
    have zxB:decide (x.op=1)=false:=decide_eq_false hop
    have zp0:Hid (kl=xA (row.take (k+1))):=by
     have h:=HNX.out
     rw [if_neg hop, <-HKL.out] at h
     exact h.symm
    clear i1 i2 i3 i4 i5 i6 i7 i8 i9 i10 i11 HNX
    go_wp2_with fail
    go_roundg (rn - (k+1))
    case measure=>rw [HG2.out];omega
    case rel=>exact⟨k+1,kn,kc,ka,kl,cs2,by omega,rfl,rfl,by simp,HGI.out,zp0.out,HKN.out,by omega⟩
   have hope:(x.op==1)=true:=by rw [hop];rfl
   have zxB:decide (x.op=1)=true:=decide_eq_true hop
   rw [hop] at i0
   have hin1:=zxA.out
   rw [hop] at hin1
   have zxC:=qh hin1
   clear hin1
   have hrow:=HGI.out.st.row
   rw [HKN.out] at hrow
   have je:=qh hrow
   clear hrow
   have zp0:Hid (kl++ [x] =xA (row.take (k+1))):=by
    have h:=HNX.out
    rw [if_pos hop, <-HKL.out] at h
    exact h.symm
   have hD2:Below W2.heap.size W2 w2:=zM HD7.out HB2.out
   have HDD:=qh hD2
   have hsz2:=HGI.out.below.size
   have zxD:=qh hsz2
   clear hD2 hsz2 HNX
   go_wp2_with(at_builtin;go_must(refine zX _ rfl _ _ 55 rfl 60 (.agg #[.int .i64 0, .int .i64 0, .int .i64 0, .int .i64 0, .int .i64 0, .int .u8 0, .slice none 0 0, .int .i64 0, .int .i64 0, .int .u8 0, .slice none 0 0, .int .i64 0]) 12 128 Tryz.underlying55 j3 rfl (by decide) wo.heap.size (.slice ka kn kc) kn cs2.flatten rfl ((je.out).alloc _) ⟨w2.heap.size,0,none⟩ 1 1 [.int .i64 1, .int .i64 x.reg, .int .i64 x.var, .int .i64 x.a.kind, .int .i64 x.a.n, .int .u8 x.a.op, .slice aa an ac, .int .i64 x.b.kind, .int .i64 x.b.n, .int .u8 x.b.op, .slice ba bn bc, .int .i64 x.dest] rfl rfl (vP _ [.int .i64 1, .int .i64 x.reg, .int .i64 x.var, .int .i64 x.a.kind, .int .i64 x.a.n, .int .u8 x.a.op, .slice aa an ac, .int .i64 x.b.kind, .int .i64 x.b.n, .int .u8 x.b.op, .slice ba bn bc, .int .i64 x.dest] _) (by simp [Value.oneCell']) (by unfold maxLen;omega) (by omega) (by have:=zxD.out;simp;omega) ?_);intro ja jc X f1 f2 f3 f4 f5 f6;have HP:=qh (HGI.out.push (x:=x) zxC.out HGC.out.symm HDD.out rfl (by rw [HKN.out];exact f1) f4);clear f1 f2 f3 f4 f5 f6)
   go_roundg (rn - (k+1))
   case measure=>rw [HG2.out];omega
   case rel=>exact⟨k+1,kn+1,jc,ja,kl++ [x],_,by omega,rfl,rfl,by simp,HP.out,zp0.out,by rw [Hid,List.length_append,HKN.out];rfl,by omega⟩
  case rest=>
  obtain⟨kn,kc,ka,cs2,rfl,HGI,hkn⟩:=hcut
  obtain⟨w3,rfl⟩:∃X:World,X=wc:=⟨_,rfl⟩
  have zp1:=qh (HGO.out.call HGI.out.below)
  have hrow:=zp1.out.st.row
  rw [HTN.out] at hrow
  have je:=qh hrow
  have HOZ:Hid (∀k,(Value.slice ta i tc).ownBlock=some k->k<wo.heap.size):=HGO.out.lt
  have zxE:=qh zp1.out.below.size
  have zxF:gl<wo.heap.size:=Nat.lt_of_lt_of_le hg7 HGO.out.below.size
  have zxG:Hid (tl++ [xA row] =(cs.take (i+1)).map xA):=by
   rw [Hid,zmZ (by rw [<-HCN.out];exact hlt), <-HTL.out, <-zvO.out]
  clear hrow
  go_wp2_with(at_builtin;go_must(refine zX _ rfl _ _ 24 rfl 55 (.slice none 0 0) 1 24 Tryz.underlying24 zdT rfl (by decide) X7.heap.size (.slice ta i tc) i css.flatten rfl ((je.out).alloc _) ⟨w3.heap.size,0,none⟩ 1 1 [.slice ka kn kc] rfl rfl (vP _ [.slice ka kn kc] _) (by simp [Value.oneCell']) (by unfold maxLen;omega) (by omega) (by have:=zxE.out;simp;omega) ?_);intro ja jc X f1 f2 f3 f4 f5 f6;have HP:=qh (zp1.out.push HGI.out HOZ.out zxF ztY (by omega) (by rw [HTN.out];exact f1) f4 f5);clear f1 f2 f3 f4 f5 f6)
  go_roundg (cn - (i+1))
  case measure=>rw [HG.out];omega
  case rel=>exact⟨i+1,jc,ja,tl++ [xA row],_,by omega,rfl,rfl,by simp,HP.out,zxG.out,by rw [Hid,List.length_append,HTN.out];rfl⟩
 case rest=>
 obtain⟨tc,ta,css,rfl,HGO⟩:=hcut
 obtain⟨X18,rfl⟩:∃X:World,X=wc:=⟨_,rfl⟩
 have hlb:=(HGO.out.below.block _ hg7).trans HL7.out
 have HLB:=qh hlb
 have z2:=ze hlb 2
 have f2:=zK hlb 2
 clear hlb
 go_upto_region 20 with fail
 clear z2 f2
 have hs1:Since (λk=>k=gl) X18 (X18.setCell ⟨gl,2,none⟩ (.slice ta cn tc)):=Since.setCell (F:=λk=>k=gl) (p:=⟨gl,2,none⟩) (Since.refl _ _) (.inl rfl) _
 have h3:(X18.setCell ⟨gl,2,none⟩ (.slice ta cn tc)).heap[gl]? =some (.cells #[.int .i64 vars, .int .i64 dom, .slice ta cn tc] 26 (0,0)):=by have:=zD HLB.out 2 (.slice ta cn tc);simpa using this
 have h4:=HGO.out.put hg7 hs1
 obtain⟨x0,x1⟩:=CM.out X18 (zM HB7.out HGO.out.below)
 have hmb:∀j v,X18.cell? ⟨gc+1,j,none⟩=some v->(X18.setCell ⟨gl,2,none⟩ (.slice ta cn tc)).cell? ⟨gc+1,j,none⟩=some v:=λj v h=>(hs1.cell (p:=⟨gc+1,j,none⟩) (World.block_lt_of_cell? X18 _ h) (by show¬gc+1=gl;omega)).trans h
 have y0:=hmb _ _ x0
 have y1:=hmb _ _ x1
 have h6:=(zM HD7.out HGO.out.below).trans (hs1.below (zM HD7.out HGO.out.below).size (λk hk=>by rw [hk, <-HGC.out];omega))
 have H3:=qh h3
 have H4:=qh h4
 have H6:=qh h6
 clear hs1 h3 h4 h6 hmb x0 x1 HGO HLB HL7 HD7 HB7 HRW CM
 generalize World.setCell X18 _ _=X19 at H3 H4 H6 y0 y1 ⊢
 have z0:=ze H3.out 0
 have z1:=ze H3.out 1
 have z2:=ze H3.out 2
 go_upto_region 21 with(go_at_call 9;go_must(refine(HX2.out X19 _ H4.out).mono ?_);rintro e X20 ⟨⟨ya,yn,yc,rfl, -⟩,hb⟩;(have zxH:=qh hb);clear hb)
 try dsimp only
 clear z0 z1 z2 y0 y1 HX2
 have hend:=qN.out.trans ((zM H6.out zxH.out).mono qN.out.size)
 have zL:=qh hend
 clear hend
 rcases HR1.out with h|h
 ·simp only [Prod.mk.injEq] at h
  obtain⟨rfl,rfl,rfl⟩:=h
  go_wp2_with fail
  go_ret
  exact⟨rfl,zL.out⟩
 simp only [Prod.mk.injEq] at h
 obtain⟨rfl,rfl,rfl⟩:=h
 go_wp2_with fail
 go_ret
 exact⟨rfl,zL.out⟩
