/- Steps. -/
import Derived.Test.YtknmdmimecepfaaGreatDoorVhPPart
set_option linter.all false
namespace Go.Proofs.YtknmdmimecepfaaGreatDoor
open Go.RowKit
set_option maxRecDepth 100000
set_option maxHeartbeats 16000000
def xL (k:Int):Bool:=decide (k=12)||decide (k=13)
theorem zcC (w:World) (k:Int):Calls Tryz.prog 36 #[.int .i64 k] w λe w'=>e= .returned (.bool (xL k))/\w'=w:=by
 unfold xL
 by_cases h:k=12
 ·subst h
  go_enter Tryz.func36,Tryz.ntmps36
  go_wp2_with fail
  go_ret
  exact⟨by first|rfl|simp,rfl⟩
 have b:((k:Int)==12)=false:=by simp [h]
 go_enter Tryz.func36,Tryz.ntmps36
 go_wp2_with fail
 go_ret
 exact⟨by rw [show decide (k=12)=false from by simp [h],Bool.false_or];exact congrArg (λq=>Ending.returned (.bool q)) (by rw [Bool.eq_iff_iff];simp),rfl⟩
def kindOf (op:Int):Int:=if op=12 then 9 else if op=13 then 4 else op
def gT (op many:Int):Int:=if op=12\/op=13 then many else 0
theorem zcg (vars dom:Int) (many:Nat) (x:zi):qC vars dom many x=gQ vars dom (kindOf x.op) (gT x.op many) x:=by
 unfold qC kindOf gT
 by_cases h1:x.op=12
 ·rw [if_pos h1,if_pos h1,if_pos (.inl h1)]
 by_cases h2:x.op=13
 ·rw [if_neg h1,if_neg h1,if_pos h2,if_pos h2,if_pos (.inr h2)]
 rw [if_neg h1,if_neg h1,if_neg h2,if_neg h2,if_neg (by omega:¬(x.op=12\/x.op=13))]
 by_cases h3:x.op=10\/x.op=11
 ·rw [if_pos h3]
  unfold gQ
  have e:decide (x.op<=9)=false:=decide_eq_false (by omega)
  rw [e];simp
 rw [if_neg h3]
theorem zje (k:Int) (h:k=12\/k=13):(vL (jg (jg [] 12 (Value.int .i64 9)) 13 (.int .i64 4)) k).getD (.int .i64 0)= .int .i64 (kindOf k):=by
 rcases h with rfl|rfl<;>rfl
def qH (x:zi) (ka kb:Value):Value:= .agg #[.int .i64 x.op, .int .i64 x.reg, .int .i64 x.var, .int .i64 x.a.kind, .int .i64 x.a.n, .int .u8 x.a.op,ka, .int .i64 x.b.kind, .int .i64 x.b.n, .int .u8 x.b.op,kb, .int .i64 x.dest]
theorem zh9 (w:World) (vars dom:Int) (tv:Value) (hta:∃ta tn tc,tv= .slice ta tn tc) (x:zi) (ka kb:Value) (e:Nat) (ha:zM e w x.a ka) (hb:zM e w x.b kb) (many:Nat):
  Calls Tryz.prog 61 #[.agg #[.int .i64 vars, .int .i64 dom,tv],qH x ka kb, .int .i64 many] w λe w'=>e= .returned (.bool (qC vars dom many x))/\Below w.heap.size w w':=by
 rw [zcg]
 have hpa:=λW (hW:Below w.heap.size w W) kind=>ziy W kind x.reg x.var x.a x.b ka kb e (ha.below hW) (hb.below hW) vars dom
 obtain⟨ta,tn,tc,rfl⟩:=hta
 obtain⟨aa,ac,rfl, -⟩:=ha.slice
 obtain⟨ba,bc,rfl, -⟩:=hb.slice
 obtain⟨op,reg,v,a,b,vN⟩:=x
 simp only [] at hpa ha hb ⊢
 have hw:∀kd fr:Int,gQ vars dom kd fr ⟨op,reg,v,a,b,vN⟩=(decide (1<=kd) && decide (kd<=9) && decide (0<=vN) && decide (vN<=fr) && vC kd reg v a b vars dom):=λ_ _=>rfl
 rw [hw]
 unfold qH
 unfold qc at hpa
 simp only []
 generalize hpo:(λkd=>vC kd reg v a b vars dom)=po at hpa
 have zk7:∀kd,vC kd reg v a b vars dom=po kd:=λkd=>by rw [<-hpo]
 rw [zk7]
 simp only [zk7] at hpa
 clear hpo zk7 hw ha hb
 generalize a.kind=ak at hpa ⊢
 generalize a.n=an at hpa ⊢
 generalize a.op=ao at hpa ⊢
 generalize a.kids.length=am at hpa ⊢
 generalize b.kind=bk at hpa ⊢
 generalize b.n=bn at hpa ⊢
 generalize b.op=bo at hpa ⊢
 generalize b.kids.length=bm at hpa ⊢
 have HPA:=qh hpa
 clear hpa
 obtain⟨kd,hkd⟩:∃k,k=kindOf op:=⟨_,rfl⟩
 obtain⟨fr,hfr⟩:∃k,k=gT op many:=⟨_,rfl⟩
 obtain⟨r,hr⟩:∃r,r=(decide (1<=kindOf op) && decide (kindOf op<=9) && decide (0<=vN) && decide (vN<=gT op many) && po (kindOf op)):=⟨_,rfl⟩
 rw [<-hr]
 rw [<-hkd, <-hfr] at hr
 have HR:=qh hr
 have HKD:=qh hkd
 have HFR:=qh hfr
 clear hr hkd hfr
 have HX:=qh (xI w (.cells #[.int .i64 vars, .int .i64 dom, .slice ta tn tc] 25) (.cells #[.int .i64 op, .int .i64 reg, .int .i64 v, .int .i64 ak, .int .i64 an, .int .u8 ao, .slice aa am ac, .int .i64 bk, .int .i64 bn, .int .u8 bo, .slice ba bm bc, .int .i64 vN] 45))
 have HY:=qh (xu w (.cells #[.int .i64 vars, .int .i64 dom, .slice ta tn tc] 25) (.cells #[.int .i64 op, .int .i64 reg, .int .i64 v, .int .i64 ak, .int .i64 an, .int .u8 ao, .slice aa am ac, .int .i64 bk, .int .i64 bn, .int .u8 bo, .slice ba bm bc, .int .i64 vN] 45))
 have HB:=qh (xH w (.cells #[.int .i64 vars, .int .i64 dom, .slice ta tn tc] 25) (.cells #[.int .i64 op, .int .i64 reg, .int .i64 v, .int .i64 ak, .int .i64 an, .int .u8 ao, .slice aa am ac, .int .i64 bk, .int .i64 bn, .int .u8 bo, .slice ba bm bc, .int .i64 vN] 45))
 have HK:=qh (zje op)
 go_enter Tryz.func61,Tryz.ntmps61
 go_upto_region 1 with fail
 generalize World.alloc (World.alloc w _) _=W at HX HY HB ⊢
 obtain⟨gx,hgx⟩:∃gx,gx=w.heap.size:=⟨_,rfl⟩
 rw [<-hgx] at HX HY ⊢
 clear hgx
 have HC:Hid (∀x,Below W.heap.size W x->(x.cell? ⟨gx,0,none⟩=some (.int .i64 vars)/\x.cell? ⟨gx,1,none⟩=some (.int .i64 dom))/\x.cell? ⟨gx+1,0,none⟩=some (.int .i64 op)/\x.cell? ⟨gx+1,1,none⟩=some (.int .i64 reg)/\x.cell? ⟨gx+1,2,none⟩=some (.int .i64 v)/\
   (x.cell? ⟨gx+1,3,none⟩=some (.int .i64 ak)/\x.cell? ⟨gx+1,4,none⟩=some (.int .i64 an)/\x.cell? ⟨gx+1,5,none⟩=some (.int .u8 ao)/\x.cell? ⟨gx+1,6,none⟩=some (.slice aa am ac))/\
   (x.cell? ⟨gx+1,7,none⟩=some (.int .i64 bk)/\x.cell? ⟨gx+1,8,none⟩=some (.int .i64 bn)/\x.cell? ⟨gx+1,9,none⟩=some (.int .u8 bo)/\x.cell? ⟨gx+1,10,none⟩=some (.slice ba bm bc))/\x.cell? ⟨gx+1,11,none⟩=some (.int .i64 vN)):=λx hx=>
  have p:=λj v h=>zk hx ⟨gx,j,none⟩ v ((ze HX.out j).trans h)
  have q:=λj v h=>zk hx ⟨gx+1,j,none⟩ v ((ze HY.out j).trans h)
  ⟨⟨p 0 _ rfl,p 1 _ rfl⟩,q 0 _ rfl,q 1 _ rfl,q 2 _ rfl,⟨q 3 _ rfl,q 4 _ rfl,q 5 _ rfl,q 6 _ rfl⟩,⟨q 7 _ rfl,q 8 _ rfl,q 9 _ rfl,q 10 _ rfl⟩,q 11 _ rfl⟩
 clear HX HY
 obtain⟨⟨x0,x1⟩,y0,y1,y2,⟨y3,y4,y5,y6⟩,⟨y7,y8,y9,pG⟩,bg⟩:=HC.out W (Below.refl _ _)
 go_wp2_with fail
 refine(zcC W op).mono ?_
 rintro e w2 ⟨rfl,rfl⟩
 by_cases hop:op=12\/op=13
 rotate_left
 ·have hle:xL op=false:=by unfold xL;simpa using hop
  rw [hle]
  obtain rfl:fr=0:=by rw [HFR.out];unfold gT;rw [if_neg hop]
  obtain rfl:kd=op:=by rw [HKD.out];unfold kindOf;rw [if_neg (by omega),if_neg (by omega)]
  clear hle HKD HFR hop HK
  go_upto_region 5 with fail
  by_cases b0:1<=kd
  rotate_left
  ·obtain rfl:r=false:=by rw [HR.out];simp [b0]
   clear HR
   go_wp2_with fail
   go_ret
   exact⟨by first|rfl|simp,HB.out⟩
  have HR0:=HR
  by_cases b1:kd<=9
  rotate_left
  ·obtain rfl:r=false:=by rw [HR.out];simp [b1]
   clear HR HR0
   go_wp2_with fail
   go_ret
   exact⟨by first|rfl|simp,HB.out⟩
  have HR1:=HR
  by_cases b2:0<=vN
  rotate_left
  ·obtain rfl:r=false:=by rw [HR.out];simp [b2]
   clear HR HR0 HR1
   go_wp2_with fail
   go_ret
   exact⟨by first|rfl|simp,HB.out⟩
  have HR2:=HR
  by_cases b3:vN<=0
  ·have HR3:=HR
   obtain rfl:r=po kd:=by rw [HR.out];simp [b0,b1,b2,b3]
   clear HR HR0 HR1 HR2 HR3
   go_wp2_with fail
   refine(HPA.out _ HB.out kd).mono ?_
   rintro e w9 ⟨rfl,bX⟩
   have HW9:=qh (HB.out.trans (bX.mono HB.out.size))
   clear bX x0 x1 y0 y1 y2 y3 y4 y5 y6 y7 y8 y9 pG bg
   go_wp2_with fail
   go_ret
   exact⟨by first|rfl|simp,HW9.out⟩
  obtain rfl:r=false:=by rw [HR.out];simp [b3]
  clear HR HR0 HR1 HR2
  go_wp2_with fail
  go_ret
  exact⟨by first|rfl|simp,HB.out⟩
 have hle:xL op=true:=by unfold xL;simpa using hop
 rw [hle]
 obtain rfl:fr=many:=by rw [HFR.out];unfold gT;rw [if_pos hop]
 have hmm:= @run_makeMap Tryz.prog
 have h0:vZ (w2.alloc (.map #[] 0)) w2.heap.size [] :=⟨#[],0,yG w2 _,rfl⟩
 have HW:=qh ((Below.refl w2.heap.size w2).alloc (Nat.le_refl _) (.map #[] 0))
 clear x0 x1 y0 y1 y2 y3 y4 y5 y6 y7 y8 y9 pG bg
 obtain⟨⟨x0,x1⟩,y0,y1,y2,⟨y3,y4,y5,y6⟩,⟨y7,y8,y9,pG⟩,bg⟩:=HC.out _ HW.out
 clear hle HFR
 go_upto_region 5 with(first|(refine xC _ rfl _ _ _ 158 rfl 3 3 .i64 Tryz.underlying158 Tryz.underlying3 w2.heap.size _ rfl _ rfl (.int .i64 9) rfl h0 ?_;clear h0;intro w1 h0 hs1 hz1;replace HW:=qh (HW.out.trans (hs1.below HW.out.size (λk hk=>by omega)));clear hs1 hz1;clear x0 x1 y0 y1 y2 y3 y4 y5 y6 y7 y8 y9 pG bg;obtain⟨⟨x0,x1⟩,y0,y1,y2,⟨y3,y4,y5,y6⟩,⟨y7,y8,y9,pG⟩,bg⟩:=HC.out _ HW.out)|(refine xC _ rfl _ _ _ 158 rfl 3 3 .i64 Tryz.underlying158 Tryz.underlying3 w2.heap.size _ rfl _ rfl (.int .i64 4) rfl h0 ?_;clear h0;intro w1 h0 hs1 hz1;replace HW:=qh (HW.out.trans (hs1.below HW.out.size (λk hk=>by omega)));clear hs1 hz1;clear x0 x1 y0 y1 y2 y3 y4 y5 y6 y7 y8 y9 pG bg;obtain⟨⟨x0,x1⟩,y0,y1,y2,⟨y3,y4,y5,y6⟩,⟨y7,y8,y9,pG⟩,bg⟩:=HC.out _ HW.out;have hlk:=jW h0 Tryz.underlying158 Tryz.underlying3 (zaS w1) op false;rw [HK.out hop, <-HKD.out] at hlk;clear h0))
 have wV:Hid (Below w.heap.size w w1):=HB.out.trans (HW.out.mono HB.out.size)
 clear hlk hmm HK hop HKD
 by_cases b0:1<=kd
 rotate_left
 ·obtain rfl:r=false:=by rw [HR.out];simp [b0]
  clear HR
  go_wp2_with fail
  go_ret
  exact⟨by first|rfl|simp,wV.out⟩
 have HR0:=HR
 by_cases b1:kd<=9
 rotate_left
 ·obtain rfl:r=false:=by rw [HR.out];simp [b1]
  clear HR HR0
  go_wp2_with fail
  go_ret
  exact⟨by first|rfl|simp,wV.out⟩
 have HR1:=HR
 by_cases b2:0<=vN
 rotate_left
 ·obtain rfl:r=false:=by rw [HR.out];simp [b2]
  clear HR HR0 HR1
  go_wp2_with fail
  go_ret
  exact⟨by first|rfl|simp,wV.out⟩
 have HR2:=HR
 by_cases b3:vN<=(many:Int)
 ·have HR3:=HR
  obtain rfl:r=po kd:=by rw [HR.out];simp [b0,b1,b2,b3]
  clear HR HR0 HR1 HR2 HR3
  go_wp2_with fail
  refine(HPA.out _ wV.out kd).mono ?_
  rintro e w9 ⟨rfl,bX⟩
  have HW9:=qh (wV.out.trans (bX.mono wV.out.size))
  clear bX x0 x1 y0 y1 y2 y3 y4 y5 y6 y7 y8 y9 pG bg
  go_wp2_with fail
  go_ret
  exact⟨by first|rfl|simp,HW9.out⟩
 obtain rfl:r=false:=by rw [HR.out];simp [b3]
 clear HR HR0 HR1 HR2
 go_wp2_with fail
 go_ret
 exact⟨by first|rfl|simp,wV.out⟩
theorem zgd (w:World) (vars dom:Int) (ta:Option Addr) (tn tc:Nat) (x:zi) (ka kb:Value) (e:Nat) (ha:zM e w x.a ka) (hb:zM e w x.b kb) (gx gl:Nat) (la:Option Addr) (ln lc:Nat)
  (c0:w.cell? ⟨gx,0,none⟩=some (.int .i64 vars)) (c1:w.cell? ⟨gx,1,none⟩=some (.int .i64 dom)) (c2:w.cell? ⟨gx,2,none⟩=some (.slice ta tn tc)) (cl:w.cell? ⟨gl,0,none⟩=some (.slice la ln lc)):
  Calls Tryz.prog 60 #[qH x ka kb, .pointer (some ⟨gx,0,none⟩), .pointer (some ⟨gl,0,none⟩)] w λe w'=>e= .returned (.bool (!qC vars dom ln x))/\Below w.heap.size w w':=by
 have hp:=λW (hW:Below w.heap.size w W)=>zh9 W vars dom _ ⟨ta,tn,tc,rfl⟩ x ka kb e (ha.below hW) (hb.below hW) ln
 obtain⟨aa,ac,rfl, -⟩:=ha.slice
 obtain⟨ba,bc,rfl, -⟩:=hb.slice
 generalize qC vars dom ln x=r at hp ⊢
 unfold qH at hp ⊢
 obtain⟨op,reg,v,a,b,vN⟩:=x
 simp only [] at hp ⊢
 clear ha hb
 generalize a.kind=ak at hp ⊢
 generalize a.n=an at hp ⊢
 generalize a.op=ao at hp ⊢
 generalize a.kids.length=am at hp ⊢
 generalize b.kind=bk at hp ⊢
 generalize b.n=bn at hp ⊢
 generalize b.op=bo at hp ⊢
 generalize b.kids.length=bm at hp ⊢
 have HP:=qh hp
 clear hp
 have HA:=qh ((Below.refl w.heap.size w).alloc (Nat.le_refl _) (.cells #[.int .i64 op, .int .i64 reg, .int .i64 v, .int .i64 ak, .int .i64 an, .int .u8 ao, .slice aa am ac, .int .i64 bk, .int .i64 bn, .int .u8 bo, .slice ba bm bc, .int .i64 vN] 45))
 have HX:=qh (yG w (.cells #[.int .i64 op, .int .i64 reg, .int .i64 v, .int .i64 ak, .int .i64 an, .int .u8 ao, .slice aa am ac, .int .i64 bk, .int .i64 bn, .int .u8 bo, .slice ba bm bc, .int .i64 vN] 45))
 replace c0:=zk HA.out _ _ c0
 replace c1:=zk HA.out _ _ c1
 replace c2:=zk HA.out _ _ c2
 replace cl:=zk HA.out _ _ cl
 go_enter Tryz.func60,Tryz.ntmps60
 go_upto_region 1 with fail
 generalize World.alloc w _=W at HA HX c0 c1 c2 cl ⊢
 obtain⟨gi,hgi⟩:∃g,g=w.heap.size:=⟨_,rfl⟩
 rw [<-hgi] at HX ⊢
 clear hgi
 have y0:W.cell? ⟨gi,0,none⟩=some (.int .i64 op):=ze HX.out 0
 have y1:W.cell? ⟨gi,1,none⟩=some (.int .i64 reg):=ze HX.out 1
 have y2:W.cell? ⟨gi,2,none⟩=some (.int .i64 v):=ze HX.out 2
 have y3:W.cell? ⟨gi,3,none⟩=some (.int .i64 ak):=ze HX.out 3
 have y4:W.cell? ⟨gi,4,none⟩=some (.int .i64 an):=ze HX.out 4
 have y5:W.cell? ⟨gi,5,none⟩=some (.int .u8 ao):=ze HX.out 5
 have y6:W.cell? ⟨gi,6,none⟩=some (.slice aa am ac):=ze HX.out 6
 have y7:W.cell? ⟨gi,7,none⟩=some (.int .i64 bk):=ze HX.out 7
 have y8:W.cell? ⟨gi,8,none⟩=some (.int .i64 bn):=ze HX.out 8
 have y9:W.cell? ⟨gi,9,none⟩=some (.int .u8 bo):=ze HX.out 9
 have pG:W.cell? ⟨gi,10,none⟩=some (.slice ba bm bc):=ze HX.out 10
 have bg:W.cell? ⟨gi,11,none⟩=some (.int .i64 vN):=ze HX.out 11
 go_wp2_with fail
 refine(HP.out _ HA.out).mono ?_
 rintro e w1 ⟨rfl,hb1⟩
 have HW1:=qh (zn HA.out hb1)
 clear hb1 c0 c1 c2 cl y0 y1 y2 y3 y4 y5 y6 y7 y8 y9 pG bg
 go_wp2_with fail
 go_ret
 exact⟨by first|rfl|simp,HW1.out⟩
theorem zfV (w:World) (c:zl) (tv:Value) (d:Nat) (h:yB d w tv c.threads):Calls Tryz.prog 37 #[qP c tv] w λe w'=>e= .returned (.bool (codeOk c))/\Below w.heap.size w w':=by
 obtain⟨ta,tc,rfl,htl⟩:=zf.slice h
 obtain⟨vars,dom,ts⟩:=c
 simp only [] at h htl ⊢
 obtain⟨n,hn⟩:∃n,n=ts.length:=⟨_,rfl⟩
 obtain⟨r,hr⟩:∃r,r=codeOk ⟨vars,dom,ts⟩:=⟨_,rfl⟩
 have hr2:r=(decide (1<=vars) && decide (vars<=4) && decide (2<=dom) && decide (dom<=16) && decide (1<=n) && decide (n<=4) && ts.all (rowOk vars dom)):=by rw [hr,hn];rfl
 rw [<-hr]
 unfold qP
 simp only []
 rw [<-hn] at h htl ⊢
 have hA:=(Below.refl w.heap.size w).alloc (Nat.le_refl _) (.cells #[.int .i64 vars, .int .i64 dom, .slice ta n tc] 25)
 have HB:=qh hA
 have H1:=qh (yG w (.cells #[.int .i64 vars, .int .i64 dom, .slice ta n tc] 25))
 have HT:=qh (zf.below (j5.stays d) h hA)
 have HR:=qh hr2
 have HN:=qh hn
 clear h hA hr hr2 hn
 go_enter Tryz.func37,Tryz.ntmps37
 go_upto_region 1 with fail
 generalize World.alloc w _=W at HB H1 HT ⊢
 obtain⟨gx,hgx⟩:∃gx,gx=w.heap.size:=⟨_,rfl⟩
 rw [<-hgx] at H1 ⊢
 clear hgx
 have HC:Hid (∀x,Below W.heap.size W x->x.cell? ⟨gx,0,none⟩=some (.int .i64 vars)/\x.cell? ⟨gx,1,none⟩=some (.int .i64 dom)/\x.cell? ⟨gx,2,none⟩=some (.slice ta n tc)):=λx hx=>⟨zk hx _ _ (ze H1.out 0),zk hx _ _ (ze H1.out 1),zk hx _ _ (ze H1.out 2)⟩
 obtain⟨c0,c1,c2⟩:=HC.out W (Below.refl _ _)
 by_cases hv:1<=vars/\vars<=4
 rotate_left
 ·obtain rfl:r=false:=by
   have:(decide (1<=vars) && decide (vars<=4))=false:=by simp;omega
   rw [HR.out,this];simp
  clear HR
  by_cases v1:vars<1
  ·clear hv
   go_wp2_with fail
   go_ret
   exact⟨by first|rfl|simp,HB.out⟩
  have v2:4<vars:=by omega
  clear hv
  go_wp2_with fail
  go_ret
  exact⟨by first|rfl|simp,HB.out⟩
 by_cases hd:2<=dom/\dom<=16
 rotate_left
 ·obtain rfl:r=false:=by
   have:(decide (2<=dom) && decide (dom<=16))=false:=by simp;omega
   rw [HR.out,Bool.and_assoc (decide (1<=vars) && decide (vars<=4)),this];simp
  clear HR
  obtain⟨v1,v2⟩:=hv
  have v1n:¬vars<1:=by omega
  have v2n:¬4<vars:=by omega
  by_cases d1:dom<2
  ·clear hd
   go_wp2_with fail
   go_ret
   exact⟨by first|rfl|simp,HB.out⟩
  have d2:16<dom:=by omega
  clear hd
  go_wp2_with fail
  go_ret
  exact⟨by first|rfl|simp,HB.out⟩
 by_cases ht:1<=n/\n<=4
 rotate_left
 ·obtain rfl:r=false:=by
   have:(decide (1<=n) && decide (n<=4))=false:=by simp;omega
   rw [HR.out,Bool.and_assoc (decide (1<=vars) && decide (vars<=4) && decide (2<=dom) && decide (dom<=16)),this];simp
  clear HR
  obtain⟨v1,v2⟩:=hv
  obtain⟨d1,d2⟩:=hd
  have v1n:¬vars<1:=by omega
  have v2n:¬4<vars:=by omega
  have d1n:¬dom<2:=by omega
  have d2n:¬16<dom:=by omega
  by_cases n1:n=0
  ·subst n1
   clear ht
   go_wp2_with fail
   go_ret
   exact⟨by first|rfl|simp,HB.out⟩
  have n1n:¬(n:Int)<1:=by omega
  have n2n:(4:Int)<(n:Int):=by omega
  clear ht
  go_wp2_with fail
  go_ret
  exact⟨by first|rfl|simp,HB.out⟩
 have HR3:Hid (r=ts.all (rowOk vars dom)):=by rw [Hid,HR.out];simp [hv.1,hv.2,hd.1,hd.2,ht.1,ht.2]
 clear HR
 obtain⟨v1,v2⟩:=hv
 obtain⟨d1,d2⟩:=hd
 obtain⟨n1,n2⟩:=ht
 have v1n:¬vars<1:=by omega
 have v2n:¬4<vars:=by omega
 have d1n:¬dom<2:=by omega
 have d2n:¬16<dom:=by omega
 have n1n:¬(n:Int)<1:=by omega
 have n2n:¬(4:Int)<(n:Int):=by omega
 go_wp2_with fail
 clear c0 c1 c2
 go_loopg [4,38] n (λgg s4 s38 wr=>∃i:Nat,i<=n/\Hid (gg=n - i)/\s38= .int .i64 i/\Hid (Below W.heap.size W wr)/\Hid (∀j,j<i->rowOk vars dom (ts.getD j [])=true))
 case atStart=>exact⟨0,Nat.zero_le _,rfl,rfl,Below.refl _ _,λj hj=>by omega⟩
 case round=>
 obtain⟨i,hi,HG,rfl,vR,HJ⟩:=hrel
 by_cases hlt:i<n
 rotate_left
 ·obtain rfl:n=i:=by omega
  obtain rfl:r=true:=by rw [HR3.out];exact zhA ts [] (rowOk vars dom) (λj hj=>HJ.out j (by rw [HN.out];exact hj))
  clear HR3
  go_wp2_with fail
  go_ret
  exact⟨by first|rfl|simp,HB.out.trans (vR.out.mono HB.out.size)⟩
 have qK:(i:Int)<(n:Int):=by omega
 obtain⟨eb,eo,ka,kc,rfl,pE,qL,hel⟩:=yB.part HT.out i (by rw [<-HN.out];exact hlt)
 obtain⟨l,hl⟩:∃l,l=ts.getD i [] :=⟨_,rfl⟩
 rw [<-hl] at qL hel
 obtain⟨ln,hln⟩:∃ln,ln=l.length:=⟨_,rfl⟩
 rw [<-hln] at qL hel
 have e0:=zk vR.out _ _ qL
 have HL:=qh hl
 have qm:=qh hln
 have HEL:=qh hel
 have HA:=qh ((Below.refl wr.heap.size wr).alloc (Nat.le_refl _) (.cells #[.slice ka ln kc] 40))
 have HX:=qh (yG wr (.cells #[.slice ka ln kc] 40))
 clear hl hln qL hel pE
 go_upto_region 6 with fail
 generalize World.alloc wr _=X at HA HX ⊢
 obtain⟨gl,hgl⟩:∃g,g=wr.heap.size:=⟨_,rfl⟩
 rw [<-hgl] at HX ⊢
 clear hgl e0
 have gG:Hid (Below W.heap.size W X):=vR.out.trans (HA.out.mono vR.out.size)
 have c0:X.cell? ⟨gl,0,none⟩=some (.slice ka ln kc):=ze HX.out 0
 by_cases h6:ln<=600
 rotate_left
 ·have h6n:(600:Int)<(ln:Int):=by omega
  obtain rfl:r=false:=by
   rw [HR3.out]
   refine zdT ts [] (rowOk vars dom) i (by rw [<-HN.out];exact hlt) ?_
   rw [<-HL.out];unfold rowOk;rw [<-qm.out,decide_eq_false h6];rfl
  clear HR3 h6
  go_wp2_with fail
  go_ret
  exact⟨by first|rfl|simp,HB.out.trans (gG.out.mono HB.out.size)⟩
 have h6n:¬(600:Int)<(ln:Int):=by omega
 have hco:Calls Tryz.prog 59 #[.slice ka l.length kc, .func (.func 60) #[] #[.pointer (some ⟨gx,0,none⟩), .pointer (some ⟨gl,0,none⟩)]] X λe w'=>e= .returned (.bool ((List.range l.length).any λj=> !qC vars dom ln (l.getD j default)))/\Below X.heap.size X w':=
  zbH (xU d) (xU.stays d) X _ l (by have:=zf.below (xU.stays d) HEL.out gG.out;rw [qm.out] at this;exact this) 60 #[] _ _ (λ_ _=>rfl)
   (λj hj W' cs hcl ⟨qa,qb,q1,q2,q3⟩ hW'=>by
    subst q1
    obtain⟨p0,p1,p2⟩:=HC.out W' (gG.out.trans (hW'.mono gG.out.size))
    exact zgd W' vars dom _ n tc _ qa qb d q2 q3 gx gl ka ln kc p0 p1 p2 (zk hW' _ _ c0))
 obtain⟨ro,hro⟩:∃ro,ro=rowOk vars dom l:=⟨_,rfl⟩
 have znF:((List.range l.length).any λj=> !qC vars dom ln (l.getD j default))= !ro:=by
  rw [hro]
  unfold rowOk
  rw [<-qm.out,decide_eq_true h6,Bool.true_and]
  by_cases ha:l.all (qC vars dom ln)=true
  ·rw [ha]
   refine any_none λj hj=> ?_
   rw [List.all_eq_true.1 ha _ (zV (by rw [<-qm.out];exact hj))];rfl
  rw [Bool.not_eq_true] at ha
  rw [ha]
  obtain⟨x,hx,hx2⟩:=List.all_eq_false.1 ha
  obtain⟨j,hj,rfl⟩:=List.getElem_of_mem hx
  refine bH j (by rw [qm.out];exact hj) ?_
  rw [List.getD_eq_getElem?_getD,List.getElem?_eq_getElem hj]
  simpa using hx2
 rw [znF] at hco
 rw [<-qm.out] at hco
 have HCO:=qh hco
 have HRO:=qh hro
 clear hco hro znF
 go_wp2_with fail
 refine HCO.out.mono ?_
 rintro e w2 ⟨rfl,hb2⟩
 have HB2:Hid (Below W.heap.size W w2):=gG.out.trans (hb2.mono gG.out.size)
 clear hb2 HCO c0
 cases ro with
 |true=>
  go_wp2_with fail
  go_roundg (n - (i+1))
  case measure=>rw [HG.out];omega
  case rel=>exact⟨i+1,by omega,rfl,by simp,HB2.out,λj hj=>by
   by_cases he:j=i
   ·subst he;rw [<-HL.out];exact HRO.out.symm
   exact HJ.out j (by omega)⟩
 |false=>
 obtain rfl:r=false:=by rw [HR3.out];exact zdT ts [] (rowOk vars dom) i (by rw [<-HN.out];exact hlt) (by rw [<-HL.out];exact HRO.out.symm)
 clear HR3
 go_wp2_with fail
 go_ret
 exact⟨by first|rfl|simp,HB.out.trans (HB2.out.mono HB.out.size)⟩
