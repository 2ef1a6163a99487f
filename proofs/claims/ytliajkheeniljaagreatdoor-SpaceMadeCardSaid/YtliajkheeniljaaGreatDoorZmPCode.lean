/- Steps. -/
import Derived.Test.YtliajkheeniljaaGreatDoorZmTreeG2
set_option linter.all false
namespace Go.Proofs.YtliajkheeniljaaGreatDoor
open Go.RowKit
set_option maxRecDepth 100000
set_option maxHeartbeats 16000000
def zdH (k:Int):Bool:=decide (k=12)||decide (k=13)
theorem zpw (w:World) (k:Int):Calls Tryz.prog 96 #[.int .i64 k] w λe w'=>e= .returned (.bool (zdH k))/\w'=w:=by
 unfold zdH
 by_cases h:k=12
 ·subst h
  go_enter Tryz.func96,Tryz.ntmps96
  go_wp2_with fail
  go_ret
  exact⟨by first|rfl|simp,rfl⟩
 have b:((k:Int)==12)=false:=by simp [h]
 go_enter Tryz.func96,Tryz.ntmps96
 go_wp2_with fail
 go_ret
 exact⟨by rw [show decide (k=12)=false from by simp [h],Bool.false_or];exact congrArg (λq=>Ending.returned (.bool q)) (by rw [Bool.eq_iff_iff];simp),rfl⟩
def kindOf (op:Int):Int:=if op=12 then 9 else if op=13 then 4 else op
def zfQ (op many:Int):Int:=if op=12\/op=13 then many else 0
theorem zmQ (vars dom:Int) (many:Nat) (x:zW):qw vars dom many x=qD vars dom (kindOf x.op) (zfQ x.op many) x:=by
 unfold qw kindOf zfQ
 by_cases h1:x.op=12
 ·rw [if_pos h1,if_pos h1,if_pos (.inl h1)]
 by_cases h2:x.op=13
 ·rw [if_neg h1,if_neg h1,if_pos h2,if_pos h2,if_pos (.inr h2)]
 rw [if_neg h1,if_neg h1,if_neg h2,if_neg h2,if_neg (by omega:¬(x.op=12\/x.op=13))]
 by_cases h3:x.op=10\/x.op=11
 ·rw [if_pos h3]
  unfold qD
  have e:decide (x.op<=9)=false:=decide_eq_false (by omega)
  rw [e];simp
 rw [if_neg h3]
theorem zrO (k:Int) (h:k=12\/k=13):(qX (wI (wI [] 12 (Value.int .i64 9)) 13 (.int .i64 4)) k).getD (.int .i64 0)= .int .i64 (kindOf k):=by
 rcases h with rfl|rfl<;>rfl
def qC (x:zW) (ka kb:Value):Value:= .agg #[.int .i64 x.op, .int .i64 x.reg, .int .i64 x.var, .int .i64 x.a.kind, .int .i64 x.a.n, .int .u8 x.a.op,ka, .int .i64 x.b.kind, .int .i64 x.b.n, .int .u8 x.b.op,kb, .int .i64 x.dest]
theorem zpx (w:World) (vars dom:Int) (tv:Value) (hta:∃ta tn tc,tv= .slice ta tn tc) (x:zW) (ka kb:Value) (e:Nat) (ha:zC e w x.a ka) (hb:zC e w x.b kb) (many:Nat):
  Calls Tryz.prog 73 #[.agg #[.int .i64 vars, .int .i64 dom,tv],qC x ka kb, .int .i64 many] w λe w'=>e= .returned (.bool (qw vars dom many x))/\Below w.heap.size w w':=by
 rw [zmQ]
 have hpa:=λW (hW:Below w.heap.size w W) kind=>zr3 W kind x.reg x.var x.a x.b ka kb e (ha.below hW) (hb.below hW) vars dom
 obtain⟨ta,tn,tc,rfl⟩:=hta
 obtain⟨aa,ac,rfl, -⟩:=ha.slice
 obtain⟨ba,bc,rfl, -⟩:=hb.slice
 obtain⟨op,reg,v,a,b,yI⟩:=x
 simp only [] at hpa ha hb ⊢
 have hw:∀kd fr:Int,qD vars dom kd fr ⟨op,reg,v,a,b,yI⟩=(decide (1<=kd) && decide (kd<=9) && decide (0<=yI) && decide (yI<=fr) && qA kd reg v a b vars dom):=λ_ _=>rfl
 rw [hw]
 unfold qC
 unfold qd at hpa
 simp only []
 generalize hpo:(λkd=>qA kd reg v a b vars dom)=po at hpa
 have zuy:∀kd,qA kd reg v a b vars dom=po kd:=λkd=>by rw [<-hpo]
 rw [zuy]
 simp only [zuy] at hpa
 clear hpo zuy hw ha hb
 generalize a.kind=ak at hpa ⊢
 generalize a.n=an at hpa ⊢
 generalize a.op=ao at hpa ⊢
 generalize a.kids.length=am at hpa ⊢
 generalize b.kind=bk at hpa ⊢
 generalize b.n=bn at hpa ⊢
 generalize b.op=bo at hpa ⊢
 generalize b.kids.length=bm at hpa ⊢
 have HPA:=qh hpa
 clear hpa
 obtain⟨kd,hkd⟩:∃k,k=kindOf op:=⟨_,rfl⟩
 obtain⟨fr,hfr⟩:∃k,k=zfQ op many:=⟨_,rfl⟩
 obtain⟨r,hr⟩:∃r,r=(decide (1<=kindOf op) && decide (kindOf op<=9) && decide (0<=yI) && decide (yI<=zfQ op many) && po (kindOf op)):=⟨_,rfl⟩
 rw [<-hr]
 rw [<-hkd, <-hfr] at hr
 have HR:=qh hr
 have HKD:=qh hkd
 have HFR:=qh hfr
 clear hr hkd hfr
 have HX:=qh (xP w (.cells #[.int .i64 vars, .int .i64 dom, .slice ta tn tc] 24) (.cells #[.int .i64 op, .int .i64 reg, .int .i64 v, .int .i64 ak, .int .i64 an, .int .u8 ao, .slice aa am ac, .int .i64 bk, .int .i64 bn, .int .u8 bo, .slice ba bm bc, .int .i64 yI] 64))
 have HY:=qh (xw w (.cells #[.int .i64 vars, .int .i64 dom, .slice ta tn tc] 24) (.cells #[.int .i64 op, .int .i64 reg, .int .i64 v, .int .i64 ak, .int .i64 an, .int .u8 ao, .slice aa am ac, .int .i64 bk, .int .i64 bn, .int .u8 bo, .slice ba bm bc, .int .i64 yI] 64))
 have HB:=qh (xg w (.cells #[.int .i64 vars, .int .i64 dom, .slice ta tn tc] 24) (.cells #[.int .i64 op, .int .i64 reg, .int .i64 v, .int .i64 ak, .int .i64 an, .int .u8 ao, .slice aa am ac, .int .i64 bk, .int .i64 bn, .int .u8 bo, .slice ba bm bc, .int .i64 yI] 64))
 have HK:=qh (zrO op)
 go_enter Tryz.func73,Tryz.ntmps73
 go_upto_region 1 with fail
 generalize World.alloc (World.alloc w _) _=W at HX HY HB ⊢
 obtain⟨gx,hgx⟩:∃gx,gx=w.heap.size:=⟨_,rfl⟩
 rw [<-hgx] at HX HY ⊢
 clear hgx
 have HC:Hid (∀x,Below W.heap.size W x->(x.cell? ⟨gx,0,none⟩=some (.int .i64 vars)/\x.cell? ⟨gx,1,none⟩=some (.int .i64 dom))/\x.cell? ⟨gx+1,0,none⟩=some (.int .i64 op)/\x.cell? ⟨gx+1,1,none⟩=some (.int .i64 reg)/\x.cell? ⟨gx+1,2,none⟩=some (.int .i64 v)/\
   (x.cell? ⟨gx+1,3,none⟩=some (.int .i64 ak)/\x.cell? ⟨gx+1,4,none⟩=some (.int .i64 an)/\x.cell? ⟨gx+1,5,none⟩=some (.int .u8 ao)/\x.cell? ⟨gx+1,6,none⟩=some (.slice aa am ac))/\
   (x.cell? ⟨gx+1,7,none⟩=some (.int .i64 bk)/\x.cell? ⟨gx+1,8,none⟩=some (.int .i64 bn)/\x.cell? ⟨gx+1,9,none⟩=some (.int .u8 bo)/\x.cell? ⟨gx+1,10,none⟩=some (.slice ba bm bc))/\x.cell? ⟨gx+1,11,none⟩=some (.int .i64 yI)):=λx hx=>
  have p:=λj v h=>zi hx ⟨gx,j,none⟩ v ((ze HX.out j).trans h)
  have q:=λj v h=>zi hx ⟨gx+1,j,none⟩ v ((ze HY.out j).trans h)
  ⟨⟨p 0 _ rfl,p 1 _ rfl⟩,q 0 _ rfl,q 1 _ rfl,q 2 _ rfl,⟨q 3 _ rfl,q 4 _ rfl,q 5 _ rfl,q 6 _ rfl⟩,⟨q 7 _ rfl,q 8 _ rfl,q 9 _ rfl,q 10 _ rfl⟩,q 11 _ rfl⟩
 clear HX HY
 obtain⟨⟨x0,x1⟩,y0,y1,y2,⟨y3,y4,y5,y6⟩,⟨y7,y8,y9,y10⟩,y11⟩:=HC.out W (Below.refl _ _)
 go_wp2_with fail
 refine(zpw W op).mono ?_
 rintro e w2 ⟨rfl,rfl⟩
 by_cases hop:op=12\/op=13
 rotate_left
 ·have hle:zdH op=false:=by unfold zdH;simpa using hop
  rw [hle]
  obtain rfl:fr=0:=by rw [HFR.out];unfold zfQ;rw [if_neg hop]
  obtain rfl:kd=op:=by rw [HKD.out];unfold kindOf;rw [if_neg (by omega),if_neg (by omega)]
  clear hle HKD HFR hop HK
  go_upto_region 5 with fail
  by_cases b0:1<=kd
  rotate_left
  ·obtain rfl:r=false:=by rw [HR.out];simp [b0]
   clear HR
   go_wp2_with fail
   go_ret
   exact⟨by first|rfl|simp,HB.out⟩
  have HR0:=HR
  by_cases b1:kd<=9
  rotate_left
  ·obtain rfl:r=false:=by rw [HR.out];simp [b1]
   clear HR HR0
   go_wp2_with fail
   go_ret
   exact⟨by first|rfl|simp,HB.out⟩
  have HR1:=HR
  by_cases b2:0<=yI
  rotate_left
  ·obtain rfl:r=false:=by rw [HR.out];simp [b2]
   clear HR HR0 HR1
   go_wp2_with fail
   go_ret
   exact⟨by first|rfl|simp,HB.out⟩
  have HR2:=HR
  by_cases b3:yI<=0
  ·have HR3:=HR
   obtain rfl:r=po kd:=by rw [HR.out];simp [b0,b1,b2,b3]
   clear HR HR0 HR1 HR2 HR3
   go_wp2_with fail
   refine(HPA.out _ HB.out kd).mono ?_
   rintro e w9 ⟨rfl,hb9⟩
   have HW9:=qh (HB.out.trans (hb9.mono HB.out.size))
   clear hb9 x0 x1 y0 y1 y2 y3 y4 y5 y6 y7 y8 y9 y10 y11
   go_wp2_with fail
   go_ret
   exact⟨by first|rfl|simp,HW9.out⟩
  obtain rfl:r=false:=by rw [HR.out];simp [b3]
  clear HR HR0 HR1 HR2
  go_wp2_with fail
  go_ret
  exact⟨by first|rfl|simp,HB.out⟩
 have hle:zdH op=true:=by unfold zdH;simpa using hop
 rw [hle]
 obtain rfl:fr=many:=by rw [HFR.out];unfold zfQ;rw [if_pos hop]
 have hmm:= @run_makeMap Tryz.prog
 have h0:xM (w2.alloc (.map #[] 0)) w2.heap.size [] :=⟨#[],0,yh w2 _,rfl⟩
 have HW:=qh ((Below.refl w2.heap.size w2).alloc (Nat.le_refl _) (.map #[] 0))
 clear x0 x1 y0 y1 y2 y3 y4 y5 y6 y7 y8 y9 y10 y11
 obtain⟨⟨x0,x1⟩,y0,y1,y2,⟨y3,y4,y5,y6⟩,⟨y7,y8,y9,y10⟩,y11⟩:=HC.out _ HW.out
 clear hle HFR
 go_upto_region 5 with(first|(refine vC _ rfl _ _ _ 156 rfl 3 3 .i64 Tryz.underlying156 Tryz.underlying3 w2.heap.size _ rfl _ rfl (.int .i64 9) rfl h0 ?_;clear h0;intro w1 h0 hs1 hz1;replace HW:=qh (HW.out.trans (hs1.below HW.out.size (λk hk=>by omega)));clear hs1 hz1;clear x0 x1 y0 y1 y2 y3 y4 y5 y6 y7 y8 y9 y10 y11;obtain⟨⟨x0,x1⟩,y0,y1,y2,⟨y3,y4,y5,y6⟩,⟨y7,y8,y9,y10⟩,y11⟩:=HC.out _ HW.out)|(refine vC _ rfl _ _ _ 156 rfl 3 3 .i64 Tryz.underlying156 Tryz.underlying3 w2.heap.size _ rfl _ rfl (.int .i64 4) rfl h0 ?_;clear h0;intro w1 h0 hs1 hz1;replace HW:=qh (HW.out.trans (hs1.below HW.out.size (λk hk=>by omega)));clear hs1 hz1;clear x0 x1 y0 y1 y2 y3 y4 y5 y6 y7 y8 y9 y10 y11;obtain⟨⟨x0,x1⟩,y0,y1,y2,⟨y3,y4,y5,y6⟩,⟨y7,y8,y9,y10⟩,y11⟩:=HC.out _ HW.out;have hlk:=jW h0 Tryz.underlying156 Tryz.underlying3 (zf1 w1) op false;rw [HK.out hop, <-HKD.out] at hlk;clear h0))
 have HWA:Hid (Below w.heap.size w w1):=HB.out.trans (HW.out.mono HB.out.size)
 clear hlk hmm HK hop HKD
 by_cases b0:1<=kd
 rotate_left
 ·obtain rfl:r=false:=by rw [HR.out];simp [b0]
  clear HR
  go_wp2_with fail
  go_ret
  exact⟨by first|rfl|simp,HWA.out⟩
 have HR0:=HR
 by_cases b1:kd<=9
 rotate_left
 ·obtain rfl:r=false:=by rw [HR.out];simp [b1]
  clear HR HR0
  go_wp2_with fail
  go_ret
  exact⟨by first|rfl|simp,HWA.out⟩
 have HR1:=HR
 by_cases b2:0<=yI
 rotate_left
 ·obtain rfl:r=false:=by rw [HR.out];simp [b2]
  clear HR HR0 HR1
  go_wp2_with fail
  go_ret
  exact⟨by first|rfl|simp,HWA.out⟩
 have HR2:=HR
 by_cases b3:yI<=(many:Int)
 ·have HR3:=HR
  obtain rfl:r=po kd:=by rw [HR.out];simp [b0,b1,b2,b3]
  clear HR HR0 HR1 HR2 HR3
  go_wp2_with fail
  refine(HPA.out _ HWA.out kd).mono ?_
  rintro e w9 ⟨rfl,hb9⟩
  have HW9:=qh (HWA.out.trans (hb9.mono HWA.out.size))
  clear hb9 x0 x1 y0 y1 y2 y3 y4 y5 y6 y7 y8 y9 y10 y11
  go_wp2_with fail
  go_ret
  exact⟨by first|rfl|simp,HW9.out⟩
 obtain rfl:r=false:=by rw [HR.out];simp [b3]
 clear HR HR0 HR1 HR2
 go_wp2_with fail
 go_ret
 exact⟨by first|rfl|simp,HWA.out⟩
theorem zmR (w:World) (vars dom:Int) (ta:Option Addr) (tn tc:Nat) (x:zW) (ka kb:Value) (e:Nat) (ha:zC e w x.a ka) (hb:zC e w x.b kb) (gx gl:Nat) (la:Option Addr) (ln lc:Nat)
  (c0:w.cell? ⟨gx,0,none⟩=some (.int .i64 vars)) (c1:w.cell? ⟨gx,1,none⟩=some (.int .i64 dom)) (c2:w.cell? ⟨gx,2,none⟩=some (.slice ta tn tc)) (cl:w.cell? ⟨gl,0,none⟩=some (.slice la ln lc)):
  Calls Tryz.prog 72 #[qC x ka kb, .pointer (some ⟨gx,0,none⟩), .pointer (some ⟨gl,0,none⟩)] w λe w'=>e= .returned (.bool (!qw vars dom ln x))/\Below w.heap.size w w':=by
 have hp:=λW (hW:Below w.heap.size w W)=>zpx W vars dom _ ⟨ta,tn,tc,rfl⟩ x ka kb e (ha.below hW) (hb.below hW) ln
 obtain⟨aa,ac,rfl, -⟩:=ha.slice
 obtain⟨ba,bc,rfl, -⟩:=hb.slice
 generalize qw vars dom ln x=r at hp ⊢
 unfold qC at hp ⊢
 obtain⟨op,reg,v,a,b,yI⟩:=x
 simp only [] at hp ⊢
 clear ha hb
 generalize a.kind=ak at hp ⊢
 generalize a.n=an at hp ⊢
 generalize a.op=ao at hp ⊢
 generalize a.kids.length=am at hp ⊢
 generalize b.kind=bk at hp ⊢
 generalize b.n=bn at hp ⊢
 generalize b.op=bo at hp ⊢
 generalize b.kids.length=bm at hp ⊢
 have HP:=qh hp
 clear hp
 have HA:=qh ((Below.refl w.heap.size w).alloc (Nat.le_refl _) (.cells #[.int .i64 op, .int .i64 reg, .int .i64 v, .int .i64 ak, .int .i64 an, .int .u8 ao, .slice aa am ac, .int .i64 bk, .int .i64 bn, .int .u8 bo, .slice ba bm bc, .int .i64 yI] 64))
 have HX:=qh (yh w (.cells #[.int .i64 op, .int .i64 reg, .int .i64 v, .int .i64 ak, .int .i64 an, .int .u8 ao, .slice aa am ac, .int .i64 bk, .int .i64 bn, .int .u8 bo, .slice ba bm bc, .int .i64 yI] 64))
 replace c0:=zi HA.out _ _ c0
 replace c1:=zi HA.out _ _ c1
 replace c2:=zi HA.out _ _ c2
 replace cl:=zi HA.out _ _ cl
 go_enter Tryz.func72,Tryz.ntmps72
 go_upto_region 1 with fail
 generalize World.alloc w _=W at HA HX c0 c1 c2 cl ⊢
 obtain⟨gi,hgi⟩:∃g,g=w.heap.size:=⟨_,rfl⟩
 rw [<-hgi] at HX ⊢
 clear hgi
 have y0:W.cell? ⟨gi,0,none⟩=some (.int .i64 op):=ze HX.out 0
 have y1:W.cell? ⟨gi,1,none⟩=some (.int .i64 reg):=ze HX.out 1
 have y2:W.cell? ⟨gi,2,none⟩=some (.int .i64 v):=ze HX.out 2
 have y3:W.cell? ⟨gi,3,none⟩=some (.int .i64 ak):=ze HX.out 3
 have y4:W.cell? ⟨gi,4,none⟩=some (.int .i64 an):=ze HX.out 4
 have y5:W.cell? ⟨gi,5,none⟩=some (.int .u8 ao):=ze HX.out 5
 have y6:W.cell? ⟨gi,6,none⟩=some (.slice aa am ac):=ze HX.out 6
 have y7:W.cell? ⟨gi,7,none⟩=some (.int .i64 bk):=ze HX.out 7
 have y8:W.cell? ⟨gi,8,none⟩=some (.int .i64 bn):=ze HX.out 8
 have y9:W.cell? ⟨gi,9,none⟩=some (.int .u8 bo):=ze HX.out 9
 have y10:W.cell? ⟨gi,10,none⟩=some (.slice ba bm bc):=ze HX.out 10
 have y11:W.cell? ⟨gi,11,none⟩=some (.int .i64 yI):=ze HX.out 11
 go_wp2_with fail
 refine(HP.out _ HA.out).mono ?_
 rintro e w1 ⟨rfl,hb1⟩
 have HW1:=qh (zF HA.out hb1)
 clear hb1 c0 c1 c2 cl y0 y1 y2 y3 y4 y5 y6 y7 y8 y9 y10 y11
 go_wp2_with fail
 go_ret
 exact⟨by first|rfl|simp,HW1.out⟩
theorem zg3 (w:World) (c:zO) (tv:Value) (d:Nat) (h:yT d w tv c.threads):Calls Tryz.prog 45 #[yK c tv] w λe w'=>e= .returned (.bool (codeOk c))/\Below w.heap.size w w':=by
 obtain⟨ta,tc,rfl,htl⟩:=zh.slice h
 obtain⟨vars,dom,ts⟩:=c
 simp only [] at h htl ⊢
 obtain⟨n,hn⟩:∃n,n=ts.length:=⟨_,rfl⟩
 obtain⟨r,hr⟩:∃r,r=codeOk ⟨vars,dom,ts⟩:=⟨_,rfl⟩
 have hr2:r=(decide (1<=vars) && decide (vars<=4) && decide (2<=dom) && decide (dom<=16) && decide (1<=n) && decide (n<=4) && ts.all (rowOk vars dom)):=by rw [hr,hn];rfl
 rw [<-hr]
 unfold yK
 simp only []
 rw [<-hn] at h htl ⊢
 have hA:=(Below.refl w.heap.size w).alloc (Nat.le_refl _) (.cells #[.int .i64 vars, .int .i64 dom, .slice ta n tc] 24)
 have HB:=qh hA
 have H1:=qh (yh w (.cells #[.int .i64 vars, .int .i64 dom, .slice ta n tc] 24))
 have HT:=qh (zh.below (xY.stays d) h hA)
 have HR:=qh hr2
 have HN:=qh hn
 clear h hA hr hr2 hn
 go_enter Tryz.func45,Tryz.ntmps45
 go_upto_region 1 with fail
 generalize World.alloc w _=W at HB H1 HT ⊢
 obtain⟨gx,hgx⟩:∃gx,gx=w.heap.size:=⟨_,rfl⟩
 rw [<-hgx] at H1 ⊢
 clear hgx
 have HC:Hid (∀x,Below W.heap.size W x->x.cell? ⟨gx,0,none⟩=some (.int .i64 vars)/\x.cell? ⟨gx,1,none⟩=some (.int .i64 dom)/\x.cell? ⟨gx,2,none⟩=some (.slice ta n tc)):=λx hx=>⟨zi hx _ _ (ze H1.out 0),zi hx _ _ (ze H1.out 1),zi hx _ _ (ze H1.out 2)⟩
 obtain⟨c0,c1,c2⟩:=HC.out W (Below.refl _ _)
 by_cases hv:1<=vars/\vars<=4
 rotate_left
 ·obtain rfl:r=false:=by
   have:(decide (1<=vars) && decide (vars<=4))=false:=by simp;omega
   rw [HR.out,this];simp
  clear HR
  by_cases v1:vars<1
  ·clear hv
   go_wp2_with fail
   go_ret
   exact⟨by first|rfl|simp,HB.out⟩
  have v2:4<vars:=by omega
  clear hv
  go_wp2_with fail
  go_ret
  exact⟨by first|rfl|simp,HB.out⟩
 by_cases hd:2<=dom/\dom<=16
 rotate_left
 ·obtain rfl:r=false:=by
   have:(decide (2<=dom) && decide (dom<=16))=false:=by simp;omega
   rw [HR.out,Bool.and_assoc (decide (1<=vars) && decide (vars<=4)),this];simp
  clear HR
  obtain⟨v1,v2⟩:=hv
  have v1n:¬vars<1:=by omega
  have v2n:¬4<vars:=by omega
  by_cases d1:dom<2
  ·clear hd
   go_wp2_with fail
   go_ret
   exact⟨by first|rfl|simp,HB.out⟩
  have d2:16<dom:=by omega
  clear hd
  go_wp2_with fail
  go_ret
  exact⟨by first|rfl|simp,HB.out⟩
 by_cases ht:1<=n/\n<=4
 rotate_left
 ·obtain rfl:r=false:=by
   have:(decide (1<=n) && decide (n<=4))=false:=by simp;omega
   rw [HR.out,Bool.and_assoc (decide (1<=vars) && decide (vars<=4) && decide (2<=dom) && decide (dom<=16)),this];simp
  clear HR
  obtain⟨v1,v2⟩:=hv
  obtain⟨d1,d2⟩:=hd
  have v1n:¬vars<1:=by omega
  have v2n:¬4<vars:=by omega
  have d1n:¬dom<2:=by omega
  have d2n:¬16<dom:=by omega
  by_cases n1:n=0
  ·subst n1
   clear ht
   go_wp2_with fail
   go_ret
   exact⟨by first|rfl|simp,HB.out⟩
  have n1n:¬(n:Int)<1:=by omega
  have n2n:(4:Int)<(n:Int):=by omega
  clear ht
  go_wp2_with fail
  go_ret
  exact⟨by first|rfl|simp,HB.out⟩
 have HR3:Hid (r=ts.all (rowOk vars dom)):=by rw [Hid,HR.out];simp [hv.1,hv.2,hd.1,hd.2,ht.1,ht.2]
 clear HR
 obtain⟨v1,v2⟩:=hv
 obtain⟨d1,d2⟩:=hd
 obtain⟨n1,n2⟩:=ht
 have v1n:¬vars<1:=by omega
 have v2n:¬4<vars:=by omega
 have d1n:¬dom<2:=by omega
 have d2n:¬16<dom:=by omega
 have n1n:¬(n:Int)<1:=by omega
 have n2n:¬(4:Int)<(n:Int):=by omega
 go_wp2_with fail
 clear c0 c1 c2
 go_loopg [4,38] n (λgg s4 s38 wr=>∃i:Nat,i<=n/\Hid (gg=n - i)/\s38= .int .i64 i/\Hid (Below W.heap.size W wr)/\Hid (∀j,j<i->rowOk vars dom (ts.getD j [])=true))
 case atStart=>exact⟨0,Nat.zero_le _,rfl,rfl,Below.refl _ _,λj hj=>by omega⟩
 case round=>
 obtain⟨i,hi,HG,rfl,HBO,HJ⟩:=hrel
 by_cases hlt:i<n
 rotate_left
 ·obtain rfl:n=i:=by omega
  obtain rfl:r=true:=by rw [HR3.out];exact zbT ts [] (rowOk vars dom) (λj hj=>HJ.out j (by rw [HN.out];exact hj))
  clear HR3
  go_wp2_with fail
  go_ret
  exact⟨by first|rfl|simp,HB.out.trans (HBO.out.mono HB.out.size)⟩
 have qx:(i:Int)<(n:Int):=by omega
 obtain⟨eb,eo,ka,kc,rfl,heb,hec,hel⟩:=yT.part HT.out i (by rw [<-HN.out];exact hlt)
 obtain⟨l,hl⟩:∃l,l=ts.getD i [] :=⟨_,rfl⟩
 rw [<-hl] at hec hel
 obtain⟨ln,hln⟩:∃ln,ln=l.length:=⟨_,rfl⟩
 rw [<-hln] at hec hel
 have e0:=zi HBO.out _ _ hec
 have HL:=qh hl
 have jE:=qh hln
 have HEL:=qh hel
 have HA:=qh ((Below.refl wr.heap.size wr).alloc (Nat.le_refl _) (.cells #[.slice ka ln kc] 59))
 have HX:=qh (yh wr (.cells #[.slice ka ln kc] 59))
 clear hl hln hec hel heb
 go_upto_region 6 with fail
 generalize World.alloc wr _=X at HA HX ⊢
 obtain⟨gl,hgl⟩:∃g,g=wr.heap.size:=⟨_,rfl⟩
 rw [<-hgl] at HX ⊢
 clear hgl e0
 have xq:Hid (Below W.heap.size W X):=HBO.out.trans (HA.out.mono HBO.out.size)
 have c0:X.cell? ⟨gl,0,none⟩=some (.slice ka ln kc):=ze HX.out 0
 by_cases h6:ln<=600
 rotate_left
 ·have h6n:(600:Int)<(ln:Int):=by omega
  obtain rfl:r=false:=by
   rw [HR3.out]
   refine zb1 ts [] (rowOk vars dom) i (by rw [<-HN.out];exact hlt) ?_
   rw [<-HL.out];unfold rowOk;rw [<-jE.out,decide_eq_false h6];rfl
  clear HR3 h6
  go_wp2_with fail
  go_ret
  exact⟨by first|rfl|simp,HB.out.trans (xq.out.mono HB.out.size)⟩
 have h6n:¬(600:Int)<(ln:Int):=by omega
 have hco:Calls Tryz.prog 71 #[.slice ka l.length kc, .func (.func 72) #[] #[.pointer (some ⟨gx,0,none⟩), .pointer (some ⟨gl,0,none⟩)]] X λe w'=>e= .returned (.bool ((List.range l.length).any λj=> !qw vars dom ln (l.getD j default)))/\Below X.heap.size X w':=
  zfZ (vw d) (vw.stays d) X _ l (by have:=zh.below (vw.stays d) HEL.out xq.out;rw [jE.out] at this;exact this) 72 #[] _ _ (λ_ _=>rfl)
   (λj hj W' cs hcl ⟨qa,qb,q1,q2,q3⟩ hW'=>by
    subst q1
    obtain⟨p0,p1,p2⟩:=HC.out W' (xq.out.trans (hW'.mono xq.out.size))
    exact zmR W' vars dom _ n tc _ qa qb d q2 q3 gx gl ka ln kc p0 p1 p2 (zi hW' _ _ c0))
 obtain⟨ro,hro⟩:∃ro,ro=rowOk vars dom l:=⟨_,rfl⟩
 have z0l:((List.range l.length).any λj=> !qw vars dom ln (l.getD j default))= !ro:=by
  rw [hro]
  unfold rowOk
  rw [<-jE.out,decide_eq_true h6,Bool.true_and]
  by_cases ha:l.all (qw vars dom ln)=true
  ·rw [ha]
   refine any_none λj hj=> ?_
   rw [List.all_eq_true.1 ha _ (vB (by rw [<-jE.out];exact hj))];rfl
  rw [Bool.not_eq_true] at ha
  rw [ha]
  obtain⟨x,hx,hx2⟩:=List.all_eq_false.1 ha
  obtain⟨j,hj,rfl⟩:=List.getElem_of_mem hx
  refine zcG j (by rw [jE.out];exact hj) ?_
  rw [List.getD_eq_getElem?_getD,List.getElem?_eq_getElem hj]
  simpa using hx2
 rw [z0l] at hco
 rw [<-jE.out] at hco
 have HCO:=qh hco
 have HRO:=qh hro
 clear hco hro z0l
 go_wp2_with fail
 refine HCO.out.mono ?_
 rintro e w2 ⟨rfl,hb2⟩
 have HB2:Hid (Below W.heap.size W w2):=xq.out.trans (hb2.mono xq.out.size)
 clear hb2 HCO c0
 cases ro with
 |true=>
  go_wp2_with fail
  go_roundg (n - (i+1))
  case measure=>rw [HG.out];omega
  case rel=>exact⟨i+1,by omega,rfl,by simp,HB2.out,λj hj=>by
   by_cases he:j=i
   ·subst he;rw [<-HL.out];exact HRO.out.symm
   exact HJ.out j (by omega)⟩
 |false=>
 obtain rfl:r=false:=by rw [HR3.out];exact zb1 ts [] (rowOk vars dom) i (by rw [<-HN.out];exact hlt) (by rw [<-HL.out];exact HRO.out.symm)
 clear HR3
 go_wp2_with fail
 go_ret
 exact⟨by first|rfl|simp,HB.out.trans (HB2.out.mono HB.out.size)⟩
theorem zbU {P:Program} (w:World) {ops:Array Oper} {o:Oper} {a:Act} {K:Act->World->Prop} {Q:Exit->Act->World->Prop} {E:Prop} (hw:Region.wanted o (yielded ops a.tmps)=true) (l c:Operand) (t:TypeId) (ho:o.op=Op.makeSlice t l c)
  (e:TypeId) (z:Value) (size bytes:Nat) (ht:P.underlying t=some (.slice e)) (hinfo:(P.info? e).map (λi=>(i.zero,i.size,i.bytes))=some (some z,size,bytes)) (n:Nat) (hl:a.eval l= .int .i64 (n:Int)) (hc:a.eval c= .int .i64 (n:Int))
  (h63:n<=maxLen) (hbytes:n*bytes<=281474976710656) (h:K (a.put o.dst (.slice (some ⟨w.heap.size,0,none⟩) n n)) (w.alloc (.cells (madeCells z.cells (n*size)).toList.toArray e))):if Region.wanted o (yielded ops a.tmps)=true then Oper.wp P o a w K Q else E:=by
 rw [if_pos hw]
 obtain⟨i,hi,hz,hsize,hby⟩:=info_parts hinfo
 have h63':(n:Int)<=9223372036854775807:=by have:=h63;unfold maxLen at this;omega
 have hb':(i.bytes:Int)*(n:Int)<=281474976710656:=by
  have h:((i.bytes*n:Nat):Int)<=281474976710656:=by rw [hby,Nat.mul_comm];omega
  rwa [Int.natCast_mul] at h
 have hr:=run_make (P:=P) w t e i z ht hi hz .i64 .i64 (n:Int) (n:Int) (by omega) (Int.le_refl _) hb' h63'
 unfold Oper.wp execOp
 simp only [ho,resolve,Sem.run_bind,Sem.run_pure,Result.andThen_ok,hl,hc,hr,Int.toNat_natCast,hsize]
 rw [Array.toArray_toList] at h
 exact h
theorem zpy {z:Array Value} {n j:Nat} (h:j<n):(madeCells z n).toList[j]? =some z[j % z.size]! :=by
 rw [Array.getElem?_toList,madeCells,Array.getElem?_map,Array.getElem?_range,if_pos h];rfl
theorem zlN (n:Nat):(madeCells (Value.agg #[.int .i64 0, .int .i64 0, .int .i64 0, .int .i64 0, .int .i64 0, .slice none 0 0]).cells (n*6)).toList=zY (List.replicate n default) (List.replicate n (.slice none 0 0)):=by
 have hl:=gG (List.replicate n default) (List.replicate n (.slice none 0 0))
 rw [List.length_replicate] at hl
 apply List.ext_getElem?
 intro j
 by_cases hj:j<n*6
 rotate_left
 ·rw [List.getElem?_eq_none (by simp [size_madeCells];omega),List.getElem?_eq_none (by omega)]
 rw [zpy hj]
 have e:j=j / 6*6+j % 6:=by omega
 have hd:(List.replicate n (default:zA)).getD (j / 6) default=default:=by simp [List.getD_eq_getElem?_getD,List.getElem?_replicate];split<;>rfl
 have hv:(List.replicate n (Value.slice none 0 0)).getD (j / 6) (.slice none 0 0)= .slice none 0 0:=by simp [List.getD_eq_getElem?_getD,List.getElem?_replicate];split<;>rfl
 have hc:=vF (l:=List.replicate n default) (bs:=List.replicate n (.slice none 0 0)) (j:=j / 6) (i:=j % 6) (by rw [List.length_replicate];omega) (by omega)
 rw [<-e,hd,hv] at hc
 rw [hc]
 have h6:j % 6=0\/j % 6=1\/j % 6=2\/j % 6=3\/j % 6=4\/j % 6=5:=by omega
 show some (#[Value.int .i64 0, .int .i64 0, .int .i64 0, .int .i64 0, .int .i64 0, .slice none 0 0][j % 6]!)=_
 rcases h6 with h|h|h|h|h|h<;>rw [h] <;>rfl
theorem zuz (n:Nat):(madeCells (Value.int .i64 0).cells (n*1)).toList=zq yO (List.replicate n 0):=by
 rw [Nat.mul_one]
 refine(toList_madeCells_one (.int .i64 0) n).trans ?_
 induction n with
 |zero=>rfl
 |succ n ih=>rw [zjJ, <-ih,List.replicate_succ']
def zjK (w:World) (s:zl) (e:Ending) (w':World):Prop:=(∃sv mv,e= .returned (yF s sv mv)/\zX (λk=>k<w.heap.size) w' (λy=>yj y s sv mv))/\Below w.heap.size w w'
theorem zjL {w X:World} {g1 g2 gr n k:Nat} (hb:Below w.heap.size w X) (h1:X.heap[g1]? =some (.cells (madeCells (Value.agg #[.int .i64 0, .int .i64 0, .int .i64 0, .int .i64 0, .int .i64 0, .slice none 0 0]).cells (n*6)).toList.toArray 48 (0,0))) (h2:X.heap[g2]? =some (.cells (madeCells (Value.int .i64 0).cells (k*1)).toList.toArray 3 (0,0)))
  (l1:w.heap.size<=g1) (l2:w.heap.size<=g2) (hn:n<=4) (hk:k<=4) (_hr:X.heap[gr]? =some (.cells #[.slice (some ⟨g1,0,none⟩) n n, .slice (some ⟨g2,0,none⟩) k k, .bool false] 30 (0,0))):
  zjK w ⟨List.replicate n default,List.replicate k 0,false⟩ (.returned (.agg #[.slice (some ⟨g1,0,none⟩) n n, .slice (some ⟨g2,0,none⟩) k k, .bool false])) X:=by
 rw [zlN] at h1
 rw [zuz] at h2
 have r1:=wK (n:=n) h1 l1 (by rw [gG,List.length_replicate]) (by unfold maxLen;omega)
 have r2:=wK (n:=k) h2 l2 (by rw [j5 (f:=yO) zay,List.length_replicate]) (by unfold maxLen;omega)
 exact⟨⟨_,_,rfl,λy hy=>zmS (hy.row r1 (λx hx e=>by cases hx;exact absurd l1 (Nat.not_le.2 e))) (hy.row r2 (λx hx e=>by cases hx;exact absurd l2 (Nat.not_le.2 e)))⟩,hb⟩
theorem zh6 (w:World) (c:zO) (tv:Value) (d:Nat) (h:yT d w tv c.threads):Calls Tryz.prog 18 #[yK c tv] w (zjK w (jS c)):=by
 obtain⟨ca,cc,rfl,hcl⟩:=zh.slice h
 obtain⟨co,hco⟩:∃co,co=codeOk c:=⟨_,rfl⟩
 have hcode:=λW (hW:yT d W (.slice ca c.threads.length cc) c.threads)=>zg3 W c (.slice ca c.threads.length cc) d hW
 rw [<-hco] at hcode
 have hst:jS c=if co then⟨List.replicate c.threads.length default,List.replicate c.vars.toNat 0,false⟩ else⟨[], [],false⟩:=by rw [hco];rfl
 rw [hst]
 have hbd:co=true->1<=c.vars/\c.vars<=4/\c.threads.length<=4:=λe=>by
  have:=xS (hco.symm.trans e);exact⟨this.1,this.2.1,this.2.2.2.2.2⟩
 obtain⟨vars,dom,cs⟩:=c
 simp only [] at h hcl hcode hbd ⊢
 unfold yK
 unfold yK at hcode
 simp only [] at hcode ⊢
 obtain⟨n,hn⟩:∃n,n=cs.length:=⟨_,rfl⟩
 rw [<-hn] at h hcl hcode hbd ⊢
 have hl0:=(((Loc.start w).alloc 24 [.int .i64 vars, .int .i64 dom, .slice ca n cc]).alloc 30 [.slice none 0 0, .slice none 0 0, .bool false])
 have hsz:(w.alloc (.cells [.int .i64 vars, .int .i64 dom, .slice ca n cc].toArray 24)).heap.size=w.heap.size+1:=by simp
 rw [hsz] at hl0
 have HL0:=qh hl0
 clear hl0 hsz
 have HT:=qh h
 have zaZ:=qh hcode
 have gU:=qh hbd
 obtain⟨nv,hnv⟩:∃nv:Nat,nv=vars.toNat:=⟨_,rfl⟩
 rw [<-hnv]
 have HNV:=qh hnv
 obtain⟨R,hR⟩:∃R:zl,R=if co then⟨List.replicate n default,List.replicate nv 0,false⟩ else⟨[], [],false⟩:=⟨_,rfl⟩
 rw [<-hR]
 have HRR:=qh hR
 clear hR
 clear h hcode hst hco hn hbd hnv
 go_enter Tryz.func18,Tryz.ntmps18
 go_upto_region 1 with fail
 obtain⟨gx,hgx⟩:∃gx,gx=w.heap.size:=⟨_,rfl⟩
 have wG:Hid (gx+1≠gx):=by rw [Hid];omega
 rw [<-hgx] at HL0 ⊢
 generalize World.alloc (World.alloc w _) _=W at HL0 ⊢
 clear hgx
 obtain⟨n1, -⟩:=HL0.out.news (gx,24, [.int .i64 vars, .int .i64 dom, .slice ca n cc]) (List.mem_cons_of_mem _ (List.mem_cons_self ..))
 have c0:=ze n1 0
 have c1:=ze n1 1
 have c2:=ze n1 2
 clear n1
 go_wp2_with fail
 refine(zaZ.out W (zh.below (xY.stays d) HT.out HL0.out.below)).mono ?_
 rintro e W1 ⟨rfl,hb⟩
 have HL:=qh (HL0.out.later hb)
 clear hb c0 c1 c2 zaZ HT HL0
 cases co with
 |false=>
  obtain⟨n2, -⟩:=HL.out.news (gx+1,30, [.slice none 0 0, .slice none 0 0, .bool false]) (List.mem_cons_self ..)
  have a0:=ze n2 0
  have a1:=ze n2 1
  have a2:=ze n2 2
  have f0:=zB n2 0
  have f1:=zB n2 1
  have f2:=zB n2 2
  have HS:=qh (HL.out.store (List.mem_cons_self ..) [.slice none 0 0, .slice none 0 0, .bool false] rfl)
  clear n2
  go_wp2_with fail
  (try simp only [Exit.inBlock,Exit.then])
  obtain⟨hset, -⟩:=HS.out.news (gx+1,30, [.slice none 0 0, .slice none 0 0, .bool false]) (uP (List.mem_cons_self ..))
  have zdV:(((W1.setCell ⟨gx+1,0,none⟩ (.slice none 0 0)).setCell ⟨gx+1,1,none⟩ (.slice none 0 0)).setCell ⟨gx+1,2,none⟩ (.bool false)).heap[gx+1]? =some (.cells #[.slice none 0 0, .slice none 0 0, .bool false] 30 (0,0)):=hset
  refine bodyPost_ret (xQ rfl _ _ (gx+1) 30 _ (0,0) _ rfl zdV Tryz.underlying30 rfl zI) rfl ?_
  have hr:R=⟨[], [],false⟩:=HRR.out
  rw [hr]
  exact⟨⟨_,_,rfl,λy _=>⟨zh.nil _,zh.nil _⟩⟩,HS.out.below⟩
 |true=>
 obtain⟨hv1,hv4,bL⟩:=gU.out rfl
 have gW:vars=(nv:Int):=by rw [HNV.out];omega
 subst gW
 have z0m:nv<=4:=by omega
 clear gU HNV hv1 hv4
 have CC:Hid (∀y,Since (λk=>k=gx+1) W1 y->y.cell? ⟨gx,0,none⟩=some (.int .i64 nv)/\y.cell? ⟨gx,2,none⟩=some (.slice ca n cc)):=λy hy=>by
  obtain⟨n1, -⟩:=HL.out.news (gx,24, [.int .i64 nv, .int .i64 dom, .slice ca n cc]) (List.mem_cons_of_mem _ (List.mem_cons_self ..))
  have n3:=(hy.block gx (zw n1) (by omega)).trans n1
  exact⟨ze n3 0,ze n3 2⟩
 go_wp2_with fail
 refine qL (S:=λx=>Since (λk=>k=gx+1) W1 x) (Since.refl _ _).drew (λ_=> ?_)
 obtain⟨V1,hV1⟩:∃V1,V1=W1.drew:=⟨_,rfl⟩
 have zhc:Hid (Since (λk=>k=gx+1) W1 V1):=by rw [hV1];exact(Since.refl _ _).drew
 have hT0:=qh (HL.out.drew)
 rw [<-hV1] at hT0 ⊢
 clear hV1
 refine zD 0 zQ (zhc.out) ?_
 refine zD 1 CC.out (zhc.out) ?_
 refine zD 2 zQ (zhc.out) ?_
 refine zD 4 zQ (zhc.out) ?_
 refine zD 5 CC.out (zhc.out) ?_
 refine wpAnyH_ready (rs:= [3,6]) (by kernel_rfl) (by simp) ?_
 refine AllReadyH.cons rfl (λK hK=> ?_) (AllReadyH.cons rfl (λK hK=> ?_) AllReadyH.nil)
 ·skip
  refine zbU V1 (by rfl) (.tmp 9) (.tmp 9) 27 rfl 48 (.agg #[.int .i64 0, .int .i64 0, .int .i64 0, .int .i64 0, .int .i64 0, .slice none 0 0]) 6 64 Tryz.underlying27 zad n (by rfl) (by rfl) (by unfold maxLen;omega) (by omega) ?_
  have uH:(gx+1)≠V1.heap.size:=hT0.out.zby (List.mem_cons_self ..)
  have zav:=hT0.out.alloc 48 (madeCells (Value.agg #[.int .i64 0, .int .i64 0, .int .i64 0, .int .i64 0, .int .i64 0, .slice none 0 0]).cells (n*6)).toList
  have ziu:=(zhc.out).alloc (.cells (madeCells (Value.agg #[.int .i64 0, .int .i64 0, .int .i64 0, .int .i64 0, .int .i64 0, .slice none 0 0]).cells (n*6)).toList.toArray 48)
  refine hK.out _ _ ziu (λ_=> ?_)
  change wpAnyH _ _ _ _ _ _ _ (Act.put _ (some 10) _) _
  simp only [Act.put,kG]
  try simp only [kH,kI]
  obtain⟨ga,hga⟩:∃n,n=V1.heap.size:=⟨_,rfl⟩
  rw [<-hga] at zav uH ⊢
  clear hga
  replace uH:=qh uH
  generalize World.alloc V1 _=Xs2 at zav ziu ⊢
  replace zav:=qh zav
  replace ziu:=qh ziu
  clear hK K
  refine yu 6 rfl (λK hK=> ?_)
  refine zbU Xs2 (by rfl) (.tmp 12) (.tmp 12) 28 rfl 3 (.int .i64 0) 1 8 Tryz.underlying28 qU nv (by rfl) (by rfl) (by unfold maxLen;omega) (by omega) ?_
  have uI:(gx+1)≠Xs2.heap.size:=zav.out.zby (List.mem_cons_of_mem _ (List.mem_cons_self ..))
  have zhd:ga≠Xs2.heap.size:=zav.out.zby (List.mem_cons_self ..)
  have zaJ:=zav.out.alloc 3 (madeCells (Value.int .i64 0).cells (nv*1)).toList
  have zfR:=(ziu.out).alloc (.cells (madeCells (Value.int .i64 0).cells (nv*1)).toList.toArray 3)
  refine hK.out _ _ zfR (λ_=> ?_)
  change wpAnyH _ _ _ _ _ _ _ (Act.put _ (some 13) _) _
  simp only [Act.put,kG]
  try simp only [kH,kI]
  obtain⟨gm,hgm⟩:∃n,n=Xs2.heap.size:=⟨_,rfl⟩
  rw [<-hgm] at zaJ uI zhd ⊢
  clear hgm
  replace uI:=qh uI
  replace zhd:=qh zhd
  generalize World.alloc Xs2 _=Xs4 at zaJ zfR ⊢
  replace zaJ:=qh zaJ
  replace zfR:=qh zfR
  clear hK K
  refine zD 7 zQ (zfR.out) ?_
  refine yu 8 rfl (λK hK=> ?_)
  obtain⟨hn, -⟩:=zaJ.out.news (gx+1,30, [.slice none 0 0, .slice none 0 0, .bool false]) (List.mem_cons_of_mem _ (List.mem_cons_of_mem _ (List.mem_cons_self ..)))
  have d0:=ze hn 0
  have f0:=zB hn 0
  have d1:=ze hn 1
  have f1:=zB hn 1
  have d2:=ze hn 2
  have f2:=zB hn 2
  clear hn
  have HS:=qh (zaJ.out.store (g:=gx+1) (t:=30) (cs:= [.slice none 0 0, .slice none 0 0, .bool false]) (List.mem_cons_of_mem _ (List.mem_cons_of_mem _ (List.mem_cons_self ..))) [.slice (some ⟨ga,0,none⟩) n n, .slice (some ⟨gm,0,none⟩) nv nv, .bool false] rfl)
  go_simp
  clear d0 d1 d2 f0 f1 f2
  refine hK.out _ (yG Xs4 (gx+1) 0 [.slice (some ⟨ga,0,none⟩) n n, .slice (some ⟨gm,0,none⟩) nv nv, .bool false]) ((zfR.out).trans (qj _ _ _) (λ_ h=> .inl h)) (λ_=> ?_)
  obtain⟨hset, -⟩:=HS.out.news (gx+1,30, [.slice (some ⟨ga,0,none⟩) n n, .slice (some ⟨gm,0,none⟩) nv nv, .bool false]) (uP (List.mem_cons_of_mem _ (List.mem_cons_of_mem _ (List.mem_cons_self ..))))
  obtain⟨hga,hla⟩:=HS.out.news (ga,48,(madeCells (Value.agg #[.int .i64 0, .int .i64 0, .int .i64 0, .int .i64 0, .int .i64 0, .slice none 0 0]).cells (n*6)).toList) (jJ (p:=(ga,48,(madeCells (Value.agg #[.int .i64 0, .int .i64 0, .int .i64 0, .int .i64 0, .int .i64 0, .slice none 0 0]).cells (n*6)).toList)) (List.mem_cons_of_mem _ (List.mem_cons_self ..)) (by simpa using (Ne.symm uH.out)))
  obtain⟨hgm,hlm⟩:=HS.out.news (gm,3,(madeCells (Value.int .i64 0).cells (nv*1)).toList) (jJ (p:=(gm,3,(madeCells (Value.int .i64 0).cells (nv*1)).toList)) (List.mem_cons_self ..) (by simpa using (Ne.symm uI.out)))
  have zT:=qh (zjL (w:=w) HS.out.below hga hgm hla hlm bL z0m hset)
  have zG:=qh hset
  clear hga hgm hla hlm hset HS
  generalize yG Xs4 (gx+1) 0 _=Xs5 at zT zG ⊢
  clear hK K
  refine xJ ?_
  go_wp2_with fail
  (try simp only [Exit.inBlock,Exit.then])
  refine bodyPost_ret (xQ rfl _ _ (gx+1) 30 _ (0,0) _ rfl zG.out Tryz.underlying30 rfl zI) rfl ?_
  have hr:R=⟨List.replicate n default,List.replicate nv 0,false⟩:=HRR.out
  rw [hr]
  exact zT.out
 skip
 refine zbU V1 (by rfl) (.tmp 12) (.tmp 12) 28 rfl 3 (.int .i64 0) 1 8 Tryz.underlying28 qU nv (by rfl) (by rfl) (by unfold maxLen;omega) (by omega) ?_
 have uI:(gx+1)≠V1.heap.size:=hT0.out.zby (List.mem_cons_self ..)
 have zhe:=hT0.out.alloc 3 (madeCells (Value.int .i64 0).cells (nv*1)).toList
 have ziw:=(zhc.out).alloc (.cells (madeCells (Value.int .i64 0).cells (nv*1)).toList.toArray 3)
 refine hK.out _ _ ziw (λ_=> ?_)
 change wpAnyH _ _ _ _ _ _ _ (Act.put _ (some 13) _) _
 simp only [Act.put,kG]
 try simp only [kH,kI]
 obtain⟨gm,hgm⟩:∃n,n=V1.heap.size:=⟨_,rfl⟩
 rw [<-hgm] at zhe uI ⊢
 clear hgm
 replace uI:=qh uI
 generalize World.alloc V1 _=Xs7 at zhe ziw ⊢
 replace zhe:=qh zhe
 replace ziw:=qh ziw
 clear hK K
 refine yu 3 rfl (λK hK=> ?_)
 refine zbU Xs7 (by rfl) (.tmp 9) (.tmp 9) 27 rfl 48 (.agg #[.int .i64 0, .int .i64 0, .int .i64 0, .int .i64 0, .int .i64 0, .slice none 0 0]) 6 64 Tryz.underlying27 zad n (by rfl) (by rfl) (by unfold maxLen;omega) (by omega) ?_
 have uH:(gx+1)≠Xs7.heap.size:=zhe.out.zby (List.mem_cons_of_mem _ (List.mem_cons_self ..))
 have zhf:gm≠Xs7.heap.size:=zhe.out.zby (List.mem_cons_self ..)
 have zjd:=zhe.out.alloc 48 (madeCells (Value.agg #[.int .i64 0, .int .i64 0, .int .i64 0, .int .i64 0, .int .i64 0, .slice none 0 0]).cells (n*6)).toList
 have zfS:=(ziw.out).alloc (.cells (madeCells (Value.agg #[.int .i64 0, .int .i64 0, .int .i64 0, .int .i64 0, .int .i64 0, .slice none 0 0]).cells (n*6)).toList.toArray 48)
 refine hK.out _ _ zfS (λ_=> ?_)
 change wpAnyH _ _ _ _ _ _ _ (Act.put _ (some 10) _) _
 simp only [Act.put,kG]
 try simp only [kH,kI]
 obtain⟨ga,hga⟩:∃n,n=Xs7.heap.size:=⟨_,rfl⟩
 rw [<-hga] at zjd uH zhf ⊢
 clear hga
 replace uH:=qh uH
 replace zhf:=qh zhf
 generalize World.alloc Xs7 _=Xs9 at zjd zfS ⊢
 replace zjd:=qh zjd
 replace zfS:=qh zfS
 clear hK K
 refine zD 7 zQ (zfS.out) ?_
 refine yu 8 rfl (λK hK=> ?_)
 obtain⟨hn, -⟩:=zjd.out.news (gx+1,30, [.slice none 0 0, .slice none 0 0, .bool false]) (List.mem_cons_of_mem _ (List.mem_cons_of_mem _ (List.mem_cons_self ..)))
 have d0:=ze hn 0
 have f0:=zB hn 0
 have d1:=ze hn 1
 have f1:=zB hn 1
 have d2:=ze hn 2
 have f2:=zB hn 2
 clear hn
 have HS:=qh (zjd.out.store (g:=gx+1) (t:=30) (cs:= [.slice none 0 0, .slice none 0 0, .bool false]) (List.mem_cons_of_mem _ (List.mem_cons_of_mem _ (List.mem_cons_self ..))) [.slice (some ⟨ga,0,none⟩) n n, .slice (some ⟨gm,0,none⟩) nv nv, .bool false] rfl)
 go_simp
 clear d0 d1 d2 f0 f1 f2
 refine hK.out _ (yG Xs9 (gx+1) 0 [.slice (some ⟨ga,0,none⟩) n n, .slice (some ⟨gm,0,none⟩) nv nv, .bool false]) ((zfS.out).trans (qj _ _ _) (λ_ h=> .inl h)) (λ_=> ?_)
 obtain⟨hset, -⟩:=HS.out.news (gx+1,30, [.slice (some ⟨ga,0,none⟩) n n, .slice (some ⟨gm,0,none⟩) nv nv, .bool false]) (uP (List.mem_cons_of_mem _ (List.mem_cons_of_mem _ (List.mem_cons_self ..))))
 obtain⟨hga,hla⟩:=HS.out.news (ga,48,(madeCells (Value.agg #[.int .i64 0, .int .i64 0, .int .i64 0, .int .i64 0, .int .i64 0, .slice none 0 0]).cells (n*6)).toList) (jJ (p:=(ga,48,(madeCells (Value.agg #[.int .i64 0, .int .i64 0, .int .i64 0, .int .i64 0, .int .i64 0, .slice none 0 0]).cells (n*6)).toList)) (List.mem_cons_self ..) (by simpa using (Ne.symm uH.out)))
 obtain⟨hgm,hlm⟩:=HS.out.news (gm,3,(madeCells (Value.int .i64 0).cells (nv*1)).toList) (jJ (p:=(gm,3,(madeCells (Value.int .i64 0).cells (nv*1)).toList)) (List.mem_cons_of_mem _ (List.mem_cons_self ..)) (by simpa using (Ne.symm uI.out)))
 have zT:=qh (zjL (w:=w) HS.out.below hga hgm hla hlm bL z0m hset)
 have zG:=qh hset
 clear hga hgm hla hlm hset HS
 generalize yG Xs9 (gx+1) 0 _=zpz at zT zG ⊢
 clear hK K
 refine xJ ?_
 go_wp2_with fail
 (try simp only [Exit.inBlock,Exit.then])
 refine bodyPost_ret (xQ rfl _ _ (gx+1) 30 _ (0,0) _ rfl zG.out Tryz.underlying30 rfl zI) rfl ?_
 have hr:R=⟨List.replicate n default,List.replicate nv 0,false⟩:=HRR.out
 rw [hr]
 exact zT.out
