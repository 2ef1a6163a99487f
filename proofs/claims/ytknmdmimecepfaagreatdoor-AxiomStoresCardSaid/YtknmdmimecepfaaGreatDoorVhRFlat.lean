/- Steps. -/
import Derived.Test.YtknmdmimecepfaaGreatDoorVhFits
set_option linter.all false
namespace Go.Proofs.YtknmdmimecepfaaGreatDoor
open Go.RowKit
set_option maxRecDepth 100000
set_option maxHeartbeats 16000000
theorem zdE {f:zy} {i:Nat} (hi:i<f.regs.length):(f.regs.take (i+1)).flatten=(f.regs.take i).flatten++f.regs.getD i default:=by
 rw [List.take_succ_eq_append_getElem hi,List.flatten_append,List.getD_eq_getElem?_getD,List.getElem?_eq_getElem hi]
 simp
theorem zhe {l:List Int} {k:Nat} (hk:k<l.length):l.take (k+1)=l.take k++ [l.getD k 0] :=by
 rw [List.take_succ_eq_append_getElem hk,List.getD_eq_getElem?_getD,List.getElem?_eq_getElem hk];rfl
theorem zbP (w:World) (f:zy) (mv rv:Value) (hf:xM w f mv rv) (hm:f.mem.length<=1000000) (hrl:f.regs.length<=1000000):
  Calls Tryz.prog 74 #[qg mv rv] w λe w'=>(∃fa fc,e= .returned (.slice fa (zu f).length fc)/\w'.ownsRow w.heap.size 3 1 (.slice fa (zu f).length fc) (zu f).length (zm zR (zu f)))/\Below w.heap.size w w':=by
 obtain⟨ma,mc,rfl, -⟩:=zf.slice hf.mem
 obtain⟨ra,rc,rfl, -⟩:=zf.slice hf.regs
 obtain⟨F,hF⟩:∃F,F=zu f:=⟨_,rfl⟩
 have hF2:F=f.mem++f.regs.flatten:=hF
 rw [<-hF]
 clear hF
 obtain⟨fn,hfn⟩:∃n,n=F.length:=⟨_,rfl⟩
 rw [<-hfn]
 have HFN:=qh hfn
 clear hfn
 unfold qg
 obtain⟨mem,regs⟩:=f
 have h1:=hf.mem
 have h2:=hf.regs
 simp only [] at h1 h2 hm hrl hF2 ⊢
 obtain⟨m,hmm⟩:∃m,m=mem.length:=⟨_,rfl⟩
 obtain⟨n,hn⟩:∃n,n=regs.length:=⟨_,rfl⟩
 rw [<-hmm] at h1 hm ⊢
 rw [<-hn] at h2 hrl ⊢
 have hB:=(Below.refl w.heap.size w).alloc (Nat.le_refl _) (.cells #[.slice ma m mc, .slice ra n rc] 51)
 have H1:=qh (yG w (.cells #[.slice ma m mc, .slice ra n rc] 51))
 have HM:=qh (zf.below uy.stays h1 hB)
 have HR:=qh (zf.below p9.stays h2 hB)
 have HB:=qh hB
 have HMM:=qh hmm
 have HN:=qh hn
 have HF:=qh hF2
 clear hf h1 h2 hB hmm hn hF2
 go_enter Tryz.func74,Tryz.ntmps74
 go_upto_region 1 with fail
 generalize World.alloc w _=W at HB H1 HM HR ⊢
 obtain⟨gx,hgx⟩:∃gx,gx=w.heap.size:=⟨_,rfl⟩
 rw [<-hgx] at H1 ⊢
 clear hgx
 have zU:Hid (∀x,Below W.heap.size W x->Below w.heap.size w x):=λx hx=>HB.out.trans (hx.mono HB.out.size)
 have HC:Hid (∀x,Below W.heap.size W x->x.cell? ⟨gx,0,none⟩=some (.slice ma m mc)/\x.cell? ⟨gx,1,none⟩=some (.slice ra n rc)):=λx hx=>⟨zk hx _ _ (ze H1.out 0),zk hx _ _ (ze H1.out 1)⟩
 have zkc:=qh (ze6 HM.out)
 have zoW:Hid (ma=none->m=0):=λe=>by have:=HM.out;rw [e] at this;exact zdF this
 obtain⟨c0,c1⟩:=HC.out W (Below.refl _ _)
 go_wp2_with(at_builtin;go_must(refine gH W rfl (.const (.slice none 0 0)) _ 35 rfl 3 (.int .i64 0) 1 8 Tryz.underlying35 uD rfl (by decide) W.heap.size (.slice none 0 0) 0 [] rfl (World.ownsRow_nil _ _ _ _) ma m mc (zm zR mem) rfl ((jB (f:=zR) kZ mem).trans (by rw [<-HMM.out])) zkc.out zoW.out ze7 (by unfold maxLen;omega) (by omega) (Nat.le_refl _) ?_);intro ja jc X f1 f2 f3 f4 f5;have HX:=qh (ze8 f1);have HXB:Hid (Below W.heap.size W X):=f4.below (Nat.le_refl _) (λk hk=>by simp [Value.ownBlock] at hk);clear f1 f2 f3 f4 f5)
 clear c0 c1
 go_loopg [3,4] n (λgg s3 s4 wr=>∃(i:Nat) (oa:Option Addr) (on oc:Nat) (ol:List Int),i<=n/\Hid (gg=n - i)/\s3= .slice oa on oc/\s4= .int .i64 i/\Hid (on=m+4*i)/\Hid (ol=mem++(regs.take i).flatten)/\Hid (wr.ownsRow W.heap.size 3 1 (.slice oa on oc) on (zm zR ol))/\Hid (Below W.heap.size W wr))
 case atStart=>exact⟨0,ja,m,jc,mem,Nat.zero_le _,rfl,by first|rfl|simp,rfl,by simp [Hid],by simp [Hid],HX.out,HXB.out⟩
 case round=>
 obtain⟨i,oa,on,oc,ol,hi,HG,rfl,rfl,uw,HOL,HO,ql⟩:=hrel
 obtain⟨c0,c1⟩:=HC.out wr ql.out
 by_cases hlt:i<n
 rotate_left
 ·obtain rfl:n=i:=by omega
  have hol:F=ol:=by rw [HOL.out,HF.out,HN.out,List.take_length]
  have hln:fn=on:=by
   have:=HO.out.1
   rw [jB (f:=zR) kZ, <-hol, <-HFN.out] at this
   omega
  subst hln
  have HO2:=qh (zdG HO.out HB.out.size)
  rw [<-hol] at HO2
  clear hol
  go_wp2_with fail
  go_ret
  exact⟨⟨oa,oc,by first|rfl|simp,HO2.out⟩,zU.out _ ql.out⟩
 have qK:(i:Int)<(n:Int):=by omega
 obtain⟨b,off,hea, -,hr4,x0,x1,x2,x3⟩:=zaM.part HR.out i (by rw [<-HN.out];exact hlt)
 subst hea
 have hft:=zdE (f:=⟨mem,regs⟩) (i:=i) (by show i<regs.length;rw [<-HN.out];exact hlt)
 simp only [] at hft
 have HFT:=qh hft
 clear hft
 generalize regs.getD i default=rg at x0 x1 x2 x3 hr4 HFT
 have HX4:Hid (∀k,k<4->∀y,Below W.heap.size W y->y.cell? ⟨b,off+i*4+k,none⟩=some (.int .i64 (rg.getD k 0))):=λk hk y hy=>by
  have:k=0\/k=1\/k=2\/k=3:=by omega
  rcases this with rfl|rfl|rfl|rfl
  ·exact zk hy _ _ x0
  ·exact zk hy _ _ x1
  ·exact zk hy _ _ x2
  exact zk hy _ _ x3
 have HR4:=qh hr4
 clear x0 x1 x2 x3 hr4
 obtain⟨wo,rfl⟩:∃wo:World,wo=wr:=⟨_,rfl⟩
 go_wp2_with fail
 clear c0 c1
 go_loopg [3,5] 4 (λgg s3 s5 wr=>∃(k:Nat) (pa:Option Addr) (pn pc:Nat) (pl:List Int),k<=4/\Hid (gg=4 - k)/\s3= .slice pa pn pc/\s5= .int .i64 k/\Hid (pn=on+k)/\Hid (pl=ol++rg.take k)/\Hid (wr.ownsRow W.heap.size 3 1 (.slice pa pn pc) pn (zm zR pl))/\Hid (Below W.heap.size W wr))
 case atStart=>exact⟨0,oa,on,oc,ol,by omega,rfl,rfl,rfl,by simp [Hid],by simp [Hid],HO.out,ql.out⟩
 case round=>
 obtain⟨k,pa,pn,pc,pl,hk,HG2,rfl,rfl,HPN,HPL,HP,HBK⟩:=hrel
 by_cases hk4:k<4
 rotate_left
 ·obtain rfl:k=4:=by omega
  have znd:pl=mem++(regs.take (i+1)).flatten:=by
   have ht4:rg.take 4=rg:=List.take_of_length_le (by rw [HR4.out];omega)
   rw [HPL.out,HOL.out,HFT.out,ht4,List.append_assoc]
  have zqB:=qh znd
  clear znd
  go_wp2_with fail
  go_roundg (n - (i+1))
  case measure=>rw [HG.out];omega
  case rel=>exact⟨i+1,pa,pn,pc,pl,by omega,rfl,rfl,by simp,by have:=uw.out;have:=HPN.out;rw [Hid];omega,zqB.out,HP.out,HBK.out⟩
 have hkI:(k:Int)<4:=by omega
 obtain⟨c0,c1⟩:=HC.out wr HBK.out
 have e1:=HX4.out k hk4 wr HBK.out
 have hts:=zhe (l:=rg) (k:=k) (by rw [HR4.out];exact hk4)
 have HTS:=qh hts
 clear hts
 generalize rg.getD k 0=q at e1 HTS
 have hb1:pn+1<=10000000:=by have:=uw.out;have:=HPN.out;omega
 go_wp2_with(at_builtin;go_must(refine qO _ rfl _ _ 35 rfl 3 (.int .i64 0) 1 8 Tryz.underlying35 uD rfl (by decide) W.heap.size (.slice pa pn pc) pn (zm zR pl) rfl ((HP.out).alloc _) ⟨wr.heap.size,0,none⟩ 1 1 [.int .i64 q] rfl rfl (kW _ [.int .i64 q] _) (by simp [Value.oneCell']) (by unfold maxLen;omega) (by omega) (by have:=HBK.out.size;simp;omega) ?_);intro ja jc X f1 f2 f3 f4 f5 f6;have HE:=qh (zkd (f:=zR) (x:=q) HP.out f1 f4 HBK.out (Nat.le_refl _));clear f1 f2 f3 f4 f5 f6)
 go_roundg (4 - (k+1))
 case measure=>rw [HG2.out];omega
 case rel=>exact⟨k+1,ja,pn+1,jc,pl++ [q],by omega,rfl,rfl,by simp,by have:=HPN.out;rw [Hid];omega,by rw [Hid,HPL.out,HTS.out,List.append_assoc],HE.out.1,HE.out.2⟩
theorem ze9 {l r:List Int} {i:Nat} (h1:i<l.length) (h2:i<r.length):zG (l.drop i) (r.drop i)=if l.getD i 0<r.getD i 0 then -1 else if r.getD i 0<l.getD i 0 then 1 else zG (l.drop (i+1)) (r.drop (i+1)):=by
 rw [List.drop_eq_getElem_cons h1,List.drop_eq_getElem_cons h2,List.getD_eq_getElem?_getD,List.getD_eq_getElem?_getD,List.getElem?_eq_getElem h1,List.getElem?_eq_getElem h2]
 rfl
theorem zmr {l r:List Int} {i:Nat} (h1:i<=l.length) (h2:i<=r.length) (h:i=l.length\/i=r.length):decide (zG (l.drop i) (r.drop i)<0)=decide (l.length<r.length):=by
 rcases h with rfl|rfl
 ·rw [List.drop_length]
  cases hr:r.drop l.length with
  |nil=>
   have:=List.drop_eq_nil_iff.1 hr
   rw [decide_eq_false (show¬zG [] [] <0 from(by decide:¬(0:Int)<0)),decide_eq_false (by omega)]
  |cons a q=>
  have:¬r.length<=l.length:=λe=>by rw [List.drop_eq_nil_iff.2 e] at hr;cases hr
  rw [decide_eq_true (show zG [] (a::q)<0 from(by decide:(-1:Int)<0)),decide_eq_true (by omega)]
 rw [List.drop_length]
 cases hl:l.drop r.length with
 |nil=>
  rw [decide_eq_false (show¬zG [] [] <0 from(by decide:¬(0:Int)<0)),decide_eq_false (by omega)]
 |cons a q=>rw [decide_eq_false (show¬zG (a::q) [] <0 from(by decide:¬(1:Int)<0)),decide_eq_false (by omega)]
def j4 (f:zy):Prop:=f.mem.length<=1000000/\f.regs.length<=1000000
theorem zaN (w:World) (a b:zy) (ma ra mb rb:Value) (ha:xM w a ma ra) (hb:xM w b mb rb) (hfa:j4 a) (gI:j4 b):
  Calls Tryz.prog 53 #[qg ma ra,qg mb rb] w λe w'=>e= .returned (.bool (uE a b))/\Below w.heap.size w w':=by
 obtain⟨jC,jD,rfl, -⟩:=zf.slice ha.mem
 obtain⟨jE,jF,rfl, -⟩:=zf.slice ha.regs
 obtain⟨jG,jH,rfl, -⟩:=zf.slice hb.mem
 obtain⟨jI,jJ,rfl, -⟩:=zf.slice hb.regs
 obtain⟨r,hr⟩:∃r,r=uE a b:=⟨_,rfl⟩
 obtain⟨X,hX⟩:∃X,X=zu a:=⟨_,rfl⟩
 obtain⟨Y,hY⟩:∃Y,Y=zu b:=⟨_,rfl⟩
 obtain⟨xn,hxn⟩:∃n,n=X.length:=⟨_,rfl⟩
 obtain⟨yn,hyn⟩:∃n,n=Y.length:=⟨_,rfl⟩
 have hr2:r=decide (zG X Y<0):=by rw [hr,hX,hY];rfl
 have h1:=λW (h:Below w.heap.size w W)=>zbP W a _ _ (ha.below h) hfa.1 hfa.2
 have h2:=λW (h:Below w.heap.size w W)=>zbP W b _ _ (hb.below h) gI.1 gI.2
 rw [<-hX, <-hxn] at h1
 rw [<-hY, <-hyn] at h2
 rw [<-hr]
 unfold qg at h1 h2 ⊢
 generalize a.mem.length=n1 at h1 ⊢
 generalize a.regs.length=n2 at h1 ⊢
 generalize b.mem.length=n3 at h2 ⊢
 generalize b.regs.length=n4 at h2 ⊢
 have hB:=xH w (.cells #[.slice jC n1 jD, .slice jE n2 jF] 51) (.cells #[.slice jG n3 jH, .slice jI n4 jJ] 51)
 have H1:=qh (xI w (.cells #[.slice jC n1 jD, .slice jE n2 jF] 51) (.cells #[.slice jG n3 jH, .slice jI n4 jJ] 51))
 have H2:=qh (xu w (.cells #[.slice jC n1 jD, .slice jE n2 jF] 51) (.cells #[.slice jG n3 jH, .slice jI n4 jJ] 51))
 have HB:=qh hB
 have HR:=qh hr2
 have uX:=qh hxn
 have uF:=qh hyn
 have HA:=qh h1
 have HBB:=qh h2
 clear ha hb hfa gI hr hr2 hX hY hxn hyn h1 h2 hB
 go_enter Tryz.func53,Tryz.ntmps53
 go_upto_region 1 with fail
 generalize World.alloc (World.alloc w _) _=W at HB H1 H2 ⊢
 obtain⟨gx,hgx⟩:∃gx,gx=w.heap.size:=⟨_,rfl⟩
 rw [<-hgx] at H1 H2 ⊢
 clear hgx
 have zU:Hid (∀x,Below W.heap.size W x->Below w.heap.size w x):=λx hx=>HB.out.trans (hx.mono HB.out.size)
 have HC:Hid (∀x,Below W.heap.size W x->x.cell? ⟨gx,0,none⟩=some (.slice jC n1 jD)/\x.cell? ⟨gx,1,none⟩=some (.slice jE n2 jF)/\x.cell? ⟨gx+1,0,none⟩=some (.slice jG n3 jH)/\x.cell? ⟨gx+1,1,none⟩=some (.slice jI n4 jJ)):=λx hx=>
  ⟨zk hx _ _ (ze H1.out 0),zk hx _ _ (ze H1.out 1),zk hx _ _ (ze H2.out 0),zk hx _ _ (ze H2.out 1)⟩
 refine vP (S:=λx=>Below W.heap.size W x) (Below.refl _ _).drew (λhH=> ?_)
 refine zh 0 HC.out ?_
 refine zh 2 HC.out ?_
 refine qG 1 rfl (λK hK=> ?_)
 go_simp
 refine(HA.out W.drew (zU.out _ hH)).mono ?_
 rintro e hw1 ⟨⟨fa,fc,rfl,hro⟩,hb⟩
 have zc7:=qh hro
 clear hro
 have zaj:Below W.heap.size W hw1:=zn hH hb
 refine hK.out _ _ zaj (λ_=> ?_)
 clear hK K hb hH
 refine qG 3 rfl (λK hK=> ?_)
 go_simp
 refine(HBB.out hw1 (zU.out _ zaj)).mono ?_
 rintro e hw3 ⟨⟨ga,gc,rfl,hro⟩,hb⟩
 have zak:=qh hro
 have HBT:=qh hb
 clear hro
 have zcn:Below W.heap.size W hw3:=zn zaj hb
 refine hK.out _ _ zcn (λ_=> ?_)
 clear hK K hb zaj
 refine zh 4 HC.out ?_
 refine zh 5 HC.out ?_
 refine vK ?_
 have HBE:=qh zcn
 clear zcn
 have HY2:=qh (bV (by rw [<-uF.out];exact zak.out))
 have HX2:=qh (zf.below uy.stays (bV (by rw [<-uX.out];exact zc7.out)) HBT.out)
 have hxb:xn<=9223372036854775807:=by obtain⟨_,_,_,h1,h2⟩:=xP zc7.out;unfold maxLen at h2;omega
 clear zc7 zak HBT
 go_wp2_with fail
 go_loopg [7] (xn+1) (λgg s7 wr=>∃i:Nat,i<=xn/\i<=yn/\Hid (gg=xn+1 - i)/\s7= .int .i64 i/\Hid (Below hw3.heap.size hw3 wr)/\Hid (zG X Y=zG (X.drop i) (Y.drop i)))
 case atStart=>exact⟨0,Nat.zero_le _,Nat.zero_le _,rfl,rfl,Below.refl _ _,rfl⟩
 case round=>
 obtain⟨i,hi,hi2,HG,rfl,ql,HJ⟩:=hrel
 by_cases hlt:i<xn/\i<yn
 rotate_left
 ·have hend:i=xn\/i=yn:=by omega
  have hrr:r=decide ((xn:Int)<(yn:Int)):=by
   rw [HR.out,HJ.out,zmr (by rw [<-uX.out];exact hi) (by rw [<-uF.out];exact hi2) (by rw [<-uX.out, <-uF.out];exact hend), <-uX.out, <-uF.out]
   simp
  have HRR:=qh hrr
  clear hrr hend
  by_cases hlx:i<xn
  ·have zke:(i:Int)<(xn:Int):=by omega
   have zne:¬(i:Int)<(yn:Int):=by omega
   clear hlt
   go_wp2_with fail
   go_ret
   exact⟨by rw [HRR.out];first|rfl|simp,zU.out _ (zn HBE.out ql.out)⟩
  have zke:¬(i:Int)<(xn:Int):=by omega
  clear hlt
  go_wp2_with fail
  go_ret
  exact⟨by rw [HRR.out];first|rfl|simp,zU.out _ (zn HBE.out ql.out)⟩
 obtain⟨hlx,hly⟩:=hlt
 have zke:(i:Int)<(xn:Int):=by omega
 have zne:(i:Int)<(yn:Int):=by omega
 obtain⟨b1,o1,hea, -,x0⟩:=xJ.part HX2.out i (by rw [<-uX.out];exact hlx)
 obtain⟨b2,o2,pE, -,y0⟩:=xJ.part HY2.out i (by rw [<-uF.out];exact hly)
 subst hea
 subst pE
 have hst:=ze9 (l:=X) (r:=Y) (i:=i) (by rw [<-uX.out];exact hlx) (by rw [<-uF.out];exact hly)
 rw [<-HJ.out] at hst
 have HST:=qh hst
 clear hst
 generalize X.getD i 0=p at x0 HST
 generalize Y.getD i 0=q at y0 HST
 have HXY:Hid (∀y,Below hw3.heap.size hw3 y->y.cell? ⟨b1,o1+i,none⟩=some (.int .i64 p)/\y.cell? ⟨b2,o2+i,none⟩=some (.int .i64 q)):=λy hy=>⟨zk hy _ _ x0,zk hy _ _ y0⟩
 clear x0 y0
 obtain⟨x0,y0⟩:=HXY.out wr ql.out
 by_cases hpq:p=q
 ·subst hpq
  have zqC:Hid (zG X Y=zG (X.drop (i+1)) (Y.drop (i+1))):=by rw [Hid,HST.out,if_neg (by omega),if_neg (by omega)]
  go_wp2_with fail
  go_quiet (fail)
  go_wp2_with fail
  go_roundg (xn+1 - (i+1))
  case measure=>rw [HG.out];omega
  case rel=>exact⟨i+1,by omega,by omega,rfl,by simp,bL ql.out _,zqC.out⟩
 have hrr:r=decide (p<q):=by
  rw [HR.out,HST.out]
  by_cases h:p<q
  ·rw [if_pos h,decide_eq_true h];rfl
  rw [if_neg h,if_pos (by omega),decide_eq_false h];rfl
 have HRR:=qh hrr
 clear hrr
 go_wp2_with fail
 go_quiet (fail)
 go_wp2_with fail
 generalize hX9:World.drewN wr _=X9
 have HX9:=qh (show Below hw3.heap.size hw3 X9 by rw [<-hX9];exact bL ql.out _)
 clear hX9 x0 y0
 obtain⟨x0,y0⟩:=HXY.out X9 HX9.out
 go_quiet (fail)
 go_wp2_with fail
 go_ret
 exact⟨by rw [HRR.out];first|rfl|simp,zU.out _ (zn HBE.out (bL HX9.out _))⟩
theorem zdz (w:World) (a b:zy) (ma ra mb rb:Value) (ha:xM w a ma ra) (hb:xM w b mb rb) (hfa:j4 a) (gI:j4 b):
  Calls Tryz.prog 31 #[qg ma ra,qg mb rb] w λe w'=>e= .returned (.bool (vg a b))/\Below w.heap.size w w':=by
 obtain⟨jC,jD,rfl, -⟩:=zf.slice ha.mem
 obtain⟨jE,jF,rfl, -⟩:=zf.slice ha.regs
 obtain⟨jG,jH,rfl, -⟩:=zf.slice hb.mem
 obtain⟨jI,jJ,rfl, -⟩:=zf.slice hb.regs
 have h1:=λW (h:Below w.heap.size w W)=>zaN W a b _ _ _ _ (ha.below h) (hb.below h) hfa gI
 have h2:=λW (h:Below w.heap.size w W)=>zaN W b a _ _ _ _ (hb.below h) (ha.below h) gI hfa
 obtain⟨r,hr⟩:∃r,r=vg a b:=⟨_,rfl⟩
 obtain⟨p,hp⟩:∃p,p=uE a b:=⟨_,rfl⟩
 obtain⟨q,hq⟩:∃q,q=uE b a:=⟨_,rfl⟩
 have hr2:r=(decide (a.mem.length=b.mem.length) && !p && !q):=by rw [hr,hp,hq];rfl
 rw [<-hp] at h1
 rw [<-hq] at h2
 rw [<-hr]
 unfold qg at h1 h2 ⊢
 clear ha hb hr hp hq
 generalize a.mem.length=n1 at h1 h2 hr2 ⊢
 generalize a.regs.length=n2 at h1 h2 ⊢
 generalize b.mem.length=n3 at h1 h2 hr2 ⊢
 generalize b.regs.length=n4 at h1 h2 ⊢
 have hB:=xH w (.cells #[.slice jC n1 jD, .slice jE n2 jF] 51) (.cells #[.slice jG n3 jH, .slice jI n4 jJ] 51)
 have H1:=qh (xI w (.cells #[.slice jC n1 jD, .slice jE n2 jF] 51) (.cells #[.slice jG n3 jH, .slice jI n4 jJ] 51))
 have H2:=qh (xu w (.cells #[.slice jC n1 jD, .slice jE n2 jF] 51) (.cells #[.slice jG n3 jH, .slice jI n4 jJ] 51))
 have HB:=qh hB
 have HR:=qh hr2
 have HA:=qh h1
 have HBB:=qh h2
 clear h1 h2 hr2 hB hfa gI
 go_enter Tryz.func31,Tryz.ntmps31
 go_upto_region 1 with fail
 generalize World.alloc (World.alloc w _) _=W at HB H1 H2 ⊢
 obtain⟨gx,hgx⟩:∃gx,gx=w.heap.size:=⟨_,rfl⟩
 rw [<-hgx] at H1 H2 ⊢
 clear hgx
 have zU:Hid (∀x,Below W.heap.size W x->Below w.heap.size w x):=λx hx=>HB.out.trans (hx.mono HB.out.size)
 have HC:Hid (∀x,Below W.heap.size W x->x.cell? ⟨gx,0,none⟩=some (.slice jC n1 jD)/\x.cell? ⟨gx,1,none⟩=some (.slice jE n2 jF)/\x.cell? ⟨gx+1,0,none⟩=some (.slice jG n3 jH)/\x.cell? ⟨gx+1,1,none⟩=some (.slice jI n4 jJ)):=λx hx=>
  ⟨zk hx _ _ (ze H1.out 0),zk hx _ _ (ze H1.out 1),zk hx _ _ (ze H2.out 0),zk hx _ _ (ze H2.out 1)⟩
 obtain⟨c0,c1,c2,c3⟩:=HC.out W (Below.refl _ _)
 by_cases h:n1=n3
 rotate_left
 ·obtain rfl:r=false:=by rw [HR.out,decide_eq_false h];rfl
  have h2:((n1:Int)==(n3:Int))=false:=by simp;omega
  go_wp2_with fail
  go_ret
  exact⟨by first|rfl|simp,zU.out _ (Below.refl _ _)⟩
 subst h
 cases p with
 |true=>
  obtain rfl:r=false:=by rw [HR.out];simp
  go_wp2_with(go_at_call 53;go_must(refine(HA.out W HB.out).mono ?_);rintro e w1 ⟨rfl,hb⟩;have HB1:=qh hb;clear hb)
  go_ret
  exact⟨by first|rfl|simp,zU.out _ HB1.out⟩
 |false=>
 obtain rfl:r= !q:=by rw [HR.out];simp
 go_wp2_with(first|(go_at_call 53;refine(HBB.out w1 (zU.out _ HB1.out)).mono ?_;rintro e w2 ⟨rfl,hb⟩;have HB2:=qh hb;clear hb)|(go_at_call 53;refine(HA.out W HB.out).mono ?_;rintro e w1 ⟨rfl,hb⟩;have HB1:=qh hb;obtain⟨d0,d1,d2,d3⟩:=HC.out w1 hb;clear hb c0 c1 c2 c3))
 go_ret
 exact⟨by first|rfl|simp,zU.out _ (zn HB1.out HB2.out)⟩
