/- Steps. -/
import Derived.Test.YteggflahafiieaaGreatDoorZgPShelf
set_option linter.all false
namespace Go.Proofs.YteggflahafiieaaGreatDoor
open Go.RowKit
set_option maxRecDepth 100000
set_option maxHeartbeats 16000000
theorem zqQ {w:World} {g:Nat} {q0 q1 q2 q3:Int} (h0:w.cell? ⟨g,1,none⟩=some (.int .i64 q0)) (h1:w.cell? ⟨g,2,none⟩=some (.int .i64 q1)) (h2:w.cell? ⟨g,3,none⟩=some (.int .i64 q2)) (h3:w.cell? ⟨g,4,none⟩=some (.int .i64 q3)):
  xI w (.slice (some ⟨g,1,none⟩) 4 4) [q0,q1,q2,q3] :=by
 refine⟨_,_,rfl,⟨Nat.le_refl _,by decide⟩,λj hj=>⟨g,1, [.int .i64 ([q0,q1,q2,q3].getD j default)],rfl,World.block_lt_of_cell? w _ h0,rfl,λi hi=> ?_,rfl⟩⟩
 obtain rfl:i=0:=by omega
 have hj4:j<4:=hj
 have:j=0\/j=1\/j=2\/j=3:=by omega
 rcases this with rfl|rfl|rfl|rfl
 ·exact h0
 ·exact h1
 ·exact h2
 exact h3
theorem zxC {l:List Int} {dom:Int} :((List.range l.length).any λj=> !yU dom (l.getD j default))= !((List.range l.length).all λj=>yU dom (l.getD j 0)):=by
 rw [List.not_all_eq_any_not];rfl
theorem zjD (w:World) (sv:Value) (l:List Int) (h:xI w sv l) (dom:Int) (g:Nat) (hg:w.cell? ⟨g,1,none⟩=some (.int .i64 dom)):
  Calls Tryz.prog 52 #[sv, .func (.func 50) #[] #[.pointer (some ⟨g,0,none⟩)]] w λe w'=>e= .returned (.bool (!((List.range l.length).all λj=>yU dom (l.getD j 0))))/\Below w.heap.size w w':=by
 have:=zgF uQ uQ.stays w sv l h 50 #[] #[.pointer (some ⟨g,0,none⟩)] (λj=> !yU dom (l.getD j default)) (λ_ _=>rfl) (λj hj W cs hcl hq hW=>by
  obtain rfl:cs= [.int .i64 (l.getD j default)] :=hq
  exact zvv W _ dom g (zh hW _ _ hg))
 rw [zxC] at this
 exact this
theorem zdB (w:World) (c:zK) (tv:Value) (d:Nat) (hc:yZ d w tv c.threads) (m:zF) (s:zm) (sv mv:Value) (hs:yh w s sv mv) (hb:∀j,j<s.threads.length->(s.threads.getD j default).buf.length<=1000000):
  Calls Tryz.prog 26 #[yT c tv,xD m,yR s sv mv] w λe w'=>e= .returned (.bool (xR c m s))/\Below w.heap.size w w':=by
 obtain⟨ta,tc,rfl,htl⟩:=ze.slice hc
 obtain⟨sa,sc,rfl,hsl⟩:=ze.slice hs.threads
 obtain⟨ma,mc,rfl,hml⟩:=ze.slice hs.mem
 have hmay:=λW (hW:Below w.heap.size w W)=>zvw W c _ d (ze.below (xK.stays d) hc hW) m
 have hmem:=λW (hW:Below w.heap.size w W) g (hg:W.cell? ⟨g,1,none⟩=some (.int .i64 c.domain))=>zjD W _ s.mem (ze.below uQ.stays hs.mem hW) c.domain g hg
 have hwt:=λW bv l (hW:zW W bv l) (hl:l.length<=1000000)=>zqR W c ta c.threads.length tc m bv l hW hl
 obtain⟨r,hr⟩:∃r,r=xR c m s:=⟨_,rfl⟩
 have hr2:r=(jP c m && decide (s.threads.length=c.threads.length) && decide ((s.mem.length:Int)=c.vars) && (List.range s.mem.length).all (λk=>yU c.domain (s.mem.getD k 0)) && (List.range s.threads.length).all (qD c m s)):=hr
 rw [<-hr]
 generalize jP c m=may at hmay hr2
 generalize hmo:((List.range s.mem.length).all λk=>yU c.domain (s.mem.getD k 0))=memo at hmem hr2
 have hTO:∀i,qD c m s i=(decide (0<=(s.threads.getD i default).pc) && decide ((s.threads.getD i default).pc<=((c.threads.getD i []).length:Int)) && (List.range 4).all (λk=>yU c.domain ((s.threads.getD i default).regs.getD k 0)) && (List.range (s.threads.getD i default).buf.length).all (xU c m (s.threads.getD i default).buf)):=λ_=>rfl
 obtain⟨wk,hwk⟩:∃f,f=xU c m:=⟨_,rfl⟩
 rw [<-hwk] at hTO
 have znU:∀W bv l,zW W bv l->l.length<=1000000->Calls Tryz.prog 53 #[.agg #[.int .i64 c.vars, .int .i64 c.domain, .slice ta c.threads.length tc],xD m,bv] W λe w'=>e= .returned (.bool ((List.range l.length).all (wk l)))/\Below W.heap.size W w':=by rw [hwk];exact hwt
 clear hwt hwk hmo hr
 generalize hto:qD c m s=tok at hTO hr2
 clear hto
 have HTS:=qh hs.threads
 have uL:=qh hc
 obtain⟨vars,dom,cs⟩:=c
 obtain⟨ts,mem,bad⟩:=s
 obtain⟨mm,mb⟩:=m
 simp only [] at*
 unfold yT xD yR
 unfold yT xD at hmay
 unfold xD at znU
 simp only [] at hmay znU ⊢
 obtain⟨n,hn⟩:∃n,n=ts.length:=⟨_,rfl⟩
 obtain⟨cn,hcn⟩:∃n,n=cs.length:=⟨_,rfl⟩
 obtain⟨mn,hmn⟩:∃n,n=mem.length:=⟨_,rfl⟩
 rw [<-hn] at hsl HTS hr2 hb ⊢
 rw [<-hcn] at htl uL hr2 hmay znU ⊢
 rw [<-hmn] at hml hmem hr2 ⊢
 have hB:=zgs w (.cells #[.int .i64 vars, .int .i64 dom, .slice ta cn tc] 26) (.cells #[.int .i64 mm, .int .i64 mb] 31) (.cells #[.slice sa n sc, .slice ma mn mc, .bool bad] 35)
 have HB:=qh hB.1
 have H1:=qh hB.2.1
 have H2:=qh hB.2.2.1
 have H3:=qh hB.2.2.2.1
 have zgY:=qh hmay
 have zc2:=qh hmem
 have HWT:=qh znU
 have HR:=qh hr2
 have HTO:=qh hTO
 have HN:=qh hn
 have HCN:=qh hcn
 have HBF:=qh hb
 clear hc hs hmay hmem znU hr2 hTO hn hcn hmn hB hb
 go_enter Tryz.func26,Tryz.ntmps26
 go_upto_region 1 with fail
 generalize World.alloc (World.alloc (World.alloc w _) _) _=W at HB H1 H2 H3 ⊢
 obtain⟨gx,hgx⟩:∃gx,gx=w.heap.size:=⟨_,rfl⟩
 rw [<-hgx] at H1 H2 H3 ⊢
 clear hgx
 have HC:Hid (∀x,Below W.heap.size W x->(x.cell? ⟨gx,0,none⟩=some (.int .i64 vars)/\x.cell? ⟨gx,1,none⟩=some (.int .i64 dom)/\x.cell? ⟨gx,2,none⟩=some (.slice ta cn tc))/\(x.cell? ⟨gx+1,0,none⟩=some (.int .i64 mm)/\x.cell? ⟨gx+1,1,none⟩=some (.int .i64 mb))/\
   x.cell? ⟨gx+1+1,0,none⟩=some (.slice sa n sc)/\x.cell? ⟨gx+1+1,1,none⟩=some (.slice ma mn mc)):=λx hx=>
  ⟨⟨zh hx _ _ (za H1.out 0),zh hx _ _ (za H1.out 1),zh hx _ _ (za H1.out 2)⟩,⟨zh hx _ _ (za H2.out 0),zh hx _ _ (za H2.out 1)⟩,zh hx _ _ (za H3.out 0),zh hx _ _ (za H3.out 1)⟩
 clear H1 H2 H3
 obtain⟨⟨c0,c1,c2⟩,⟨m0,m1⟩, -, -⟩:=HC.out W (Below.refl _ _)
 go_wp2_with fail
 refine(zgY.out W HB.out).mono ?_
 rintro e w2 ⟨rfl,hb2⟩
 have HB2:Hid (Below W.heap.size W w2):=hb2
 have HW2:=qh (HB.out.trans (hb2.mono HB.out.size))
 clear c0 c1 c2 m0 m1 hb2 zgY
 obtain⟨⟨c0,c1,c2⟩, -,s0,s1⟩:=HC.out w2 HB2.out
 cases may with
 |false=>
  obtain rfl:r=false:=by rw [HR.out];simp
  clear HR
  go_wp2_with fail
  go_ret
  exact⟨by first|rfl|(simp;done)|(simp;omega),HW2.out⟩
 |true=>
 by_cases hnc:n=cn
 rotate_left
 ·have b1:(((n:Nat):Int) !=((cn:Nat):Int))=true:=by rw [bne_iff_ne];omega
  have b2:(n==cn)=false:=by simp [hnc]
  obtain rfl:r=false:=by rw [HR.out,decide_eq_false hnc];simp
  clear HR
  go_wp2_with fail
  go_ret
  exact⟨by first|rfl|(simp;done)|(simp;omega),HW2.out⟩
 subst hnc
 by_cases hmv:(mn:Int)=vars
 rotate_left
 ·have b1:(((mn:Int)) !=vars)=true:=by rw [bne_iff_ne];exact hmv
  obtain rfl:r=false:=by rw [HR.out,decide_eq_false hmv];simp
  clear HR
  go_wp2_with fail
  go_ret
  exact⟨by first|rfl|(simp;done)|(simp;omega),HW2.out⟩
 have HR2:Hid (r=(memo && (List.range n).all tok)):=by rw [Hid,HR.out,decide_eq_true hmv];simp
 subst hmv
 clear HR
 go_wp2_with fail
 refine(zc2.out w2 HW2.out gx c1).mono ?_
 rintro e w3 ⟨rfl,hb3⟩
 have HB3:Hid (Below W.heap.size W w3):=HB2.out.trans (hb3.mono HB2.out.size)
 clear c0 c1 c2 s0 s1 hb3 zc2
 obtain⟨-, -,s0, -⟩:=HC.out w3 HB3.out
 cases memo with
 |false=>
  obtain rfl:r=false:=by rw [HR2.out];simp
  clear HR2
  go_wp2_with fail
  go_ret
  exact⟨by first|rfl|(simp;done)|(simp;omega),HB.out.trans (HB3.out.mono HB.out.size)⟩
 |true=>
 have HR3:Hid (r=(List.range n).all tok):=by rw [Hid,HR2.out];simp
 clear HR2
 go_wp2_with fail
 clear s0
 go_loopg [8,9,41] n (λgg s8 s9 s41 wr=>∃i:Nat,i<=n/\Hid (gg=n - i)/\s41= .int .i64 i/\Hid (Below W.heap.size W wr)/\Hid (∀j,j<i->tok j=true))
 case atStart=>exact⟨0,Nat.zero_le _,rfl,rfl,HB3.out,λj hj=>by omega⟩
 case round=>
 obtain⟨i,hi,HG,rfl,zX,HJ⟩:=hrel
 by_cases hlt:i<n
 rotate_left
 ·obtain rfl:n=i:=by omega
  obtain rfl:r=true:=by rw [HR3.out,List.all_eq_true];exact λj hj=>HJ.out j (List.mem_range.1 hj)
  clear HR3
  go_wp2_with fail
  go_ret
  exact⟨by first|rfl|(simp;done)|(simp;omega),HB.out.trans (zX.out.mono HB.out.size)⟩
 have qK:(i:Int)<(n:Int):=by omega
 have HWR:=qh (HB.out.trans (zX.out.mono HB.out.size))
 have HTI:=qh (HTO.out i)
 obtain⟨eb,eo,ba,bc,yG, -,hrl,q0,q1,q2,q3,q4,q5,hbf⟩:=qj.part HTS.out i (by rw [<-HN.out];exact hlt)
 subst yG
 obtain⟨kb,ko,ka,kc,hka, -,hrow, -⟩:=yZ.part uL.out i (by rw [<-HCN.out];exact hlt)
 subst hka
 have vG:=qh (HBF.out i hlt)
 obtain⟨ln,hln⟩:∃x,x=(cs.getD i []).length:=⟨_,rfl⟩
 rw [<-hln] at hrow HTI
 obtain⟨t,ht⟩:∃t,t=ts.getD i default:=⟨_,rfl⟩
 rw [<-ht] at hrl q0 q1 q2 q3 q4 q5 hbf HTI vG
 obtain⟨pc,regs,buf⟩:=t
 obtain⟨g0,g1,g2,g3,rfl⟩:=jS hrl
 simp only [List.getD_cons_zero,List.getD_cons_succ] at q0 q1 q2 q3 q4 q5 hbf HTI vG
 obtain⟨bn,hbn⟩:∃x,x=buf.length:=⟨_,rfl⟩
 rw [<-hbn] at q5 hbf
 have k:=λp v h=>zh HWR.out p v h
 have e0:=k _ _ q0
 have e1:=k _ _ q1
 have e2:=k _ _ q2
 have e3:=k _ _ q3
 have e4:=k _ _ q4
 have e5:=k _ _ q5
 have e6:=k _ _ hrow
 have zau:=qh (zW.below hbf HWR.out)
 obtain⟨-, -,s0, -⟩:=HC.out wr zX.out
 have HA:=qh ((Below.refl wr.heap.size wr).alloc (Nat.le_refl _) (.cells #[.int .i64 pc, .int .i64 g0, .int .i64 g1, .int .i64 g2, .int .i64 g3, .slice ba bn bc] 47))
 have HY:=qh (yE wr (.cells #[.int .i64 pc, .int .i64 g0, .int .i64 g1, .int .i64 g2, .int .i64 g3, .slice ba bn bc] 47))
 clear q0 q1 q2 q3 q4 q5 hrow hbf ht hrl k hln hbn
 go_upto_region 7 with fail
 generalize World.alloc wr _=X at HA HY ⊢
 obtain⟨gl,hgl⟩:∃g,g=wr.heap.size:=⟨_,rfl⟩
 rw [<-hgl] at HY ⊢
 clear hgl e0 e1 e2 e3 e4 e5 s0
 have xC:Hid (Below W.heap.size W X):=zX.out.trans (HA.out.mono zX.out.size)
 have pq:Hid (Below w.heap.size w X):=HWR.out.trans (HA.out.mono HWR.out.size)
 replace e6:=zh HA.out _ _ e6
 have CC:Hid (∀x,Below X.heap.size X x->x.cell? ⟨gl,0,none⟩=some (.int .i64 pc)/\x.cell? ⟨gl,5,none⟩=some (.slice ba bn bc)/\x.cell? ⟨gx,0,none⟩=some (.int .i64 mn)/\x.cell? ⟨gx,1,none⟩=some (.int .i64 dom)/\x.cell? ⟨gx,2,none⟩=some (.slice (some ⟨kb,ko,none⟩) n tc)/\
   x.cell? ⟨gx+1,0,none⟩=some (.int .i64 mm)/\x.cell? ⟨gx+1,1,none⟩=some (.int .i64 mb)/\x.cell? ⟨kb,ko+i,none⟩=some (.slice ka ln kc)):=λx hx=>by
  obtain⟨⟨p0,p1,p2⟩,⟨p3,p4⟩, -, -⟩:=HC.out x (zB xC.out hx)
  exact⟨zh hx _ _ (za HY.out 0),zh hx _ _ (za HY.out 5),p0,p1,p2,p3,p4,zh hx _ _ e6⟩
 obtain⟨ro,hro⟩:∃b,b=(List.range 4).all (λk=>yU dom (([g0,g1,g2,g3] :List Int).getD k 0)):=⟨_,rfl⟩
 obtain⟨wo,hwo⟩:∃b,b=(List.range buf.length).all (wk buf):=⟨_,rfl⟩
 have z0k:Hid (∀x,Below X.heap.size X x->Calls Tryz.prog 52 #[.slice (some ⟨gl,1,none⟩) 4 4, .func (.func 50) #[] #[.pointer (some ⟨gx,0,none⟩)]] x λe w'=>e= .returned (.bool (!ro))/\Below x.heap.size x w'):=λx hx=>by
  rw [hro]
  exact zjD x _ [g0,g1,g2,g3] (zqQ (zh hx _ _ (za HY.out 1)) (zh hx _ _ (za HY.out 2)) (zh hx _ _ (za HY.out 3)) (zh hx _ _ (za HY.out 4))) dom gx (CC.out x hx).2.2.2.1
 have z2T:Hid (∀x,Below X.heap.size X x->Calls Tryz.prog 53 #[.agg #[.int .i64 mn, .int .i64 dom, .slice (some ⟨kb,ko,none⟩) n tc], .agg #[.int .i64 mm, .int .i64 mb], .slice ba bn bc] x λe w'=>e= .returned (.bool wo)/\Below x.heap.size x w'):=λx hx=>by
  rw [hwo]
  exact HWT.out x _ buf (zW.below (zW.below zau.out HA.out) hx) vG.out
 have HT2:Hid (tok i=(decide (0<=pc) && decide (pc<=(ln:Int)) && ro && wo)):=by rw [Hid,HTI.out,hro,hwo]
 have jr:Hid (tok i=false->r=false):=λhw=>by
  rw [HR3.out,List.all_eq_false]
  exact⟨i,List.mem_range.2 hlt,by rw [hw];simp⟩
 have HJ2:Hid (tok i=true->∀j,j<i+1->tok j=true):=λhw j hj=>by
  by_cases e:j=i
  ·subst e;exact hw
  exact HJ.out j (by omega)
 clear hro hwo e6 HTI vG zau HY HA
 by_cases a0:0<=pc
 rotate_left
 ·have z0:decide (pc<0)=true:=decide_eq_true (by omega)
  obtain rfl:r=false:=jr.out (by rw [HT2.out];simp [a0])
  clear HT2 HJ2 jr HR3
  refine vJ (S:=λx=>Below X.heap.size X x) ((Below.refl _ _).drew) (λhH1=> ?_)
  refine zk 0 CC.out ?_
  refine zk 1 CC.out ?_
  refine zk 2 CC.out ?_
  refine zk 3 CC.out ?_
  refine jo 4 (by assumption) ?_
  refine jo 5 (by assumption) ?_
  refine jo 6 (by assumption) ?_
  refine jo 7 (by assumption) ?_
  refine jo 8 (by assumption) ?_
  refine jo 9 (by assumption) ?_
  refine jo 10 (by assumption) ?_
  refine jo 11 (by assumption) ?_
  refine jo 12 (by assumption) ?_
  refine zk 13 CC.out ?_
  refine zk 14 CC.out ?_
  refine jo 15 (by assumption) ?_
  refine jo 16 (by assumption) ?_
  refine jo 17 (by assumption) ?_
  refine jo 18 (by assumption) ?_
  refine zk 19 CC.out ?_
  refine zk 20 CC.out ?_
  refine jo 21 (by assumption) ?_
  refine jo 22 (by assumption) ?_
  refine jo 23 (by assumption) ?_
  refine jo 24 (by assumption) ?_
  refine jo 25 (by assumption) ?_
  refine jo 26 (by assumption) ?_
  refine zk 27 CC.out ?_
  refine xM ?_
  have pG:Hid (Below W.heap.size W X.drew):=xC.out.trans ((hH1).mono xC.out.size)
  go_wp2_with fail
  go_ret
  exact⟨by first|rfl|(simp;done)|(simp;omega),HB.out.trans (pG.out.mono HB.out.size)⟩
 have z0:decide (pc<0)=false:=decide_eq_false (by omega)
 by_cases a1:pc<=(ln:Int)
 rotate_left
 ·have z1:decide ((ln:Int)<pc)=true:=decide_eq_true (by omega)
  obtain rfl:r=false:=jr.out (by rw [HT2.out];simp [a1])
  clear HT2 HJ2 jr HR3
  refine vJ (S:=λx=>Below X.heap.size X x) ((Below.refl _ _).drew) (λhH2=> ?_)
  refine zk 0 CC.out ?_
  refine zk 1 CC.out ?_
  refine zk 2 CC.out ?_
  refine zk 3 CC.out ?_
  refine zk 4 CC.out ?_
  refine zk 5 CC.out ?_
  refine zk 6 CC.out ?_
  refine zk 7 CC.out ?_
  refine zk 8 CC.out ?_
  refine zk 9 CC.out ?_
  refine zk 10 CC.out ?_
  refine zk 11 CC.out ?_
  refine zk 12 CC.out ?_
  refine zk 13 CC.out ?_
  refine zk 14 CC.out ?_
  refine jo 15 (by assumption) ?_
  refine jo 16 (by assumption) ?_
  refine jo 17 (by assumption) ?_
  refine jo 18 (by assumption) ?_
  refine zk 19 CC.out ?_
  refine zk 20 CC.out ?_
  refine jo 21 (by assumption) ?_
  refine jo 22 (by assumption) ?_
  refine jo 23 (by assumption) ?_
  refine jo 24 (by assumption) ?_
  refine jo 25 (by assumption) ?_
  refine jo 26 (by assumption) ?_
  refine zk 27 CC.out ?_
  refine xM ?_
  have pG:Hid (Below W.heap.size W X.drew):=xC.out.trans ((hH2).mono xC.out.size)
  go_wp2_with fail
  go_ret
  exact⟨by first|rfl|(simp;done)|(simp;omega),HB.out.trans (pG.out.mono HB.out.size)⟩
 have z1:decide ((ln:Int)<pc)=false:=decide_eq_false (by omega)
 cases ro with
 |true=>
  refine vJ (S:=λx=>Below X.heap.size X x) ((Below.refl _ _).drew) (λhH4=> ?_)
  refine zk 0 CC.out ?_
  refine zk 1 CC.out ?_
  refine zk 2 CC.out ?_
  refine zk 3 CC.out ?_
  refine zk 4 CC.out ?_
  refine zk 5 CC.out ?_
  refine zk 6 CC.out ?_
  refine zk 7 CC.out ?_
  refine zk 8 CC.out ?_
  refine zk 9 CC.out ?_
  refine zk 10 CC.out ?_
  refine zk 11 CC.out ?_
  refine zk 12 CC.out ?_
  refine zk 13 CC.out ?_
  refine zk 14 CC.out ?_
  refine zk 15 CC.out ?_
  refine zk 16 CC.out ?_
  refine zk 17 CC.out ?_
  refine yw 18 rfl (λK hK=> ?_)
  go_simp
  refine(z0k.out X.drew hH4).mono ?_
  rintro e zsO ⟨rfl,hb⟩
  have zey:Below X.heap.size X zsO:=zB hH4 hb
  refine hK.out _ _ zey (λ_=> ?_)
  clear hK K hb hH4
  refine zk 19 CC.out ?_
  refine zk 20 CC.out ?_
  refine zk 21 CC.out ?_
  refine zk 22 CC.out ?_
  refine zk 23 CC.out ?_
  refine zk 24 CC.out ?_
  refine yw 25 rfl (λK hK=> ?_)
  go_simp
  refine(z2T.out zsO zey).mono ?_
  rintro e zsP ⟨rfl,hb⟩
  have zp3:Below X.heap.size X zsP:=zB zey hb
  refine hK.out _ _ zp3 (λ_=> ?_)
  clear hK K hb zey
  refine zk 26 CC.out ?_
  refine zk 27 CC.out ?_
  refine xM ?_
  have pG:Hid (Below W.heap.size W zsP):=xC.out.trans ((zp3).mono xC.out.size)
  cases wo with
  |true=>
   have zfk:=qh (HJ2.out (by rw [HT2.out];simp [a0,a1]))
   clear HT2 HJ2 jr HR3
   go_wp2_with fail
   go_roundg (n - (i+1))
   case measure=>rw [HG.out];omega
   case rel=>exact⟨i+1,by omega,rfl,by simp,pG.out,zfk.out⟩
  |false=>
  obtain rfl:r=false:=jr.out (by rw [HT2.out];simp)
  clear HT2 HJ2 jr HR3
  go_wp2_with fail
  go_ret
  exact⟨by first|rfl|(simp;done)|(simp;omega),HB.out.trans (pG.out.mono HB.out.size)⟩
 |false=>
 obtain rfl:r=false:=jr.out (by rw [HT2.out];simp)
 clear HT2 HJ2 jr HR3
 refine vJ (S:=λx=>Below X.heap.size X x) ((Below.refl _ _).drew) (λhH3=> ?_)
 refine zk 0 CC.out ?_
 refine zk 1 CC.out ?_
 refine zk 2 CC.out ?_
 refine zk 3 CC.out ?_
 refine zk 4 CC.out ?_
 refine zk 5 CC.out ?_
 refine zk 6 CC.out ?_
 refine zk 7 CC.out ?_
 refine zk 8 CC.out ?_
 refine zk 9 CC.out ?_
 refine zk 10 CC.out ?_
 refine zk 11 CC.out ?_
 refine zk 12 CC.out ?_
 refine zk 13 CC.out ?_
 refine zk 14 CC.out ?_
 refine zk 15 CC.out ?_
 refine zk 16 CC.out ?_
 refine zk 17 CC.out ?_
 refine yw 18 rfl (λK hK=> ?_)
 go_simp
 refine(z0k.out X.drew hH3).mono ?_
 rintro e zsQ ⟨rfl,hb⟩
 have zp4:Below X.heap.size X zsQ:=zB hH3 hb
 refine hK.out _ _ zp4 (λ_=> ?_)
 clear hK K hb hH3
 refine zk 19 CC.out ?_
 refine zk 20 CC.out ?_
 refine jo 21 (by assumption) ?_
 refine jo 22 (by assumption) ?_
 refine jo 23 (by assumption) ?_
 refine jo 24 (by assumption) ?_
 refine jo 25 (by assumption) ?_
 refine jo 26 (by assumption) ?_
 refine zk 27 CC.out ?_
 refine xM ?_
 have pG:Hid (Below W.heap.size W zsQ):=xC.out.trans ((zp4).mono xC.out.size)
 go_wp2_with fail
 go_ret
 exact⟨by first|rfl|(simp;done)|(simp;omega),HB.out.trans (pG.out.mono HB.out.size)⟩
