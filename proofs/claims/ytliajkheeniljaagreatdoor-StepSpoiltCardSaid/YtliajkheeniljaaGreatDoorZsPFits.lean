/- Does a state fit: the program's answer: the walk. -/
import Derived.Test.YtliajkheeniljaaGreatDoorZsPShelf
import Derived.Test.YtliajkheeniljaaGreatDoorZsShort
set_option linter.all false
namespace Go.Proofs.YtliajkheeniljaaGreatDoor
open Go.RowKit
set_option maxRecDepth 100000
set_option maxHeartbeats 16000000
theorem znK {w:World} {g:Nat} {q0 q1 q2 q3:Int} (h0:w.cell? ⟨g,1,none⟩=some (.int .i64 q0)) (h1:w.cell? ⟨g,2,none⟩=some (.int .i64 q1)) (h2:w.cell? ⟨g,3,none⟩=some (.int .i64 q2)) (h3:w.cell? ⟨g,4,none⟩=some (.int .i64 q3)):
  xJ w (.slice (some ⟨g,1,none⟩) 4 4) [q0,q1,q2,q3] :=by
 refine⟨_,_,rfl,⟨Nat.le_refl _,by decide⟩,fun j hj=>⟨g,1, [.int .i64 ([q0,q1,q2,q3].getD j default)],rfl,World.block_lt_of_cell? w _ h0,rfl,fun i hi=> ?_,rfl⟩⟩
 obtain rfl:i=0:=by omega
 have hj4:j<4:=hj
 have:j=0\/j=1\/j=2\/j=3:=by omega
 rcases this with rfl|rfl|rfl|rfl
 ·exact h0
 ·exact h1
 ·exact h2
 ·exact h3
theorem zwl {l:List Int} {dom:Int} :((List.range l.length).any fun j=> !vg dom (l.getD j default))= !((List.range l.length).all fun j=>vg dom (l.getD j 0)):=by
 rw [List.not_all_eq_any_not];rfl
theorem zhF (w:World) (sv:Value) (l:List Int) (h:xJ w sv l) (dom:Int) (g:Nat) (hg:w.cell? ⟨g,1,none⟩=some (.int .i64 dom)):
  Calls Tryz.prog 53 #[sv, .func (.func 51) #[] #[.pointer (some ⟨g,0,none⟩)]] w fun e w'=>e= .returned (.bool (!((List.range l.length).all fun j=>vg dom (l.getD j 0))))/\Below w.heap.size w w':=by
 have:=zfI wV wV.stays w sv l h 51 #[] #[.pointer (some ⟨g,0,none⟩)] (fun j=> !vg dom (l.getD j default)) (fun _ _=>rfl) (fun j hj W cs hcl hq hW=>by
  obtain rfl:cs= [.int .i64 (l.getD j default)] :=hq
  exact zqC W _ dom g (zl hW _ _ hg))
 rw [zwl] at this
 exact this
theorem zb1 (w:World) (c:zX) (tv:Value) (d:Nat) (hc:yZ d w tv c.threads) (m:zK) (s:zu) (sv mv:Value) (hs:zZ w s sv mv) (hb:∀j,j<s.threads.length->(s.threads.getD j default).buf.length<=1000000):
  Calls Tryz.prog 26 #[yL c tv,yY m,yH s sv mv] w fun e w'=>e= .returned (.bool (xX c m s))/\Below w.heap.size w w':=by
 obtain⟨ta,tc,rfl,htl⟩:=zk.slice hc
 obtain⟨sa,sc,rfl,hsl⟩:=zk.slice hs.threads
 obtain⟨ma,mc,rfl,hml⟩:=zk.slice hs.mem
 have hmay:=fun W (hW:Below w.heap.size w W)=>zqB W c _ d (zk.below (xC.stays d) hc hW) m
 have hmem:=fun W (hW:Below w.heap.size w W) g (hg:W.cell? ⟨g,1,none⟩=some (.int .i64 c.domain))=>zhF W _ s.mem (zk.below wV.stays hs.mem hW) c.domain g hg
 have hwt:=fun W bv l (hW:zQ W bv l) (hl:l.length<=1000000)=>zli W c ta c.threads.length tc m bv l hW hl
 obtain⟨r,hr⟩:∃r,r=xX c m s:=⟨_,rfl⟩
 have hr2:r=(kI c m && decide (s.threads.length=c.threads.length) && decide ((s.mem.length:Int)=c.vars) && (List.range s.mem.length).all (fun k=>vg c.domain (s.mem.getD k 0)) && (List.range s.threads.length).all (qG c m s)):=hr
 rw [<-hr]
 generalize kI c m=may at hmay hr2
 generalize hmo:((List.range s.mem.length).all fun k=>vg c.domain (s.mem.getD k 0))=memo at hmem hr2
 have hTO:∀i,qG c m s i=(decide (0<=(s.threads.getD i default).pc) && decide ((s.threads.getD i default).pc<=((c.threads.getD i []).length:Int)) && (List.range 4).all (fun k=>vg c.domain ((s.threads.getD i default).regs.getD k 0)) && (List.range (s.threads.getD i default).buf.length).all (vR c m (s.threads.getD i default).buf)):=fun _=>rfl
 obtain⟨wk,hwk⟩:∃f,f=vR c m:=⟨_,rfl⟩
 rw [<-hwk] at hTO
 have zkb:∀W bv l,zQ W bv l->l.length<=1000000->Calls Tryz.prog 54 #[.agg #[.int .i64 c.vars, .int .i64 c.domain, .slice ta c.threads.length tc],yY m,bv] W fun e w'=>e= .returned (.bool ((List.range l.length).all (wk l)))/\Below W.heap.size W w':=by rw [hwk];exact hwt
 clear hwt hwk hmo hr
 generalize hto:qG c m s=tok at hTO hr2
 clear hto
 have HTS:=qh hs.threads
 have pW:=qh hc
 obtain⟨vars,dom,cs⟩:=c
 obtain⟨ts,mem,bad⟩:=s
 obtain⟨mm,mb⟩:=m
 simp only [] at*
 unfold yL yY yH
 unfold yL yY at hmay
 unfold yY at zkb
 simp only [] at hmay zkb ⊢
 obtain⟨n,hn⟩:∃n,n=ts.length:=⟨_,rfl⟩
 obtain⟨cn,hcn⟩:∃n,n=cs.length:=⟨_,rfl⟩
 obtain⟨mn,hmn⟩:∃n,n=mem.length:=⟨_,rfl⟩
 rw [<-hn] at hsl HTS hr2 hb ⊢
 rw [<-hcn] at htl pW hr2 hmay zkb ⊢
 rw [<-hmn] at hml hmem hr2 ⊢
 have hB:=zgC w (.cells #[.int .i64 vars, .int .i64 dom, .slice ta cn tc] 24) (.cells #[.int .i64 mm, .int .i64 mb] 26) (.cells #[.slice sa n sc, .slice ma mn mc, .bool bad] 30)
 have HB:=qh hB.1
 have H1:=qh hB.2.1
 have H2:=qh hB.2.2.1
 have H3:=qh hB.2.2.2.1
 have zdW:=qh hmay
 have zbk:=qh hmem
 have HWT:=qh zkb
 have HR:=qh hr2
 have HTO:=qh hTO
 have HN:=qh hn
 have HCN:=qh hcn
 have wh:=qh hb
 clear hc hs hmay hmem zkb hr2 hTO hn hcn hmn hB hb
 go_enter Tryz.func26,Tryz.ntmps26
 go_upto_region 1 with fail
 generalize World.alloc (World.alloc (World.alloc w _) _) _=W at HB H1 H2 H3 ⊢
 obtain⟨gx,hgx⟩:∃gx,gx=w.heap.size:=⟨_,rfl⟩
 rw [<-hgx] at H1 H2 H3 ⊢
 clear hgx
 have HC:Hid (∀x,Below W.heap.size W x->(x.cell? ⟨gx,0,none⟩=some (.int .i64 vars)/\x.cell? ⟨gx,1,none⟩=some (.int .i64 dom)/\x.cell? ⟨gx,2,none⟩=some (.slice ta cn tc))/\(x.cell? ⟨gx+1,0,none⟩=some (.int .i64 mm)/\x.cell? ⟨gx+1,1,none⟩=some (.int .i64 mb))/\
   x.cell? ⟨gx+1+1,0,none⟩=some (.slice sa n sc)/\x.cell? ⟨gx+1+1,1,none⟩=some (.slice ma mn mc)):=fun x hx=>
  ⟨⟨zl hx _ _ (zi H1.out 0),zl hx _ _ (zi H1.out 1),zl hx _ _ (zi H1.out 2)⟩,⟨zl hx _ _ (zi H2.out 0),zl hx _ _ (zi H2.out 1)⟩,zl hx _ _ (zi H3.out 0),zl hx _ _ (zi H3.out 1)⟩
 clear H1 H2 H3
 obtain⟨⟨c0,c1,c2⟩,⟨m0,m1⟩, -, -⟩:=HC.out W (Below.refl _ _)
 go_wp2_with fail
 refine(zdW.out W HB.out).mono ?_
 rintro e w2 ⟨rfl,hb2⟩
 have HB2:Hid (Below W.heap.size W w2):=hb2
 have HW2:=qh (HB.out.trans (hb2.mono HB.out.size))
 clear c0 c1 c2 m0 m1 hb2 zdW
 obtain⟨⟨c0,c1,c2⟩, -,s0,s1⟩:=HC.out w2 HB2.out
 cases may with
 |false=>
  obtain rfl:r=false:=by rw [HR.out];simp
  clear HR
  go_wp2_with fail
  go_ret
  exact⟨by first|rfl|(simp;done)|(simp;omega),HW2.out⟩
 |true=>
  by_cases hnc:n=cn
  rotate_left
  ·have b1:(((n:Nat):Int) !=((cn:Nat):Int))=true:=by rw [bne_iff_ne];omega
   have b2:(n==cn)=false:=by simp [hnc]
   obtain rfl:r=false:=by rw [HR.out,decide_eq_false hnc];simp
   clear HR
   go_wp2_with fail
   go_ret
   exact⟨by first|rfl|(simp;done)|(simp;omega),HW2.out⟩
  subst hnc
  by_cases hmv:(mn:Int)=vars
  rotate_left
  ·have b1:(((mn:Int)) !=vars)=true:=by rw [bne_iff_ne];exact hmv
   obtain rfl:r=false:=by rw [HR.out,decide_eq_false hmv];simp
   clear HR
   go_wp2_with fail
   go_ret
   exact⟨by first|rfl|(simp;done)|(simp;omega),HW2.out⟩
  have HR2:Hid (r=(memo && (List.range n).all tok)):=by rw [Hid,HR.out,decide_eq_true hmv];simp
  subst hmv
  clear HR
  go_wp2_with fail
  refine(zbk.out w2 HW2.out gx c1).mono ?_
  rintro e w3 ⟨rfl,hb3⟩
  have HB3:Hid (Below W.heap.size W w3):=HB2.out.trans (hb3.mono HB2.out.size)
  clear c0 c1 c2 s0 s1 hb3 zbk
  obtain⟨-, -,s0, -⟩:=HC.out w3 HB3.out
  cases memo with
  |false=>
   obtain rfl:r=false:=by rw [HR2.out];simp
   clear HR2
   go_wp2_with fail
   go_ret
   exact⟨by first|rfl|(simp;done)|(simp;omega),HB.out.trans (HB3.out.mono HB.out.size)⟩
  |true=>
   have HR3:Hid (r=(List.range n).all tok):=by rw [Hid,HR2.out];simp
   clear HR2
   go_wp2_with fail
   clear s0
   go_loopg [8,9,41] n (fun gg s8 s9 s41 wr=>∃i:Nat,i<=n/\Hid (gg=n - i)/\s41= .int .i64 i/\Hid (Below W.heap.size W wr)/\Hid (∀j,j<i->tok j=true))
   case atStart=>exact⟨0,Nat.zero_le _,rfl,rfl,HB3.out,fun j hj=>by omega⟩
   case round=>
    obtain⟨i,hi,HG,rfl,zP,HJ⟩:=hrel
    by_cases hlt:i<n
    rotate_left
    ·obtain rfl:n=i:=by omega
     obtain rfl:r=true:=by rw [HR3.out,List.all_eq_true];exact fun j hj=>HJ.out j (List.mem_range.1 hj)
     clear HR3
     go_wp2_with fail
     go_ret
     exact⟨by first|rfl|(simp;done)|(simp;omega),HB.out.trans (zP.out.mono HB.out.size)⟩
    have qQ:(i:Int)<(n:Int):=by omega
    have HWR:=qh (HB.out.trans (zP.out.mono HB.out.size))
    have HTI:=qh (HTO.out i)
    obtain⟨eb,eo,ba,bc,yx, -,hrl,q0,q1,q2,q3,q4,q5,hbf⟩:=xY.part HTS.out i (by rw [<-HN.out];exact hlt)
    subst yx
    obtain⟨kb,ko,ka,kc,hka, -,hrow, -⟩:=yZ.part pW.out i (by rw [<-HCN.out];exact hlt)
    subst hka
    have qp:=qh (wh.out i hlt)
    obtain⟨ln,hln⟩:∃x,x=(cs.getD i []).length:=⟨_,rfl⟩
    rw [<-hln] at hrow HTI
    obtain⟨t,ht⟩:∃t,t=ts.getD i default:=⟨_,rfl⟩
    rw [<-ht] at hrl q0 q1 q2 q3 q4 q5 hbf HTI qp
    obtain⟨pc,regs,buf⟩:=t
    obtain⟨g0,g1,g2,g3,rfl⟩:=j4 hrl
    simp only [List.getD_cons_zero,List.getD_cons_succ] at q0 q1 q2 q3 q4 q5 hbf HTI qp
    obtain⟨bn,hbn⟩:∃x,x=buf.length:=⟨_,rfl⟩
    rw [<-hbn] at q5 hbf
    have k:=fun p v h=>zl HWR.out p v h
    have e0:=k _ _ q0
    have e1:=k _ _ q1
    have e2:=k _ _ q2
    have e3:=k _ _ q3
    have e4:=k _ _ q4
    have e5:=k _ _ q5
    have e6:=k _ _ hrow
    have zbO:=qh (zQ.below hbf HWR.out)
    obtain⟨-, -,s0, -⟩:=HC.out wr zP.out
    have HA:=qh ((Below.refl wr.heap.size wr).alloc (Nat.le_refl _) (.cells #[.int .i64 pc, .int .i64 g0, .int .i64 g1, .int .i64 g2, .int .i64 g3, .slice ba bn bc] 48))
    have HY:=qh (yD wr (.cells #[.int .i64 pc, .int .i64 g0, .int .i64 g1, .int .i64 g2, .int .i64 g3, .slice ba bn bc] 48))
    clear q0 q1 q2 q3 q4 q5 hrow hbf ht hrl k hln hbn
    go_upto_region 7 with fail
    generalize World.alloc wr _=X at HA HY ⊢
    obtain⟨gl,hgl⟩:∃g,g=wr.heap.size:=⟨_,rfl⟩
    rw [<-hgl] at HY ⊢
    clear hgl e0 e1 e2 e3 e4 e5 s0
    have xg:Hid (Below W.heap.size W X):=zP.out.trans (HA.out.mono zP.out.size)
    have pX:Hid (Below w.heap.size w X):=HWR.out.trans (HA.out.mono HWR.out.size)
    replace e6:=zl HA.out _ _ e6
    have CC:Hid (∀x,Below X.heap.size X x->x.cell? ⟨gl,0,none⟩=some (.int .i64 pc)/\x.cell? ⟨gl,5,none⟩=some (.slice ba bn bc)/\x.cell? ⟨gx,0,none⟩=some (.int .i64 mn)/\x.cell? ⟨gx,1,none⟩=some (.int .i64 dom)/\x.cell? ⟨gx,2,none⟩=some (.slice (some ⟨kb,ko,none⟩) n tc)/\
      x.cell? ⟨gx+1,0,none⟩=some (.int .i64 mm)/\x.cell? ⟨gx+1,1,none⟩=some (.int .i64 mb)/\x.cell? ⟨kb,ko+i,none⟩=some (.slice ka ln kc)):=fun x hx=>by
     obtain⟨⟨p0,p1,p2⟩,⟨p3,p4⟩, -, -⟩:=HC.out x (zF xg.out hx)
     exact⟨zl hx _ _ (zi HY.out 0),zl hx _ _ (zi HY.out 5),p0,p1,p2,p3,p4,zl hx _ _ e6⟩
    obtain⟨ro,hro⟩:∃b,b=(List.range 4).all (fun k=>vg dom (([g0,g1,g2,g3] :List Int).getD k 0)):=⟨_,rfl⟩
    obtain⟨wo,hwo⟩:∃b,b=(List.range buf.length).all (wk buf):=⟨_,rfl⟩
    have z1o:Hid (∀x,Below X.heap.size X x->Calls Tryz.prog 53 #[.slice (some ⟨gl,1,none⟩) 4 4, .func (.func 51) #[] #[.pointer (some ⟨gx,0,none⟩)]] x fun e w'=>e= .returned (.bool (!ro))/\Below x.heap.size x w'):=fun x hx=>by
     rw [hro]
     exact zhF x _ [g0,g1,g2,g3] (znK (zl hx _ _ (zi HY.out 1)) (zl hx _ _ (zi HY.out 2)) (zl hx _ _ (zi HY.out 3)) (zl hx _ _ (zi HY.out 4))) dom gx (CC.out x hx).2.2.2.1
    have z5X:Hid (∀x,Below X.heap.size X x->Calls Tryz.prog 54 #[.agg #[.int .i64 mn, .int .i64 dom, .slice (some ⟨kb,ko,none⟩) n tc], .agg #[.int .i64 mm, .int .i64 mb], .slice ba bn bc] x fun e w'=>e= .returned (.bool wo)/\Below x.heap.size x w'):=fun x hx=>by
     rw [hwo]
     exact HWT.out x _ buf (zQ.below (zQ.below zbO.out HA.out) hx) qp.out
    have HT2:Hid (tok i=(decide (0<=pc) && decide (pc<=(ln:Int)) && ro && wo)):=by rw [Hid,HTI.out,hro,hwo]
    have jK:Hid (tok i=false->r=false):=fun hw=>by
     rw [HR3.out,List.all_eq_false]
     exact⟨i,List.mem_range.2 hlt,by rw [hw];simp⟩
    have HJ2:Hid (tok i=true->∀j,j<i+1->tok j=true):=fun hw j hj=>by
     by_cases e:j=i
     ·subst e;exact hw
     ·exact HJ.out j (by omega)
    clear hro hwo e6 HTI qp zbO HY HA
    by_cases a0:0<=pc
    rotate_left
    ·have z0:decide (pc<0)=true:=decide_eq_true (by omega)
     obtain rfl:r=false:=jK.out (by rw [HT2.out];simp [a0])
     clear HT2 HJ2 jK HR3
     refine wp_region_noPanic ?_
     refine wp_region_held_drew (S:=fun x=>Below X.heap.size X x) (by kernel_rfl) ((Below.refl _ _).drew) (fun hH1=> ?_)
     refine zo 0 46 ?zHi rfl ?z1p ?_
     case z1p=>(intro x h;have e:=CC.out x h;go_simp<;>rfl)
     simp only [Act.put,za,ze,zh]
     refine zo 1 47 ?zHj rfl ?z1q ?_
     case z1q=>(intro x h;have e:=CC.out x h;go_simp<;>rfl)
     simp only [Act.put,za,ze,zh]
     refine zo 2 48 ?zHk rfl ?z1r ?_
     case z1r=>(intro x h;have e:=CC.out x h;go_simp<;>rfl)
     simp only [Act.put,za,ze,zh]
     refine zo 3 49 ?zHl rfl ?z1s ?_
     case z1s=>(intro x h;have e:=CC.out x h;go_simp<;>rfl)
     simp only [Act.put,za,ze,zh]
     refine wpAnyH_take (i:=4) (v:=undef) rfl (by kernel_rfl) (by kernel_rfl) (by kernel_rfl) (fun _ _ _ h=>h) (Or.inr ⟨by rfl,rfl⟩) (by assumption) ?_
     change wpAnyH _ _ _ _ _ _ _ (Act.put _ (some 50) _) _
     simp only [Act.put,za,ze,zh]
     refine wpAnyH_take (i:=5) (v:=undef) rfl (by kernel_rfl) (by kernel_rfl) (by kernel_rfl) (fun _ _ _ h=>h) (Or.inr ⟨by rfl,rfl⟩) (by assumption) ?_
     change wpAnyH _ _ _ _ _ _ _ (Act.put _ (some 51) _) _
     simp only [Act.put,za,ze,zh]
     refine wpAnyH_take (i:=6) (v:=undef) rfl (by kernel_rfl) (by kernel_rfl) (by kernel_rfl) (fun _ _ _ h=>h) (Or.inr ⟨by rfl,rfl⟩) (by assumption) ?_
     change wpAnyH _ _ _ _ _ _ _ (Act.put _ (some 52) _) _
     simp only [Act.put,za,ze,zh]
     refine wpAnyH_take (i:=7) (v:=undef) rfl (by kernel_rfl) (by kernel_rfl) (by kernel_rfl) (fun _ _ _ h=>h) (Or.inr ⟨by rfl,rfl⟩) (by assumption) ?_
     change wpAnyH _ _ _ _ _ _ _ (Act.put _ (some 53) _) _
     simp only [Act.put,za,ze,zh]
     refine wpAnyH_take (i:=8) (v:=undef) rfl (by kernel_rfl) (by kernel_rfl) (by kernel_rfl) (fun _ _ _ h=>h) (Or.inr ⟨by rfl,rfl⟩) (by assumption) ?_
     change wpAnyH _ _ _ _ _ _ _ (Act.put _ (some 54) _) _
     simp only [Act.put,za,ze,zh]
     refine wpAnyH_take (i:=9) (v:=undef) rfl (by kernel_rfl) (by kernel_rfl) (by kernel_rfl) (fun _ _ _ h=>h) (Or.inr ⟨by rfl,rfl⟩) (by assumption) ?_
     change wpAnyH _ _ _ _ _ _ _ (Act.put _ (some 55) _) _
     simp only [Act.put,za,ze,zh]
     refine wpAnyH_take (i:=10) (v:=undef) rfl (by kernel_rfl) (by kernel_rfl) (by kernel_rfl) (fun _ _ _ h=>h) (Or.inr ⟨by rfl,rfl⟩) (by assumption) ?_
     change wpAnyH _ _ _ _ _ _ _ (Act.put _ (some 56) _) _
     simp only [Act.put,za,ze,zh]
     refine wpAnyH_take (i:=11) (v:=undef) rfl (by kernel_rfl) (by kernel_rfl) (by kernel_rfl) (fun _ _ _ h=>h) (Or.inr ⟨by rfl,rfl⟩) (by assumption) ?_
     change wpAnyH _ _ _ _ _ _ _ (Act.put _ (some 57) _) _
     simp only [Act.put,za,ze,zh]
     refine wpAnyH_take (i:=12) (v:=undef) rfl (by kernel_rfl) (by kernel_rfl) (by kernel_rfl) (fun _ _ _ h=>h) (Or.inr ⟨by rfl,rfl⟩) (by assumption) ?_
     change wpAnyH _ _ _ _ _ _ _ (Act.put _ (some 58) _) _
     simp only [Act.put,za,ze,zh]
     refine zo 13 59 ?zF3 rfl ?zwm ?_
     case zwm=>(intro x h;have e:=CC.out x h;go_simp<;>rfl)
     simp only [Act.put,za,ze,zh]
     refine zo 14 60 ?zF4 rfl ?zwn ?_
     case zwn=>(intro x h;have e:=CC.out x h;go_simp<;>rfl)
     simp only [Act.put,za,ze,zh]
     refine wpAnyH_take (i:=15) (v:=undef) rfl (by kernel_rfl) (by kernel_rfl) (by kernel_rfl) (fun _ _ _ h=>h) (Or.inr ⟨by rfl,rfl⟩) (by assumption) ?_
     change wpAnyH _ _ _ _ _ _ _ (Act.put _ (some 61) _) _
     simp only [Act.put,za,ze,zh]
     refine wpAnyH_take (i:=16) (v:=undef) rfl (by kernel_rfl) (by kernel_rfl) (by kernel_rfl) (fun _ _ _ h=>h) (Or.inr ⟨by rfl,rfl⟩) (by assumption) ?_
     change wpAnyH _ _ _ _ _ _ _ (Act.put _ (some 62) _) _
     simp only [Act.put,za,ze,zh]
     refine wpAnyH_take (i:=17) (v:=undef) rfl (by kernel_rfl) (by kernel_rfl) (by kernel_rfl) (fun _ _ _ h=>h) (Or.inr ⟨by rfl,rfl⟩) (by assumption) ?_
     change wpAnyH _ _ _ _ _ _ _ (Act.put _ (some 63) _) _
     simp only [Act.put,za,ze,zh]
     refine wpAnyH_take (i:=18) (v:=undef) rfl (by kernel_rfl) (by kernel_rfl) (by kernel_rfl) (fun _ _ _ h=>h) (Or.inr ⟨by rfl,rfl⟩) (by assumption) ?_
     change wpAnyH _ _ _ _ _ _ _ (Act.put _ (some 64) _) _
     simp only [Act.put,za,ze,zh]
     refine zo 19 65 ?zF5 rfl ?zwo ?_
     case zwo=>(intro x h;have e:=CC.out x h;go_simp<;>rfl)
     simp only [Act.put,za,ze,zh]
     refine zo 20 66 ?zF6 rfl ?zwp ?_
     case zwp=>(intro x h;have e:=CC.out x h;go_simp<;>rfl)
     simp only [Act.put,za,ze,zh]
     refine wpAnyH_take (i:=21) (v:=undef) rfl (by kernel_rfl) (by kernel_rfl) (by kernel_rfl) (fun _ _ _ h=>h) (Or.inr ⟨by rfl,rfl⟩) (by assumption) ?_
     change wpAnyH _ _ _ _ _ _ _ (Act.put _ (some 67) _) _
     simp only [Act.put,za,ze,zh]
     refine wpAnyH_take (i:=22) (v:=undef) rfl (by kernel_rfl) (by kernel_rfl) (by kernel_rfl) (fun _ _ _ h=>h) (Or.inr ⟨by rfl,rfl⟩) (by assumption) ?_
     change wpAnyH _ _ _ _ _ _ _ (Act.put _ (some 68) _) _
     simp only [Act.put,za,ze,zh]
     refine wpAnyH_take (i:=23) (v:=undef) rfl (by kernel_rfl) (by kernel_rfl) (by kernel_rfl) (fun _ _ _ h=>h) (Or.inr ⟨by rfl,rfl⟩) (by assumption) ?_
     change wpAnyH _ _ _ _ _ _ _ (Act.put _ (some 69) _) _
     simp only [Act.put,za,ze,zh]
     refine wpAnyH_take (i:=24) (v:=undef) rfl (by kernel_rfl) (by kernel_rfl) (by kernel_rfl) (fun _ _ _ h=>h) (Or.inr ⟨by rfl,rfl⟩) (by assumption) ?_
     change wpAnyH _ _ _ _ _ _ _ (Act.put _ (some 70) _) _
     simp only [Act.put,za,ze,zh]
     refine wpAnyH_take (i:=25) (v:=undef) rfl (by kernel_rfl) (by kernel_rfl) (by kernel_rfl) (fun _ _ _ h=>h) (Or.inr ⟨by rfl,rfl⟩) (by assumption) ?_
     change wpAnyH _ _ _ _ _ _ _ (Act.put _ (some 71) _) _
     simp only [Act.put,za,ze,zh]
     refine wpAnyH_take (i:=26) (v:=undef) rfl (by kernel_rfl) (by kernel_rfl) (by kernel_rfl) (fun _ _ _ h=>h) (Or.inr ⟨by rfl,rfl⟩) (by assumption) ?_
     change wpAnyH _ _ _ _ _ _ _ (Act.put _ (some 72) _) _
     simp only [Act.put,za,ze,zh]
     refine zo 27 73 ?zF7 rfl ?zwq ?_
     case zwq=>(intro x h;have e:=CC.out x h;go_simp<;>rfl)
     simp only [Act.put,za,ze,zh]
     refine wpAnyH_done (by kernel_rfl) ?_ _
     refine NoPanic.normal ?_
     have bg:Hid (Below W.heap.size W X.drew):=xg.out.trans ((hH1).mono xg.out.size)
     go_wp2_with fail
     go_ret
     exact⟨by first|rfl|(simp;done)|(simp;omega),HB.out.trans (bg.out.mono HB.out.size)⟩
    have z0:decide (pc<0)=false:=decide_eq_false (by omega)
    by_cases a1:pc<=(ln:Int)
    rotate_left
    ·have z1:decide ((ln:Int)<pc)=true:=decide_eq_true (by omega)
     obtain rfl:r=false:=jK.out (by rw [HT2.out];simp [a1])
     clear HT2 HJ2 jK HR3
     refine wp_region_noPanic ?_
     refine wp_region_held_drew (S:=fun x=>Below X.heap.size X x) (by kernel_rfl) ((Below.refl _ _).drew) (fun hH2=> ?_)
     refine zo 0 46 ?zHm rfl ?z1t ?_
     case z1t=>(intro x h;have e:=CC.out x h;go_simp<;>rfl)
     simp only [Act.put,za,ze,zh]
     refine zo 1 47 ?zHn rfl ?z1u ?_
     case z1u=>(intro x h;have e:=CC.out x h;go_simp<;>rfl)
     simp only [Act.put,za,ze,zh]
     refine zo 2 48 ?zHo rfl ?z1v ?_
     case z1v=>(intro x h;have e:=CC.out x h;go_simp<;>rfl)
     simp only [Act.put,za,ze,zh]
     refine zo 3 49 ?zHp rfl ?z1w ?_
     case z1w=>(intro x h;have e:=CC.out x h;go_simp<;>rfl)
     simp only [Act.put,za,ze,zh]
     refine zo 4 50 ?zHq rfl ?z1x ?_
     case z1x=>(intro x h;have e:=CC.out x h;go_simp<;>rfl)
     simp only [Act.put,za,ze,zh]
     refine zo 5 51 ?zHr rfl ?z1y ?_
     case z1y=>(intro x h;have e:=CC.out x h;go_simp<;>rfl)
     simp only [Act.put,za,ze,zh]
     refine zo 6 52 ?zHs rfl ?z1z ?_
     case z1z=>(intro x h;have e:=CC.out x h;go_simp<;>rfl)
     simp only [Act.put,za,ze,zh]
     refine zo 7 53 ?zHt rfl ?z13 ?_
     case z13=>(intro x h;have e:=CC.out x h;go_simp<;>rfl)
     simp only [Act.put,za,ze,zh]
     refine zo 8 54 ?zHu rfl ?z14 ?_
     case z14=>(intro x h;have e:=CC.out x h;go_simp<;>rfl)
     simp only [Act.put,za,ze,zh]
     refine zo 9 55 ?zF8 rfl ?zwr ?_
     case zwr=>(intro x h;have e:=CC.out x h;go_simp<;>rfl)
     simp only [Act.put,za,ze,zh]
     refine zo 10 56 ?zF9 rfl ?zws ?_
     case zws=>(intro x h;have e:=CC.out x h;go_simp<;>rfl)
     simp only [Act.put,za,ze,zh]
     refine zo 11 57 ?zFA rfl ?zwt ?_
     case zwt=>(intro x h;have e:=CC.out x h;go_simp<;>rfl)
     simp only [Act.put,za,ze,zh]
     refine zo 12 58 ?zFB rfl ?zwu ?_
     case zwu=>(intro x h;have e:=CC.out x h;go_simp<;>rfl)
     simp only [Act.put,za,ze,zh]
     refine zo 13 59 ?zFC rfl ?zwv ?_
     case zwv=>(intro x h;have e:=CC.out x h;go_simp<;>rfl)
     simp only [Act.put,za,ze,zh]
     refine zo 14 60 ?zFD rfl ?zww ?_
     case zww=>(intro x h;have e:=CC.out x h;go_simp<;>rfl)
     simp only [Act.put,za,ze,zh]
     refine wpAnyH_take (i:=15) (v:=undef) rfl (by kernel_rfl) (by kernel_rfl) (by kernel_rfl) (fun _ _ _ h=>h) (Or.inr ⟨by rfl,rfl⟩) (by assumption) ?_
     change wpAnyH _ _ _ _ _ _ _ (Act.put _ (some 61) _) _
     simp only [Act.put,za,ze,zh]
     refine wpAnyH_take (i:=16) (v:=undef) rfl (by kernel_rfl) (by kernel_rfl) (by kernel_rfl) (fun _ _ _ h=>h) (Or.inr ⟨by rfl,rfl⟩) (by assumption) ?_
     change wpAnyH _ _ _ _ _ _ _ (Act.put _ (some 62) _) _
     simp only [Act.put,za,ze,zh]
     refine wpAnyH_take (i:=17) (v:=undef) rfl (by kernel_rfl) (by kernel_rfl) (by kernel_rfl) (fun _ _ _ h=>h) (Or.inr ⟨by rfl,rfl⟩) (by assumption) ?_
     change wpAnyH _ _ _ _ _ _ _ (Act.put _ (some 63) _) _
     simp only [Act.put,za,ze,zh]
     refine wpAnyH_take (i:=18) (v:=undef) rfl (by kernel_rfl) (by kernel_rfl) (by kernel_rfl) (fun _ _ _ h=>h) (Or.inr ⟨by rfl,rfl⟩) (by assumption) ?_
     change wpAnyH _ _ _ _ _ _ _ (Act.put _ (some 64) _) _
     simp only [Act.put,za,ze,zh]
     refine zo 19 65 ?zFE rfl ?zwx ?_
     case zwx=>(intro x h;have e:=CC.out x h;go_simp<;>rfl)
     simp only [Act.put,za,ze,zh]
     refine zo 20 66 ?zFF rfl ?zwy ?_
     case zwy=>(intro x h;have e:=CC.out x h;go_simp<;>rfl)
     simp only [Act.put,za,ze,zh]
     refine wpAnyH_take (i:=21) (v:=undef) rfl (by kernel_rfl) (by kernel_rfl) (by kernel_rfl) (fun _ _ _ h=>h) (Or.inr ⟨by rfl,rfl⟩) (by assumption) ?_
     change wpAnyH _ _ _ _ _ _ _ (Act.put _ (some 67) _) _
     simp only [Act.put,za,ze,zh]
     refine wpAnyH_take (i:=22) (v:=undef) rfl (by kernel_rfl) (by kernel_rfl) (by kernel_rfl) (fun _ _ _ h=>h) (Or.inr ⟨by rfl,rfl⟩) (by assumption) ?_
     change wpAnyH _ _ _ _ _ _ _ (Act.put _ (some 68) _) _
     simp only [Act.put,za,ze,zh]
     refine wpAnyH_take (i:=23) (v:=undef) rfl (by kernel_rfl) (by kernel_rfl) (by kernel_rfl) (fun _ _ _ h=>h) (Or.inr ⟨by rfl,rfl⟩) (by assumption) ?_
     change wpAnyH _ _ _ _ _ _ _ (Act.put _ (some 69) _) _
     simp only [Act.put,za,ze,zh]
     refine wpAnyH_take (i:=24) (v:=undef) rfl (by kernel_rfl) (by kernel_rfl) (by kernel_rfl) (fun _ _ _ h=>h) (Or.inr ⟨by rfl,rfl⟩) (by assumption) ?_
     change wpAnyH _ _ _ _ _ _ _ (Act.put _ (some 70) _) _
     simp only [Act.put,za,ze,zh]
     refine wpAnyH_take (i:=25) (v:=undef) rfl (by kernel_rfl) (by kernel_rfl) (by kernel_rfl) (fun _ _ _ h=>h) (Or.inr ⟨by rfl,rfl⟩) (by assumption) ?_
     change wpAnyH _ _ _ _ _ _ _ (Act.put _ (some 71) _) _
     simp only [Act.put,za,ze,zh]
     refine wpAnyH_take (i:=26) (v:=undef) rfl (by kernel_rfl) (by kernel_rfl) (by kernel_rfl) (fun _ _ _ h=>h) (Or.inr ⟨by rfl,rfl⟩) (by assumption) ?_
     change wpAnyH _ _ _ _ _ _ _ (Act.put _ (some 72) _) _
     simp only [Act.put,za,ze,zh]
     refine zo 27 73 ?zFG rfl ?zwz ?_
     case zwz=>(intro x h;have e:=CC.out x h;go_simp<;>rfl)
     simp only [Act.put,za,ze,zh]
     refine wpAnyH_done (by kernel_rfl) ?_ _
     refine NoPanic.normal ?_
     have bg:Hid (Below W.heap.size W X.drew):=xg.out.trans ((hH2).mono xg.out.size)
     go_wp2_with fail
     go_ret
     exact⟨by first|rfl|(simp;done)|(simp;omega),HB.out.trans (bg.out.mono HB.out.size)⟩
    have z1:decide ((ln:Int)<pc)=false:=decide_eq_false (by omega)
    cases ro with
    |true=>
     refine wp_region_noPanic ?_
     refine wp_region_held_drew (S:=fun x=>Below X.heap.size X x) (by kernel_rfl) ((Below.refl _ _).drew) (fun hH4=> ?_)
     refine zo 0 46 ?zHv rfl ?z16 ?_
     case z16=>(intro x h;have e:=CC.out x h;go_simp<;>rfl)
     simp only [Act.put,za,ze,zh]
     refine zo 1 47 ?zHw rfl ?z18 ?_
     case z18=>(intro x h;have e:=CC.out x h;go_simp<;>rfl)
     simp only [Act.put,za,ze,zh]
     refine zo 2 48 ?zHx rfl ?z19 ?_
     case z19=>(intro x h;have e:=CC.out x h;go_simp<;>rfl)
     simp only [Act.put,za,ze,zh]
     refine zo 3 49 ?zHy rfl ?z1A ?_
     case z1A=>(intro x h;have e:=CC.out x h;go_simp<;>rfl)
     simp only [Act.put,za,ze,zh]
     refine zo 4 50 ?zHz rfl ?z1B ?_
     case z1B=>(intro x h;have e:=CC.out x h;go_simp<;>rfl)
     simp only [Act.put,za,ze,zh]
     refine zo 5 51 ?zH0 rfl ?z1C ?_
     case z1C=>(intro x h;have e:=CC.out x h;go_simp<;>rfl)
     simp only [Act.put,za,ze,zh]
     refine zo 6 52 ?zH1 rfl ?z1D ?_
     case z1D=>(intro x h;have e:=CC.out x h;go_simp<;>rfl)
     simp only [Act.put,za,ze,zh]
     refine zo 7 53 ?zH2 rfl ?z1E ?_
     case z1E=>(intro x h;have e:=CC.out x h;go_simp<;>rfl)
     simp only [Act.put,za,ze,zh]
     refine zo 8 54 ?zH3 rfl ?z1F ?_
     case z1F=>(intro x h;have e:=CC.out x h;go_simp<;>rfl)
     simp only [Act.put,za,ze,zh]
     refine zo 9 55 ?zFH rfl ?zw0 ?_
     case zw0=>(intro x h;have e:=CC.out x h;go_simp<;>rfl)
     simp only [Act.put,za,ze,zh]
     refine zo 10 56 ?zFI rfl ?zw1 ?_
     case zw1=>(intro x h;have e:=CC.out x h;go_simp<;>rfl)
     simp only [Act.put,za,ze,zh]
     refine zo 11 57 ?zFJ rfl ?zw2 ?_
     case zw2=>(intro x h;have e:=CC.out x h;go_simp<;>rfl)
     simp only [Act.put,za,ze,zh]
     refine zo 12 58 ?zFK rfl ?zw3 ?_
     case zw3=>(intro x h;have e:=CC.out x h;go_simp<;>rfl)
     simp only [Act.put,za,ze,zh]
     refine zo 13 59 ?zFL rfl ?zw4 ?_
     case zw4=>(intro x h;have e:=CC.out x h;go_simp<;>rfl)
     simp only [Act.put,za,ze,zh]
     refine zo 14 60 ?zFM rfl ?zw5 ?_
     case zw5=>(intro x h;have e:=CC.out x h;go_simp<;>rfl)
     simp only [Act.put,za,ze,zh]
     refine zo 15 61 ?zFN rfl ?zw6 ?_
     case zw6=>(intro x h;have e:=CC.out x h;go_simp<;>rfl)
     simp only [Act.put,za,ze,zh]
     refine zo 16 62 ?zFO rfl ?zw7 ?_
     case zw7=>(intro x h;have e:=CC.out x h;go_simp<;>rfl)
     simp only [Act.put,za,ze,zh]
     refine zo 17 63 ?zFP rfl ?zw8 ?_
     case zw8=>(intro x h;have e:=CC.out x h;go_simp<;>rfl)
     simp only [Act.put,za,ze,zh]
     refine zY 18 rfl (fun K hK=> ?_)
     go_simp
     refine(z1o.out X.drew hH4).mono ?_
     rintro e zq8 ⟨rfl,hb⟩
     have zeq:Below X.heap.size X zq8:=zF hH4 hb
     refine hK.out _ _ zeq (fun _=> ?_)
     clear hK K hb hH4
     refine zo 19 65 ?zFQ rfl ?zw9 ?_
     case zw9=>(intro x h;have e:=CC.out x h;go_simp<;>rfl)
     simp only [Act.put,za,ze,zh]
     refine zo 20 66 ?zFR rfl ?zwA ?_
     case zwA=>(intro x h;have e:=CC.out x h;go_simp<;>rfl)
     simp only [Act.put,za,ze,zh]
     refine zo 21 67 ?zFS rfl ?zwB ?_
     case zwB=>(intro x h;have e:=CC.out x h;go_simp<;>rfl)
     simp only [Act.put,za,ze,zh]
     refine zo 22 68 ?zFT rfl ?zwC ?_
     case zwC=>(intro x h;have e:=CC.out x h;go_simp<;>rfl)
     simp only [Act.put,za,ze,zh]
     refine zo 23 69 ?zFU rfl ?zwD ?_
     case zwD=>(intro x h;have e:=CC.out x h;go_simp<;>rfl)
     simp only [Act.put,za,ze,zh]
     refine zo 24 70 ?zFV rfl ?zwE ?_
     case zwE=>(intro x h;have e:=CC.out x h;go_simp<;>rfl)
     simp only [Act.put,za,ze,zh]
     refine zY 25 rfl (fun K hK=> ?_)
     go_simp
     refine(z5X.out zq8 zeq).mono ?_
     rintro e zq9 ⟨rfl,hb⟩
     have zlg:Below X.heap.size X zq9:=zF zeq hb
     refine hK.out _ _ zlg (fun _=> ?_)
     clear hK K hb zeq
     refine zo 26 72 ?zFW rfl ?zwF ?_
     case zwF=>(intro x h;have e:=CC.out x h;go_simp<;>rfl)
     simp only [Act.put,za,ze,zh]
     refine zo 27 73 ?zFX rfl ?zwG ?_
     case zwG=>(intro x h;have e:=CC.out x h;go_simp<;>rfl)
     simp only [Act.put,za,ze,zh]
     refine wpAnyH_done (by kernel_rfl) ?_ _
     refine NoPanic.normal ?_
     have bg:Hid (Below W.heap.size W zq9):=xg.out.trans ((zlg).mono xg.out.size)
     cases wo with
     |true=>
      have bH:=qh (HJ2.out (by rw [HT2.out];simp [a0,a1]))
      clear HT2 HJ2 jK HR3
      go_wp2_with fail
      go_roundg (n - (i+1))
      case measure=>rw [HG.out];omega
      case rel=>exact⟨i+1,by omega,rfl,by simp,bg.out,bH.out⟩
     |false=>
      obtain rfl:r=false:=jK.out (by rw [HT2.out];simp)
      clear HT2 HJ2 jK HR3
      go_wp2_with fail
      go_ret
      exact⟨by first|rfl|(simp;done)|(simp;omega),HB.out.trans (bg.out.mono HB.out.size)⟩
    |false=>
     obtain rfl:r=false:=jK.out (by rw [HT2.out];simp)
     clear HT2 HJ2 jK HR3
     refine wp_region_noPanic ?_
     refine wp_region_held_drew (S:=fun x=>Below X.heap.size X x) (by kernel_rfl) ((Below.refl _ _).drew) (fun hH3=> ?_)
     refine zo 0 46 ?zH4 rfl ?z1G ?_
     case z1G=>(intro x h;have e:=CC.out x h;go_simp<;>rfl)
     simp only [Act.put,za,ze,zh]
     refine zo 1 47 ?zH5 rfl ?z1H ?_
     case z1H=>(intro x h;have e:=CC.out x h;go_simp<;>rfl)
     simp only [Act.put,za,ze,zh]
     refine zo 2 48 ?zH6 rfl ?z1I ?_
     case z1I=>(intro x h;have e:=CC.out x h;go_simp<;>rfl)
     simp only [Act.put,za,ze,zh]
     refine zo 3 49 ?zH7 rfl ?z1J ?_
     case z1J=>(intro x h;have e:=CC.out x h;go_simp<;>rfl)
     simp only [Act.put,za,ze,zh]
     refine zo 4 50 ?zH8 rfl ?z1K ?_
     case z1K=>(intro x h;have e:=CC.out x h;go_simp<;>rfl)
     simp only [Act.put,za,ze,zh]
     refine zo 5 51 ?zH9 rfl ?z1L ?_
     case z1L=>(intro x h;have e:=CC.out x h;go_simp<;>rfl)
     simp only [Act.put,za,ze,zh]
     refine zo 6 52 ?zHA rfl ?z1M ?_
     case z1M=>(intro x h;have e:=CC.out x h;go_simp<;>rfl)
     simp only [Act.put,za,ze,zh]
     refine zo 7 53 ?zHB rfl ?z1N ?_
     case z1N=>(intro x h;have e:=CC.out x h;go_simp<;>rfl)
     simp only [Act.put,za,ze,zh]
     refine zo 8 54 ?zHC rfl ?z1O ?_
     case z1O=>(intro x h;have e:=CC.out x h;go_simp<;>rfl)
     simp only [Act.put,za,ze,zh]
     refine zo 9 55 ?zFY rfl ?zwH ?_
     case zwH=>(intro x h;have e:=CC.out x h;go_simp<;>rfl)
     simp only [Act.put,za,ze,zh]
     refine zo 10 56 ?zFZ rfl ?zwI ?_
     case zwI=>(intro x h;have e:=CC.out x h;go_simp<;>rfl)
     simp only [Act.put,za,ze,zh]
     refine zo 11 57 ?zGa rfl ?zwJ ?_
     case zwJ=>(intro x h;have e:=CC.out x h;go_simp<;>rfl)
     simp only [Act.put,za,ze,zh]
     refine zo 12 58 ?zGb rfl ?zwK ?_
     case zwK=>(intro x h;have e:=CC.out x h;go_simp<;>rfl)
     simp only [Act.put,za,ze,zh]
     refine zo 13 59 ?zGc rfl ?zwL ?_
     case zwL=>(intro x h;have e:=CC.out x h;go_simp<;>rfl)
     simp only [Act.put,za,ze,zh]
     refine zo 14 60 ?zGd rfl ?zwM ?_
     case zwM=>(intro x h;have e:=CC.out x h;go_simp<;>rfl)
     simp only [Act.put,za,ze,zh]
     refine zo 15 61 ?zGe rfl ?zwN ?_
     case zwN=>(intro x h;have e:=CC.out x h;go_simp<;>rfl)
     simp only [Act.put,za,ze,zh]
     refine zo 16 62 ?zGf rfl ?zwO ?_
     case zwO=>(intro x h;have e:=CC.out x h;go_simp<;>rfl)
     simp only [Act.put,za,ze,zh]
     refine zo 17 63 ?zGg rfl ?zwP ?_
     case zwP=>(intro x h;have e:=CC.out x h;go_simp<;>rfl)
     simp only [Act.put,za,ze,zh]
     refine zY 18 rfl (fun K hK=> ?_)
     go_simp
     refine(z1o.out X.drew hH3).mono ?_
     rintro e zqA ⟨rfl,hb⟩
     have zlh:Below X.heap.size X zqA:=zF hH3 hb
     refine hK.out _ _ zlh (fun _=> ?_)
     clear hK K hb hH3
     refine zo 19 65 ?zGh rfl ?zwQ ?_
     case zwQ=>(intro x h;have e:=CC.out x h;go_simp<;>rfl)
     simp only [Act.put,za,ze,zh]
     refine zo 20 66 ?zGi rfl ?zwR ?_
     case zwR=>(intro x h;have e:=CC.out x h;go_simp<;>rfl)
     simp only [Act.put,za,ze,zh]
     refine wpAnyH_take (i:=21) (v:=undef) rfl (by kernel_rfl) (by kernel_rfl) (by kernel_rfl) (fun _ _ _ h=>h) (Or.inr ⟨by rfl,rfl⟩) (by assumption) ?_
     change wpAnyH _ _ _ _ _ _ _ (Act.put _ (some 67) _) _
     simp only [Act.put,za,ze,zh]
     refine wpAnyH_take (i:=22) (v:=undef) rfl (by kernel_rfl) (by kernel_rfl) (by kernel_rfl) (fun _ _ _ h=>h) (Or.inr ⟨by rfl,rfl⟩) (by assumption) ?_
     change wpAnyH _ _ _ _ _ _ _ (Act.put _ (some 68) _) _
     simp only [Act.put,za,ze,zh]
     refine wpAnyH_take (i:=23) (v:=undef) rfl (by kernel_rfl) (by kernel_rfl) (by kernel_rfl) (fun _ _ _ h=>h) (Or.inr ⟨by rfl,rfl⟩) (by assumption) ?_
     change wpAnyH _ _ _ _ _ _ _ (Act.put _ (some 69) _) _
     simp only [Act.put,za,ze,zh]
     refine wpAnyH_take (i:=24) (v:=undef) rfl (by kernel_rfl) (by kernel_rfl) (by kernel_rfl) (fun _ _ _ h=>h) (Or.inr ⟨by rfl,rfl⟩) (by assumption) ?_
     change wpAnyH _ _ _ _ _ _ _ (Act.put _ (some 70) _) _
     simp only [Act.put,za,ze,zh]
     refine wpAnyH_take (i:=25) (v:=undef) rfl (by kernel_rfl) (by kernel_rfl) (by kernel_rfl) (fun _ _ _ h=>h) (Or.inr ⟨by rfl,rfl⟩) (by assumption) ?_
     change wpAnyH _ _ _ _ _ _ _ (Act.put _ (some 71) _) _
     simp only [Act.put,za,ze,zh]
     refine wpAnyH_take (i:=26) (v:=undef) rfl (by kernel_rfl) (by kernel_rfl) (by kernel_rfl) (fun _ _ _ h=>h) (Or.inr ⟨by rfl,rfl⟩) (by assumption) ?_
     change wpAnyH _ _ _ _ _ _ _ (Act.put _ (some 72) _) _
     simp only [Act.put,za,ze,zh]
     refine zo 27 73 ?zGj rfl ?zwS ?_
     case zwS=>(intro x h;have e:=CC.out x h;go_simp<;>rfl)
     simp only [Act.put,za,ze,zh]
     refine wpAnyH_done (by kernel_rfl) ?_ _
     refine NoPanic.normal ?_
     have bg:Hid (Below W.heap.size W zqA):=xg.out.trans ((zlh).mono xg.out.size)
     go_wp2_with fail
     go_ret
     exact⟨by first|rfl|(simp;done)|(simp;omega),HB.out.trans (bg.out.mono HB.out.size)⟩
end Go.Proofs.YtliajkheeniljaaGreatDoor
