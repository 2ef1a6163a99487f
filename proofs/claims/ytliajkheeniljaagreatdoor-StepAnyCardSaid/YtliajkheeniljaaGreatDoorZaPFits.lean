/- Does a state fit: the program's answer: the walk. -/
import Derived.Test.YtliajkheeniljaaGreatDoorZaPShelf
import Derived.Test.YtliajkheeniljaaGreatDoorZaShort
set_option linter.all false
namespace Go.Proofs.YtliajkheeniljaaGreatDoor
open Go.RowKit
set_option maxRecDepth 100000
set_option maxHeartbeats 16000000
theorem ziY {w:World} {g:Nat} {q0 q1 q2 q3:Int} (h0:w.cell? ⟨g,1,none⟩=some (.int .i64 q0)) (h1:w.cell? ⟨g,2,none⟩=some (.int .i64 q1)) (h2:w.cell? ⟨g,3,none⟩=some (.int .i64 q2)) (h3:w.cell? ⟨g,4,none⟩=some (.int .i64 q3)):
  xH w (.slice (some ⟨g,1,none⟩) 4 4) [q0,q1,q2,q3] :=by
 refine⟨_,_,rfl,⟨Nat.le_refl _,by decide⟩,fun j hj=>⟨g,1, [.int .i64 ([q0,q1,q2,q3].getD j default)],rfl,World.block_lt_of_cell? w _ h0,rfl,fun i hi=> ?_,rfl⟩⟩
 obtain rfl:i=0:=by omega
 have hj4:j<4:=hj
 have:j=0\/j=1\/j=2\/j=3:=by omega
 rcases this with rfl|rfl|rfl|rfl
 ·exact h0
 ·exact h1
 ·exact h2
 ·exact h3
theorem zqW {l:List Int} {dom:Int} :((List.range l.length).any fun j=> !qB dom (l.getD j default))= !((List.range l.length).all fun j=>qB dom (l.getD j 0)):=by
 rw [List.not_all_eq_any_not];rfl
theorem zeV (w:World) (sv:Value) (l:List Int) (h:xH w sv l) (dom:Int) (g:Nat) (hg:w.cell? ⟨g,1,none⟩=some (.int .i64 dom)):
  Calls Tryz.prog 53 #[sv, .func (.func 51) #[] #[.pointer (some ⟨g,0,none⟩)]] w fun e w'=>e= .returned (.bool (!((List.range l.length).all fun j=>qB dom (l.getD j 0))))/\Below w.heap.size w w':=by
 have:=zdG jY jY.stays w sv l h 51 #[] #[.pointer (some ⟨g,0,none⟩)] (fun j=> !qB dom (l.getD j default)) (fun _ _=>rfl) (fun j hj W cs hcl hq hW=>by
  obtain rfl:cs= [.int .i64 (l.getD j default)] :=hq
  exact znS W _ dom g (zm hW _ _ hg))
 rw [zqW] at this
 exact this
theorem zae (w:World) (c:zS) (tv:Value) (d:Nat) (hc:yF d w tv c.threads) (m:zM) (s:zu) (sv mv:Value) (hs:zN w s sv mv) (hb:∀j,j<s.threads.length->(s.threads.getD j default).buf.length<=1000000):
  Calls Tryz.prog 26 #[yD c tv,yR m,zW s sv mv] w fun e w'=>e= .returned (.bool (xX c m s))/\Below w.heap.size w w':=by
 obtain⟨ta,tc,rfl,htl⟩:=zl.slice hc
 obtain⟨sa,sc,rfl,hsl⟩:=zl.slice hs.threads
 obtain⟨ma,mc,rfl,hml⟩:=zl.slice hs.mem
 have hmay:=fun W (hW:Below w.heap.size w W)=>znR W c _ d (zl.below (xu.stays d) hc hW) m
 have hmem:=fun W (hW:Below w.heap.size w W) g (hg:W.cell? ⟨g,1,none⟩=some (.int .i64 c.domain))=>zeV W _ s.mem (zl.below jY.stays hs.mem hW) c.domain g hg
 have hwt:=fun W bv l (hW:zH W bv l) (hl:l.length<=1000000)=>ziP W c ta c.threads.length tc m bv l hW hl
 obtain⟨r,hr⟩:∃r,r=xX c m s:=⟨_,rfl⟩
 have hr2:r=(gK c m && decide (s.threads.length=c.threads.length) && decide ((s.mem.length:Int)=c.vars) && (List.range s.mem.length).all (fun k=>qB c.domain (s.mem.getD k 0)) && (List.range s.threads.length).all (qw c m s)):=hr
 rw [<-hr]
 generalize gK c m=may at hmay hr2
 generalize hmo:((List.range s.mem.length).all fun k=>qB c.domain (s.mem.getD k 0))=memo at hmem hr2
 have hTO:∀i,qw c m s i=(decide (0<=(s.threads.getD i default).pc) && decide ((s.threads.getD i default).pc<=((c.threads.getD i []).length:Int)) && (List.range 4).all (fun k=>qB c.domain ((s.threads.getD i default).regs.getD k 0)) && (List.range (s.threads.getD i default).buf.length).all (vF c m (s.threads.getD i default).buf)):=fun _=>rfl
 obtain⟨wk,hwk⟩:∃f,f=vF c m:=⟨_,rfl⟩
 rw [<-hwk] at hTO
 have zgq:∀W bv l,zH W bv l->l.length<=1000000->Calls Tryz.prog 54 #[.agg #[.int .i64 c.vars, .int .i64 c.domain, .slice ta c.threads.length tc],yR m,bv] W fun e w'=>e= .returned (.bool ((List.range l.length).all (wk l)))/\Below W.heap.size W w':=by rw [hwk];exact hwt
 clear hwt hwk hmo hr
 generalize hto:qw c m s=tok at hTO hr2
 clear hto
 have HTS:=qh hs.threads
 have ug:=qh hc
 obtain⟨vars,dom,cs⟩:=c
 obtain⟨ts,mem,bad⟩:=s
 obtain⟨mm,mb⟩:=m
 simp only [] at*
 unfold yD yR zW
 unfold yD yR at hmay
 unfold yR at zgq
 simp only [] at hmay zgq ⊢
 obtain⟨n,hn⟩:∃n,n=ts.length:=⟨_,rfl⟩
 obtain⟨cn,hcn⟩:∃n,n=cs.length:=⟨_,rfl⟩
 obtain⟨mn,hmn⟩:∃n,n=mem.length:=⟨_,rfl⟩
 rw [<-hn] at hsl HTS hr2 hb ⊢
 rw [<-hcn] at htl ug hr2 hmay zgq ⊢
 rw [<-hmn] at hml hmem hr2 ⊢
 have hB:=zdH w (.cells #[.int .i64 vars, .int .i64 dom, .slice ta cn tc] 24) (.cells #[.int .i64 mm, .int .i64 mb] 26) (.cells #[.slice sa n sc, .slice ma mn mc, .bool bad] 30)
 have HB:=qh hB.1
 have H1:=qh hB.2.1
 have H2:=qh hB.2.2.1
 have H3:=qh hB.2.2.2.1
 have zgr:=qh hmay
 have zbg:=qh hmem
 have HWT:=qh zgq
 have HR:=qh hr2
 have HTO:=qh hTO
 have HN:=qh hn
 have pJ:=qh hcn
 have uf:=qh hb
 clear hc hs hmay hmem zgq hr2 hTO hn hcn hmn hB hb
 go_enter Tryz.func26,Tryz.ntmps26
 go_upto_region 1 with fail
 generalize World.alloc (World.alloc (World.alloc w _) _) _=W at HB H1 H2 H3 ⊢
 obtain⟨gx,hgx⟩:∃gx,gx=w.heap.size:=⟨_,rfl⟩
 rw [<-hgx] at H1 H2 H3 ⊢
 clear hgx
 have HC:Hid (∀x,Below W.heap.size W x->(x.cell? ⟨gx,0,none⟩=some (.int .i64 vars)/\x.cell? ⟨gx,1,none⟩=some (.int .i64 dom)/\x.cell? ⟨gx,2,none⟩=some (.slice ta cn tc))/\(x.cell? ⟨gx+1,0,none⟩=some (.int .i64 mm)/\x.cell? ⟨gx+1,1,none⟩=some (.int .i64 mb))/\
   x.cell? ⟨gx+1+1,0,none⟩=some (.slice sa n sc)/\x.cell? ⟨gx+1+1,1,none⟩=some (.slice ma mn mc)):=fun x hx=>
  ⟨⟨zm hx _ _ (zh H1.out 0),zm hx _ _ (zh H1.out 1),zm hx _ _ (zh H1.out 2)⟩,⟨zm hx _ _ (zh H2.out 0),zm hx _ _ (zh H2.out 1)⟩,zm hx _ _ (zh H3.out 0),zm hx _ _ (zh H3.out 1)⟩
 clear H1 H2 H3
 obtain⟨⟨c0,c1,c2⟩,⟨m0,m1⟩, -, -⟩:=HC.out W (Below.refl _ _)
 go_wp2_with fail
 refine(zgr.out W HB.out).mono ?_
 rintro e w2 ⟨rfl,hb2⟩
 have HB2:Hid (Below W.heap.size W w2):=hb2
 have HW2:=qh (HB.out.trans (hb2.mono HB.out.size))
 clear c0 c1 c2 m0 m1 hb2 zgr
 obtain⟨⟨c0,c1,c2⟩, -,s0,s1⟩:=HC.out w2 HB2.out
 cases may with
 |false=>
  obtain rfl:r=false:=by rw [HR.out];simp
  clear HR
  go_wp2_with fail
  go_ret
  exact⟨by first|rfl|(simp;done)|(simp;omega),HW2.out⟩
 |true=>
  by_cases hnc:n=cn
  rotate_left
  ·have b1:(((n:Nat):Int) !=((cn:Nat):Int))=true:=by rw [bne_iff_ne];omega
   have b2:(n==cn)=false:=by simp [hnc]
   obtain rfl:r=false:=by rw [HR.out,decide_eq_false hnc];simp
   clear HR
   go_wp2_with fail
   go_ret
   exact⟨by first|rfl|(simp;done)|(simp;omega),HW2.out⟩
  subst hnc
  by_cases hmv:(mn:Int)=vars
  rotate_left
  ·have b1:(((mn:Int)) !=vars)=true:=by rw [bne_iff_ne];exact hmv
   obtain rfl:r=false:=by rw [HR.out,decide_eq_false hmv];simp
   clear HR
   go_wp2_with fail
   go_ret
   exact⟨by first|rfl|(simp;done)|(simp;omega),HW2.out⟩
  have HR2:Hid (r=(memo && (List.range n).all tok)):=by rw [Hid,HR.out,decide_eq_true hmv];simp
  subst hmv
  clear HR
  go_wp2_with fail
  refine(zbg.out w2 HW2.out gx c1).mono ?_
  rintro e w3 ⟨rfl,hb3⟩
  have HB3:Hid (Below W.heap.size W w3):=HB2.out.trans (hb3.mono HB2.out.size)
  clear c0 c1 c2 s0 s1 hb3 zbg
  obtain⟨-, -,s0, -⟩:=HC.out w3 HB3.out
  cases memo with
  |false=>
   obtain rfl:r=false:=by rw [HR2.out];simp
   clear HR2
   go_wp2_with fail
   go_ret
   exact⟨by first|rfl|(simp;done)|(simp;omega),HB.out.trans (HB3.out.mono HB.out.size)⟩
  |true=>
   have HR3:Hid (r=(List.range n).all tok):=by rw [Hid,HR2.out];simp
   clear HR2
   go_wp2_with fail
   clear s0
   go_loopg [8,9,41] n (fun gg s8 s9 s41 wr=>∃i:Nat,i<=n/\Hid (gg=n - i)/\s41= .int .i64 i/\Hid (Below W.heap.size W wr)/\Hid (∀j,j<i->tok j=true))
   case atStart=>exact⟨0,Nat.zero_le _,rfl,rfl,HB3.out,fun j hj=>by omega⟩
   case round=>
    obtain⟨i,hi,HG,rfl,zX,HJ⟩:=hrel
    by_cases hlt:i<n
    rotate_left
    ·obtain rfl:n=i:=by omega
     obtain rfl:r=true:=by rw [HR3.out,List.all_eq_true];exact fun j hj=>HJ.out j (List.mem_range.1 hj)
     clear HR3
     go_wp2_with fail
     go_ret
     exact⟨by first|rfl|(simp;done)|(simp;omega),HB.out.trans (zX.out.mono HB.out.size)⟩
    have qg:(i:Int)<(n:Int):=by omega
    have HWR:=qh (HB.out.trans (zX.out.mono HB.out.size))
    have HTI:=qh (HTO.out i)
    obtain⟨eb,eo,ba,bc,yw, -,hrl,q0,q1,q2,q3,q4,q5,hbf⟩:=xD.part HTS.out i (by rw [<-HN.out];exact hlt)
    subst yw
    obtain⟨kb,ko,ka,kc,hka, -,hrow, -⟩:=yF.part ug.out i (by rw [<-pJ.out];exact hlt)
    subst hka
    have vD:=qh (uf.out i hlt)
    obtain⟨ln,hln⟩:∃x,x=(cs.getD i []).length:=⟨_,rfl⟩
    rw [<-hln] at hrow HTI
    obtain⟨t,ht⟩:∃t,t=ts.getD i default:=⟨_,rfl⟩
    rw [<-ht] at hrl q0 q1 q2 q3 q4 q5 hbf HTI vD
    obtain⟨pc,regs,buf⟩:=t
    obtain⟨g0,g1,g2,g3,rfl⟩:=vT hrl
    simp only [List.getD_cons_zero,List.getD_cons_succ] at q0 q1 q2 q3 q4 q5 hbf HTI vD
    obtain⟨bn,hbn⟩:∃x,x=buf.length:=⟨_,rfl⟩
    rw [<-hbn] at q5 hbf
    have k:=fun p v h=>zm HWR.out p v h
    have e0:=k _ _ q0
    have e1:=k _ _ q1
    have e2:=k _ _ q2
    have e3:=k _ _ q3
    have e4:=k _ _ q4
    have e5:=k _ _ q5
    have e6:=k _ _ hrow
    have uV:=qh (zH.below hbf HWR.out)
    obtain⟨-, -,s0, -⟩:=HC.out wr zX.out
    have HA:=qh ((Below.refl wr.heap.size wr).alloc (Nat.le_refl _) (.cells #[.int .i64 pc, .int .i64 g0, .int .i64 g1, .int .i64 g2, .int .i64 g3, .slice ba bn bc] 48))
    have HY:=qh (yK wr (.cells #[.int .i64 pc, .int .i64 g0, .int .i64 g1, .int .i64 g2, .int .i64 g3, .slice ba bn bc] 48))
    clear q0 q1 q2 q3 q4 q5 hrow hbf ht hrl k hln hbn
    go_upto_region 7 with fail
    generalize World.alloc wr _=X at HA HY ⊢
    obtain⟨gl,hgl⟩:∃g,g=wr.heap.size:=⟨_,rfl⟩
    rw [<-hgl] at HY ⊢
    clear hgl e0 e1 e2 e3 e4 e5 s0
    have xC:Hid (Below W.heap.size W X):=zX.out.trans (HA.out.mono zX.out.size)
    have HWX:Hid (Below w.heap.size w X):=HWR.out.trans (HA.out.mono HWR.out.size)
    replace e6:=zm HA.out _ _ e6
    have CC:Hid (∀x,Below X.heap.size X x->x.cell? ⟨gl,0,none⟩=some (.int .i64 pc)/\x.cell? ⟨gl,5,none⟩=some (.slice ba bn bc)/\x.cell? ⟨gx,0,none⟩=some (.int .i64 mn)/\x.cell? ⟨gx,1,none⟩=some (.int .i64 dom)/\x.cell? ⟨gx,2,none⟩=some (.slice (some ⟨kb,ko,none⟩) n tc)/\
      x.cell? ⟨gx+1,0,none⟩=some (.int .i64 mm)/\x.cell? ⟨gx+1,1,none⟩=some (.int .i64 mb)/\x.cell? ⟨kb,ko+i,none⟩=some (.slice ka ln kc)):=fun x hx=>by
     obtain⟨⟨p0,p1,p2⟩,⟨p3,p4⟩, -, -⟩:=HC.out x (zB xC.out hx)
     exact⟨zm hx _ _ (zh HY.out 0),zm hx _ _ (zh HY.out 5),p0,p1,p2,p3,p4,zm hx _ _ e6⟩
    obtain⟨ro,hro⟩:∃b,b=(List.range 4).all (fun k=>qB dom (([g0,g1,g2,g3] :List Int).getD k 0)):=⟨_,rfl⟩
    obtain⟨wo,hwo⟩:∃b,b=(List.range buf.length).all (wk buf):=⟨_,rfl⟩
    have zt6:Hid (∀x,Below X.heap.size X x->Calls Tryz.prog 53 #[.slice (some ⟨gl,1,none⟩) 4 4, .func (.func 51) #[] #[.pointer (some ⟨gx,0,none⟩)]] x fun e w'=>e= .returned (.bool (!ro))/\Below x.heap.size x w'):=fun x hx=>by
     rw [hro]
     exact zeV x _ [g0,g1,g2,g3] (ziY (zm hx _ _ (zh HY.out 1)) (zm hx _ _ (zh HY.out 2)) (zm hx _ _ (zh HY.out 3)) (zm hx _ _ (zh HY.out 4))) dom gx (CC.out x hx).2.2.2.1
    have zxj:Hid (∀x,Below X.heap.size X x->Calls Tryz.prog 54 #[.agg #[.int .i64 mn, .int .i64 dom, .slice (some ⟨kb,ko,none⟩) n tc], .agg #[.int .i64 mm, .int .i64 mb], .slice ba bn bc] x fun e w'=>e= .returned (.bool wo)/\Below x.heap.size x w'):=fun x hx=>by
     rw [hwo]
     exact HWT.out x _ buf (zH.below (zH.below uV.out HA.out) hx) vD.out
    have HT2:Hid (tok i=(decide (0<=pc) && decide (pc<=(ln:Int)) && ro && wo)):=by rw [Hid,HTI.out,hro,hwo]
    have vX:Hid (tok i=false->r=false):=fun hw=>by
     rw [HR3.out,List.all_eq_false]
     exact⟨i,List.mem_range.2 hlt,by rw [hw];simp⟩
    have HJ2:Hid (tok i=true->∀j,j<i+1->tok j=true):=fun hw j hj=>by
     by_cases e:j=i
     ·subst e;exact hw
     ·exact HJ.out j (by omega)
    clear hro hwo e6 HTI vD uV HY HA
    by_cases a0:0<=pc
    rotate_left
    ·have z0:decide (pc<0)=true:=decide_eq_true (by omega)
     obtain rfl:r=false:=vX.out (by rw [HT2.out];simp [a0])
     clear HT2 HJ2 vX HR3
     refine wp_region_noPanic ?_
     refine wp_region_held_drew (S:=fun x=>Below X.heap.size X x) (by kernel_rfl) ((Below.refl _ _).drew) (fun hH1=> ?_)
     refine zo 0 46 ?z9Y rfl ?zt7 ?_
     case zt7=>(intro x h;have e:=CC.out x h;go_simp<;>rfl)
     simp only [Act.put,za,ze,zf]
     refine zo 1 47 ?z9Z rfl ?zt8 ?_
     case zt8=>(intro x h;have e:=CC.out x h;go_simp<;>rfl)
     simp only [Act.put,za,ze,zf]
     refine zo 2 48 ?zAa rfl ?zt9 ?_
     case zt9=>(intro x h;have e:=CC.out x h;go_simp<;>rfl)
     simp only [Act.put,za,ze,zf]
     refine zo 3 49 ?zAb rfl ?ztA ?_
     case ztA=>(intro x h;have e:=CC.out x h;go_simp<;>rfl)
     simp only [Act.put,za,ze,zf]
     refine wpAnyH_take (i:=4) (v:=undef) rfl (by kernel_rfl) (by kernel_rfl) (by kernel_rfl) (fun _ _ _ h=>h) (Or.inr ⟨by rfl,rfl⟩) (by assumption) ?_
     change wpAnyH _ _ _ _ _ _ _ (Act.put _ (some 50) _) _
     simp only [Act.put,za,ze,zf]
     refine wpAnyH_take (i:=5) (v:=undef) rfl (by kernel_rfl) (by kernel_rfl) (by kernel_rfl) (fun _ _ _ h=>h) (Or.inr ⟨by rfl,rfl⟩) (by assumption) ?_
     change wpAnyH _ _ _ _ _ _ _ (Act.put _ (some 51) _) _
     simp only [Act.put,za,ze,zf]
     refine wpAnyH_take (i:=6) (v:=undef) rfl (by kernel_rfl) (by kernel_rfl) (by kernel_rfl) (fun _ _ _ h=>h) (Or.inr ⟨by rfl,rfl⟩) (by assumption) ?_
     change wpAnyH _ _ _ _ _ _ _ (Act.put _ (some 52) _) _
     simp only [Act.put,za,ze,zf]
     refine wpAnyH_take (i:=7) (v:=undef) rfl (by kernel_rfl) (by kernel_rfl) (by kernel_rfl) (fun _ _ _ h=>h) (Or.inr ⟨by rfl,rfl⟩) (by assumption) ?_
     change wpAnyH _ _ _ _ _ _ _ (Act.put _ (some 53) _) _
     simp only [Act.put,za,ze,zf]
     refine wpAnyH_take (i:=8) (v:=undef) rfl (by kernel_rfl) (by kernel_rfl) (by kernel_rfl) (fun _ _ _ h=>h) (Or.inr ⟨by rfl,rfl⟩) (by assumption) ?_
     change wpAnyH _ _ _ _ _ _ _ (Act.put _ (some 54) _) _
     simp only [Act.put,za,ze,zf]
     refine wpAnyH_take (i:=9) (v:=undef) rfl (by kernel_rfl) (by kernel_rfl) (by kernel_rfl) (fun _ _ _ h=>h) (Or.inr ⟨by rfl,rfl⟩) (by assumption) ?_
     change wpAnyH _ _ _ _ _ _ _ (Act.put _ (some 55) _) _
     simp only [Act.put,za,ze,zf]
     refine wpAnyH_take (i:=10) (v:=undef) rfl (by kernel_rfl) (by kernel_rfl) (by kernel_rfl) (fun _ _ _ h=>h) (Or.inr ⟨by rfl,rfl⟩) (by assumption) ?_
     change wpAnyH _ _ _ _ _ _ _ (Act.put _ (some 56) _) _
     simp only [Act.put,za,ze,zf]
     refine wpAnyH_take (i:=11) (v:=undef) rfl (by kernel_rfl) (by kernel_rfl) (by kernel_rfl) (fun _ _ _ h=>h) (Or.inr ⟨by rfl,rfl⟩) (by assumption) ?_
     change wpAnyH _ _ _ _ _ _ _ (Act.put _ (some 57) _) _
     simp only [Act.put,za,ze,zf]
     refine wpAnyH_take (i:=12) (v:=undef) rfl (by kernel_rfl) (by kernel_rfl) (by kernel_rfl) (fun _ _ _ h=>h) (Or.inr ⟨by rfl,rfl⟩) (by assumption) ?_
     change wpAnyH _ _ _ _ _ _ _ (Act.put _ (some 58) _) _
     simp only [Act.put,za,ze,zf]
     refine zo 13 59 ?z6H rfl ?zqX ?_
     case zqX=>(intro x h;have e:=CC.out x h;go_simp<;>rfl)
     simp only [Act.put,za,ze,zf]
     refine zo 14 60 ?z6I rfl ?zqY ?_
     case zqY=>(intro x h;have e:=CC.out x h;go_simp<;>rfl)
     simp only [Act.put,za,ze,zf]
     refine wpAnyH_take (i:=15) (v:=undef) rfl (by kernel_rfl) (by kernel_rfl) (by kernel_rfl) (fun _ _ _ h=>h) (Or.inr ⟨by rfl,rfl⟩) (by assumption) ?_
     change wpAnyH _ _ _ _ _ _ _ (Act.put _ (some 61) _) _
     simp only [Act.put,za,ze,zf]
     refine wpAnyH_take (i:=16) (v:=undef) rfl (by kernel_rfl) (by kernel_rfl) (by kernel_rfl) (fun _ _ _ h=>h) (Or.inr ⟨by rfl,rfl⟩) (by assumption) ?_
     change wpAnyH _ _ _ _ _ _ _ (Act.put _ (some 62) _) _
     simp only [Act.put,za,ze,zf]
     refine wpAnyH_take (i:=17) (v:=undef) rfl (by kernel_rfl) (by kernel_rfl) (by kernel_rfl) (fun _ _ _ h=>h) (Or.inr ⟨by rfl,rfl⟩) (by assumption) ?_
     change wpAnyH _ _ _ _ _ _ _ (Act.put _ (some 63) _) _
     simp only [Act.put,za,ze,zf]
     refine wpAnyH_take (i:=18) (v:=undef) rfl (by kernel_rfl) (by kernel_rfl) (by kernel_rfl) (fun _ _ _ h=>h) (Or.inr ⟨by rfl,rfl⟩) (by assumption) ?_
     change wpAnyH _ _ _ _ _ _ _ (Act.put _ (some 64) _) _
     simp only [Act.put,za,ze,zf]
     refine zo 19 65 ?z6J rfl ?zqZ ?_
     case zqZ=>(intro x h;have e:=CC.out x h;go_simp<;>rfl)
     simp only [Act.put,za,ze,zf]
     refine zo 20 66 ?z6K rfl ?zra ?_
     case zra=>(intro x h;have e:=CC.out x h;go_simp<;>rfl)
     simp only [Act.put,za,ze,zf]
     refine wpAnyH_take (i:=21) (v:=undef) rfl (by kernel_rfl) (by kernel_rfl) (by kernel_rfl) (fun _ _ _ h=>h) (Or.inr ⟨by rfl,rfl⟩) (by assumption) ?_
     change wpAnyH _ _ _ _ _ _ _ (Act.put _ (some 67) _) _
     simp only [Act.put,za,ze,zf]
     refine wpAnyH_take (i:=22) (v:=undef) rfl (by kernel_rfl) (by kernel_rfl) (by kernel_rfl) (fun _ _ _ h=>h) (Or.inr ⟨by rfl,rfl⟩) (by assumption) ?_
     change wpAnyH _ _ _ _ _ _ _ (Act.put _ (some 68) _) _
     simp only [Act.put,za,ze,zf]
     refine wpAnyH_take (i:=23) (v:=undef) rfl (by kernel_rfl) (by kernel_rfl) (by kernel_rfl) (fun _ _ _ h=>h) (Or.inr ⟨by rfl,rfl⟩) (by assumption) ?_
     change wpAnyH _ _ _ _ _ _ _ (Act.put _ (some 69) _) _
     simp only [Act.put,za,ze,zf]
     refine wpAnyH_take (i:=24) (v:=undef) rfl (by kernel_rfl) (by kernel_rfl) (by kernel_rfl) (fun _ _ _ h=>h) (Or.inr ⟨by rfl,rfl⟩) (by assumption) ?_
     change wpAnyH _ _ _ _ _ _ _ (Act.put _ (some 70) _) _
     simp only [Act.put,za,ze,zf]
     refine wpAnyH_take (i:=25) (v:=undef) rfl (by kernel_rfl) (by kernel_rfl) (by kernel_rfl) (fun _ _ _ h=>h) (Or.inr ⟨by rfl,rfl⟩) (by assumption) ?_
     change wpAnyH _ _ _ _ _ _ _ (Act.put _ (some 71) _) _
     simp only [Act.put,za,ze,zf]
     refine wpAnyH_take (i:=26) (v:=undef) rfl (by kernel_rfl) (by kernel_rfl) (by kernel_rfl) (fun _ _ _ h=>h) (Or.inr ⟨by rfl,rfl⟩) (by assumption) ?_
     change wpAnyH _ _ _ _ _ _ _ (Act.put _ (some 72) _) _
     simp only [Act.put,za,ze,zf]
     refine zo 27 73 ?z6L rfl ?zrb ?_
     case zrb=>(intro x h;have e:=CC.out x h;go_simp<;>rfl)
     simp only [Act.put,za,ze,zf]
     refine wpAnyH_done (by kernel_rfl) ?_ _
     refine NoPanic.normal ?_
     have wR:Hid (Below W.heap.size W X.drew):=xC.out.trans ((hH1).mono xC.out.size)
     go_wp2_with fail
     go_ret
     exact⟨by first|rfl|(simp;done)|(simp;omega),HB.out.trans (wR.out.mono HB.out.size)⟩
    have z0:decide (pc<0)=false:=decide_eq_false (by omega)
    by_cases a1:pc<=(ln:Int)
    rotate_left
    ·have z1:decide ((ln:Int)<pc)=true:=decide_eq_true (by omega)
     obtain rfl:r=false:=vX.out (by rw [HT2.out];simp [a1])
     clear HT2 HJ2 vX HR3
     refine wp_region_noPanic ?_
     refine wp_region_held_drew (S:=fun x=>Below X.heap.size X x) (by kernel_rfl) ((Below.refl _ _).drew) (fun hH2=> ?_)
     refine zo 0 46 ?zAc rfl ?ztB ?_
     case ztB=>(intro x h;have e:=CC.out x h;go_simp<;>rfl)
     simp only [Act.put,za,ze,zf]
     refine zo 1 47 ?zAd rfl ?ztC ?_
     case ztC=>(intro x h;have e:=CC.out x h;go_simp<;>rfl)
     simp only [Act.put,za,ze,zf]
     refine zo 2 48 ?zAe rfl ?ztD ?_
     case ztD=>(intro x h;have e:=CC.out x h;go_simp<;>rfl)
     simp only [Act.put,za,ze,zf]
     refine zo 3 49 ?zAf rfl ?ztE ?_
     case ztE=>(intro x h;have e:=CC.out x h;go_simp<;>rfl)
     simp only [Act.put,za,ze,zf]
     refine zo 4 50 ?zAg rfl ?ztF ?_
     case ztF=>(intro x h;have e:=CC.out x h;go_simp<;>rfl)
     simp only [Act.put,za,ze,zf]
     refine zo 5 51 ?zAh rfl ?ztG ?_
     case ztG=>(intro x h;have e:=CC.out x h;go_simp<;>rfl)
     simp only [Act.put,za,ze,zf]
     refine zo 6 52 ?zAi rfl ?ztH ?_
     case ztH=>(intro x h;have e:=CC.out x h;go_simp<;>rfl)
     simp only [Act.put,za,ze,zf]
     refine zo 7 53 ?zAj rfl ?ztI ?_
     case ztI=>(intro x h;have e:=CC.out x h;go_simp<;>rfl)
     simp only [Act.put,za,ze,zf]
     refine zo 8 54 ?zAk rfl ?ztJ ?_
     case ztJ=>(intro x h;have e:=CC.out x h;go_simp<;>rfl)
     simp only [Act.put,za,ze,zf]
     refine zo 9 55 ?z6M rfl ?zrc ?_
     case zrc=>(intro x h;have e:=CC.out x h;go_simp<;>rfl)
     simp only [Act.put,za,ze,zf]
     refine zo 10 56 ?z6N rfl ?zrd ?_
     case zrd=>(intro x h;have e:=CC.out x h;go_simp<;>rfl)
     simp only [Act.put,za,ze,zf]
     refine zo 11 57 ?z6O rfl ?zre ?_
     case zre=>(intro x h;have e:=CC.out x h;go_simp<;>rfl)
     simp only [Act.put,za,ze,zf]
     refine zo 12 58 ?z6P rfl ?zrf ?_
     case zrf=>(intro x h;have e:=CC.out x h;go_simp<;>rfl)
     simp only [Act.put,za,ze,zf]
     refine zo 13 59 ?z6Q rfl ?zrg ?_
     case zrg=>(intro x h;have e:=CC.out x h;go_simp<;>rfl)
     simp only [Act.put,za,ze,zf]
     refine zo 14 60 ?z6R rfl ?zrh ?_
     case zrh=>(intro x h;have e:=CC.out x h;go_simp<;>rfl)
     simp only [Act.put,za,ze,zf]
     refine wpAnyH_take (i:=15) (v:=undef) rfl (by kernel_rfl) (by kernel_rfl) (by kernel_rfl) (fun _ _ _ h=>h) (Or.inr ⟨by rfl,rfl⟩) (by assumption) ?_
     change wpAnyH _ _ _ _ _ _ _ (Act.put _ (some 61) _) _
     simp only [Act.put,za,ze,zf]
     refine wpAnyH_take (i:=16) (v:=undef) rfl (by kernel_rfl) (by kernel_rfl) (by kernel_rfl) (fun _ _ _ h=>h) (Or.inr ⟨by rfl,rfl⟩) (by assumption) ?_
     change wpAnyH _ _ _ _ _ _ _ (Act.put _ (some 62) _) _
     simp only [Act.put,za,ze,zf]
     refine wpAnyH_take (i:=17) (v:=undef) rfl (by kernel_rfl) (by kernel_rfl) (by kernel_rfl) (fun _ _ _ h=>h) (Or.inr ⟨by rfl,rfl⟩) (by assumption) ?_
     change wpAnyH _ _ _ _ _ _ _ (Act.put _ (some 63) _) _
     simp only [Act.put,za,ze,zf]
     refine wpAnyH_take (i:=18) (v:=undef) rfl (by kernel_rfl) (by kernel_rfl) (by kernel_rfl) (fun _ _ _ h=>h) (Or.inr ⟨by rfl,rfl⟩) (by assumption) ?_
     change wpAnyH _ _ _ _ _ _ _ (Act.put _ (some 64) _) _
     simp only [Act.put,za,ze,zf]
     refine zo 19 65 ?z6S rfl ?zri ?_
     case zri=>(intro x h;have e:=CC.out x h;go_simp<;>rfl)
     simp only [Act.put,za,ze,zf]
     refine zo 20 66 ?z6T rfl ?zrj ?_
     case zrj=>(intro x h;have e:=CC.out x h;go_simp<;>rfl)
     simp only [Act.put,za,ze,zf]
     refine wpAnyH_take (i:=21) (v:=undef) rfl (by kernel_rfl) (by kernel_rfl) (by kernel_rfl) (fun _ _ _ h=>h) (Or.inr ⟨by rfl,rfl⟩) (by assumption) ?_
     change wpAnyH _ _ _ _ _ _ _ (Act.put _ (some 67) _) _
     simp only [Act.put,za,ze,zf]
     refine wpAnyH_take (i:=22) (v:=undef) rfl (by kernel_rfl) (by kernel_rfl) (by kernel_rfl) (fun _ _ _ h=>h) (Or.inr ⟨by rfl,rfl⟩) (by assumption) ?_
     change wpAnyH _ _ _ _ _ _ _ (Act.put _ (some 68) _) _
     simp only [Act.put,za,ze,zf]
     refine wpAnyH_take (i:=23) (v:=undef) rfl (by kernel_rfl) (by kernel_rfl) (by kernel_rfl) (fun _ _ _ h=>h) (Or.inr ⟨by rfl,rfl⟩) (by assumption) ?_
     change wpAnyH _ _ _ _ _ _ _ (Act.put _ (some 69) _) _
     simp only [Act.put,za,ze,zf]
     refine wpAnyH_take (i:=24) (v:=undef) rfl (by kernel_rfl) (by kernel_rfl) (by kernel_rfl) (fun _ _ _ h=>h) (Or.inr ⟨by rfl,rfl⟩) (by assumption) ?_
     change wpAnyH _ _ _ _ _ _ _ (Act.put _ (some 70) _) _
     simp only [Act.put,za,ze,zf]
     refine wpAnyH_take (i:=25) (v:=undef) rfl (by kernel_rfl) (by kernel_rfl) (by kernel_rfl) (fun _ _ _ h=>h) (Or.inr ⟨by rfl,rfl⟩) (by assumption) ?_
     change wpAnyH _ _ _ _ _ _ _ (Act.put _ (some 71) _) _
     simp only [Act.put,za,ze,zf]
     refine wpAnyH_take (i:=26) (v:=undef) rfl (by kernel_rfl) (by kernel_rfl) (by kernel_rfl) (fun _ _ _ h=>h) (Or.inr ⟨by rfl,rfl⟩) (by assumption) ?_
     change wpAnyH _ _ _ _ _ _ _ (Act.put _ (some 72) _) _
     simp only [Act.put,za,ze,zf]
     refine zo 27 73 ?z6U rfl ?zrk ?_
     case zrk=>(intro x h;have e:=CC.out x h;go_simp<;>rfl)
     simp only [Act.put,za,ze,zf]
     refine wpAnyH_done (by kernel_rfl) ?_ _
     refine NoPanic.normal ?_
     have wR:Hid (Below W.heap.size W X.drew):=xC.out.trans ((hH2).mono xC.out.size)
     go_wp2_with fail
     go_ret
     exact⟨by first|rfl|(simp;done)|(simp;omega),HB.out.trans (wR.out.mono HB.out.size)⟩
    have z1:decide ((ln:Int)<pc)=false:=decide_eq_false (by omega)
    cases ro with
    |true=>
     refine wp_region_noPanic ?_
     refine wp_region_held_drew (S:=fun x=>Below X.heap.size X x) (by kernel_rfl) ((Below.refl _ _).drew) (fun hH4=> ?_)
     refine zo 0 46 ?zAl rfl ?ztL ?_
     case ztL=>(intro x h;have e:=CC.out x h;go_simp<;>rfl)
     simp only [Act.put,za,ze,zf]
     refine zo 1 47 ?zAm rfl ?ztM ?_
     case ztM=>(intro x h;have e:=CC.out x h;go_simp<;>rfl)
     simp only [Act.put,za,ze,zf]
     refine zo 2 48 ?zAn rfl ?ztN ?_
     case ztN=>(intro x h;have e:=CC.out x h;go_simp<;>rfl)
     simp only [Act.put,za,ze,zf]
     refine zo 3 49 ?zAo rfl ?ztO ?_
     case ztO=>(intro x h;have e:=CC.out x h;go_simp<;>rfl)
     simp only [Act.put,za,ze,zf]
     refine zo 4 50 ?zAp rfl ?ztP ?_
     case ztP=>(intro x h;have e:=CC.out x h;go_simp<;>rfl)
     simp only [Act.put,za,ze,zf]
     refine zo 5 51 ?zAq rfl ?ztQ ?_
     case ztQ=>(intro x h;have e:=CC.out x h;go_simp<;>rfl)
     simp only [Act.put,za,ze,zf]
     refine zo 6 52 ?zAr rfl ?ztR ?_
     case ztR=>(intro x h;have e:=CC.out x h;go_simp<;>rfl)
     simp only [Act.put,za,ze,zf]
     refine zo 7 53 ?zAs rfl ?ztS ?_
     case ztS=>(intro x h;have e:=CC.out x h;go_simp<;>rfl)
     simp only [Act.put,za,ze,zf]
     refine zo 8 54 ?zAt rfl ?ztT ?_
     case ztT=>(intro x h;have e:=CC.out x h;go_simp<;>rfl)
     simp only [Act.put,za,ze,zf]
     refine zo 9 55 ?z6V rfl ?zrl ?_
     case zrl=>(intro x h;have e:=CC.out x h;go_simp<;>rfl)
     simp only [Act.put,za,ze,zf]
     refine zo 10 56 ?z6W rfl ?zrm ?_
     case zrm=>(intro x h;have e:=CC.out x h;go_simp<;>rfl)
     simp only [Act.put,za,ze,zf]
     refine zo 11 57 ?z6X rfl ?zrn ?_
     case zrn=>(intro x h;have e:=CC.out x h;go_simp<;>rfl)
     simp only [Act.put,za,ze,zf]
     refine zo 12 58 ?z6Y rfl ?zro ?_
     case zro=>(intro x h;have e:=CC.out x h;go_simp<;>rfl)
     simp only [Act.put,za,ze,zf]
     refine zo 13 59 ?z6Z rfl ?zrp ?_
     case zrp=>(intro x h;have e:=CC.out x h;go_simp<;>rfl)
     simp only [Act.put,za,ze,zf]
     refine zo 14 60 ?z7a rfl ?zrq ?_
     case zrq=>(intro x h;have e:=CC.out x h;go_simp<;>rfl)
     simp only [Act.put,za,ze,zf]
     refine zo 15 61 ?z7b rfl ?zrr ?_
     case zrr=>(intro x h;have e:=CC.out x h;go_simp<;>rfl)
     simp only [Act.put,za,ze,zf]
     refine zo 16 62 ?z7c rfl ?zrs ?_
     case zrs=>(intro x h;have e:=CC.out x h;go_simp<;>rfl)
     simp only [Act.put,za,ze,zf]
     refine zo 17 63 ?z7d rfl ?zrt ?_
     case zrt=>(intro x h;have e:=CC.out x h;go_simp<;>rfl)
     simp only [Act.put,za,ze,zf]
     refine zT 18 rfl (fun K hK=> ?_)
     go_simp
     refine(zt6.out X.drew hH4).mono ?_
     rintro e zly ⟨rfl,hb⟩
     have zcz:Below X.heap.size X zly:=zB hH4 hb
     refine hK.out _ _ zcz (fun _=> ?_)
     clear hK K hb hH4
     refine zo 19 65 ?z7e rfl ?zru ?_
     case zru=>(intro x h;have e:=CC.out x h;go_simp<;>rfl)
     simp only [Act.put,za,ze,zf]
     refine zo 20 66 ?z7f rfl ?zrv ?_
     case zrv=>(intro x h;have e:=CC.out x h;go_simp<;>rfl)
     simp only [Act.put,za,ze,zf]
     refine zo 21 67 ?z7g rfl ?zrw ?_
     case zrw=>(intro x h;have e:=CC.out x h;go_simp<;>rfl)
     simp only [Act.put,za,ze,zf]
     refine zo 22 68 ?z7h rfl ?zrx ?_
     case zrx=>(intro x h;have e:=CC.out x h;go_simp<;>rfl)
     simp only [Act.put,za,ze,zf]
     refine zo 23 69 ?z7i rfl ?zry ?_
     case zry=>(intro x h;have e:=CC.out x h;go_simp<;>rfl)
     simp only [Act.put,za,ze,zf]
     refine zo 24 70 ?z7j rfl ?zrz ?_
     case zrz=>(intro x h;have e:=CC.out x h;go_simp<;>rfl)
     simp only [Act.put,za,ze,zf]
     refine zT 25 rfl (fun K hK=> ?_)
     go_simp
     refine(zxj.out zly zcz).mono ?_
     rintro e zlz ⟨rfl,hb⟩
     have zhQ:Below X.heap.size X zlz:=zB zcz hb
     refine hK.out _ _ zhQ (fun _=> ?_)
     clear hK K hb zcz
     refine zo 26 72 ?z7k rfl ?zr0 ?_
     case zr0=>(intro x h;have e:=CC.out x h;go_simp<;>rfl)
     simp only [Act.put,za,ze,zf]
     refine zo 27 73 ?z7l rfl ?zr1 ?_
     case zr1=>(intro x h;have e:=CC.out x h;go_simp<;>rfl)
     simp only [Act.put,za,ze,zf]
     refine wpAnyH_done (by kernel_rfl) ?_ _
     refine NoPanic.normal ?_
     have wR:Hid (Below W.heap.size W zlz):=xC.out.trans ((zhQ).mono xC.out.size)
     cases wo with
     |true=>
      have gL:=qh (HJ2.out (by rw [HT2.out];simp [a0,a1]))
      clear HT2 HJ2 vX HR3
      go_wp2_with fail
      go_roundg (n - (i+1))
      case measure=>rw [HG.out];omega
      case rel=>exact⟨i+1,by omega,rfl,by simp,wR.out,gL.out⟩
     |false=>
      obtain rfl:r=false:=vX.out (by rw [HT2.out];simp)
      clear HT2 HJ2 vX HR3
      go_wp2_with fail
      go_ret
      exact⟨by first|rfl|(simp;done)|(simp;omega),HB.out.trans (wR.out.mono HB.out.size)⟩
    |false=>
     obtain rfl:r=false:=vX.out (by rw [HT2.out];simp)
     clear HT2 HJ2 vX HR3
     refine wp_region_noPanic ?_
     refine wp_region_held_drew (S:=fun x=>Below X.heap.size X x) (by kernel_rfl) ((Below.refl _ _).drew) (fun hH3=> ?_)
     refine zo 0 46 ?zAu rfl ?ztU ?_
     case ztU=>(intro x h;have e:=CC.out x h;go_simp<;>rfl)
     simp only [Act.put,za,ze,zf]
     refine zo 1 47 ?zAv rfl ?ztV ?_
     case ztV=>(intro x h;have e:=CC.out x h;go_simp<;>rfl)
     simp only [Act.put,za,ze,zf]
     refine zo 2 48 ?zAw rfl ?ztW ?_
     case ztW=>(intro x h;have e:=CC.out x h;go_simp<;>rfl)
     simp only [Act.put,za,ze,zf]
     refine zo 3 49 ?zAx rfl ?ztX ?_
     case ztX=>(intro x h;have e:=CC.out x h;go_simp<;>rfl)
     simp only [Act.put,za,ze,zf]
     refine zo 4 50 ?zAy rfl ?ztY ?_
     case ztY=>(intro x h;have e:=CC.out x h;go_simp<;>rfl)
     simp only [Act.put,za,ze,zf]
     refine zo 5 51 ?zAz rfl ?ztZ ?_
     case ztZ=>(intro x h;have e:=CC.out x h;go_simp<;>rfl)
     simp only [Act.put,za,ze,zf]
     refine zo 6 52 ?zA0 rfl ?zua ?_
     case zua=>(intro x h;have e:=CC.out x h;go_simp<;>rfl)
     simp only [Act.put,za,ze,zf]
     refine zo 7 53 ?zA1 rfl ?zue ?_
     case zue=>(intro x h;have e:=CC.out x h;go_simp<;>rfl)
     simp only [Act.put,za,ze,zf]
     refine zo 8 54 ?zA2 rfl ?zuf ?_
     case zuf=>(intro x h;have e:=CC.out x h;go_simp<;>rfl)
     simp only [Act.put,za,ze,zf]
     refine zo 9 55 ?z7m rfl ?zr2 ?_
     case zr2=>(intro x h;have e:=CC.out x h;go_simp<;>rfl)
     simp only [Act.put,za,ze,zf]
     refine zo 10 56 ?z7n rfl ?zr3 ?_
     case zr3=>(intro x h;have e:=CC.out x h;go_simp<;>rfl)
     simp only [Act.put,za,ze,zf]
     refine zo 11 57 ?z7o rfl ?zr4 ?_
     case zr4=>(intro x h;have e:=CC.out x h;go_simp<;>rfl)
     simp only [Act.put,za,ze,zf]
     refine zo 12 58 ?z7p rfl ?zr5 ?_
     case zr5=>(intro x h;have e:=CC.out x h;go_simp<;>rfl)
     simp only [Act.put,za,ze,zf]
     refine zo 13 59 ?z7q rfl ?zr6 ?_
     case zr6=>(intro x h;have e:=CC.out x h;go_simp<;>rfl)
     simp only [Act.put,za,ze,zf]
     refine zo 14 60 ?z7r rfl ?zr7 ?_
     case zr7=>(intro x h;have e:=CC.out x h;go_simp<;>rfl)
     simp only [Act.put,za,ze,zf]
     refine zo 15 61 ?z7s rfl ?zr8 ?_
     case zr8=>(intro x h;have e:=CC.out x h;go_simp<;>rfl)
     simp only [Act.put,za,ze,zf]
     refine zo 16 62 ?z7t rfl ?zr9 ?_
     case zr9=>(intro x h;have e:=CC.out x h;go_simp<;>rfl)
     simp only [Act.put,za,ze,zf]
     refine zo 17 63 ?z7u rfl ?zrA ?_
     case zrA=>(intro x h;have e:=CC.out x h;go_simp<;>rfl)
     simp only [Act.put,za,ze,zf]
     refine zT 18 rfl (fun K hK=> ?_)
     go_simp
     refine(zt6.out X.drew hH3).mono ?_
     rintro e zl0 ⟨rfl,hb⟩
     have zhR:Below X.heap.size X zl0:=zB hH3 hb
     refine hK.out _ _ zhR (fun _=> ?_)
     clear hK K hb hH3
     refine zo 19 65 ?z7v rfl ?zrB ?_
     case zrB=>(intro x h;have e:=CC.out x h;go_simp<;>rfl)
     simp only [Act.put,za,ze,zf]
     refine zo 20 66 ?z7w rfl ?zrC ?_
     case zrC=>(intro x h;have e:=CC.out x h;go_simp<;>rfl)
     simp only [Act.put,za,ze,zf]
     refine wpAnyH_take (i:=21) (v:=undef) rfl (by kernel_rfl) (by kernel_rfl) (by kernel_rfl) (fun _ _ _ h=>h) (Or.inr ⟨by rfl,rfl⟩) (by assumption) ?_
     change wpAnyH _ _ _ _ _ _ _ (Act.put _ (some 67) _) _
     simp only [Act.put,za,ze,zf]
     refine wpAnyH_take (i:=22) (v:=undef) rfl (by kernel_rfl) (by kernel_rfl) (by kernel_rfl) (fun _ _ _ h=>h) (Or.inr ⟨by rfl,rfl⟩) (by assumption) ?_
     change wpAnyH _ _ _ _ _ _ _ (Act.put _ (some 68) _) _
     simp only [Act.put,za,ze,zf]
     refine wpAnyH_take (i:=23) (v:=undef) rfl (by kernel_rfl) (by kernel_rfl) (by kernel_rfl) (fun _ _ _ h=>h) (Or.inr ⟨by rfl,rfl⟩) (by assumption) ?_
     change wpAnyH _ _ _ _ _ _ _ (Act.put _ (some 69) _) _
     simp only [Act.put,za,ze,zf]
     refine wpAnyH_take (i:=24) (v:=undef) rfl (by kernel_rfl) (by kernel_rfl) (by kernel_rfl) (fun _ _ _ h=>h) (Or.inr ⟨by rfl,rfl⟩) (by assumption) ?_
     change wpAnyH _ _ _ _ _ _ _ (Act.put _ (some 70) _) _
     simp only [Act.put,za,ze,zf]
     refine wpAnyH_take (i:=25) (v:=undef) rfl (by kernel_rfl) (by kernel_rfl) (by kernel_rfl) (fun _ _ _ h=>h) (Or.inr ⟨by rfl,rfl⟩) (by assumption) ?_
     change wpAnyH _ _ _ _ _ _ _ (Act.put _ (some 71) _) _
     simp only [Act.put,za,ze,zf]
     refine wpAnyH_take (i:=26) (v:=undef) rfl (by kernel_rfl) (by kernel_rfl) (by kernel_rfl) (fun _ _ _ h=>h) (Or.inr ⟨by rfl,rfl⟩) (by assumption) ?_
     change wpAnyH _ _ _ _ _ _ _ (Act.put _ (some 72) _) _
     simp only [Act.put,za,ze,zf]
     refine zo 27 73 ?z7x rfl ?zrD ?_
     case zrD=>(intro x h;have e:=CC.out x h;go_simp<;>rfl)
     simp only [Act.put,za,ze,zf]
     refine wpAnyH_done (by kernel_rfl) ?_ _
     refine NoPanic.normal ?_
     have wR:Hid (Below W.heap.size W zl0):=xC.out.trans ((zhR).mono xC.out.size)
     go_wp2_with fail
     go_ret
     exact⟨by first|rfl|(simp;done)|(simp;omega),HB.out.trans (wR.out.mono HB.out.size)⟩
end Go.Proofs.YtliajkheeniljaaGreatDoor
