/- Steps. -/
import Derived.Test.YteggflahafiieaaGreatDoorZgCodeR
set_option linter.all false
namespace Go.Proofs.YteggflahafiieaaGreatDoor
open Go.RowKit
set_option maxRecDepth 100000
set_option maxHeartbeats 16000000
def yK (F:Nat->Prop) (X:World) (P:World->Prop):Prop:=∀X',Since F X X'->P X'
section
variable {F F' G:Nat->Prop} {X X':World} {P:World->Prop}
theorem yK.now (h:yK F X P):P X:=h X (Since.refl _ _)
theorem yK.step (h:yK F X P) (hs:Since G X X') (hG:∀k,G k->F k\/X.heap.size<=k) (hF:∀k,F' k->F k\/X.heap.size<=k):yK F' X' P:=λX'' h2=>
 h X'' ((hs.mono (G:=F) (λk hk hg=>(hG k hg).elim id (λh=>absurd hk (Nat.not_lt.2 h)))).trans h2 hF)
end
end Go.Proofs.YteggflahafiieaaGreatDoor
namespace Go.Proofs.YteggflahafiieaaGreatDoor
open Go.RowKit
set_option maxRecDepth 100000
set_option maxHeartbeats 16000000
theorem zxD (w:World) (c:zK) (tv:Value) (d:Nat) (h:yZ d w tv c.threads) (m:zF):Calls Tryz.prog 95 #[yT c tv,xD m] w λe w'=>e= .returned (.bool (jP c m))/\Below w.heap.size w w':=by
 obtain⟨ta,tc,rfl,htl⟩:=ze.slice h
 obtain⟨r,hr⟩:∃r,r=jP c m:=⟨_,rfl⟩
 obtain⟨co,hco⟩:∃co,co=codeOk c:=⟨_,rfl⟩
 have hcode:=λW (hW:yZ d W (.slice ta c.threads.length tc) c.threads)=>zgm W c (.slice ta c.threads.length tc) d hW
 rw [<-hco] at hcode
 have hr2:r=(co && decide (0<=m.model) && decide (m.model<=2) && decide (1<=m.bound) && decide (m.bound<=8)):=by rw [hr,hco];rfl
 rw [<-hr]
 obtain⟨vars,dom,cs⟩:=c
 obtain⟨mod,bnd⟩:=m
 simp only [] at h htl hcode hr2 ⊢
 unfold yT xD
 unfold yT at hcode
 simp only [] at hcode ⊢
 obtain⟨n,hn⟩:∃n,n=cs.length:=⟨_,rfl⟩
 rw [<-hn] at h htl hcode ⊢
 have hB:=xZ w (.cells #[.int .i64 vars, .int .i64 dom, .slice ta n tc] 26) (.cells #[.int .i64 mod, .int .i64 bnd] 31)
 have HB:=qh hB
 have H1:=qh (xL w (.cells #[.int .i64 vars, .int .i64 dom, .slice ta n tc] 26) (.cells #[.int .i64 mod, .int .i64 bnd] 31))
 have H2:=qh (xE w (.cells #[.int .i64 vars, .int .i64 dom, .slice ta n tc] 26) (.cells #[.int .i64 mod, .int .i64 bnd] 31))
 have HT:=qh (ze.below (xK.stays d) h hB)
 have zab:=qh hcode
 have HR:=qh hr2
 clear h hB hcode hr hr2 hco hn
 go_enter Tryz.func95,Tryz.ntmps95
 go_upto_region 1 with fail
 generalize World.alloc (World.alloc w _) _=W at HB H1 H2 HT ⊢
 obtain⟨gx,hgx⟩:∃gx,gx=w.heap.size:=⟨_,rfl⟩
 rw [<-hgx] at H1 H2 ⊢
 clear hgx
 have c0:=za H1.out 0
 have c1:=za H1.out 1
 have c2:=za H1.out 2
 go_wp2_with fail
 refine(zab.out W HT.out).mono ?_
 rintro e W1 ⟨rfl,hb⟩
 have HB1:=qh hb
 have d0:=zh hb _ _ (za H2.out 0)
 have d1:=zh hb _ _ (za H2.out 1)
 clear hb c0 c1 c2
 have yL:Hid (Below w.heap.size w W1):=HB.out.trans (HB1.out.mono HB.out.size)
 cases co with
 |false=>
  obtain rfl:r=false:=by rw [HR.out];rfl
  clear HR
  go_wp2_with fail
  go_ret
  exact⟨by first|rfl|(simp;done)|(simp;omega),yL.out⟩
 |true=>
 by_cases h0:0<=mod
 rotate_left
 ·obtain rfl:r=false:=by have e:decide (0<=mod)=false:=decide_eq_false h0;rw [HR.out,e];simp
  clear HR
  go_wp2_with fail
  go_ret
  exact⟨by first|rfl|(simp;done)|(simp;omega),yL.out⟩
 by_cases h1:mod<=2
 rotate_left
 ·obtain rfl:r=false:=by have e:decide (mod<=2)=false:=decide_eq_false h1;rw [HR.out,e];simp
  clear HR
  go_wp2_with fail
  go_ret
  exact⟨by first|rfl|(simp;done)|(simp;omega),yL.out⟩
 by_cases h2:1<=bnd
 ·by_cases h3:bnd<=8
  ·obtain rfl:r=true:=by rw [HR.out];simp [h0,h1,h2,h3]
   clear HR
   go_wp2_with fail
   go_ret
   exact⟨by first|rfl|(simp;done)|(simp;omega),yL.out⟩
  obtain rfl:r=false:=by have e:decide (bnd<=8)=false:=decide_eq_false h3;rw [HR.out,e];simp
  clear HR
  go_wp2_with fail
  go_ret
  exact⟨by first|rfl|(simp;done)|(simp;omega),yL.out⟩
 obtain rfl:r=false:=by have e:decide (1<=bnd)=false:=decide_eq_false h2;rw [HR.out,e];simp
 clear HR
 go_wp2_with fail
 go_ret
 exact⟨by first|rfl|(simp;done)|(simp;omega),yL.out⟩
theorem zqU (c:zK) (ta:Option Addr) (tc d:Nat) (m:zF) (w:World) (h:yZ d w (.slice ta c.threads.length tc) c.threads):Calls Tryz.prog 95 #[.agg #[.int .i64 c.vars, .int .i64 c.domain, .slice ta c.threads.length tc], .agg #[.int .i64 m.model, .int .i64 m.bound]] w λe w'=>e= .returned (.bool (jP c m))/\Below w.heap.size w w':=zxD w c _ d h m
theorem zb6 {n:Nat} {p:Nat->Bool} (h:∀j,j<n->p j=true):(List.range n).all p=true:=by
 rw [List.all_eq_true];intro j hj;exact h j (List.mem_range.1 hj)
theorem pR {n:Nat} {p:Nat->Bool} (j:Nat) (hj:j<n) (h:p j=false):(List.range n).all p=false:=by
 rw [List.all_eq_false];exact⟨j,List.mem_range.2 hj,by simp [h]⟩
theorem ztc {q0 q1 q2 q3:Int} {w:World} {b:Nat} {t:TypeId} {pc:Value} {bv:Value} {f:Nat × Nat} (h:w.heap[b]? =some (.cells #[pc, .int .i64 q0, .int .i64 q1, .int .i64 q2, .int .i64 q3,bv] t f)) {k:Nat} (hk:k<4):w.cell? ⟨b,1+k,none⟩=some (.int .i64 ([q0,q1,q2,q3].getD k 0)):=by
 rw [za h]
 have:k=0\/k=1\/k=2\/k=3:=by omega
 rcases this with rfl|rfl|rfl|rfl<;>rfl
theorem zl9 (w:World) (c:zK) (tv:Value) (d:Nat) (hc:yZ d w tv c.threads) (m:zF) (s:zm) (sv mv:Value) (hs:yh w s sv mv) (hb:∀j,j<s.threads.length->(s.threads.getD j default).buf.length<=1000000):
  Calls Tryz.prog 58 #[yT c tv,xD m,yR s sv mv] w λe w'=>e= .returned (.bool (xR c m s))/\Below w.heap.size w w':=by
 obtain⟨ca,cc,rfl,hcl⟩:=ze.slice hc
 obtain⟨ta,tc,rfl,htl⟩:=ze.slice hs.threads
 obtain⟨ma,mc,rfl,hml⟩:=ze.slice hs.mem
 obtain⟨r,hr⟩:∃r,r=xR c m s:=⟨_,rfl⟩
 obtain⟨mo,hmo⟩:∃mo,mo=jP c m:=⟨_,rfl⟩
 have hmay:=zqU c ca cc d m
 rw [<-hmo] at hmay
 obtain⟨vars,dom,cs⟩:=c
 obtain⟨mod,bnd⟩:=m
 obtain⟨ts,mem,bad⟩:=s
 simp only [] at hc hcl hs htl hml hb hmay ⊢
 obtain⟨n,hn⟩:∃n,n=ts.length:=⟨_,rfl⟩
 obtain⟨cn,hcn⟩:∃cn,cn=cs.length:=⟨_,rfl⟩
 obtain⟨k,hk⟩:∃k,k=mem.length:=⟨_,rfl⟩
 have hr2:r=(mo && decide (n=cn) && decide ((k:Int)=vars) && (List.range k).all (λj=>yU dom (mem.getD j 0)) && (List.range n).all (qD ⟨vars,dom,cs⟩ ⟨mod,bnd⟩ ⟨ts,mem,bad⟩)):=by rw [hr,hmo,hn,hcn,hk];rfl
 rw [<-hr]
 have hT:=hs.threads
 have hM:=hs.mem
 simp only [] at hT hM
 unfold yT xD yR
 simp only []
 rw [<-hn] at hT hb htl ⊢
 rw [<-hk] at hM hml ⊢
 rw [<-hcn] at hc hcl hmay ⊢
 clear hs
 have hB:=bI w (.cells #[.int .i64 vars, .int .i64 dom, .slice ca cn cc] 26) (.cells #[.int .i64 mod, .int .i64 bnd] 31) (.cells #[.slice ta n tc, .slice ma k mc, .bool bad] 35)
 have HB:=qh hB
 have H1:=qh (bJ w (.cells #[.int .i64 vars, .int .i64 dom, .slice ca cn cc] 26) (.cells #[.int .i64 mod, .int .i64 bnd] 31) (.cells #[.slice ta n tc, .slice ma k mc, .bool bad] 35))
 have H2:=qh (uO w (.cells #[.int .i64 vars, .int .i64 dom, .slice ca cn cc] 26) (.cells #[.int .i64 mod, .int .i64 bnd] 31) (.cells #[.slice ta n tc, .slice ma k mc, .bool bad] 35))
 have H3:=qh (bK w (.cells #[.int .i64 vars, .int .i64 dom, .slice ca cn cc] 26) (.cells #[.int .i64 mod, .int .i64 bnd] 31) (.cells #[.slice ta n tc, .slice ma k mc, .bool bad] 35))
 have HT:=qh (ze.below pJ.stays hT hB)
 have HM:=qh (ze.below uQ.stays hM hB)
 have uL:=qh (ze.below (xK.stays d) hc hB)
 have zgY:=qh hmay
 have bE:=qh hb
 have HN:=qh hn
 have HK:=qh hk
 have HCN:=qh hcn
 have HR:=qh hr2
 clear hc hT hM hB hb hn hk hcn hr hr2 hmo hmay
 go_enter Tryz.func58,Tryz.ntmps58
 go_upto_region 1 with fail
 generalize World.alloc (World.alloc (World.alloc w _) _) _=W at HB H1 H2 H3 HT HM uL ⊢
 obtain⟨gx,hgx⟩:∃gx,gx=w.heap.size:=⟨_,rfl⟩
 rw [<-hgx] at H1 H2 H3 ⊢
 clear hgx
 have HC:Hid (∀x,Below W.heap.size W x->x.cell? ⟨gx,0,none⟩=some (.int .i64 vars)/\x.cell? ⟨gx,1,none⟩=some (.int .i64 dom)/\x.cell? ⟨gx,2,none⟩=some (.slice ca cn cc)/\
   x.cell? ⟨gx+1,0,none⟩=some (.int .i64 mod)/\x.cell? ⟨gx+1,1,none⟩=some (.int .i64 bnd)/\x.cell? ⟨gx+2,0,none⟩=some (.slice ta n tc)/\x.cell? ⟨gx+2,1,none⟩=some (.slice ma k mc)):=λx hx=>
  ⟨zh hx _ _ (za H1.out 0),zh hx _ _ (za H1.out 1),zh hx _ _ (za H1.out 2),zh hx _ _ (za H2.out 0),zh hx _ _ (za H2.out 1),zh hx _ _ (za H3.out 0),zh hx _ _ (za H3.out 1)⟩
 obtain⟨c0,c1,c2,c3,c4,c5,c6⟩:=HC.out W (Below.refl _ _)
 go_wp2_with fail
 refine(zgY.out W uL.out).mono ?_
 rintro e W1 ⟨rfl,hb1⟩
 have HB1:=qh hb1
 clear hb1 zgY c0 c1 c2 c3 c4 c5 c6
 obtain⟨c0,c1,c2,c3,c4,c5,c6⟩:=HC.out W1 HB1.out
 have yL:Hid (∀x,Below W.heap.size W x->Below w.heap.size w x):=λx hx=>HB.out.trans (hx.mono HB.out.size)
 cases mo with
 |false=>
  obtain rfl:r=false:=by rw [HR.out];rfl
  clear HR
  go_wp2_with fail
  go_ret
  exact⟨by first|rfl|simp,yL.out _ HB1.out⟩
 |true=>
 by_cases h1:n=cn
 rotate_left
 ·obtain rfl:r=false:=by rw [HR.out];simp [h1]
  clear HR
  have h1b:((n:Int) !=(cn:Int))=true:=by simp;omega
  clear h1
  go_wp2_with fail
  go_ret
  exact⟨by first|rfl|simp,yL.out _ HB1.out⟩
 have h1I:((n:Int)==(cn:Int))=true:=by simp [h1]
 by_cases h2:(k:Int)=vars
 rotate_left
 ·obtain rfl:r=false:=by rw [HR.out];simp [h2]
  clear HR
  have h2b:((k:Int) !=vars)=true:=by simp [h2]
  have h1b:((n:Int) !=(cn:Int))=false:=by simp [h1]
  clear h1 h2
  go_wp2_with fail
  go_ret
  exact⟨by first|rfl|simp,yL.out _ HB1.out⟩
 have h2I:((k:Int)==vars)=true:=by simp [h2]
 have HR3:Hid (r=((List.range k).all (λj=>yU dom (mem.getD j 0)) && (List.range n).all (qD ⟨vars,dom,cs⟩ ⟨mod,bnd⟩ ⟨ts,mem,bad⟩))):=by rw [Hid,HR.out];simp [h1,h2]
 have h1b:((n:Int) !=(cn:Int))=false:=by simp [h1]
 have h2b:((k:Int) !=vars)=false:=by simp [h2]
 have H1N:=qh h1
 clear HR h1 h2
 go_wp2_with fail
 clear c0 c1 c2 c3 c4 c5 c6
 go_loopg [7] k (λgg s7 wr=>∃i:Nat,i<=k/\Hid (gg=k - i)/\s7= .int .i64 i/\Hid (Below W.heap.size W wr)/\Hid (∀j,j<i->yU dom (mem.getD j 0)=true))
 case atStart=>exact⟨0,Nat.zero_le _,rfl,rfl,HB1.out,λj hj=>by omega⟩
 case round=>
 obtain⟨i,hi,HG,rfl,zX,HJ⟩:=hrel
 obtain⟨c0,c1,c2,c3,c4,c5,c6⟩:=HC.out wr zX.out
 by_cases hlt:i<k
 ·have qK:(i:Int)<(k:Int):=by omega
  obtain⟨eb,eo,yG, -,he1⟩:=xI.part HM.out i (by rw [<-HK.out];exact hlt)
  subst yG
  obtain⟨x,hx⟩:∃x,x=mem.getD i 0:=⟨_,rfl⟩
  rw [<-hx] at he1
  have e1:=zh zX.out _ _ he1
  have HX:=qh hx
  clear he1 hx
  by_cases a1:x<0
  ·obtain rfl:r=false:=by rw [HR3.out,pR i hlt (by rw [<-HX.out];unfold yU;simp;omega)];rfl
   clear HR3
   go_wp2_with fail
   go_quiet (fail)
   go_wp2_with fail
   go_ret
   exact⟨by first|rfl|simp,yL.out _ (yj zX.out _)⟩
  by_cases a2:dom<=x
  ·obtain rfl:r=false:=by rw [HR3.out,pR i hlt (by rw [<-HX.out];unfold yU;simp;omega)];rfl
   clear HR3
   go_wp2_with fail
   go_quiet (fail)
   go_wp2_with fail
   go_ret
   exact⟨by first|rfl|simp,yL.out _ (yj zX.out _)⟩
  go_wp2_with fail
  go_quiet (fail)
  go_wp2_with fail
  go_roundg (k - (i+1))
  case measure=>rw [HG.out];omega
  case rel=>exact⟨i+1,by omega,rfl,by simp,yj zX.out _,λj hj=>by
   by_cases he:j=i
   ·subst he;rw [<-HX.out];unfold yU;simp;omega
   exact HJ.out j (by omega)⟩
 obtain rfl:k=i:=by omega
 have HR4:Hid (r=(List.range n).all (qD ⟨vars,dom,cs⟩ ⟨mod,bnd⟩ ⟨ts,mem,bad⟩)):=by rw [Hid,HR3.out,zb6 HJ.out,Bool.true_and]
 clear HR3
 go_wp2_with fail
 clear c0 c1 c2 c3 c4 c5 c6
 go_loopg [8] n (λgg s8 wr=>∃i:Nat,i<=n/\Hid (gg=n - i)/\s8= .int .i64 i/\Hid (Below W.heap.size W wr)/\Hid (∀j,j<i->qD ⟨vars,dom,cs⟩ ⟨mod,bnd⟩ ⟨ts,mem,bad⟩ j=true))
 case atStart=>exact⟨0,Nat.zero_le _,rfl,rfl,zX.out,λj hj=>by omega⟩
 case round=>
 obtain⟨i,hi,HG8,rfl,HBI,HJ8⟩:=hrel
 obtain⟨wo,rfl⟩:∃wo:World,wo=wr:=⟨_,rfl⟩
 obtain⟨c0,c1,c2,c3,c4,c5,c6⟩:=HC.out wo HBI.out
 by_cases hlt:i<n
 rotate_left
 ·obtain rfl:n=i:=by omega
  obtain rfl:r=true:=by rw [HR4.out];exact zb6 HJ8.out
  clear HR4
  go_wp2_with fail
  go_ret
  exact⟨by first|rfl|simp,yL.out _ HBI.out⟩
 have qK:(i:Int)<(n:Int):=by omega
 have zBA:(i:Int)<(cn:Int):=by have:=H1N.out;omega
 obtain⟨tb,yA,ba,bc,hta, -,hr4,x0,x1,x2,x3,x4,x5,hbuf⟩:=qj.part HT.out i (by rw [<-HN.out];exact hlt)
 obtain⟨eb,eo,ka,kc,hca, -,hec, -⟩:=yZ.part uL.out i (by rw [<-HCN.out, <-H1N.out];exact hlt)
 subst hta
 subst hca
 obtain⟨t,ht⟩:∃t,t=ts.getD i default:=⟨_,rfl⟩
 rw [<-ht] at hr4 x0 x1 x2 x3 x4 x5 hbuf
 obtain⟨ln,hln⟩:∃ln,ln=(cs.getD i []).length:=⟨_,rfl⟩
 rw [<-hln] at hec
 have hbl:=bE.out i hlt
 rw [<-ht] at hbl
 have k9:=λp v h=>zh HBI.out p v h
 replace x0:=k9 _ _ x0
 replace x1:=k9 _ _ x1
 replace x2:=k9 _ _ x2
 replace x3:=k9 _ _ x3
 replace x4:=k9 _ _ x4
 replace x5:=k9 _ _ x5
 have y0:=k9 _ _ hec
 obtain⟨q0,q1,q2,q3,hq⟩:=jS hr4
 obtain⟨pc,hpc⟩:∃pc,pc=t.pc:=⟨_,rfl⟩
 obtain⟨bl,jw⟩:∃bl,bl=t.buf.length:=⟨_,rfl⟩
 have hto:qD ⟨vars,dom,cs⟩ ⟨mod,bnd⟩ ⟨ts,mem,bad⟩ i=(decide (0<=pc) && decide (pc<=(ln:Int)) && (List.range 4).all (λk=>yU dom ([q0,q1,q2,q3].getD k 0)) && (List.range bl).all (xU ⟨vars,dom,cs⟩ ⟨mod,bnd⟩ t.buf)):=by
  rw [hln,jw,hpc, <-hq,ht];rfl
 have HTO:=qh hto
 have uR:Hid (qD ⟨vars,dom,cs⟩ ⟨mod,bnd⟩ ⟨ts,mem,bad⟩ i=false->r=false):=λe=>by rw [HR4.out,pR i hlt e]
 have zfk:Hid (qD ⟨vars,dom,cs⟩ ⟨mod,bnd⟩ ⟨ts,mem,bad⟩ i=true->∀j,j<i+1->qD ⟨vars,dom,cs⟩ ⟨mod,bnd⟩ ⟨ts,mem,bad⟩ j=true):=λe j hj=>by
  by_cases he:j=i
  ·subst he;exact e
  exact HJ8.out j (by omega)
 rw [<-hpc] at x0
 rw [hq] at x1 x2 x3 x4
 simp only [List.getD_cons_zero,List.getD_cons_succ] at x1 x2 x3 x4
 rw [<-jw] at x5 hbl hbuf
 have zau:=qh hbuf
 have vG:=qh jw
 clear ht hq hpc jw hto hr4 k9 hec hln hbuf
 go_upto_region 12 with fail
 clear c0 c1 c2 c3 c4 c5 c6 x0 x1 x2 x3 x4 x5
 have hBT:=HBI.out.alloc HBI.out.size (.cells #[.int .i64 pc, .int .i64 q0, .int .i64 q1, .int .i64 q2, .int .i64 q3, .slice ba bl bc] 47)
 have hTB:=yE wo (.cells #[.int .i64 pc, .int .i64 q0, .int .i64 q1, .int .i64 q2, .int .i64 q3, .slice ba bl bc] 47)
 have y1:=zh ((Below.refl wo.heap.size wo).alloc (Nat.le_refl _) (.cells #[.int .i64 pc, .int .i64 q0, .int .i64 q1, .int .i64 q2, .int .i64 q3, .slice ba bl bc] 47)) _ _ y0
 clear y0
 have HBT:=qh hBT
 have HTB:=qh hTB
 clear hBT hTB
 generalize World.alloc wo _=Wt at HBT HTB y1 ⊢
 obtain⟨nb,hnb⟩:∃nb,nb=wo.heap.size:=⟨_,rfl⟩
 rw [<-hnb] at HTB ⊢
 clear hnb
 obtain⟨c0,c1,c2,c3,c4,c5,c6⟩:=HC.out Wt HBT.out
 have t0:=za HTB.out 0
 by_cases p1:pc<0
 ·obtain rfl:=uR.out (by rw [HTO.out,decide_eq_false (by omega)];rfl)
  clear HR4
  go_wp2_with fail
  go_quiet (fail)
  go_wp2_with fail
  go_ret
  exact⟨by first|rfl|simp,yL.out _ (yj HBT.out _)⟩
 by_cases p2:(ln:Int)<pc
 ·obtain rfl:=uR.out (by(have e:decide (pc<=(ln:Int))=false:=decide_eq_false (by omega));rw [HTO.out,e];simp)
  clear HR4
  go_wp2_with fail
  go_quiet (fail)
  go_wp2_with fail
  go_ret
  exact⟨by first|rfl|simp,yL.out _ (yj HBT.out _)⟩
 have zqV:Hid (qD ⟨vars,dom,cs⟩ ⟨mod,bnd⟩ ⟨ts,mem,bad⟩ i=((List.range 4).all (λk=>yU dom ([q0,q1,q2,q3].getD k 0)) && (List.range bl).all (xU ⟨vars,dom,cs⟩ ⟨mod,bnd⟩ t.buf))):=by
  have e:decide (pc<=(ln:Int))=true:=decide_eq_true (by omega)
  have e2:decide (0<=pc)=true:=decide_eq_true (by omega)
  rw [Hid,HTO.out,e,e2,Bool.true_and,Bool.true_and]
 clear HTO
 go_wp2_with fail
 go_quiet (fail)
 go_wp2_with fail
 clear c0 c1 c2 c3 c4 c5 c6 t0 y1 p1 p2
 go_loopg [10] 4 (λgg s10 wr=>∃q:Nat,q<=4/\Hid (gg=4 - q)/\s10= .int .i64 q/\Hid (Below Wt.heap.size Wt wr)/\Hid (∀j,j<q->yU dom ([q0,q1,q2,q3].getD j 0)=true))
 case atStart=>exact⟨0,Nat.zero_le _,rfl,rfl,yj (Below.refl _ _) _,λj hj=>by omega⟩
 case round=>
 obtain⟨q,hqq,z6Z,rfl,HBQ,zv0⟩:=hrel
 have zv1:=qh (zB HBT.out HBQ.out)
 obtain⟨c0,c1,c2,c3,c4,c5,c6⟩:=HC.out wr zv1.out
 by_cases hlq:q<4
 ·have z5P:(q:Int)<4:=by omega
  have e1:=zh HBQ.out _ _ (ztc HTB.out hlq)
  obtain⟨x,hx⟩:∃x,x= [q0,q1,q2,q3].getD q 0:=⟨_,rfl⟩
  rw [<-hx] at e1
  have HX:=qh hx
  clear hx
  by_cases a1:x<0
  ·obtain rfl:=uR.out (by rw [zqV.out,pR q hlq (by rw [<-HX.out];unfold yU;simp;omega)];rfl)
   clear HR4
   go_wp2_with fail
   go_quiet (fail)
   go_wp2_with fail
   go_ret
   exact⟨by first|rfl|simp,yL.out _ (yj zv1.out _)⟩
  by_cases a2:dom<=x
  ·obtain rfl:=uR.out (by rw [zqV.out,pR q hlq (by rw [<-HX.out];unfold yU;simp;omega)];rfl)
   clear HR4
   go_wp2_with fail
   go_quiet (fail)
   go_wp2_with fail
   go_ret
   exact⟨by first|rfl|simp,yL.out _ (yj zv1.out _)⟩
  go_wp2_with fail
  go_quiet (fail)
  go_wp2_with fail
  go_roundg (4 - (q+1))
  case measure=>rw [z6Z.out];omega
  case rel=>exact⟨q+1,by omega,rfl,by simp,yj HBQ.out _,λj hj=>by
   by_cases he:j=q
   ·subst he;rw [<-HX.out];unfold yU;simp;omega
   exact zv0.out j (by omega)⟩
 obtain rfl:q=4:=by omega
 have z0q:Hid (qD ⟨vars,dom,cs⟩ ⟨mod,bnd⟩ ⟨ts,mem,bad⟩ i=(List.range bl).all (xU ⟨vars,dom,cs⟩ ⟨mod,bnd⟩ t.buf)):=by rw [Hid,zqV.out,zb6 zv0.out,Bool.true_and]
 clear zqV zv0
 go_wp2_with fail
 clear c0 c1 c2 c3 c4 c5 c6
 go_loopg [11,12] bl (λgg s11 s12 wr=>∃(k:Nat) (oa:Option Addr) (oc:Nat),k<=bl/\Hid (gg=bl - k)/\s11= .slice oa k oc/\s12= .int .i64 k/\Hid (zW wr (.slice oa k oc) (t.buf.take k))/\Hid (Below Wt.heap.size Wt wr)/\Hid (∀j,j<k->xU ⟨vars,dom,cs⟩ ⟨mod,bnd⟩ t.buf j=true))
 case atStart=>exact⟨0,none,0,Nat.zero_le _,rfl,rfl,rfl,by rw [Hid,List.take_zero];exact ze.nil _,HBQ.out,λj hj=>by omega⟩
 case round=>
 obtain⟨k,oa,oc,hk,z7a,rfl,rfl,HOB,HBK,z0r⟩:=hrel
 have t5:=zh HBK.out _ _ (za HTB.out 5)
 by_cases hlk:k<bl
 rotate_left
 ·obtain rfl:bl=k:=by omega
  have hyes:=zfk.out (by rw [z0q.out];exact zb6 z0r.out)
  have HYE:=qh hyes
  clear hyes
  go_wp2_with fail
  go_roundg (n - (i+1))
  case measure=>rw [HG8.out];omega
  case rel=>exact⟨i+1,by omega,rfl,by simp,zB HBT.out HBK.out,HYE.out⟩
 have z5N:(k:Int)<(bl:Int):=by omega
 obtain⟨bb,bo,hba, -,he1,he2⟩:=zW.part zau.out k (by rw [<-vG.out];exact hlk)
 subst hba
 obtain⟨x,hx⟩:∃x,x=t.buf.getD k default:=⟨_,rfl⟩
 rw [<-hx] at he1 he2
 have z0s:=qh (zB HBT.out HBK.out)
 have e1:=zh z0s.out _ _ he1
 have e2:=zh z0s.out _ _ he2
 have jX:Hid (t.buf.take (k+1)=t.buf.take k++ [x]):=kU (by rw [<-vG.out];exact hlk) hx
 obtain⟨xv,xn⟩:=x
 simp only [] at e1 e2
 obtain⟨ok,hok⟩:∃ok,ok=xY (t.buf.take k) ⟨mod,bnd⟩ ⟨xv,xn⟩:=⟨_,rfl⟩
 have HWO:Hid (xU ⟨vars,dom,cs⟩ ⟨mod,bnd⟩ t.buf k=(ok && decide (0<=xv) && decide (xv<vars) && decide (0<=xn) && decide (xn<dom))):=by rw [Hid,hok];unfold xU;rw [<-hx]
 have vS:=qh hok
 have znZ:Hid (xU ⟨vars,dom,cs⟩ ⟨mod,bnd⟩ t.buf k=false->r=false):=λe=>uR.out (by rw [z0q.out];exact pR k hlk e)
 clear hx he1 he2 hok uR
 go_upto_region 24 with fail
 clear t5 e1 e2
 have hBX:=(Below.refl wr.heap.size wr).alloc (Nat.le_refl _) (.cells #[.int .i64 xv, .int .i64 xn] 136)
 have hXB:=yE wr (.cells #[.int .i64 xv, .int .i64 xn] 136)
 have HXB:=qh hXB
 have xC:=qh (zB HBK.out hBX)
 have HOX:=qh (zW.below HOB.out hBX)
 clear hBX hXB
 generalize World.alloc wr _=Wx at HXB xC HOX ⊢
 obtain⟨xb,hxb⟩:∃xb,xb=wr.heap.size:=⟨_,rfl⟩
 rw [<-hxb] at HXB ⊢
 clear hxb
 have zpU:=qh (zB HBT.out xC.out)
 obtain⟨c0,c1,c2,c3,c4,c5,c6⟩:=HC.out Wx zpU.out
 have z0:=za HXB.out 0
 have z1:=za HXB.out 1
 have hlen:(t.buf.take k).length=k:=by rw [List.length_take, <-vG.out];omega
 have bM:=qh (zpi Wx _ _ HOX.out (by rw [hlen];omega) ⟨mod,bnd⟩ ⟨xv,xn⟩)
 clear hlen
 go_wp2_with fail
 refine(bM.out).mono ?_
 rintro e Wy ⟨⟨wO,rfl,hbv, -⟩,hby⟩
 obtain⟨oa',oc',rfl, -⟩:=ze.slice hbv
 obtain⟨pl,hpl⟩:∃pl,pl=(vF (t.buf.take k) ⟨mod,bnd⟩ ⟨xv,xn⟩).length:=⟨_,rfl⟩
 rw [<-hpl] at hbv ⊢
 have gF:=qh hpl
 clear hpl
 rw [<-vS.out]
 have pz:=qh hbv
 have vM:=qh (zB xC.out hby)
 have zhh:=qh (zB HBT.out vM.out)
 clear c0 c1 c2 c3 c4 c5 c6
 obtain⟨c0,c1,c2,c3,c4,c5,c6⟩:=HC.out Wy zhh.out
 have y0:=zh hby _ _ z0
 have y1:=zh hby _ _ z1
 clear z0 z1 hbv hby bM
 cases ok with
 |false=>
  obtain rfl:=znZ.out (by rw [HWO.out];rfl)
  clear HR4
  go_wp2_with fail
  go_ret
  exact⟨by first|rfl|simp,yL.out _ zhh.out⟩
 |true=>
 have hpb:vF (t.buf.take k) ⟨mod,bnd⟩ ⟨xv,xn⟩=t.buf.take (k+1):=by unfold vF;rw [<-vS.out,jX.out];rfl
 have HPB:=qh hpb
 clear hpb
 by_cases a1:0<=xv
 rotate_left
 ·obtain rfl:=znZ.out (by rw [HWO.out,decide_eq_false a1];simp)
  clear HR4
  go_wp2_with fail
  go_ret
  exact⟨by first|rfl|simp,yL.out _ zhh.out⟩
 by_cases a2:xv<vars
 rotate_left
 ·obtain rfl:=znZ.out (by rw [HWO.out,decide_eq_false a2];simp)
  clear HR4
  go_wp2_with fail
  go_ret
  exact⟨by first|rfl|simp,yL.out _ zhh.out⟩
 by_cases a3:0<=xn
 rotate_left
 ·obtain rfl:=znZ.out (by rw [HWO.out,decide_eq_false a3];simp)
  clear HR4
  go_wp2_with fail
  go_ret
  exact⟨by first|rfl|simp,yL.out _ zhh.out⟩
 by_cases a4:xn<dom
 rotate_left
 ·obtain rfl:=znZ.out (by rw [HWO.out,decide_eq_false a4];simp)
  clear HR4
  go_wp2_with fail
  go_ret
  exact⟨by first|rfl|simp,yL.out _ zhh.out⟩
 have hwo:xU ⟨vars,dom,cs⟩ ⟨mod,bnd⟩ t.buf k=true:=by rw [HWO.out,decide_eq_true a1,decide_eq_true a2,decide_eq_true a3,decide_eq_true a4];rfl
 have z7b:=qh hwo
 clear hwo
 obtain rfl:pl=k+1:=by rw [gF.out,HPB.out,List.length_take, <-vG.out];omega
 go_wp2_with fail
 go_roundg (bl - (k+1))
 case measure=>rw [z7a.out];omega
 case rel=>exact⟨k+1,oa',oc',by omega,rfl,by first|rfl|simp,by simp,by rw [Hid, <-HPB.out];exact pz.out,vM.out,λj hj=>by
  by_cases he:j=k
  ·subst he;exact z7b.out
  exact z0r.out j (by omega)⟩
