/- Steps. -/
import Derived.Test.YtnhahkiojbanfaaGreatDoorRsCodeR
import Derived.Test.YtnhahkiojbanfaaGreatDoorRsOwnS
set_option linter.all false
namespace Go.Proofs.YtnhahkiojbanfaaGreatDoor
open Go.RowKit
set_option maxRecDepth 100000
set_option maxHeartbeats 16000000
def zW (F:Nat->Prop) (X:World) (P:World->Prop):Prop:=∀X',Since F X X'->P X'
section
variable {F F' G:Nat->Prop} {X X':World} {P:World->Prop}
theorem zW.now (h:zW F X P):P X:=h X (Since.refl _ _)
theorem zW.step (h:zW F X P) (hs:Since G X X') (hG:∀k,G k->F k\/X.heap.size<=k) (hF:∀k,F' k->F k\/X.heap.size<=k):zW F' X' P:=λX'' h2=>
 h X'' ((hs.mono (G:=F) (λk hk hg=>(hG k hg).elim id (λh=>absurd hk (Nat.not_lt.2 h)))).trans h2 hF)
end
end Go.Proofs.YtnhahkiojbanfaaGreatDoor
namespace Go.Proofs.YtnhahkiojbanfaaGreatDoor
open Go.RowKit
set_option maxRecDepth 100000
set_option maxHeartbeats 16000000
theorem zxF (w:World) (c:zD) (tv:Value) (d:Nat) (h:yS d w tv c.threads) (m:zy):Calls Tryz.prog 26 #[yQ c tv,qg m] w λe w'=>e= .returned (.bool (qA c m))/\Below w.heap.size w w':=by
 obtain⟨ta,tc,rfl,htl⟩:=zh.slice h
 obtain⟨r,hr⟩:∃r,r=qA c m:=⟨_,rfl⟩
 obtain⟨co,hco⟩:∃co,co=codeOk c:=⟨_,rfl⟩
 have hcode:=λW (hW:yS d W (.slice ta c.threads.length tc) c.threads)=>zhG W c (.slice ta c.threads.length tc) d hW
 rw [<-hco] at hcode
 have hr2:r=(co && decide (0<=m.model) && decide (m.model<=2) && decide (1<=m.bound) && decide (m.bound<=8)):=by rw [hr,hco];rfl
 rw [<-hr]
 obtain⟨vars,dom,cs⟩:=c
 obtain⟨mod,bnd⟩:=m
 simp only [] at h htl hcode hr2 ⊢
 unfold yQ qg
 unfold yQ at hcode
 simp only [] at hcode ⊢
 obtain⟨n,hn⟩:∃n,n=cs.length:=⟨_,rfl⟩
 rw [<-hn] at h htl hcode ⊢
 have hB:=xO w (.cells #[.int .i64 vars, .int .i64 dom, .slice ta n tc] 26) (.cells #[.int .i64 mod, .int .i64 bnd] 29)
 have HB:=qh hB
 have H1:=qh (xP w (.cells #[.int .i64 vars, .int .i64 dom, .slice ta n tc] 26) (.cells #[.int .i64 mod, .int .i64 bnd] 29))
 have H2:=qh (xw w (.cells #[.int .i64 vars, .int .i64 dom, .slice ta n tc] 26) (.cells #[.int .i64 mod, .int .i64 bnd] 29))
 have HT:=qh (zh.below (qD.stays d) h hB)
 have zbr:=qh hcode
 have HR:=qh hr2
 clear h hB hcode hr hr2 hco hn
 go_enter Tryz.func26,Tryz.ntmps26
 go_upto_region 1 with fail
 generalize World.alloc (World.alloc w _) _=W at HB H1 H2 HT ⊢
 obtain⟨gx,hgx⟩:∃gx,gx=w.heap.size:=⟨_,rfl⟩
 rw [<-hgx] at H1 H2 ⊢
 clear hgx
 have c0:=ze H1.out 0
 have c1:=ze H1.out 1
 have c2:=ze H1.out 2
 go_wp2_with fail
 refine(zbr.out W HT.out).mono ?_
 rintro e W1 ⟨rfl,hb⟩
 have HB1:=qh hb
 have d0:=zk hb _ _ (ze H2.out 0)
 have d1:=zk hb _ _ (ze H2.out 1)
 clear hb c0 c1 c2
 have yG:Hid (Below w.heap.size w W1):=HB.out.trans (HB1.out.mono HB.out.size)
 cases co with
 |false=>
  obtain rfl:r=false:=by rw [HR.out];rfl
  clear HR
  go_wp2_with fail
  go_ret
  exact⟨by first|rfl|(simp;done)|(simp;omega),yG.out⟩
 |true=>
 by_cases h0:0<=mod
 rotate_left
 ·obtain rfl:r=false:=by have e:decide (0<=mod)=false:=decide_eq_false h0;rw [HR.out,e];simp
  clear HR
  go_wp2_with fail
  go_ret
  exact⟨by first|rfl|(simp;done)|(simp;omega),yG.out⟩
 by_cases h1:mod<=2
 rotate_left
 ·obtain rfl:r=false:=by have e:decide (mod<=2)=false:=decide_eq_false h1;rw [HR.out,e];simp
  clear HR
  go_wp2_with fail
  go_ret
  exact⟨by first|rfl|(simp;done)|(simp;omega),yG.out⟩
 by_cases h2:1<=bnd
 ·by_cases h3:bnd<=8
  ·obtain rfl:r=true:=by rw [HR.out];simp [h0,h1,h2,h3]
   clear HR
   go_wp2_with fail
   go_ret
   exact⟨by first|rfl|(simp;done)|(simp;omega),yG.out⟩
  obtain rfl:r=false:=by have e:decide (bnd<=8)=false:=decide_eq_false h3;rw [HR.out,e];simp
  clear HR
  go_wp2_with fail
  go_ret
  exact⟨by first|rfl|(simp;done)|(simp;omega),yG.out⟩
 obtain rfl:r=false:=by have e:decide (1<=bnd)=false:=decide_eq_false h2;rw [HR.out,e];simp
 clear HR
 go_wp2_with fail
 go_ret
 exact⟨by first|rfl|(simp;done)|(simp;omega),yG.out⟩
theorem zec (c:zD) (ta:Option Addr) (tc d:Nat) (m:zy) (w:World) (h:yS d w (.slice ta c.threads.length tc) c.threads):Calls Tryz.prog 26 #[.agg #[.int .i64 c.vars, .int .i64 c.domain, .slice ta c.threads.length tc], .agg #[.int .i64 m.model, .int .i64 m.bound]] w λe w'=>e= .returned (.bool (qA c m))/\Below w.heap.size w w':=zxF w c _ d h m
theorem zcT {n:Nat} {p:Nat->Bool} (h:∀j,j<n->p j=true):(List.range n).all p=true:=by
 rw [List.all_eq_true];intro j hj;exact h j (List.mem_range.1 hj)
theorem zbf {n:Nat} {p:Nat->Bool} (j:Nat) (hj:j<n) (h:p j=false):(List.range n).all p=false:=by
 rw [List.all_eq_false];exact⟨j,List.mem_range.2 hj,by simp [h]⟩
theorem zqN {q0 q1 q2 q3:Int} {w:World} {b:Nat} {t:TypeId} {pc:Value} {bv:Value} {f:Nat × Nat} (h:w.heap[b]? =some (.cells #[pc, .int .i64 q0, .int .i64 q1, .int .i64 q2, .int .i64 q3,bv] t f)) {k:Nat} (hk:k<4):w.cell? ⟨b,1+k,none⟩=some (.int .i64 ([q0,q1,q2,q3].getD k 0)):=by
 rw [ze h]
 have:k=0\/k=1\/k=2\/k=3:=by omega
 rcases this with rfl|rfl|rfl|rfl<;>rfl
theorem zkV (w:World) (c:zD) (tv:Value) (d:Nat) (hc:yS d w tv c.threads) (m:zy) (s:zi) (sv mv:Value) (hs:zX w s sv mv) (hb:∀j,j<s.threads.length->(s.threads.getD j default).buf.length<=1000000):
  Calls Tryz.prog 48 #[yQ c tv,qg m,yA s sv mv] w λe w'=>e= .returned (.bool (yB c m s))/\Below w.heap.size w w':=by
 obtain⟨ca,cc,rfl,hcl⟩:=zh.slice hc
 obtain⟨ta,tc,rfl,htl⟩:=zh.slice hs.threads
 obtain⟨ma,mc,rfl,hml⟩:=zh.slice hs.mem
 obtain⟨r,hr⟩:∃r,r=yB c m s:=⟨_,rfl⟩
 obtain⟨mo,hmo⟩:∃mo,mo=qA c m:=⟨_,rfl⟩
 have hmay:=zec c ca cc d m
 rw [<-hmo] at hmay
 obtain⟨vars,dom,cs⟩:=c
 obtain⟨mod,bnd⟩:=m
 obtain⟨ts,mem,bad⟩:=s
 simp only [] at hc hcl hs htl hml hb hmay ⊢
 obtain⟨n,hn⟩:∃n,n=ts.length:=⟨_,rfl⟩
 obtain⟨cn,hcn⟩:∃cn,cn=cs.length:=⟨_,rfl⟩
 obtain⟨k,hk⟩:∃k,k=mem.length:=⟨_,rfl⟩
 have hr2:r=(mo && decide (n=cn) && decide ((k:Int)=vars) && (List.range k).all (λj=>qj dom (mem.getD j 0)) && (List.range n).all (vS ⟨vars,dom,cs⟩ ⟨mod,bnd⟩ ⟨ts,mem,bad⟩)):=by rw [hr,hmo,hn,hcn,hk];rfl
 rw [<-hr]
 have hT:=hs.threads
 have hM:=hs.mem
 simp only [] at hT hM
 unfold yQ qg yA
 simp only []
 rw [<-hn] at hT hb htl ⊢
 rw [<-hk] at hM hml ⊢
 rw [<-hcn] at hc hcl hmay ⊢
 clear hs
 have hB:=zaG w (.cells #[.int .i64 vars, .int .i64 dom, .slice ca cn cc] 26) (.cells #[.int .i64 mod, .int .i64 bnd] 29) (.cells #[.slice ta n tc, .slice ma k mc, .bool bad] 42)
 have HB:=qh hB
 have H1:=qh (zaH w (.cells #[.int .i64 vars, .int .i64 dom, .slice ca cn cc] 26) (.cells #[.int .i64 mod, .int .i64 bnd] 29) (.cells #[.slice ta n tc, .slice ma k mc, .bool bad] 42))
 have H2:=qh (zau w (.cells #[.int .i64 vars, .int .i64 dom, .slice ca cn cc] 26) (.cells #[.int .i64 mod, .int .i64 bnd] 29) (.cells #[.slice ta n tc, .slice ma k mc, .bool bad] 42))
 have H3:=qh (zaI w (.cells #[.int .i64 vars, .int .i64 dom, .slice ca cn cc] 26) (.cells #[.int .i64 mod, .int .i64 bnd] 29) (.cells #[.slice ta n tc, .slice ma k mc, .bool bad] 42))
 have HT:=qh (zh.below wN.stays hT hB)
 have HM:=qh (zh.below zae.stays hM hB)
 have wQ:=qh (zh.below (qD.stays d) hc hB)
 have zbg:=qh hmay
 have HBU:=qh hb
 have HN:=qh hn
 have HK:=qh hk
 have HCN:=qh hcn
 have HR:=qh hr2
 clear hc hT hM hB hb hn hk hcn hr hr2 hmo hmay
 go_enter Tryz.func48,Tryz.ntmps48
 go_upto_region 1 with fail
 generalize World.alloc (World.alloc (World.alloc w _) _) _=W at HB H1 H2 H3 HT HM wQ ⊢
 obtain⟨gx,hgx⟩:∃gx,gx=w.heap.size:=⟨_,rfl⟩
 rw [<-hgx] at H1 H2 H3 ⊢
 clear hgx
 have HC:Hid (∀x,Below W.heap.size W x->x.cell? ⟨gx,0,none⟩=some (.int .i64 vars)/\x.cell? ⟨gx,1,none⟩=some (.int .i64 dom)/\x.cell? ⟨gx,2,none⟩=some (.slice ca cn cc)/\
   x.cell? ⟨gx+1,0,none⟩=some (.int .i64 mod)/\x.cell? ⟨gx+1,1,none⟩=some (.int .i64 bnd)/\x.cell? ⟨gx+2,0,none⟩=some (.slice ta n tc)/\x.cell? ⟨gx+2,1,none⟩=some (.slice ma k mc)):=λx hx=>
  ⟨zk hx _ _ (ze H1.out 0),zk hx _ _ (ze H1.out 1),zk hx _ _ (ze H1.out 2),zk hx _ _ (ze H2.out 0),zk hx _ _ (ze H2.out 1),zk hx _ _ (ze H3.out 0),zk hx _ _ (ze H3.out 1)⟩
 obtain⟨c0,c1,c2,c3,c4,c5,c6⟩:=HC.out W (Below.refl _ _)
 go_wp2_with fail
 refine(zbg.out W wQ.out).mono ?_
 rintro e W1 ⟨rfl,hb1⟩
 have HB1:=qh hb1
 clear hb1 zbg c0 c1 c2 c3 c4 c5 c6
 obtain⟨c0,c1,c2,c3,c4,c5,c6⟩:=HC.out W1 HB1.out
 have yG:Hid (∀x,Below W.heap.size W x->Below w.heap.size w x):=λx hx=>HB.out.trans (hx.mono HB.out.size)
 cases mo with
 |false=>
  obtain rfl:r=false:=by rw [HR.out];rfl
  clear HR
  go_wp2_with fail
  go_ret
  exact⟨by first|rfl|simp,yG.out _ HB1.out⟩
 |true=>
 by_cases h1:n=cn
 rotate_left
 ·obtain rfl:r=false:=by rw [HR.out];simp [h1]
  clear HR
  have h1b:((n:Int) !=(cn:Int))=true:=by simp;omega
  clear h1
  go_wp2_with fail
  go_ret
  exact⟨by first|rfl|simp,yG.out _ HB1.out⟩
 have h1I:((n:Int)==(cn:Int))=true:=by simp [h1]
 by_cases h2:(k:Int)=vars
 rotate_left
 ·obtain rfl:r=false:=by rw [HR.out];simp [h2]
  clear HR
  have h2b:((k:Int) !=vars)=true:=by simp [h2]
  have h1b:((n:Int) !=(cn:Int))=false:=by simp [h1]
  clear h1 h2
  go_wp2_with fail
  go_ret
  exact⟨by first|rfl|simp,yG.out _ HB1.out⟩
 have h2I:((k:Int)==vars)=true:=by simp [h2]
 have HR3:Hid (r=((List.range k).all (λj=>qj dom (mem.getD j 0)) && (List.range n).all (vS ⟨vars,dom,cs⟩ ⟨mod,bnd⟩ ⟨ts,mem,bad⟩))):=by rw [Hid,HR.out];simp [h1,h2]
 have h1b:((n:Int) !=(cn:Int))=false:=by simp [h1]
 have h2b:((k:Int) !=vars)=false:=by simp [h2]
 have H1N:=qh h1
 clear HR h1 h2
 go_wp2_with fail
 clear c0 c1 c2 c3 c4 c5 c6
 go_loopg [7] k (λgg s7 wr=>∃i:Nat,i<=k/\Hid (gg=k - i)/\s7= .int .i64 i/\Hid (Below W.heap.size W wr)/\Hid (∀j,j<i->qj dom (mem.getD j 0)=true))
 case atStart=>exact⟨0,Nat.zero_le _,rfl,rfl,HB1.out,λj hj=>by omega⟩
 case round=>
 obtain⟨i,hi,HG,rfl,zL,HJ⟩:=hrel
 obtain⟨c0,c1,c2,c3,c4,c5,c6⟩:=HC.out wr zL.out
 by_cases hlt:i<k
 ·have qN:(i:Int)<(k:Int):=by omega
  obtain⟨eb,eo,yh, -,he1⟩:=qm.part HM.out i (by rw [<-HK.out];exact hlt)
  subst yh
  obtain⟨x,hx⟩:∃x,x=mem.getD i 0:=⟨_,rfl⟩
  rw [<-hx] at he1
  have e1:=zk zL.out _ _ he1
  have HX:=qh hx
  clear he1 hx
  by_cases a1:x<0
  ·obtain rfl:r=false:=by rw [HR3.out,zbf i hlt (by rw [<-HX.out];unfold qj;simp;omega)];rfl
   clear HR3
   go_wp2_with fail
   go_quiet (fail)
   go_wp2_with fail
   go_ret
   exact⟨by first|rfl|simp,yG.out _ (yg zL.out _)⟩
  by_cases a2:dom<=x
  ·obtain rfl:r=false:=by rw [HR3.out,zbf i hlt (by rw [<-HX.out];unfold qj;simp;omega)];rfl
   clear HR3
   go_wp2_with fail
   go_quiet (fail)
   go_wp2_with fail
   go_ret
   exact⟨by first|rfl|simp,yG.out _ (yg zL.out _)⟩
  go_wp2_with fail
  go_quiet (fail)
  go_wp2_with fail
  go_roundg (k - (i+1))
  case measure=>rw [HG.out];omega
  case rel=>exact⟨i+1,by omega,rfl,by simp,yg zL.out _,λj hj=>by
   by_cases he:j=i
   ·subst he;rw [<-HX.out];unfold qj;simp;omega
   exact HJ.out j (by omega)⟩
 obtain rfl:k=i:=by omega
 have HR4:Hid (r=(List.range n).all (vS ⟨vars,dom,cs⟩ ⟨mod,bnd⟩ ⟨ts,mem,bad⟩)):=by rw [Hid,HR3.out,zcT HJ.out,Bool.true_and]
 clear HR3
 go_wp2_with fail
 clear c0 c1 c2 c3 c4 c5 c6
 go_loopg [8] n (λgg s8 wr=>∃i:Nat,i<=n/\Hid (gg=n - i)/\s8= .int .i64 i/\Hid (Below W.heap.size W wr)/\Hid (∀j,j<i->vS ⟨vars,dom,cs⟩ ⟨mod,bnd⟩ ⟨ts,mem,bad⟩ j=true))
 case atStart=>exact⟨0,Nat.zero_le _,rfl,rfl,zL.out,λj hj=>by omega⟩
 case round=>
 obtain⟨i,hi,HG8,rfl,HBI,HJ8⟩:=hrel
 obtain⟨wo,rfl⟩:∃wo:World,wo=wr:=⟨_,rfl⟩
 obtain⟨c0,c1,c2,c3,c4,c5,c6⟩:=HC.out wo HBI.out
 by_cases hlt:i<n
 rotate_left
 ·obtain rfl:n=i:=by omega
  obtain rfl:r=true:=by rw [HR4.out];exact zcT HJ8.out
  clear HR4
  go_wp2_with fail
  go_ret
  exact⟨by first|rfl|simp,yG.out _ HBI.out⟩
 have qN:(i:Int)<(n:Int):=by omega
 have z9R:(i:Int)<(cn:Int):=by have:=H1N.out;omega
 obtain⟨tb,yJ,ba,bc,hta, -,hr4,x0,x1,x2,x3,x4,x5,hbuf⟩:=qG.part HT.out i (by rw [<-HN.out];exact hlt)
 obtain⟨eb,eo,ka,kc,hca, -,hec, -⟩:=yS.part wQ.out i (by rw [<-HCN.out, <-H1N.out];exact hlt)
 subst hta
 subst hca
 obtain⟨t,ht⟩:∃t,t=ts.getD i default:=⟨_,rfl⟩
 rw [<-ht] at hr4 x0 x1 x2 x3 x4 x5 hbuf
 obtain⟨ln,hln⟩:∃ln,ln=(cs.getD i []).length:=⟨_,rfl⟩
 rw [<-hln] at hec
 have hbl:=HBU.out i hlt
 rw [<-ht] at hbl
 have k9:=λp v h=>zk HBI.out p v h
 replace x0:=k9 _ _ x0
 replace x1:=k9 _ _ x1
 replace x2:=k9 _ _ x2
 replace x3:=k9 _ _ x3
 replace x4:=k9 _ _ x4
 replace x5:=k9 _ _ x5
 have y0:=k9 _ _ hec
 obtain⟨q0,q1,q2,q3,hq⟩:=wO hr4
 obtain⟨pc,hpc⟩:∃pc,pc=t.pc:=⟨_,rfl⟩
 obtain⟨bl,kG⟩:∃bl,bl=t.buf.length:=⟨_,rfl⟩
 have hto:vS ⟨vars,dom,cs⟩ ⟨mod,bnd⟩ ⟨ts,mem,bad⟩ i=(decide (0<=pc) && decide (pc<=(ln:Int)) && (List.range 4).all (λk=>qj dom ([q0,q1,q2,q3].getD k 0)) && (List.range bl).all (qV ⟨vars,dom,cs⟩ ⟨mod,bnd⟩ t.buf)):=by
  rw [hln,kG,hpc, <-hq,ht];rfl
 have HTO:=qh hto
 have zaz:Hid (vS ⟨vars,dom,cs⟩ ⟨mod,bnd⟩ ⟨ts,mem,bad⟩ i=false->r=false):=λe=>by rw [HR4.out,zbf i hlt e]
 have wK:Hid (vS ⟨vars,dom,cs⟩ ⟨mod,bnd⟩ ⟨ts,mem,bad⟩ i=true->∀j,j<i+1->vS ⟨vars,dom,cs⟩ ⟨mod,bnd⟩ ⟨ts,mem,bad⟩ j=true):=λe j hj=>by
  by_cases he:j=i
  ·subst he;exact e
  exact HJ8.out j (by omega)
 rw [<-hpc] at x0
 rw [hq] at x1 x2 x3 x4
 simp only [List.getD_cons_zero,List.getD_cons_succ] at x1 x2 x3 x4
 rw [<-kG] at x5 hbl hbuf
 have zhb:=qh hbuf
 have jd:=qh kG
 clear ht hq hpc kG hto hr4 k9 hec hln hbuf
 go_upto_region 12 with fail
 clear c0 c1 c2 c3 c4 c5 c6 x0 x1 x2 x3 x4 x5
 have hBT:=HBI.out.alloc HBI.out.size (.cells #[.int .i64 pc, .int .i64 q0, .int .i64 q1, .int .i64 q2, .int .i64 q3, .slice ba bl bc] 80)
 have hTB:=yj wo (.cells #[.int .i64 pc, .int .i64 q0, .int .i64 q1, .int .i64 q2, .int .i64 q3, .slice ba bl bc] 80)
 have y1:=zk ((Below.refl wo.heap.size wo).alloc (Nat.le_refl _) (.cells #[.int .i64 pc, .int .i64 q0, .int .i64 q1, .int .i64 q2, .int .i64 q3, .slice ba bl bc] 80)) _ _ y0
 clear y0
 have HBT:=qh hBT
 have HTB:=qh hTB
 clear hBT hTB
 generalize World.alloc wo _=Wt at HBT HTB y1 ⊢
 obtain⟨nb,hnb⟩:∃nb,nb=wo.heap.size:=⟨_,rfl⟩
 rw [<-hnb] at HTB ⊢
 clear hnb
 obtain⟨c0,c1,c2,c3,c4,c5,c6⟩:=HC.out Wt HBT.out
 have t0:=ze HTB.out 0
 by_cases p1:pc<0
 ·obtain rfl:=zaz.out (by rw [HTO.out,decide_eq_false (by omega)];rfl)
  clear HR4
  go_wp2_with fail
  go_quiet (fail)
  go_wp2_with fail
  go_ret
  exact⟨by first|rfl|simp,yG.out _ (yg HBT.out _)⟩
 by_cases p2:(ln:Int)<pc
 ·obtain rfl:=zaz.out (by(have e:decide (pc<=(ln:Int))=false:=decide_eq_false (by omega));rw [HTO.out,e];simp)
  clear HR4
  go_wp2_with fail
  go_quiet (fail)
  go_wp2_with fail
  go_ret
  exact⟨by first|rfl|simp,yG.out _ (yg HBT.out _)⟩
 have zoS:Hid (vS ⟨vars,dom,cs⟩ ⟨mod,bnd⟩ ⟨ts,mem,bad⟩ i=((List.range 4).all (λk=>qj dom ([q0,q1,q2,q3].getD k 0)) && (List.range bl).all (qV ⟨vars,dom,cs⟩ ⟨mod,bnd⟩ t.buf))):=by
  have e:decide (pc<=(ln:Int))=true:=decide_eq_true (by omega)
  have e2:decide (0<=pc)=true:=decide_eq_true (by omega)
  rw [Hid,HTO.out,e,e2,Bool.true_and,Bool.true_and]
 clear HTO
 go_wp2_with fail
 go_quiet (fail)
 go_wp2_with fail
 clear c0 c1 c2 c3 c4 c5 c6 t0 y1 p1 p2
 go_loopg [10] 4 (λgg s10 wr=>∃q:Nat,q<=4/\Hid (gg=4 - q)/\s10= .int .i64 q/\Hid (Below Wt.heap.size Wt wr)/\Hid (∀j,j<q->qj dom ([q0,q1,q2,q3].getD j 0)=true))
 case atStart=>exact⟨0,Nat.zero_le _,rfl,rfl,yg (Below.refl _ _) _,λj hj=>by omega⟩
 case round=>
 obtain⟨q,hqq,z5d,rfl,HBQ,zt8⟩:=hrel
 have zt9:=qh (zH HBT.out HBQ.out)
 obtain⟨c0,c1,c2,c3,c4,c5,c6⟩:=HC.out wr zt9.out
 by_cases hlq:q<4
 ·have z5e:(q:Int)<4:=by omega
  have e1:=zk HBQ.out _ _ (zqN HTB.out hlq)
  obtain⟨x,hx⟩:∃x,x= [q0,q1,q2,q3].getD q 0:=⟨_,rfl⟩
  rw [<-hx] at e1
  have HX:=qh hx
  clear hx
  by_cases a1:x<0
  ·obtain rfl:=zaz.out (by rw [zoS.out,zbf q hlq (by rw [<-HX.out];unfold qj;simp;omega)];rfl)
   clear HR4
   go_wp2_with fail
   go_quiet (fail)
   go_wp2_with fail
   go_ret
   exact⟨by first|rfl|simp,yG.out _ (yg zt9.out _)⟩
  by_cases a2:dom<=x
  ·obtain rfl:=zaz.out (by rw [zoS.out,zbf q hlq (by rw [<-HX.out];unfold qj;simp;omega)];rfl)
   clear HR4
   go_wp2_with fail
   go_quiet (fail)
   go_wp2_with fail
   go_ret
   exact⟨by first|rfl|simp,yG.out _ (yg zt9.out _)⟩
  go_wp2_with fail
  go_quiet (fail)
  go_wp2_with fail
  go_roundg (4 - (q+1))
  case measure=>rw [z5d.out];omega
  case rel=>exact⟨q+1,by omega,rfl,by simp,yg HBQ.out _,λj hj=>by
   by_cases he:j=q
   ·subst he;rw [<-HX.out];unfold qj;simp;omega
   exact zt8.out j (by omega)⟩
 obtain rfl:q=4:=by omega
 have zy1:Hid (vS ⟨vars,dom,cs⟩ ⟨mod,bnd⟩ ⟨ts,mem,bad⟩ i=(List.range bl).all (qV ⟨vars,dom,cs⟩ ⟨mod,bnd⟩ t.buf)):=by rw [Hid,zoS.out,zcT zt8.out,Bool.true_and]
 clear zoS zt8
 go_wp2_with fail
 clear c0 c1 c2 c3 c4 c5 c6
 go_loopg [11,12] bl (λgg s11 s12 wr=>∃(k:Nat) (oa:Option Addr) (oc:Nat),k<=bl/\Hid (gg=bl - k)/\s11= .slice oa k oc/\s12= .int .i64 k/\Hid (zZ wr (.slice oa k oc) (t.buf.take k))/\Hid (Below Wt.heap.size Wt wr)/\Hid (∀j,j<k->qV ⟨vars,dom,cs⟩ ⟨mod,bnd⟩ t.buf j=true))
 case atStart=>exact⟨0,none,0,Nat.zero_le _,rfl,rfl,rfl,by rw [Hid,List.take_zero];exact zh.nil _,HBQ.out,λj hj=>by omega⟩
 case round=>
 obtain⟨k,oa,oc,hk,z5f,rfl,rfl,HOB,HBK,zy2⟩:=hrel
 have t5:=zk HBK.out _ _ (ze HTB.out 5)
 by_cases hlk:k<bl
 rotate_left
 ·obtain rfl:bl=k:=by omega
  have hyes:=wK.out (by rw [zy1.out];exact zcT zy2.out)
  have HYE:=qh hyes
  clear hyes
  go_wp2_with fail
  go_roundg (n - (i+1))
  case measure=>rw [HG8.out];omega
  case rel=>exact⟨i+1,by omega,rfl,by simp,zH HBT.out HBK.out,HYE.out⟩
 have z5g:(k:Int)<(bl:Int):=by omega
 obtain⟨bb,bo,hba, -,he1,he2⟩:=zZ.part zhb.out k (by rw [<-jd.out];exact hlk)
 subst hba
 obtain⟨x,hx⟩:∃x,x=t.buf.getD k default:=⟨_,rfl⟩
 rw [<-hx] at he1 he2
 have zy3:=qh (zH HBT.out HBK.out)
 have e1:=zk zy3.out _ _ he1
 have e2:=zk zy3.out _ _ he2
 have j3:Hid (t.buf.take (k+1)=t.buf.take k++ [x]):=bE (by rw [<-jd.out];exact hlk) hx
 obtain⟨xv,xn⟩:=x
 simp only [] at e1 e2
 obtain⟨ok,hok⟩:∃ok,ok=qX (t.buf.take k) ⟨mod,bnd⟩ ⟨xv,xn⟩:=⟨_,rfl⟩
 have HWO:Hid (qV ⟨vars,dom,cs⟩ ⟨mod,bnd⟩ t.buf k=(ok && decide (0<=xv) && decide (xv<vars) && decide (0<=xn) && decide (xn<dom))):=by rw [Hid,hok];unfold qV;rw [<-hx]
 have je:=qh hok
 have zbL:Hid (qV ⟨vars,dom,cs⟩ ⟨mod,bnd⟩ t.buf k=false->r=false):=λe=>zaz.out (by rw [zy1.out];exact zbf k hlk e)
 clear hx he1 he2 hok zaz
 go_upto_region 24 with fail
 clear t5 e1 e2
 have hBX:=(Below.refl wr.heap.size wr).alloc (Nat.le_refl _) (.cells #[.int .i64 xv, .int .i64 xn] 110)
 have hXB:=yj wr (.cells #[.int .i64 xv, .int .i64 xn] 110)
 have HXB:=qh hXB
 have xI:=qh (zH HBK.out hBX)
 have HOX:=qh (zZ.below HOB.out hBX)
 clear hBX hXB
 generalize World.alloc wr _=Wx at HXB xI HOX ⊢
 obtain⟨xb,hxb⟩:∃xb,xb=wr.heap.size:=⟨_,rfl⟩
 rw [<-hxb] at HXB ⊢
 clear hxb
 have zaf:=qh (zH HBT.out xI.out)
 obtain⟨c0,c1,c2,c3,c4,c5,c6⟩:=HC.out Wx zaf.out
 have z0:=ze HXB.out 0
 have z1:=ze HXB.out 1
 have hlen:(t.buf.take k).length=k:=by rw [List.length_take, <-jd.out];omega
 have jE:=qh (znT Wx _ _ HOX.out (by rw [hlen];omega) ⟨mod,bnd⟩ ⟨xv,xn⟩)
 clear hlen
 go_wp2_with fail
 refine(jE.out).mono ?_
 rintro e Wy ⟨⟨bv',rfl,hbv, -⟩,hby⟩
 obtain⟨oa',oc',rfl, -⟩:=zh.slice hbv
 obtain⟨pl,hpl⟩:∃pl,pl=(jM (t.buf.take k) ⟨mod,bnd⟩ ⟨xv,xn⟩).length:=⟨_,rfl⟩
 rw [<-hpl] at hbv ⊢
 have jS:=qh hpl
 clear hpl
 rw [<-je.out]
 have HBV:=qh hbv
 have jC:=qh (zH xI.out hby)
 have zjh:=qh (zH HBT.out jC.out)
 clear c0 c1 c2 c3 c4 c5 c6
 obtain⟨c0,c1,c2,c3,c4,c5,c6⟩:=HC.out Wy zjh.out
 have y0:=zk hby _ _ z0
 have y1:=zk hby _ _ z1
 clear z0 z1 hbv hby jE
 cases ok with
 |false=>
  obtain rfl:=zbL.out (by rw [HWO.out];rfl)
  clear HR4
  go_wp2_with fail
  go_ret
  exact⟨by first|rfl|simp,yG.out _ zjh.out⟩
 |true=>
 have hpb:jM (t.buf.take k) ⟨mod,bnd⟩ ⟨xv,xn⟩=t.buf.take (k+1):=by unfold jM;rw [<-je.out,j3.out];rfl
 have HPB:=qh hpb
 clear hpb
 by_cases a1:0<=xv
 rotate_left
 ·obtain rfl:=zbL.out (by rw [HWO.out,decide_eq_false a1];simp)
  clear HR4
  go_wp2_with fail
  go_ret
  exact⟨by first|rfl|simp,yG.out _ zjh.out⟩
 by_cases a2:xv<vars
 rotate_left
 ·obtain rfl:=zbL.out (by rw [HWO.out,decide_eq_false a2];simp)
  clear HR4
  go_wp2_with fail
  go_ret
  exact⟨by first|rfl|simp,yG.out _ zjh.out⟩
 by_cases a3:0<=xn
 rotate_left
 ·obtain rfl:=zbL.out (by rw [HWO.out,decide_eq_false a3];simp)
  clear HR4
  go_wp2_with fail
  go_ret
  exact⟨by first|rfl|simp,yG.out _ zjh.out⟩
 by_cases a4:xn<dom
 rotate_left
 ·obtain rfl:=zbL.out (by rw [HWO.out,decide_eq_false a4];simp)
  clear HR4
  go_wp2_with fail
  go_ret
  exact⟨by first|rfl|simp,yG.out _ zjh.out⟩
 have hwo:qV ⟨vars,dom,cs⟩ ⟨mod,bnd⟩ t.buf k=true:=by rw [HWO.out,decide_eq_true a1,decide_eq_true a2,decide_eq_true a3,decide_eq_true a4];rfl
 have z5h:=qh hwo
 clear hwo
 obtain rfl:pl=k+1:=by rw [jS.out,HPB.out,List.length_take, <-jd.out];omega
 go_wp2_with fail
 go_roundg (bl - (k+1))
 case measure=>rw [z5f.out];omega
 case rel=>exact⟨k+1,oa',oc',by omega,rfl,by first|rfl|simp,by simp,by rw [Hid, <-HPB.out];exact HBV.out,jC.out,λj hj=>by
  by_cases he:j=k
  ·subst he;exact z5h.out
  exact zy2.out j (by omega)⟩
theorem zhH (w:World) (pc r0 r1 r2 r3:Int) (ba:Option Addr) (bl bc:Nat):Calls Tryz.prog 41 #[.agg #[.int .i64 pc, .int .i64 r0, .int .i64 r1, .int .i64 r2, .int .i64 r3, .slice ba bl bc]] w λe w'=>e= .returned (.bool (decide (0<bl)))/\Below w.heap.size w w':=by
 have hd:decide ((0:Int)<(bl:Int))=decide (0<bl):=by simp
 have HD:=qh hd
 clear hd
 go_enter Tryz.func41,Tryz.ntmps41
 go_wp2_with fail
 go_ret
 exact⟨by first|rfl|(simp;done)|(rw [<-HD.out];rfl),(Below.refl _ _).alloc (Nat.le_refl _) _⟩
def z2I (r:Int) (all:Bool):Prop:=(0<=r/\all=false)\/(r<0/\all=true)
theorem zkW {l:List zx} {i:Nat} (hi:i<l.length) (_h:∀j,j<i->(l.getD j default).buf.length=0) (he:0<(l.getD i default).buf.length):(l.all λt=>decide (t.buf.length=0))=false:=by
 rw [List.all_eq_false]
 refine⟨l.getD i default, ?_,by rw [decide_eq_false (by omega)];simp⟩
 rw [List.getD_eq_getElem?_getD,List.getElem?_eq_getElem hi];exact List.getElem_mem hi
theorem znU {l:List zx} (h:∀j,j<l.length->(l.getD j default).buf.length=0):(l.all λt=>decide (t.buf.length=0))=true:=by
 rw [List.all_eq_true]
 intro t ht
 obtain⟨j,hj,e⟩:=List.getElem_of_mem ht
 have:=h j hj
 rw [List.getD_eq_getElem?_getD,List.getElem?_eq_getElem hj] at this
 simp only [Option.getD_some,e] at this
 simp [this]
theorem zk4 (w:World) (sv:Value) (l:List zx) (h:qG w sv l):Calls Tryz.prog 64 #[sv, .func (.func 41) #[] #[]] w λe w'=>(∃r:Int,e= .returned (.int .i64 r)/\z2I r (l.all λt=>decide (t.buf.length=0)))/\Below w.heap.size w w':=by
 obtain⟨ta,tc,rfl,htl⟩:=zh.slice h
 have wK:Hid (∀i,i<l.length->(∀j,j<i->(l.getD j default).buf.length=0)->0<(l.getD i default).buf.length->(l.all λt=>decide (t.buf.length=0))=false):=λi hi h1 h2=>zkW hi h1 h2
 have uW:Hid ((∀j,j<l.length->(l.getD j default).buf.length=0)->(l.all λt=>decide (t.buf.length=0))=true):=λh=>znU h
 generalize (l.all λt=>decide (t.buf.length=0))=all at wK uW ⊢
 obtain⟨n,hn⟩:∃n,n=l.length:=⟨_,rfl⟩
 rw [<-hn] at h htl wK uW ⊢
 have HT:=qh h
 have HN:=qh hn
 clear h hn
 go_enter Tryz.func64,Tryz.ntmps64
 go_wp2_with fail
 go_loopg [8] n (λgg s8 wr=>∃i:Nat,i<=n/\Hid (gg=n - i)/\s8= .int .i64 i/\Hid (Below w.heap.size w wr)/\Hid (∀j,j<i->(l.getD j default).buf.length=0))
 case atStart=>exact⟨0,Nat.zero_le _,rfl,rfl,Below.refl _ _,λj hj=>by omega⟩
 case round=>
 obtain⟨i,hi,HG,rfl,zL,HJ⟩:=hrel
 by_cases hlt:i<n
 rotate_left
 ·obtain rfl:n=i:=by omega
  obtain rfl:=uW.out HJ.out
  go_wp2_with fail
  go_ret
  exact⟨⟨-1,by first|rfl|simp, .inr ⟨by omega,rfl⟩⟩,zL.out⟩
 have qN:(i:Int)<(n:Int):=by omega
 obtain⟨b,off,ba,bc,yh, -,hr4,x0,x1,x2,x3,x4,x5, -⟩:=qG.part HT.out i (by rw [<-HN.out];exact hlt)
 subst yh
 have HY:Hid (0<(l.getD i default).buf.length->all=false):=λh=>wK.out i hlt HJ.out h
 have HZ:Hid ((l.getD i default).buf.length=0->∀j,j<i+1->(l.getD j default).buf.length=0):=λe j hj=>by
  by_cases he:j=i
  ·subst he;exact e
  exact HJ.out j (by omega)
 generalize l.getD i default=t at x0 x1 x2 x3 x4 x5 hr4 HY HZ
 obtain⟨pc,rg,bf⟩:=t
 simp only [] at x0 x1 x2 x3 x4 x5 hr4 HY HZ
 generalize bf.length=bl at x5 HY HZ
 replace x0:=zk zL.out _ _ x0
 replace x1:=zk zL.out _ _ x1
 replace x2:=zk zL.out _ _ x2
 replace x3:=zk zL.out _ _ x3
 replace x4:=zk zL.out _ _ x4
 replace x5:=zk zL.out _ _ x5
 by_cases hbl:0<bl
 ·obtain rfl:=HY.out hbl
  have hd:decide (0<bl)=true:=decide_eq_true hbl
  go_wp2_with(go_at_call 41;go_must(refine(zhH _ _ _ _ _ _ _ _ _).mono ?_);rintro e w1 ⟨rfl,hb⟩;have HB1:=qh hb;clear hb)
  go_ret
  exact⟨⟨i,by first|rfl|simp, .inl ⟨by omega,rfl⟩⟩,zH zL.out HB1.out⟩
 have hd:decide (0<bl)=false:=decide_eq_false hbl
 have HZ2:=qh (HZ.out (by omega))
 go_wp2_with(go_at_call 41;go_must(refine(zhH _ _ _ _ _ _ _ _ _).mono ?_);rintro e w1 ⟨rfl,hb⟩;have HB1:=qh hb;clear hb)
 go_roundg (n - (i+1))
 case measure=>rw [HG.out];omega
 case rel=>exact⟨i+1,by omega,rfl,by simp,zH zL.out HB1.out,HZ2.out⟩
theorem zhc (w:World) (sv:Value) (l:List zx) (h:qG w sv l):Calls Tryz.prog 40 #[sv, .func (.func 41) #[] #[]] w λe w'=>e= .returned (.bool (!(l.all λt=>decide (t.buf.length=0))))/\Below w.heap.size w w':=by
 have hi:=zk4 w sv l h
 obtain⟨ta,tc,rfl,htl⟩:=zh.slice h
 generalize (l.all λt=>decide (t.buf.length=0))=all at hi ⊢
 generalize l.length=n at hi htl ⊢
 have HI:=qh hi
 clear h hi
 go_enter Tryz.func40,Tryz.ntmps40
 go_wp2_with(go_at_call 64;go_must(refine HI.out.mono ?_);rintro e w1 ⟨⟨r,rfl,hr⟩,hb⟩;have HB1:=qh hb;have HR:=qh hr;clear hb hr)
 go_ret
 refine⟨?_,HB1.out⟩
 rcases HR.out with⟨h1,rfl⟩|⟨h1,rfl⟩
 ·first|rfl|simp [h1]
 first|rfl|(simp;omega)
theorem zqQ (w:World) (s:zi) (sv mv:Value) (h:zX w s sv mv):Calls Tryz.prog 21 #[yA s sv mv] w λe w'=>e= .returned (.bool (wR s))/\Below w.heap.size w w':=by
 obtain⟨ta,tc,rfl, -⟩:=zh.slice h.threads
 obtain⟨ma,mc,rfl, -⟩:=zh.slice h.mem
 have hc:=λW h=>zhc W (.slice ta s.threads.length tc) s.threads h
 obtain⟨cl,hcl⟩:∃c,c=wR s:=⟨_,rfl⟩
 have hall:(s.threads.all λt=>decide (t.buf.length=0))=cl:=by rw [hcl];rfl
 rw [hall] at hc
 rw [<-hcl]
 unfold yA
 have hT:=h.threads
 have HT:=qh (zh.below wN.stays hT ((Below.refl w.heap.size w).alloc (Nat.le_refl _) (.cells #[.slice ta s.threads.length tc, .slice ma s.mem.length mc, .bool s.bad] 42)))
 generalize s.threads.length=n at hc HT ⊢
 generalize s.mem.length=m at HT ⊢
 have HC:=qh hc
 clear hc hall hcl h hT
 go_enter Tryz.func21,Tryz.ntmps21
 go_wp2_with(go_at_call 40;go_must(refine(HC.out _ HT.out).mono ?_);rintro e w1 ⟨rfl,hb⟩;have HB1:=qh hb;clear hb)
 go_ret
 exact⟨by first|rfl|simp,zH ((Below.refl _ _).alloc (Nat.le_refl _) _) HB1.out⟩
theorem zkX (w:World) (s:zi) (sv mv:Value) (h:zX w s sv mv):Calls Tryz.prog 15 #[yA s sv mv] w λe w'=>e= .returned (.bool (wR s))/\Below w.heap.size w w':=by
 obtain⟨ta,tc,rfl,htl⟩:=zh.slice h.threads
 obtain⟨ma,mc,rfl, -⟩:=zh.slice h.mem
 have wK:Hid (∀i,i<s.threads.length->(∀j,j<i->(s.threads.getD j default).buf.length=0)->0<(s.threads.getD i default).buf.length->wR s=false):=λi hi h1 h2=>zkW hi h1 h2
 have uW:Hid ((∀j,j<s.threads.length->(s.threads.getD j default).buf.length=0)->wR s=true):=λh=>znU h
 generalize wR s=all at wK uW ⊢
 unfold yA
 have hT:=zh.below wN.stays h.threads ((Below.refl w.heap.size w).alloc (Nat.le_refl _) (.cells #[.slice ta s.threads.length tc, .slice ma s.mem.length mc, .bool s.bad] 42))
 have h1:=yj w (.cells #[.slice ta s.threads.length tc, .slice ma s.mem.length mc, .bool s.bad] 42)
 generalize s.mem.length=m at hT h1 ⊢
 generalize s.bad=bad at hT h1 ⊢
 clear h
 generalize s.threads=l at hT h1 wK uW htl ⊢
 obtain⟨n,hn⟩:∃n,n=l.length:=⟨_,rfl⟩
 rw [<-hn] at hT h1 wK uW htl ⊢
 have HT:=qh hT
 have HN:=qh hn
 have H1:=qh h1
 have HB:=qh ((Below.refl w.heap.size w).alloc (Nat.le_refl _) (.cells #[.slice ta n tc, .slice ma m mc, .bool bad] 42))
 clear hT hn h1
 go_enter Tryz.func15,Tryz.ntmps15
 go_upto_region 1 with fail
 generalize World.alloc w _=W at HB H1 HT ⊢
 generalize w.heap.size=gx at H1 ⊢
 have yG:Hid (∀x,Below W.heap.size W x->Below w.heap.size w x):=λx hx=>HB.out.trans (hx.mono HB.out.size)
 go_wp2_with fail
 go_loopg [3] n (λgg s3 wr=>∃i:Nat,i<=n/\Hid (gg=n - i)/\s3= .int .i64 i/\Hid (Below W.heap.size W wr)/\Hid (∀j,j<i->(l.getD j default).buf.length=0))
 case atStart=>exact⟨0,Nat.zero_le _,rfl,rfl,Below.refl _ _,λj hj=>by omega⟩
 case round=>
 obtain⟨i,hi,HG,rfl,zL,HJ⟩:=hrel
 have c0:=zk zL.out _ _ (ze H1.out 0)
 by_cases hlt:i<n
 rotate_left
 ·obtain rfl:n=i:=by omega
  obtain rfl:=uW.out HJ.out
  go_wp2_with fail
  go_ret
  exact⟨by first|rfl|simp,yG.out _ zL.out⟩
 have qN:(i:Int)<(n:Int):=by omega
 obtain⟨b,off,ba,bc,yh, -, -, -, -, -, -, -,x5, -⟩:=qG.part HT.out i (by rw [<-HN.out];exact hlt)
 subst yh
 have HY:Hid (0<(l.getD i default).buf.length->all=false):=λh=>wK.out i hlt HJ.out h
 have HZ:Hid ((l.getD i default).buf.length=0->∀j,j<i+1->(l.getD j default).buf.length=0):=λe j hj=>by
  by_cases he:j=i
  ·subst he;exact e
  exact HJ.out j (by omega)
 generalize (l.getD i default).buf.length=bl at x5 HY HZ
 replace x5:=zk zL.out _ _ x5
 by_cases hbl:0<bl
 ·obtain rfl:=HY.out hbl
  have hd:(0:Int)<(bl:Int):=by omega
  go_wp2_with fail
  go_ret
  exact⟨by first|rfl|simp,yG.out _ zL.out⟩
 obtain rfl:bl=0:=by omega
 have HZ2:=qh (HZ.out rfl)
 go_wp2_with fail
 go_roundg (n - (i+1))
 case measure=>rw [HG.out];omega
 case rel=>exact⟨i+1,by omega,rfl,by simp,zL.out,HZ2.out⟩
