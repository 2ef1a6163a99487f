/- Steps. -/
import Derived.Test.YtmijlmglnnbdjaaGreatDoorUtCodeR
set_option linter.all false
namespace Go.Proofs.YtmijlmglnnbdjaaGreatDoor
open Go.RowKit
set_option maxRecDepth 100000
set_option maxHeartbeats 16000000
def yL (F:Nat->Prop) (X:World) (P:World->Prop):Prop:=∀X',Since F X X'->P X'
section
variable {F F' G:Nat->Prop} {X X':World} {P:World->Prop}
theorem yL.now (h:yL F X P):P X:=h X (Since.refl _ _)
theorem yL.step (h:yL F X P) (c:Since G X X') (g:∀k,G k->F k\/X.heap.size<=k) (i:∀k,F' k->F k\/X.heap.size<=k):yL F' X' P:=λb j=>
 h b ((c.mono (G:=F) (λk d f=>(g k f).elim id (λh=>absurd d (Nat.not_lt.2 h)))).trans j i)
end
end Go.Proofs.YtmijlmglnnbdjaaGreatDoor
namespace Go.Proofs.YtmijlmglnnbdjaaGreatDoor
open Go.RowKit
set_option maxRecDepth 100000
set_option maxHeartbeats 16000000
theorem z0D (w:World) (c:zG) (tv:Value) (d:Nat) (h:yP d w tv c.threads) (m:zC):Calls Tryz.prog 51 #[yj c tv,yE m] w λe I=>e= .returned (.bool (jU c m))/\Below w.heap.size w I:=by
 obtain⟨p,tc,rfl,q⟩:=zh.slice h;obtain⟨r,z⟩:=qxE (jU c m);obtain⟨E,k⟩:=qxE (codeOk c);have b:=λW (J:yP d W (.slice p c.threads.length tc) c.threads)=>ziI W c (.slice p c.threads.length tc) d J;rw [<-k] at b;have j:r=(E && decide (0<=m.model) && decide (m.model<=2) && decide (1<=m.bound) && decide (m.bound<=8)):=by rw [z,k];rfl
 rw [<-z];obtain⟨vars,dom,cs⟩:=c;obtain⟨f,g⟩:=m;simp only [] at h q b j ⊢;unfold yj yE;unfold yj at b;simp only [] at b ⊢;obtain⟨n,D⟩:=qxE cs.length;rw [<-D] at h q b ⊢;have A:=xK w (.cells #[I4 vars,I4 dom, .slice p n tc] 25) (.cells #[I4 f,I4 g] 30);have C:=qh A;have u:=qh (xA w (.cells #[I4 vars,I4 dom, .slice p n tc] 25) (.cells #[I4 f,I4 g] 30));have x:=qh (xq w (.cells #[I4 vars,I4 dom, .slice p n tc] 25) (.cells #[I4 f,I4 g] 30));have H:=qh (zh.below (xV.stays d) h A);have y:=qh b;have i:=qh j;clear h A b z j k D;go_enter Tryz.func51,Tryz.ntmps51
 go_upto_region 1 with fail
 generalize World.alloc (World.alloc w _) _=W at C u x H ⊢;obtain⟨R,t⟩:=qxE w.heap.size;rw [<-t] at u x ⊢;clear t;have N:=ze u.o 0;have M:=ze u.o 1;have L:=ze u.o 2;go_wp2_with fail
 refine(y.o W H.o).mono ?_
 rintro e O ⟨rfl,v⟩;have B:=qh v;have T:=zl v _ _ (ze x.o 0);have S:=zl v _ _ (ze x.o 1);clear v N M L;have l:J2 (Below w.heap.size w O):=C.o.trans (B.o.mono C.o.size);cases E with
 |false=>
  obtain rfl:r=false:=by rw [i.o];rfl
  clear i;go_wp2_with fail
  go_ret;exact⟨by first|rfl|(simp;done)|(simp;omega),l.o⟩
 |true=>
 by_cases h0:0<=f
 rotate_left
 ·obtain rfl:r=false:=by have e:decide (0<=f)=false:=decide_eq_false h0;rw [i.o,e];simp
  clear i;go_wp2_with fail
  go_ret;exact⟨by first|rfl|(simp;done)|(simp;omega),l.o⟩
 by_cases h1:f<=2
 rotate_left
 ·obtain rfl:r=false:=by have e:decide (f<=2)=false:=decide_eq_false h1;rw [i.o,e];simp
  clear i;go_wp2_with fail
  go_ret;exact⟨by first|rfl|(simp;done)|(simp;omega),l.o⟩
 by_cases h2:1<=g
 ·by_cases h3:g<=8
  ·obtain rfl:r=true:=by rw [i.o];simp [h0,h1,h2,h3]
   clear i;go_wp2_with fail
   go_ret;exact⟨by first|rfl|(simp;done)|(simp;omega),l.o⟩
  obtain rfl:r=false:=by have e:decide (g<=8)=false:=decide_eq_false h3;rw [i.o,e];simp
  clear i;go_wp2_with fail
  go_ret;exact⟨by first|rfl|(simp;done)|(simp;omega),l.o⟩
 obtain rfl:r=false:=by have e:decide (1<=g)=false:=decide_eq_false h2;rw [i.o,e];simp
 clear i;go_wp2_with fail
 go_ret;exact⟨by first|rfl|(simp;done)|(simp;omega),l.o⟩
theorem zq5 (c:zG) (b:Option Addr) (tc d:Nat) (m:zC) (w:World) (h:yP d w (.slice b c.threads.length tc) c.threads):Calls Tryz.prog 51 #[.agg #[I4 c.vars,I4 c.domain, .slice b c.threads.length tc], .agg #[I4 m.model,I4 m.bound]] w λe f=>e= .returned (.bool (jU c m))/\Below w.heap.size w f:=z0D w c _ d h m
theorem zdB {n:Nat} {p:Nat->Bool} (h:∀j,j<n->p j=true):(List.range n).all p=true:=by
 rw [List.all_eq_true];intro j b;exact h j (List.mem_range.1 b)
theorem zbJ {n:Nat} {p:Nat->Bool} (j:Nat) (b:j<n) (h:p j=false):(List.range n).all p=false:=by
 rw [List.all_eq_false];exact⟨j,List.mem_range.2 b,by simp [h]⟩
theorem zto {i g d c:Int} {w:World} {b:Nat} {t:TypeId} {pc:Value} {j:Value} {f:Nat × Nat} (h:w.heap[b]? =some (.cells #[pc,I4 i,I4 g,I4 d,I4 c,j] t f)) {k:Nat} (l:k<4):w.cell? ⟨b,1+k,none⟩=some (I4 ([i,g,d,c].getD k 0)):=by
 rw [ze h];have:k=0\/k=1\/k=2\/k=3:=by omega
 rcases this with rfl|rfl|rfl|rfl<;>rfl
theorem zm6 (w:World) (c:zG) (tv:Value) (d:Nat) (hc:yP d w tv c.threads) (m:zC) (s:zo) (sv mv:Value) (hs:yD w s sv mv) (hb:∀j,j<s.threads.length->(s.threads.getD j default).buf.length<=1000000):
  Calls Tryz.prog 56 #[yj c tv,yE m,yB s sv mv] w λe w'=>e= .returned (.bool (yJ c m s))/\Below w.heap.size w w':=by
 obtain⟨ca,cc,rfl,hcl⟩:=zh.slice hc;obtain⟨ta,tc,rfl,htl⟩:=zh.slice hs.threads;obtain⟨ma,mc,rfl,hml⟩:=zh.slice hs.mem;obtain⟨r,hr⟩:=qxE (yJ c m s);obtain⟨mo,hmo⟩:=qxE (jU c m);have u:=zq5 c ca cc d m;rw [<-hmo] at u;obtain⟨vars,dom,cs⟩:=c;obtain⟨b,f⟩:=m;obtain⟨ts,mem,bad⟩:=s;simp only [] at hc hcl hs htl hml hb u ⊢;obtain⟨n,hn⟩:=qxE ts.length;obtain⟨S,a⟩:=qxE cs.length;obtain⟨k,hk⟩:=qxE mem.length;have hr2:r=(mo && decide (n=S) && decide ((k:Int)=vars) && (List.range k).all (λj=>xJ dom (mem.getD j 0)) && (List.range n).all (vE ⟨vars,dom,cs⟩ ⟨b,f⟩ ⟨ts,mem,bad⟩)):=by rw [hr,hmo,hn,a,hk];rfl
 rw [<-hr];have hT:=hs.threads;have hM:=hs.mem;simp only [] at hT hM;unfold yj yE yB;simp only [];rw [<-hn] at hT hb htl ⊢;rw [<-hk] at hM hml ⊢;rw [<-a] at hc hcl u ⊢;clear hs;have hB:=zbv w (.cells #[I4 vars,I4 dom, .slice ca S cc] 25) (.cells #[I4 b,I4 f] 30) (.cells #[.slice ta n tc, .slice ma k mc, .bool bad] 61);have HB:=qh hB;have H1:=qh (zbw w (.cells #[I4 vars,I4 dom, .slice ca S cc] 25) (.cells #[I4 b,I4 f] 30) (.cells #[.slice ta n tc, .slice ma k mc, .bool bad] 61))
 have H2:=qh (zaN w (.cells #[I4 vars,I4 dom, .slice ca S cc] 25) (.cells #[I4 b,I4 f] 30) (.cells #[.slice ta n tc, .slice ma k mc, .bool bad] 61));have H3:=qh (zbx w (.cells #[I4 vars,I4 dom, .slice ca S cc] 25) (.cells #[I4 b,I4 f] 30) (.cells #[.slice ta n tc, .slice ma k mc, .bool bad] 61));have HT:=qh (zh.below uJ.stays hT hB);have HM:=qh (zh.below uV.stays hM hB);have HCS:=qh (zh.below (xV.stays d) hc hB);have zb0:=qh u;have HBU:=qh hb;have HN:=qh hn;have HK:=qh hk;have HCN:=qh a;have HR:=qh hr2;clear hc hT hM hB hb hn hk a hr hr2 hmo u;go_enter Tryz.func56,Tryz.ntmps56
 go_upto_region 1 with fail
 generalize World.alloc (World.alloc (World.alloc w _) _) _=W at HB H1 H2 H3 HT HM HCS ⊢;obtain⟨gx,hgx⟩:=qxE w.heap.size;rw [<-hgx] at H1 H2 H3 ⊢;clear hgx
 have HC:J2 (∀x,Below W.heap.size W x->K3 x gx 0 (I4 vars)/\K3 x gx 1 (I4 dom)/\K3 x gx 2 (.slice ca S cc)/\
   x.cell? ⟨gx+1,0,none⟩=some (I4 b)/\x.cell? ⟨gx+1,1,none⟩=some (I4 f)/\x.cell? ⟨gx+2,0,none⟩=some (.slice ta n tc)/\x.cell? ⟨gx+2,1,none⟩=some (.slice ma k mc)):=λx hx=>
  ⟨zl hx _ _ (ze H1.o 0),zl hx _ _ (ze H1.o 1),zl hx _ _ (ze H1.o 2),zl hx _ _ (ze H2.o 0),zl hx _ _ (ze H2.o 1),zl hx _ _ (ze H3.o 0),zl hx _ _ (ze H3.o 1)⟩
 obtain⟨J,I,H,E,D,C,B⟩:=HC.o W (Below.refl _ _);go_wp2_with fail
 refine(zb0.o W HCS.o).mono ?_
 rintro e W1 ⟨rfl,hb1⟩;have Y:=qh hb1;clear hb1 zb0 J I H E D C B;obtain⟨J,I,H,E,D,C,B⟩:=HC.o W1 Y.o;have y:J2 (∀x,Below W.heap.size W x->Below w.heap.size w x):=λx hx=>HB.o.trans (hx.mono HB.o.size);cases mo with
 |false=>
  obtain rfl:r=false:=by rw [HR.o];rfl
  clear HR;go_wp2_with fail
  go_ret;exact⟨by first|rfl|simp,y.o _ Y.o⟩
 |true=>
 by_cases h1:n=S
 rotate_left
 ·obtain rfl:r=false:=by rw [HR.o];simp [h1]
  clear HR;have h1b:((n:Int) !=(S:Int))=true:=by simp;omega
  clear h1;go_wp2_with fail
  go_ret;exact⟨by first|rfl|simp,y.o _ Y.o⟩
 have h1I:((n:Int)==(S:Int))=true:=by simp [h1]
 by_cases h2:(k:Int)=vars
 rotate_left
 ·obtain rfl:r=false:=by rw [HR.o];simp [h2]
  clear HR;have h2b:((k:Int) !=vars)=true:=by simp [h2]
  have h1b:((n:Int) !=(S:Int))=false:=by simp [h1]
  clear h1 h2;go_wp2_with fail
  go_ret;exact⟨by first|rfl|simp,y.o _ Y.o⟩
 have h2I:((k:Int)==vars)=true:=by simp [h2]
 have R:J2 (r=((List.range k).all (λj=>xJ dom (mem.getD j 0)) && (List.range n).all (vE ⟨vars,dom,cs⟩ ⟨b,f⟩ ⟨ts,mem,bad⟩))):=by rw [J2,HR.o];simp [h1,h2]
 have h1b:((n:Int) !=(S:Int))=false:=by simp [h1]
 have h2b:((k:Int) !=vars)=false:=by simp [h2]
 have H1N:=qh h1;clear HR h1 h2;go_wp2_with fail
 clear J I H E D C B;go_loopg [7] k (λgg s7 wr=>∃i:Nat,i<=k/\J2 (gg=k - i)/\s7=I4 i/\J2 (Below W.heap.size W wr)/\J2 (∀j,j<i->xJ dom (mem.getD j 0)=true))
 case atStart=>exact⟨0,Nat.zero_le _,rfl,rfl,Y.o,λj hj=>by omega⟩
 case round=>
 obtain⟨i,hi,HG,rfl,zZ,HJ⟩:=hrel;obtain⟨J,I,H,E,D,C,B⟩:=HC.o wr zZ.o;by_cases hlt:i<k
 ·have vC:(i:Int)<(k:Int):=by omega
  obtain⟨eb,eo,yI, -,z⟩:=qx.part HM.o i (by rw [<-HK.o];exact hlt);subst yI;obtain⟨x,hx⟩:=qxE (mem.getD i 0);rw [<-hx] at z;have e1:=zl zZ.o _ _ z;have HX:=qh hx;clear z hx;by_cases a1:x<0
  ·obtain rfl:r=false:=by rw [R.o,zbJ i hlt (by rw [<-HX.o];unfold xJ;simp;omega)];rfl
   clear R;go_wp2_with fail
   go_quiet (fail)
   go_wp2_with fail
   go_ret;exact⟨by first|rfl|simp,y.o _ (yw zZ.o _)⟩
  by_cases a2:dom<=x
  ·obtain rfl:r=false:=by rw [R.o,zbJ i hlt (by rw [<-HX.o];unfold xJ;simp;omega)];rfl
   clear R;go_wp2_with fail
   go_quiet (fail)
   go_wp2_with fail
   go_ret;exact⟨by first|rfl|simp,y.o _ (yw zZ.o _)⟩
  go_wp2_with fail
  go_quiet (fail)
  go_wp2_with fail
  go_roundg (k - (i+1))
  case measure=>rw [HG.o];omega
  case rel=>exact⟨i+1,by omega,rfl,by simp,yw zZ.o _,λj hj=>by
   by_cases he:j=i
   ·subst he;rw [<-HX.o];unfold xJ;simp;omega
   exact HJ.o j (by omega)⟩
 obtain rfl:k=i:=by omega
 have g:J2 (r=(List.range n).all (vE ⟨vars,dom,cs⟩ ⟨b,f⟩ ⟨ts,mem,bad⟩)):=by rw [J2,R.o,zdB HJ.o,Bool.true_and]
 clear R;go_wp2_with fail
 clear J I H E D C B;go_loopg [8] n (λgg s8 wr=>∃i:Nat,i<=n/\J2 (gg=n - i)/\s8=I4 i/\J2 (Below W.heap.size W wr)/\J2 (∀j,j<i->vE ⟨vars,dom,cs⟩ ⟨b,f⟩ ⟨ts,mem,bad⟩ j=true))
 case atStart=>exact⟨0,Nat.zero_le _,rfl,rfl,zZ.o,λj hj=>by omega⟩
 case round=>
 obtain⟨i,hi,HG8,rfl,V,HJ8⟩:=hrel;obtain⟨wo,rfl⟩:=qxE (wr:World);obtain⟨J,I,H,E,D,C,B⟩:=HC.o wo V.o;by_cases hlt:i<n
 rotate_left
 ·obtain rfl:n=i:=by omega
  obtain rfl:r=true:=by rw [g.o];exact zdB HJ8.o
  clear g;go_wp2_with fail
  go_ret;exact⟨by first|rfl|simp,y.o _ V.o⟩
 have vC:(i:Int)<(n:Int):=by omega
 have zFu:(i:Int)<(S:Int):=by have:=H1N.o;omega
 obtain⟨tb,yT,ba,bc,hta, -,hr4,x0,x1,x2,x3,x4,x5,A⟩:=qR.part HT.o i (by rw [<-HN.o];exact hlt);obtain⟨eb,eo,ka,kc,hca, -,hec, -⟩:=yP.part HCS.o i (by rw [<-HCN.o, <-H1N.o];exact hlt);subst hta;subst hca;obtain⟨t,ht⟩:=qxE (ts.getD i default);rw [<-ht] at hr4 x0 x1 x2 x3 x4 x5 A;obtain⟨ln,hln⟩:=qxE ((cs.getD i []).length);rw [<-hln] at hec;have hbl:=HBU.o i hlt;rw [<-ht] at hbl;have k9:=λp v h=>zl V.o p v h;replace x0:=k9 _ _ x0;replace x1:=k9 _ _ x1;replace x2:=k9 _ _ x2;replace x3:=k9 _ _ x3;replace x4:=k9 _ _ x4;replace x5:=k9 _ _ x5;have y0:=k9 _ _ hec;obtain⟨q0,q1,q2,q3,hq⟩:=wM hr4
 obtain⟨pc,hpc⟩:=qxE t.pc;obtain⟨N,wz⟩:=qxE t.buf.length
 have hto:vE ⟨vars,dom,cs⟩ ⟨b,f⟩ ⟨ts,mem,bad⟩ i=(decide (0<=pc) && decide (pc<=(ln:Int)) && (List.range 4).all (λk=>xJ dom ([q0,q1,q2,q3].getD k 0)) && (List.range N).all (qF ⟨vars,dom,cs⟩ ⟨b,f⟩ t.buf)):=by
  rw [hln,wz,hpc, <-hq,ht];rfl
 have HTO:=qh hto;have M:J2 (vE ⟨vars,dom,cs⟩ ⟨b,f⟩ ⟨ts,mem,bad⟩ i=false->r=false):=λe=>by rw [g.o,zbJ i hlt e]
 have pU:J2 (vE ⟨vars,dom,cs⟩ ⟨b,f⟩ ⟨ts,mem,bad⟩ i=true->∀j,j<i+1->vE ⟨vars,dom,cs⟩ ⟨b,f⟩ ⟨ts,mem,bad⟩ j=true):=λe j hj=>by
  by_cases he:j=i
  ·subst he;exact e
  exact HJ8.o j (by omega)
 rw [<-hpc] at x0;rw [hq] at x1 x2 x3 x4;simp only [List.getD_cons_zero,List.getD_cons_succ] at x1 x2 x3 x4;rw [<-wz] at x5 hbl A;have zde:=qh A;have jk:=qh wz;clear ht hq hpc wz hto hr4 k9 hec hln A;go_upto_region 12 with fail
 clear J I H E D C B x0 x1 x2 x3 x4 x5;have hBT:=V.o.alloc V.o.size (.cells #[I4 pc,I4 q0,I4 q1,I4 q2,I4 q3, .slice ba N bc] 75);have hTB:=zQ wo (.cells #[I4 pc,I4 q0,I4 q1,I4 q2,I4 q3, .slice ba N bc] 75);have y1:=zl ((Below.refl wo.heap.size wo).alloc (Nat.le_refl _) (.cells #[I4 pc,I4 q0,I4 q1,I4 q2,I4 q3, .slice ba N bc] 75)) _ _ y0;clear y0;have l:=qh hBT;have U:=qh hTB;clear hBT hTB;generalize World.alloc wo _=Wt at l U y1 ⊢;obtain⟨nb,hnb⟩:=qxE wo.heap.size;rw [<-hnb] at U ⊢;clear hnb;obtain⟨J,I,H,E,D,C,B⟩:=HC.o Wt l.o;have t0:=ze U.o 0;by_cases p1:pc<0
 ·obtain rfl:=M.o (by rw [HTO.o,decide_eq_false (by omega)];rfl)
  clear g;go_wp2_with fail
  go_quiet (fail)
  go_wp2_with fail
  go_ret;exact⟨by first|rfl|simp,y.o _ (yw l.o _)⟩
 by_cases p2:(ln:Int)<pc
 ·obtain rfl:=M.o (by(have e:decide (pc<=(ln:Int))=false:=decide_eq_false (by omega));rw [HTO.o,e];simp)
  clear g;go_wp2_with fail
  go_quiet (fail)
  go_wp2_with fail
  go_ret;exact⟨by first|rfl|simp,y.o _ (yw l.o _)⟩
 have Q:J2 (vE ⟨vars,dom,cs⟩ ⟨b,f⟩ ⟨ts,mem,bad⟩ i=((List.range 4).all (λk=>xJ dom ([q0,q1,q2,q3].getD k 0)) && (List.range N).all (qF ⟨vars,dom,cs⟩ ⟨b,f⟩ t.buf))):=by
  have e:decide (pc<=(ln:Int))=true:=decide_eq_true (by omega);have e2:decide (0<=pc)=true:=decide_eq_true (by omega);rw [J2,HTO.o,e,e2,Bool.true_and,Bool.true_and]
 clear HTO;go_wp2_with fail
 go_quiet (fail)
 go_wp2_with fail
 clear J I H E D C B t0 y1 p1 p2;go_loopg [10] 4 (λgg s10 wr=>∃q:Nat,q<=4/\J2 (gg=4 - q)/\s10=I4 q/\J2 (Below Wt.heap.size Wt wr)/\J2 (∀j,j<q->xJ dom ([q0,q1,q2,q3].getD j 0)=true))
 case atStart=>exact⟨0,Nat.zero_le _,rfl,rfl,yw (Below.refl _ _) _,λj hj=>by omega⟩
 case round=>
 obtain⟨q,hqq,zAk,rfl,HBQ,zwy⟩:=hrel;have zwz:=qh (zy l.o HBQ.o);obtain⟨J,I,H,E,D,C,B⟩:=HC.o wr zwz.o;by_cases hlq:q<4
 ·have zAl:(q:Int)<4:=by omega
  have e1:=zl HBQ.o _ _ (zto U.o hlq);obtain⟨x,hx⟩:=qxE ( [q0,q1,q2,q3].getD q 0);rw [<-hx] at e1;have HX:=qh hx;clear hx;by_cases a1:x<0
  ·obtain rfl:=M.o (by rw [Q.o,zbJ q hlq (by rw [<-HX.o];unfold xJ;simp;omega)];rfl)
   clear g;go_wp2_with fail
   go_quiet (fail)
   go_wp2_with fail
   go_ret;exact⟨by first|rfl|simp,y.o _ (yw zwz.o _)⟩
  by_cases a2:dom<=x
  ·obtain rfl:=M.o (by rw [Q.o,zbJ q hlq (by rw [<-HX.o];unfold xJ;simp;omega)];rfl)
   clear g;go_wp2_with fail
   go_quiet (fail)
   go_wp2_with fail
   go_ret;exact⟨by first|rfl|simp,y.o _ (yw zwz.o _)⟩
  go_wp2_with fail
  go_quiet (fail)
  go_wp2_with fail
  go_roundg (4 - (q+1))
  case measure=>rw [zAk.o];omega
  case rel=>exact⟨q+1,by omega,rfl,by simp,yw HBQ.o _,λj hj=>by
   by_cases he:j=q
   ·subst he;rw [<-HX.o];unfold xJ;simp;omega
   exact zwy.o j (by omega)⟩
 obtain rfl:q=4:=by omega
 have z2W:J2 (vE ⟨vars,dom,cs⟩ ⟨b,f⟩ ⟨ts,mem,bad⟩ i=(List.range N).all (qF ⟨vars,dom,cs⟩ ⟨b,f⟩ t.buf)):=by rw [J2,Q.o,zdB zwy.o,Bool.true_and]
 clear Q zwy;go_wp2_with fail
 clear J I H E D C B;go_loopg [11,12] N (λgg s11 s12 wr=>∃(k:Nat) (oa:Option Addr) (oc:Nat),k<=N/\J2 (gg=N - k)/\s11= .slice oa k oc/\s12=I4 k/\J2 (zX wr (.slice oa k oc) (t.buf.take k))/\J2 (Below Wt.heap.size Wt wr)/\J2 (∀j,j<k->qF ⟨vars,dom,cs⟩ ⟨b,f⟩ t.buf j=true))
 case atStart=>exact⟨0,none,0,Nat.zero_le _,rfl,rfl,rfl,by rw [J2,List.take_zero];exact zh.nil _,HBQ.o,λj hj=>by omega⟩
 case round=>
 obtain⟨k,oa,oc,hk,zAm,rfl,rfl,HOB,HBK,z2X⟩:=hrel;have t5:=zl HBK.o _ _ (ze U.o 5);by_cases hlk:k<N
 rotate_left
 ·obtain rfl:N=k:=by omega
  have hyes:=pU.o (by rw [z2W.o];exact zdB z2X.o);have HYE:=qh hyes;clear hyes;go_wp2_with fail
  go_roundg (n - (i+1))
  case measure=>rw [HG8.o];omega
  case rel=>exact⟨i+1,by omega,rfl,by simp,zy l.o HBK.o,HYE.o⟩
 have z9O:(k:Int)<(N:Int):=by omega
 obtain⟨bb,bo,hba, -,z,he2⟩:=zX.part zde.o k (by rw [<-jk.o];exact hlk);subst hba;obtain⟨x,hx⟩:=qxE (t.buf.getD k default);rw [<-hx] at z he2;have z2Y:=qh (zy l.o HBK.o);have e1:=zl z2Y.o _ _ z;have e2:=zl z2Y.o _ _ he2;have gF:J2 (t.buf.take (k+1)=t.buf.take k++ [x]):=uR (by rw [<-jk.o];exact hlk) hx;obtain⟨Z,K⟩:=x;simp only [] at e1 e2;obtain⟨ok,hok⟩:=qxE (qM (t.buf.take k) ⟨b,f⟩ ⟨Z,K⟩);have O:J2 (qF ⟨vars,dom,cs⟩ ⟨b,f⟩ t.buf k=(ok && decide (0<=Z) && decide (Z<vars) && decide (0<=K) && decide (K<dom))):=by rw [J2,hok];unfold qF;rw [<-hx]
 have vP:=qh hok;have T:J2 (qF ⟨vars,dom,cs⟩ ⟨b,f⟩ t.buf k=false->r=false):=λe=>M.o (by rw [z2W.o];exact zbJ k hlk e);clear hx z he2 hok M;go_upto_region 24 with fail
 clear t5 e1 e2;have hBX:=(Below.refl wr.heap.size wr).alloc (Nat.le_refl _) (.cells #[I4 Z,I4 K] 116);have hXB:=zQ wr (.cells #[I4 Z,I4 K] 116);have HXB:=qh hXB;have yh:=qh (zy HBK.o hBX);have HOX:=qh (zX.below HOB.o hBX);clear hBX hXB;generalize World.alloc wr _=Wx at HXB yh HOX ⊢;obtain⟨xb,hxb⟩:=qxE wr.heap.size;rw [<-hxb] at HXB ⊢;clear hxb;have zga:=qh (zy l.o yh.o);obtain⟨J,I,H,E,D,C,B⟩:=HC.o Wx zga.o;have z0:=ze HXB.o 0;have z1:=ze HXB.o 1;have hlen:(t.buf.take k).length=k:=by rw [List.length_take, <-jk.o];omega
 have kT:=qh (zpf Wx _ _ HOX.o (by rw [hlen];omega) ⟨b,f⟩ ⟨Z,K⟩)
 clear hlen;go_wp2_with fail
 refine(kT.o).mono ?_
 rintro e Wy ⟨⟨bJ,rfl,hbv, -⟩,hby⟩;obtain⟨oa',oc',rfl, -⟩:=zh.slice hbv;obtain⟨pl,hpl⟩:=qxE ((jQ (t.buf.take k) ⟨b,f⟩ ⟨Z,K⟩).length);rw [<-hpl] at hbv ⊢;have kP:=qh hpl;clear hpl;rw [<-vP.o];have HBV:=qh hbv;have vT:=qh (zy yh.o hby);have L:=qh (zy l.o vT.o);clear J I H E D C B;obtain⟨J,I,H,E,D,C,B⟩:=HC.o Wy L.o;have y0:=zl hby _ _ z0;have y1:=zl hby _ _ z1;clear z0 z1 hbv hby kT;cases ok with
 |false=>
  obtain rfl:=T.o (by rw [O.o];rfl)
  clear g;go_wp2_with fail
  go_ret;exact⟨by first|rfl|simp,y.o _ L.o⟩
 |true=>
 have hpb:jQ (t.buf.take k) ⟨b,f⟩ ⟨Z,K⟩=t.buf.take (k+1):=by unfold jQ;rw [<-vP.o,gF.o];rfl
 have HPB:=qh hpb;clear hpb;by_cases a1:0<=Z
 rotate_left
 ·obtain rfl:=T.o (by rw [O.o,decide_eq_false a1];simp)
  clear g;go_wp2_with fail
  go_ret;exact⟨by first|rfl|simp,y.o _ L.o⟩
 by_cases a2:Z<vars
 rotate_left
 ·obtain rfl:=T.o (by rw [O.o,decide_eq_false a2];simp)
  clear g;go_wp2_with fail
  go_ret;exact⟨by first|rfl|simp,y.o _ L.o⟩
 by_cases a3:0<=K
 rotate_left
 ·obtain rfl:=T.o (by rw [O.o,decide_eq_false a3];simp)
  clear g;go_wp2_with fail
  go_ret;exact⟨by first|rfl|simp,y.o _ L.o⟩
 by_cases a4:K<dom
 rotate_left
 ·obtain rfl:=T.o (by rw [O.o,decide_eq_false a4];simp)
  clear g;go_wp2_with fail
  go_ret;exact⟨by first|rfl|simp,y.o _ L.o⟩
 have hwo:qF ⟨vars,dom,cs⟩ ⟨b,f⟩ t.buf k=true:=by rw [O.o,decide_eq_true a1,decide_eq_true a2,decide_eq_true a3,decide_eq_true a4];rfl
 have zAn:=qh hwo;clear hwo;obtain rfl:pl=k+1:=by rw [kP.o,HPB.o,List.length_take, <-jk.o];omega
 go_wp2_with fail
 go_roundg (N - (k+1))
 case measure=>rw [zAm.o];omega
 case rel=>exact⟨k+1,oa',oc',by omega,rfl,by first|rfl|simp,by simp,by rw [J2, <-HPB.o];exact HBV.o,vT.o,λj hj=>by
  by_cases he:j=k
  ·subst he;exact zAn.o
  exact z2X.o j (by omega)⟩
