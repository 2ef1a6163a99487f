/- Steps. -/
import Derived.Test.YtmijlmglnnbdjaaGreatDoorUtPShelf
set_option linter.all false
namespace Go.Proofs.YtmijlmglnnbdjaaGreatDoor
open Go.RowKit
set_option maxRecDepth 100000
set_option maxHeartbeats 16000000
theorem zsf {w:World} {g:Nat} {f d c b:Int} (h:w.cell? ⟨g,1,none⟩=some (I4 f)) (o:w.cell? ⟨g,2,none⟩=some (I4 d)) (n:w.cell? ⟨g,3,none⟩=some (I4 c)) (m:w.cell? ⟨g,4,none⟩=some (I4 b)):
  qx w (.slice (some ⟨g,1,none⟩) 4 4) [f,d,c,b] :=by
 refine⟨_,_,rfl,⟨Nat.le_refl _,by decide⟩,λj l=>⟨g,1, [I4 ([f,d,c,b].getD j default)],rfl,World.block_lt_of_cell? w _ h,rfl,λi p=> ?_,rfl⟩⟩
 obtain rfl:i=0:=by omega
 have k:j<4:=l;have:j=0\/j=1\/j=2\/j=3:=by omega
 rcases this with rfl|rfl|rfl|rfl
 ·exact h
 ·exact o
 ·exact n
 exact m
theorem z1z {l:List Int} {dom:Int} :((List.range l.length).any λj=> !xJ dom (l.getD j default))= !((List.range l.length).all λj=>xJ dom (l.getD j 0)):=by
 rw [List.not_all_eq_any_not];rfl
theorem zly (w:World) (sv:Value) (l:List Int) (h:qx w sv l) (dom:Int) (g:Nat) (d:w.cell? ⟨g,1,none⟩=some (I4 dom)):
  Calls Tryz.prog 93 #[sv, .func (.func 92) #[] #[.pointer (some ⟨g,0,none⟩)]] w λe b=>e= .returned (.bool (!((List.range l.length).all λj=>xJ dom (l.getD j 0))))/\Below w.heap.size w b:=by
 have:=zjl uV uV.stays w sv l h 92 #[] #[.pointer (some ⟨g,0,none⟩)] (λj=> !xJ dom (l.getD j default)) (λ_ _=>rfl) (λj k W cs f c i=>by
  obtain rfl:cs= [I4 (l.getD j default)] :=c;exact zy7 W _ dom g (zl i _ _ d))
 rw [z1z] at this;exact this
theorem zlj (w:World) (c:zG) (tv:Value) (d:Nat) (hc:yP d w tv c.threads) (m:zC) (s:zo) (sv mv:Value) (hs:yD w s sv mv) (E:∀j,j<s.threads.length->(s.threads.getD j default).buf.length<=1000000):
  Calls Tryz.prog 62 #[yj c tv,yE m,yB s sv mv] w λe V=>e= .returned (.bool (yJ c m s))/\Below w.heap.size w V:=by
 obtain⟨ta,tc,rfl,htl⟩:=zh.slice hc;obtain⟨sa,sc,rfl,hsl⟩:=zh.slice hs.threads;obtain⟨ma,mc,rfl,hml⟩:=zh.slice hs.mem;have q:=λW (hW:Below w.heap.size w W)=>zmL W c _ d (zh.below (xV.stays d) hc hW) m;have C:=λW (hW:Below w.heap.size w W) g (hg:W.cell? ⟨g,1,none⟩=some (I4 c.domain))=>zly W _ s.mem (zh.below uV.stays hs.mem hW) c.domain g hg;have hwt:=λW bv l (hW:zX W bv l) (hl:l.length<=1000000)=>zrW W c ta c.threads.length tc m bv l hW hl;obtain⟨r,hr⟩:=qxE (yJ c m s)
 have y:r=(jU c m && decide (s.threads.length=c.threads.length) && decide ((s.mem.length:Int)=c.vars) && (List.range s.mem.length).all (λk=>xJ c.domain (s.mem.getD k 0)) && (List.range s.threads.length).all (vE c m s)):=hr;rw [<-hr];generalize jU c m=may at q y;generalize hmo:((List.range s.mem.length).all λk=>xJ c.domain (s.mem.getD k 0))=memo at C y
 have N:∀i,vE c m s i=(decide (0<=(s.threads.getD i default).pc) && decide ((s.threads.getD i default).pc<=((c.threads.getD i []).length:Int)) && (List.range 4).all (λk=>xJ c.domain ((s.threads.getD i default).regs.getD k 0)) && (List.range (s.threads.getD i default).buf.length).all (qF c m (s.threads.getD i default).buf)):=λ_=>rfl;obtain⟨wk,Z⟩:=qxE (qF c m);rw [<-Z] at N
 have F:∀W bv l,zX W bv l->l.length<=1000000->Calls Tryz.prog 94 #[.agg #[I4 c.vars,I4 c.domain, .slice ta c.threads.length tc],yE m,bv] W λe V=>e= .returned (.bool ((List.range l.length).all (wk l)))/\Below W.heap.size W V:=by rw [Z];exact hwt
 clear hwt Z hmo hr;generalize hto:vE c m s=tok at N y;clear hto;have HTS:=qh hs.threads;have HCS:=qh hc;obtain⟨vars,dom,cs⟩:=c;obtain⟨ts,mem,bad⟩:=s;obtain⟨mm,mb⟩:=m;simp only [] at*;unfold yj yE yB;unfold yj yE at q;unfold yE at F;simp only [] at q F ⊢;obtain⟨n,hn⟩:=qxE ts.length;obtain⟨cn,hcn⟩:=qxE cs.length;obtain⟨mn,hmn⟩:=qxE mem.length;rw [<-hn] at hsl HTS y E ⊢;rw [<-hcn] at htl HCS y q F ⊢;rw [<-hmn] at hml C y ⊢;have hB:=zjn w (.cells #[I4 vars,I4 dom, .slice ta cn tc] 25) (.cells #[I4 mm,I4 mb] 30) (.cells #[.slice sa n sc, .slice ma mn mc, .bool bad] 61);have u:=qh hB.1
 have H1:=qh hB.2.1;have H2:=qh hB.2.2.1;have H3:=qh hB.2.2.2.1;have zb0:=qh q;have zeP:=qh C;have HWT:=qh F;have U:=qh y;have HTO:=qh N;have HN:=qh hn;have HCN:=qh hcn;have HBF:=qh E;clear hc hs q C F y N hn hcn hmn hB E;go_enter Tryz.func62,Tryz.ntmps62
 go_upto_region 1 with fail
 generalize World.alloc (World.alloc (World.alloc w _) _) _=W at u H1 H2 H3 ⊢;obtain⟨B,hgx⟩:=qxE w.heap.size;rw [<-hgx] at H1 H2 H3 ⊢;clear hgx
 have HC:J2 (∀x,Below W.heap.size W x->(K3 x B 0 (I4 vars)/\K3 x B 1 (I4 dom)/\K3 x B 2 (.slice ta cn tc))/\(K3 x (B+1) 0 (I4 mm)/\K3 x (B+1) 1 (I4 mb))/\
   x.cell? ⟨B+1+1,0,none⟩=some (.slice sa n sc)/\x.cell? ⟨B+1+1,1,none⟩=some (.slice ma mn mc)):=λx hx=>
  ⟨⟨zl hx _ _ (ze H1.o 0),zl hx _ _ (ze H1.o 1),zl hx _ _ (ze H1.o 2)⟩,⟨zl hx _ _ (ze H2.o 0),zl hx _ _ (ze H2.o 1)⟩,zl hx _ _ (ze H3.o 0),zl hx _ _ (ze H3.o 1)⟩
 clear H1 H2 H3;obtain⟨⟨c0,c1,c2⟩,⟨m0,m1⟩, -, -⟩:=HC.o W (Below.refl _ _);go_wp2_with fail
 refine(zb0.o W u.o).mono ?_
 rintro e w2 ⟨rfl,hb2⟩;have HB2:J2 (Below W.heap.size W w2):=hb2;have R:=qh (u.o.trans (hb2.mono u.o.size));clear c0 c1 c2 m0 m1 hb2 zb0;obtain⟨⟨c0,c1,c2⟩, -,s0,s1⟩:=HC.o w2 HB2.o;cases may with
 |false=>
  obtain rfl:r=false:=by rw [U.o];simp
  clear U;go_wp2_with fail
  go_ret;exact⟨by first|rfl|(simp;done)|(simp;omega),R.o⟩
 |true=>
 by_cases hnc:n=cn
 rotate_left
 ·have b1:(((n:Nat):Int) !=((cn:Nat):Int))=true:=by rw [bne_iff_ne];omega
  have b2:(n==cn)=false:=by simp [hnc]
  obtain rfl:r=false:=by rw [U.o,decide_eq_false hnc];simp
  clear U;go_wp2_with fail
  go_ret;exact⟨by first|rfl|(simp;done)|(simp;omega),R.o⟩
 subst hnc;by_cases hmv:(mn:Int)=vars
 rotate_left
 ·have b1:(((mn:Int)) !=vars)=true:=by rw [bne_iff_ne];exact hmv
  obtain rfl:r=false:=by rw [U.o,decide_eq_false hmv];simp
  clear U;go_wp2_with fail
  go_ret;exact⟨by first|rfl|(simp;done)|(simp;omega),R.o⟩
 have T:J2 (r=(memo && (List.range n).all tok)):=by rw [J2,U.o,decide_eq_true hmv];simp
 subst hmv;clear U;go_wp2_with fail
 refine(zeP.o w2 R.o B c1).mono ?_
 rintro e w3 ⟨rfl,hb3⟩;have HB3:J2 (Below W.heap.size W w3):=HB2.o.trans (hb3.mono HB2.o.size);clear c0 c1 c2 s0 s1 hb3 zeP;obtain⟨-, -,s0, -⟩:=HC.o w3 HB3.o;cases memo with
 |false=>
  obtain rfl:r=false:=by rw [T.o];simp
  clear T;go_wp2_with fail
  go_ret;exact⟨by first|rfl|(simp;done)|(simp;omega),u.o.trans (HB3.o.mono u.o.size)⟩
 |true=>
 have z:J2 (r=(List.range n).all tok):=by rw [J2,T.o];simp
 clear T;go_wp2_with fail
 clear s0;go_loopg [8,9,41] n (λgg s8 s9 s41 wr=>∃i:Nat,i<=n/\J2 (gg=n - i)/\s41=I4 i/\J2 (Below W.heap.size W wr)/\J2 (∀j,j<i->tok j=true))
 case atStart=>exact⟨0,Nat.zero_le _,rfl,rfl,HB3.o,λj hj=>by omega⟩
 case round=>
 obtain⟨i,hi,HG,rfl,zZ,HJ⟩:=hrel;by_cases hlt:i<n
 rotate_left
 ·obtain rfl:n=i:=by omega
  obtain rfl:r=true:=by rw [z.o,List.all_eq_true];exact λj hj=>HJ.o j (List.mem_range.1 hj)
  clear z;go_wp2_with fail
  go_ret;exact⟨by first|rfl|(simp;done)|(simp;omega),u.o.trans (zZ.o.mono u.o.size)⟩
 have vC:(i:Int)<(n:Int):=by omega
 have P:=qh (u.o.trans (zZ.o.mono u.o.size));have I:=qh (HTO.o i);obtain⟨eb,eo,ba,bc,yI, -,a,q0,q1,q2,q3,q4,q5,H⟩:=qR.part HTS.o i (by rw [<-HN.o];exact hlt);subst yI;obtain⟨kb,ko,ka,kc,hka, -,G, -⟩:=yP.part HCS.o i (by rw [<-HCN.o];exact hlt);subst hka;have jk:=qh (HBF.o i hlt);obtain⟨ln,hln⟩:=qxE ((cs.getD i []).length);rw [<-hln] at G I;obtain⟨t,ht⟩:=qxE (ts.getD i default);rw [<-ht] at a q0 q1 q2 q3 q4 q5 H I jk;obtain⟨pc,regs,buf⟩:=t;obtain⟨g0,g1,g2,g3,rfl⟩:=wM a;simp only [List.getD_cons_zero,List.getD_cons_succ] at q0 q1 q2 q3 q4 q5 H I jk;obtain⟨bn,hbn⟩:=qxE buf.length
 rw [<-hbn] at q5 H;have k:=λp v h=>zl P.o p v h;have e0:=k _ _ q0;have e1:=k _ _ q1;have e2:=k _ _ q2;have e3:=k _ _ q3;have e4:=k _ _ q4;have e5:=k _ _ q5;have e6:=k _ _ G;have zde:=qh (zX.below H P.o);obtain⟨-, -,s0, -⟩:=HC.o wr zZ.o;have HA:=qh ((Below.refl wr.heap.size wr).alloc (Nat.le_refl _) (.cells #[I4 pc,I4 g0,I4 g1,I4 g2,I4 g3, .slice ba bn bc] 75));have O:=qh (zQ wr (.cells #[I4 pc,I4 g0,I4 g1,I4 g2,I4 g3, .slice ba bn bc] 75));clear q0 q1 q2 q3 q4 q5 G H ht a k hln hbn;go_upto_region 7 with fail
 generalize World.alloc wr _=X at HA O ⊢;obtain⟨gl,hgl⟩:=qxE wr.heap.size;rw [<-hgl] at O ⊢;clear hgl e0 e1 e2 e3 e4 e5 s0;have L:J2 (Below W.heap.size W X):=zZ.o.trans (HA.o.mono zZ.o.size);have HWX:J2 (Below w.heap.size w X):=P.o.trans (HA.o.mono P.o.size);replace e6:=zl HA.o _ _ e6
 have b:J2 (∀x,Below X.heap.size X x->K3 x gl 0 (I4 pc)/\K3 x gl 5 (.slice ba bn bc)/\K3 x B 0 (I4 mn)/\K3 x B 1 (I4 dom)/\K3 x B 2 (.slice (some ⟨kb,ko,none⟩) n tc)/\
   x.cell? ⟨B+1,0,none⟩=some (I4 mm)/\x.cell? ⟨B+1,1,none⟩=some (I4 mb)/\x.cell? ⟨kb,ko+i,none⟩=some (.slice ka ln kc)):=λx hx=>by
  obtain⟨⟨p0,p1,p2⟩,⟨p3,p4⟩, -, -⟩:=HC.o x (zy L.o hx);exact⟨zl hx _ _ (ze O.o 0),zl hx _ _ (ze O.o 5),p0,p1,p2,p3,p4,zl hx _ _ e6⟩
 obtain⟨ro,Q⟩:=qxE ((List.range 4).all (λk=>xJ dom (([g0,g1,g2,g3] :List Int).getD k 0)));obtain⟨wo,Y⟩:=qxE ((List.range buf.length).all (wk buf))
 have zrI:J2 (∀x,Below X.heap.size X x->Calls Tryz.prog 93 #[.slice (some ⟨gl,1,none⟩) 4 4, .func (.func 92) #[] #[.pointer (some ⟨B,0,none⟩)]] x λe V=>e= .returned (.bool (!ro))/\Below x.heap.size x V):=λx hx=>by
  rw [Q];exact zly x _ [g0,g1,g2,g3] (zsf (zl hx _ _ (ze O.o 1)) (zl hx _ _ (ze O.o 2)) (zl hx _ _ (ze O.o 3)) (zl hx _ _ (ze O.o 4))) dom B (b.o x hx).2.2.2.1
 have z7D:J2 (∀x,Below X.heap.size X x->Calls Tryz.prog 94 #[.agg #[I4 mn,I4 dom, .slice (some ⟨kb,ko,none⟩) n tc], .agg #[I4 mm,I4 mb], .slice ba bn bc] x λe V=>e= .returned (.bool wo)/\Below x.heap.size x V):=λx hx=>by
  rw [Y];exact HWT.o x _ buf (zX.below (zX.below zde.o HA.o) hx) jk.o
 have f:J2 (tok i=(decide (0<=pc) && decide (pc<=(ln:Int)) && ro && wo)):=by rw [J2,I.o,Q,Y]
 have M:J2 (tok i=false->r=false):=λhw=>by
  rw [z.o,List.all_eq_false];exact⟨i,List.mem_range.2 hlt,by rw [hw];simp⟩
 have D:J2 (tok i=true->∀j,j<i+1->tok j=true):=λhw j hj=>by
  by_cases e:j=i
  ·subst e;exact hw
  exact HJ.o j (by omega)
 clear Q Y e6 I jk zde O HA;by_cases a0:0<=pc
 rotate_left
 ·have z0:decide (pc<0)=true:=decide_eq_true (by omega);obtain rfl:r=false:=M.o (by rw [f.o];simp [a0]);clear f D M z;refine qz (S:=λx=>Below X.heap.size X x) ((Below.refl _ _).drew) (λhH1=> ?_)
  refine zi 0 b.o ?_
  refine zi 1 b.o ?_
  refine zi 2 b.o ?_
  refine zi 3 b.o ?_
  refine zS 4 (by assumption) ?_
  refine zS 5 (by assumption) ?_
  refine zS 6 (by assumption) ?_
  refine zS 7 (by assumption) ?_
  refine zS 8 (by assumption) ?_
  refine zS 9 (by assumption) ?_
  refine zS 10 (by assumption) ?_
  refine zS 11 (by assumption) ?_
  refine zS 12 (by assumption) ?_
  refine zi 13 b.o ?_
  refine zi 14 b.o ?_
  refine zS 15 (by assumption) ?_
  refine zS 16 (by assumption) ?_
  refine zS 17 (by assumption) ?_
  refine zS 18 (by assumption) ?_
  refine zi 19 b.o ?_
  refine zi 20 b.o ?_
  refine zS 21 (by assumption) ?_
  refine zS 22 (by assumption) ?_
  refine zS 23 (by assumption) ?_
  refine zS 24 (by assumption) ?_
  refine zS 25 (by assumption) ?_
  refine zS 26 (by assumption) ?_
  refine zi 27 b.o ?_
  refine xC ?_
  have A:J2 (Below W.heap.size W X.drew):=L.o.trans ((hH1).mono L.o.size);go_wp2_with fail
  go_ret;exact⟨by first|rfl|(simp;done)|(simp;omega),u.o.trans (A.o.mono u.o.size)⟩
 have z0:decide (pc<0)=false:=decide_eq_false (by omega);by_cases a1:pc<=(ln:Int)
 rotate_left
 ·have z1:decide ((ln:Int)<pc)=true:=decide_eq_true (by omega);obtain rfl:r=false:=M.o (by rw [f.o];simp [a1]);clear f D M z;refine qz (S:=λx=>Below X.heap.size X x) ((Below.refl _ _).drew) (λhH2=> ?_)
  refine zi 0 b.o ?_
  refine zi 1 b.o ?_
  refine zi 2 b.o ?_
  refine zi 3 b.o ?_
  refine zi 4 b.o ?_
  refine zi 5 b.o ?_
  refine zi 6 b.o ?_
  refine zi 7 b.o ?_
  refine zi 8 b.o ?_
  refine zi 9 b.o ?_
  refine zi 10 b.o ?_
  refine zi 11 b.o ?_
  refine zi 12 b.o ?_
  refine zi 13 b.o ?_
  refine zi 14 b.o ?_
  refine zS 15 (by assumption) ?_
  refine zS 16 (by assumption) ?_
  refine zS 17 (by assumption) ?_
  refine zS 18 (by assumption) ?_
  refine zi 19 b.o ?_
  refine zi 20 b.o ?_
  refine zS 21 (by assumption) ?_
  refine zS 22 (by assumption) ?_
  refine zS 23 (by assumption) ?_
  refine zS 24 (by assumption) ?_
  refine zS 25 (by assumption) ?_
  refine zS 26 (by assumption) ?_
  refine zi 27 b.o ?_
  refine xC ?_
  have A:J2 (Below W.heap.size W X.drew):=L.o.trans ((hH2).mono L.o.size);go_wp2_with fail
  go_ret;exact⟨by first|rfl|(simp;done)|(simp;omega),u.o.trans (A.o.mono u.o.size)⟩
 have z1:decide ((ln:Int)<pc)=false:=decide_eq_false (by omega);cases ro with
 |true=>
  refine qz (S:=λx=>Below X.heap.size X x) ((Below.refl _ _).drew) (λhH4=> ?_)
  refine zi 0 b.o ?_
  refine zi 1 b.o ?_
  refine zi 2 b.o ?_
  refine zi 3 b.o ?_
  refine zi 4 b.o ?_
  refine zi 5 b.o ?_
  refine zi 6 b.o ?_
  refine zi 7 b.o ?_
  refine zi 8 b.o ?_
  refine zi 9 b.o ?_
  refine zi 10 b.o ?_
  refine zi 11 b.o ?_
  refine zi 12 b.o ?_
  refine zi 13 b.o ?_
  refine zi 14 b.o ?_
  refine zi 15 b.o ?_
  refine zi 16 b.o ?_
  refine zi 17 b.o ?_
  refine yA 18 rfl (λK hK=> ?_)
  go_simp
  refine(zrI.o X.drew hH4).mono ?_
  rintro e zvz ⟨rfl,E⟩;have J:Below X.heap.size X zvz:=zy hH4 E;refine hK.out _ _ J (λ_=> ?_)
  clear hK K E hH4;refine zi 19 b.o ?_
  refine zi 20 b.o ?_
  refine zi 21 b.o ?_
  refine zi 22 b.o ?_
  refine zi 23 b.o ?_
  refine zi 24 b.o ?_
  refine yA 25 rfl (λK hK=> ?_)
  go_simp
  refine(z7D.o zvz J).mono ?_
  rintro e zv0 ⟨rfl,E⟩;have zpR:Below X.heap.size X zv0:=zy J E;refine hK.out _ _ zpR (λ_=> ?_)
  clear hK K E J;refine zi 26 b.o ?_
  refine zi 27 b.o ?_
  refine xC ?_
  have A:J2 (Below W.heap.size W zv0):=L.o.trans ((zpR).mono L.o.size);cases wo with
  |true=>
   have pU:=qh (D.o (by rw [f.o];simp [a0,a1]));clear f D M z;go_wp2_with fail
   go_roundg (n - (i+1))
   case measure=>rw [HG.o];omega
   case rel=>exact⟨i+1,by omega,rfl,by simp,A.o,pU.o⟩
  |false=>
  obtain rfl:r=false:=M.o (by rw [f.o];simp)
  clear f D M z;go_wp2_with fail
  go_ret;exact⟨by first|rfl|(simp;done)|(simp;omega),u.o.trans (A.o.mono u.o.size)⟩
 |false=>
 obtain rfl:r=false:=M.o (by rw [f.o];simp)
 clear f D M z;refine qz (S:=λx=>Below X.heap.size X x) ((Below.refl _ _).drew) (λhH3=> ?_)
 refine zi 0 b.o ?_
 refine zi 1 b.o ?_
 refine zi 2 b.o ?_
 refine zi 3 b.o ?_
 refine zi 4 b.o ?_
 refine zi 5 b.o ?_
 refine zi 6 b.o ?_
 refine zi 7 b.o ?_
 refine zi 8 b.o ?_
 refine zi 9 b.o ?_
 refine zi 10 b.o ?_
 refine zi 11 b.o ?_
 refine zi 12 b.o ?_
 refine zi 13 b.o ?_
 refine zi 14 b.o ?_
 refine zi 15 b.o ?_
 refine zi 16 b.o ?_
 refine zi 17 b.o ?_
 refine yA 18 rfl (λK hK=> ?_)
 go_simp
 refine(zrI.o X.drew hH3).mono ?_
 rintro e zv1 ⟨rfl,E⟩;have zpS:Below X.heap.size X zv1:=zy hH3 E;refine hK.out _ _ zpS (λ_=> ?_)
 clear hK K E hH3;refine zi 19 b.o ?_
 refine zi 20 b.o ?_
 refine zS 21 (by assumption) ?_
 refine zS 22 (by assumption) ?_
 refine zS 23 (by assumption) ?_
 refine zS 24 (by assumption) ?_
 refine zS 25 (by assumption) ?_
 refine zS 26 (by assumption) ?_
 refine zi 27 b.o ?_
 refine xC ?_
 have A:J2 (Below W.heap.size W zv1):=L.o.trans ((zpS).mono L.o.size);go_wp2_with fail
 go_ret;exact⟨by first|rfl|(simp;done)|(simp;omega),u.o.trans (A.o.mono u.o.size)⟩
