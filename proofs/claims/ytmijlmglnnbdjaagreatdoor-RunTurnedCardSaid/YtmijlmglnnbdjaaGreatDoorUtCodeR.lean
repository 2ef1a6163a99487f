/- Steps. -/
import Derived.Test.YtmijlmglnnbdjaaGreatDoorUtPart
set_option linter.all false
namespace Go.Proofs.YtmijlmglnnbdjaaGreatDoor
open Go.RowKit
set_option maxRecDepth 100000
set_option maxHeartbeats 16000000
theorem ziI (w:World) (c:zG) (tv:Value) (d:Nat) (h:yP d w tv c.threads):Calls Tryz.prog 45 #[yj c tv] w λe w'=>e= .returned (.bool (codeOk c))/\Below w.heap.size w w':=by
 obtain⟨ta,tc,rfl,htl⟩:=zh.slice h;obtain⟨vars,dom,ts⟩:=c;simp only [] at h htl ⊢;obtain⟨n,hn⟩:=qxE ts.length;obtain⟨r,hr⟩:=qxE (codeOk ⟨vars,dom,ts⟩);have hr2:r=(decide (1<=vars) && decide (vars<=4) && decide (2<=dom) && decide (dom<=16) && decide (1<=n) && decide (n<=4) && ts.all (rowOk vars dom)):=by rw [hr,hn];rfl
 rw [<-hr];unfold yj;simp only [];rw [<-hn] at h htl ⊢;have hA:=(Below.refl w.heap.size w).alloc (Nat.le_refl _) (.cells #[I4 vars,I4 dom, .slice ta n tc] 25);have m:=qh hA;have H1:=qh (zQ w (.cells #[I4 vars,I4 dom, .slice ta n tc] 25));have HT:=qh (zh.below (xV.stays d) h hA);have M:=qh hr2;have HN:=qh hn;clear h hA hr hr2 hn;go_enter Tryz.func45,Tryz.ntmps45
 go_upto_region 1 with fail
 generalize World.alloc w _=W at m H1 HT ⊢;obtain⟨gx,hgx⟩:=qxE w.heap.size;rw [<-hgx] at H1 ⊢;clear hgx;have HC:J2 (∀x,Below W.heap.size W x->K3 x gx 0 (I4 vars)/\K3 x gx 1 (I4 dom)/\K3 x gx 2 (.slice ta n tc)):=λx hx=>⟨zl hx _ _ (ze H1.o 0),zl hx _ _ (ze H1.o 1),zl hx _ _ (ze H1.o 2)⟩;obtain⟨c0,c1,c2⟩:=HC.o W (Below.refl _ _);by_cases hv:1<=vars/\vars<=4
 rotate_left
 ·obtain rfl:r=false:=by
   have:(decide (1<=vars) && decide (vars<=4))=false:=by simp;omega
   rw [M.o,this];simp
  clear M;by_cases v1:vars<1
  ·clear hv;go_wp2_with fail
   go_ret;exact⟨by first|rfl|simp,m.o⟩
  have v2:4<vars:=by omega
  clear hv;go_wp2_with fail
  go_ret;exact⟨by first|rfl|simp,m.o⟩
 by_cases hd:2<=dom/\dom<=16
 rotate_left
 ·obtain rfl:r=false:=by
   have:(decide (2<=dom) && decide (dom<=16))=false:=by simp;omega
   rw [M.o,Bool.and_assoc (decide (1<=vars) && decide (vars<=4)),this];simp
  clear M;obtain⟨v1,v2⟩:=hv;have v1n:¬vars<1:=by omega
  have v2n:¬4<vars:=by omega
  by_cases d1:dom<2
  ·clear hd;go_wp2_with fail
   go_ret;exact⟨by first|rfl|simp,m.o⟩
  have d2:16<dom:=by omega
  clear hd;go_wp2_with fail
  go_ret;exact⟨by first|rfl|simp,m.o⟩
 by_cases ht:1<=n/\n<=4
 rotate_left
 ·obtain rfl:r=false:=by
   have:(decide (1<=n) && decide (n<=4))=false:=by simp;omega
   rw [M.o,Bool.and_assoc (decide (1<=vars) && decide (vars<=4) && decide (2<=dom) && decide (dom<=16)),this];simp
  clear M;obtain⟨v1,v2⟩:=hv;obtain⟨d1,d2⟩:=hd;have v1n:¬vars<1:=by omega
  have v2n:¬4<vars:=by omega
  have d1n:¬dom<2:=by omega
  have d2n:¬16<dom:=by omega
  by_cases n1:n=0
  ·subst n1;clear ht;go_wp2_with fail
   go_ret;exact⟨by first|rfl|simp,m.o⟩
  have n1n:¬(n:Int)<1:=by omega
  have n2n:(4:Int)<(n:Int):=by omega
  clear ht;go_wp2_with fail
  go_ret;exact⟨by first|rfl|simp,m.o⟩
 have f:J2 (r=ts.all (rowOk vars dom)):=by rw [J2,M.o];simp [hv.1,hv.2,hd.1,hd.2,ht.1,ht.2]
 clear M;obtain⟨v1,v2⟩:=hv;obtain⟨d1,d2⟩:=hd;obtain⟨n1,n2⟩:=ht;have v1n:¬vars<1:=by omega
 have v2n:¬4<vars:=by omega
 have d1n:¬dom<2:=by omega
 have d2n:¬16<dom:=by omega
 have n1n:¬(n:Int)<1:=by omega
 have n2n:¬(4:Int)<(n:Int):=by omega
 go_wp2_with fail
 clear c0 c1 c2;go_loopg [3] n (λgg s3 wr=>∃i:Nat,i<=n/\J2 (gg=n - i)/\s3=I4 i/\J2 (Below W.heap.size W wr)/\J2 (∀j,j<i->rowOk vars dom (ts.getD j [])=true))
 case atStart=>exact⟨0,Nat.zero_le _,rfl,rfl,Below.refl _ _,λj V=>by omega⟩
 case round=>
 obtain⟨i,hi,HG,rfl,uM,HJ⟩:=hrel;obtain⟨wo,rfl⟩:=qxE (wr:World);obtain⟨c0,c1,c2⟩:=HC.o wo uM.o;by_cases hlt:i<n
 rotate_left
 ·obtain rfl:n=i:=by omega
  obtain rfl:r=true:=by
   rw [f.o];exact zeS ts [] (rowOk vars dom) (λj V=>HJ.o j (by rw [HN.o];exact V))
  clear f;go_wp2_with fail
  go_ret;exact⟨by first|rfl|simp,m.o.trans (uM.o.mono m.o.size)⟩
 have vC:(i:Int)<(n:Int):=by omega
 obtain⟨eb,eo,ka,kc,rfl,heb,I,H⟩:=yP.part HT.o i (by rw [<-HN.o];exact hlt);obtain⟨l,hl⟩:=qxE (ts.getD i [] );rw [<-hl] at I H;obtain⟨t,U⟩:=qxE l.length;rw [<-U] at I H;have e0:=zl uM.o _ _ I;have HL:=qh hl;have Z:=qh U;have HEL:=qh H;clear hl U I H heb;by_cases h6:t<=600
 rotate_left
 ·obtain rfl:r=false:=by
   rw [f.o];refine zcj ts [] (rowOk vars dom) i (by rw [<-HN.o];exact hlt) ?_;rw [<-HL.o];unfold rowOk;rw [<-Z.o];simp [h6]
  clear f;have h6n:(600:Int)<(t:Int):=by omega
  go_wp2_with fail
  go_ret;exact⟨by first|rfl|simp,m.o.trans (uM.o.mono m.o.size)⟩
 have h6n:¬(600:Int)<(t:Int):=by omega
 go_wp2_with fail
 clear c0 c1 c2 e0;go_loopg [5] t (λgg s5 wr=>∃q:Nat,q<=t/\J2 (gg=t - q)/\s5=I4 q/\J2 (Below W.heap.size W wr)/\J2 (∀j,j<q->qH vars dom t (l.getD j default)=true))
 case atStart=>exact⟨0,Nat.zero_le _,rfl,rfl,uM.o,λj V=>by omega⟩
 case round=>
 obtain⟨q,hq,HG2,rfl,g,HJ2⟩:=hrel;by_cases hlq:q<t
 rotate_left
 ·obtain rfl:t=q:=by omega
  have J:rowOk vars dom (ts.getD i [])=true:=by
   rw [<-HL.o];unfold rowOk;rw [<-Z.o,zeS l default (qH vars dom t) (λj V=>HJ2.o j (by rw [Z.o];exact V))];simp [h6]
  have vW:=qh J;clear J;go_wp2_with fail
  go_roundg (n - (i+1))
  case measure=>rw [HG.o];omega
  case rel=>exact⟨i+1,by omega,rfl,by simp,g.o,λj V=>by
   by_cases he:j=i
   ·subst he;exact vW.o
   exact HJ.o j (by omega)⟩
 have zAl:(q:Int)<(t:Int):=by omega
 obtain⟨E,D,aa,ac,ba,bc,rfl, -,⟨x0,x1,x2⟩,⟨x3,x4,x5,x6⟩,⟨x7,x8,x9,N⟩,uf,xa,xb⟩:=gX.part HEL.o q (by rw [<-Z.o];exact hlq);obtain⟨x,hx⟩:=qxE (l.getD q default);rw [<-hx] at x0 x1 x2 x3 x4 x5 x6 x7 x8 x9 N uf xa xb;have HX:=qh hx;obtain⟨op,T⟩:=qxE x.op;obtain⟨G,R⟩:=qxE x.dest;rw [<-T] at x0;rw [<-R] at uf;have hst:qH vars dom t x=if op=12 then jf vars dom 9 t x else if op=13 then jf vars dom 4 t x else if op=10\/op=11 then false else jf vars dom op 0 x:=by rw [T];rfl
 have y:=qh hst;have HTO:=qh R
 have u:J2 (qH vars dom t x=false->r=false):=λe=>by
  rw [f.o];refine zcj ts [] (rowOk vars dom) i (by rw [<-HN.o];exact hlt) ?_;rw [<-HL.o];unfold rowOk;rw [<-Z.o,zcj l default (qH vars dom t) q (by rw [<-Z.o];exact hlq) (by rw [<-HX.o];exact e)];simp
 have pU:J2 (qH vars dom t x=true->∀j,j<q+1->qH vars dom t (l.getD j default)=true):=λe j V=>by
  by_cases he:j=q
  ·subst he;rw [<-HX.o];exact e
  exact HJ2.o j (by omega)
 have k:=λp v h=>zl g.o p v h
 have CC:J2 (∀X,Below wr.heap.size wr X->K3 X gx 0 (I4 vars)/\K3 X gx 1 (I4 dom)/\K3 X E (D+q*12+1) (I4 x.reg)/\K3 X E (D+q*12+2) (I4 x.var)/\
   X.cell? ⟨E,D+q*12+3,none⟩=some (I4 x.a.kind)/\X.cell? ⟨E,D+q*12+4,none⟩=some (I4 x.a.n)/\X.cell? ⟨E,D+q*12+5,none⟩=some (.int .u8 x.a.op)/\X.cell? ⟨E,D+q*12+6,none⟩=some (.slice aa x.a.kids.length ac)/\
   X.cell? ⟨E,D+q*12+7,none⟩=some (I4 x.b.kind)/\X.cell? ⟨E,D+q*12+8,none⟩=some (I4 x.b.n)/\X.cell? ⟨E,D+q*12+9,none⟩=some (.int .u8 x.b.op)/\X.cell? ⟨E,D+q*12+10,none⟩=some (.slice ba x.b.kids.length bc)/\X.cell? ⟨E,D+q*12+11,none⟩=some (I4 G)):=λX L=>
  have C:=λp v h=>zl L p v (k p v h)
  ⟨(HC.o X (zy g.o L)).1,(HC.o X (zy g.o L)).2.1,C _ _ x1,C _ _ x2,C _ _ x3,C _ _ x4,C _ _ x5,C _ _ x6,C _ _ x7,C _ _ x8,C _ _ x9,C _ _ N,C _ _ uf⟩
 have K:J2 (∀X,Below W.heap.size W X->∀kind:Int,Calls Tryz.prog 78 #[I4 kind,I4 x.reg,I4 x.var, .agg #[I4 x.a.kind,I4 x.a.n, .int .u8 x.a.op, .slice aa x.a.kids.length ac], .agg #[I4 x.b.kind,I4 x.b.n, .int .u8 x.b.op, .slice ba x.b.kids.length bc],I4 vars,I4 dom] X λe w'=>e= .returned (.bool (vg kind x.reg x.var x.a x.b vars dom))/\Below X.heap.size X w'):=λX L kind=>zlZ X kind x.reg x.var x.a x.b _ _ d (xa.below L) (xb.below L) vars dom;have y0:=k _ _ x0;have y11:=k _ _ uf;clear x0 x1 x2 x3 x4 x5 x6 x7 x8 x9 N uf xa xb hx T R hst k;by_cases o3:op=10
 ·subst o3;obtain rfl:=u.o (by rw [y.o];rfl)
  clear f;go_wp2_with fail
  go_ret;exact⟨by first|rfl|simp,m.o.trans (g.o.mono m.o.size)⟩
 have b3:((op:Int)==10)=false:=by simp [o3]
 by_cases o4:op=11
 ·subst o4;obtain rfl:=u.o (by rw [y.o];rfl)
  clear f;go_wp2_with fail
  go_ret;exact⟨by first|rfl|simp,m.o.trans (g.o.mono m.o.size)⟩
 have b4:((op:Int)==11)=false:=by simp [o4]
 go_upto_block 4 with fail
 go_cut [6,7] (λs6 s7 w'=>∃kind O:Int,s6=I4 kind/\s7=I4 O/\w'=wr/\J2 (qH vars dom t x=jf vars dom kind O x))
 case first=>
  by_cases o1:op=12
  ·have O1:=qh o1;have b1:((op:Int)==12)=true:=by simp [o1]
   clear o1;go_wp2_with fail
   go_meet
   case rel=>exact⟨9,(t:Int),by first|rfl|simp,by first|rfl|simp,rfl,by rw [J2,y.o,if_pos O1.o]⟩
  have b1:((op:Int)==12)=false:=by simp [o1]
  by_cases o2:op=13
  ·have O2:=qh o2;have b2:((op:Int)==13)=true:=by simp [o2]
   clear o2;go_wp2_with fail
   go_meet
   case rel=>exact⟨4,(t:Int),by first|rfl|simp,by first|rfl|simp,rfl,by rw [J2,y.o,if_neg o1,if_pos O2.o]⟩
  have b2:((op:Int)==13)=false:=by simp [o2]
  go_wp2_with fail
  go_meet
  case rel=>exact⟨op,0,by first|rfl|simp,by first|rfl|simp,rfl,by rw [J2,y.o,if_neg o1,if_neg o2,if_neg (λh=>h.elim o3 o4)]⟩
 case rest=>
 obtain⟨kind,O,rfl,rfl,hww,HFI⟩:=hcut;obtain rfl:wr=wc:=hww.symm;clear y b3 b4 o3 o4;have F:J2 (qH vars dom t x=(decide (1<=(kind:Int)) && decide ((kind:Int)<=9) && decide (0<=G) && decide (G<=O) && vg kind x.reg x.var x.a x.b vars dom)):=by rw [J2,HFI.o,HTO.o];rfl
 by_cases p1:1<=kind
 rotate_left
 ·skip
  have p1n:kind<1:=by omega
  obtain rfl:=u.o (by rw [F.o];simp [p1]);clear f F;go_upto_region 22 with fail
  obtain⟨z0,z1,z2,z3,z4,z5,z6,z7,z8,s,B,A,z⟩:=CC.o wr (Below.refl _ _);go_quiet (fail)
  go_wp2_with fail
  go_ret;exact⟨by first|rfl|simp,m.o.trans ((yw g.o _).mono m.o.size)⟩
 skip
 have p1n:¬kind<1:=by omega
 by_cases p2:kind<=9
 rotate_left
 ·skip
  have p2n:9<kind:=by omega
  obtain rfl:=u.o (by rw [F.o];simp [p2]);clear f F;go_upto_region 22 with fail
  obtain⟨z0,z1,z2,z3,z4,z5,z6,z7,z8,s,B,A,z⟩:=CC.o wr (Below.refl _ _);go_quiet (fail)
  go_wp2_with fail
  go_ret;exact⟨by first|rfl|simp,m.o.trans ((yw g.o _).mono m.o.size)⟩
 skip
 have p2n:¬9<kind:=by omega
 by_cases p3:0<=G
 rotate_left
 ·skip
  have p3n:G<0:=by omega
  obtain rfl:=u.o (by rw [F.o];simp [p3]);clear f F;go_upto_region 22 with fail
  obtain⟨z0,z1,z2,z3,z4,z5,z6,z7,z8,s,B,A,z⟩:=CC.o wr (Below.refl _ _);go_quiet (fail)
  go_wp2_with fail
  go_ret;exact⟨by first|rfl|simp,m.o.trans ((yw g.o _).mono m.o.size)⟩
 skip
 have p3n:¬G<0:=by omega
 by_cases p4:G<=O
 rotate_left
 ·skip
  have p4n:O<G:=by omega
  obtain rfl:=u.o (by rw [F.o];simp [p4]);clear f F;go_upto_region 22 with fail
  obtain⟨z0,z1,z2,z3,z4,z5,z6,z7,z8,s,B,A,z⟩:=CC.o wr (Below.refl _ _);go_quiet (fail)
  go_wp2_with fail
  go_ret;exact⟨by first|rfl|simp,m.o.trans ((yw g.o _).mono m.o.size)⟩
 skip
 have p4n:¬O<G:=by omega
 obtain⟨po,S⟩:=qxE (vg kind x.reg x.var x.a x.b vars dom);have Q:J2 (qH vars dom t x=po):=by rw [J2,F.o,S];simp [p3,p4,p1,p2]
 have HPO:=qh (λX (L:Below W.heap.size W X)=>K.o X L kind);rw [<-S] at HPO;clear F S K;go_upto_region 22 with fail
 have hz:=HC.o wr g.o;obtain⟨z0,z1,z2,z3,z4,z5,z6,z7,z8,s,B,A,z⟩:=CC.o wr (Below.refl _ _);refine wp_region_still_tail 49 (by kernel_rfl) (by kernel_rfl) ?_
 simp only [List.take_succ_cons,List.take_zero,List.drop_succ_cons,List.drop_zero];repeat still_step
 try refine wpStill_nil ?_
 change wpList _ _ _ _ _ wr.drew;obtain⟨wd,P⟩:=qxE wr.drew;rw [<-P];have kG:J2 (Below W.heap.size W wd):=by rw [J2,P];exact g.o.drew
 clear P z0 z1 z2 z3 z4 z5 z6 z7 z8 s B A z hz;go_wp2_with fail
 refine(HPO.o wd kG.o).mono ?_
 rintro e Y ⟨rfl,hb⟩;have vT:=qh (zy kG.o hb);clear hb;cases po with
 |true=>
  go_wp2_with fail
  go_roundg (t - (q+1))
  case measure=>rw [HG2.o];omega
  case rel=>exact⟨q+1,by omega,rfl,by simp,vT.o,pU.o Q.o⟩
 |false=>
 obtain rfl:=u.o Q.o;clear f u;go_wp2_with fail
 go_ret;exact⟨by first|rfl|simp,m.o.trans (vT.o.mono m.o.size)⟩
