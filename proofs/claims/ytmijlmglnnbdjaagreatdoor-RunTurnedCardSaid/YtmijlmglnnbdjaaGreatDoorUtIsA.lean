/- Steps. -/
import Derived.Test.YtmijlmglnnbdjaaGreatDoorUtSmallW
set_option linter.all false
namespace Go.Proofs.YtmijlmglnnbdjaaGreatDoor
open Go.RowKit
set_option maxRecDepth 100000
set_option maxHeartbeats 16000000
def zbX (b:Bool) (w:World) (e:Ending) (w':World):Prop:=e= .returned (.bool b)/\Below w.heap.size w w'
theorem zyz (n:Nat):((n:Int)==0)=decide (n=0):=by
 rw [Bool.eq_iff_iff,beq_iff_eq,decide_eq_true_eq];omega
theorem z1t {c:zG} {p:zF} {s:zo} (h:p.kind=1):isS c p s=(decide (0<=p.place) && decide (p.place<s.mem.length) && decide (s.mem.getD p.place.toNat 0=p.num)):=by unfold isS;rw [if_pos h]
theorem z1u {c:zG} {p:zF} {s:zo} (h:p.kind=5):isS c p s=s.bad:=by unfold isS;rw [if_neg (by omega),if_pos h]
theorem z1v {c:zG} {p:zF} {s:zo} (h:p.kind≠1) (d:p.kind≠5) (b:p.thread<0\/(s.threads.length:Int)<=p.thread\/(c.threads.length:Int)<=p.thread):isS c p s=false:=by unfold isS;rw [if_neg h,if_neg d,if_pos b]
theorem z6c {c:zG} {p:zF} {s:zo} (h:p.kind≠1) (m:p.kind≠5) {t:Nat} (l:p.thread=t) (o:t<s.threads.length) (n:t<c.threads.length) {th:zD} (b:th=s.threads.getD t default) {row:List yg} (j:row=c.threads.getD t []):
  (p.kind=2->isS c p s=(decide (0<=p.place) && decide (p.place<4) && decide (th.regs.getD p.place.toNat 0=p.num)))/\(p.kind=3->isS c p s=decide (th.pc=p.num))/\(p.kind=4->isS c p s=decide (th.buf.length=0))/\
  (p.kind=6->isS c p s=(decide (th.pc=(row.length:Int)) && decide (th.buf.length=0)))/\(p.kind≠2->p.kind≠3->p.kind≠4->p.kind≠6->isS c p s=false):=by
 subst b j
 have e:isS c p s=if p.kind=2 then decide (0<=p.place) && decide (p.place<4) && decide ((s.threads.getD t default).regs.getD p.place.toNat 0=p.num) else if p.kind=3 then decide ((s.threads.getD t default).pc=p.num) else if p.kind=4 then decide ((s.threads.getD t default).buf.length=0)
   else if p.kind=6 then decide ((s.threads.getD t default).pc=((c.threads.getD t []).length:Int)) && decide ((s.threads.getD t default).buf.length=0) else false:=by
  unfold isS;rw [if_neg h,if_neg m,if_neg (by omega),l,Int.toNat_natCast]
 rw [e];refine⟨λk=>by rw [if_pos k],λk=>by rw [if_neg (by omega),if_pos k],λk=>by rw [if_neg (by omega),if_neg (by omega),if_pos k],λk=>by rw [if_neg (by omega),if_neg (by omega),if_neg (by omega),if_pos k],λi g f d=>by rw [if_neg i,if_neg g,if_neg f,if_neg d]⟩
theorem z1w (w:World) (c:zG) (cv:Value) (d:Nat) (hc:yP d w cv c.threads) (p:zF) (s:zo) (sv mv:Value) (hs:yD w s sv mv):Calls Tryz.prog 73 #[yj c cv,p.val,yB s sv mv] w (zbX (isS c p s) w):=by
 obtain⟨ca,cc,rfl,hcn⟩:=zh.slice hc;obtain⟨ta,tc,rfl,htn⟩:=zh.slice hs.threads;obtain⟨ma,mc,rfl,hmn⟩:=zh.slice hs.mem;have f:=λh=>z1t (c:=c) (p:=p) (s:=s) h;have J:=λh=>z1u (c:=c) (p:=p) (s:=s) h;have A:=λh h5 ht=>z1v (c:=c) (p:=p) (s:=s) h h5 ht;have l:=λh h5 t (he:p.thread=(t:Nat)) h1 h2 th M row hr=>z6c (c:=c) (p:=p) (s:=s) h h5 he h1 h2 (th:=th) M (row:=row) hr;have hT:=hs.threads;have hM:=hs.mem;obtain⟨R,hR⟩:=qxE (isS c p s);rw [<-hR] at f J A ⊢;simp only [<-hR] at l;obtain⟨k,U,F,e⟩:=p;unfold yj zF.val yB;simp only [] at f J A l ⊢;obtain⟨q,hcl⟩:=qxE c.threads.length
 obtain⟨v,htl⟩:=qxE s.threads.length;obtain⟨V,hml⟩:=qxE s.mem.length;rw [<-hcl] at hc hcn A l ⊢;rw [<-htl] at hT htn A l ⊢;rw [<-hml] at hM hmn f ⊢;generalize c.vars=vars;generalize c.domain=dom;obtain⟨bd,hbe⟩:=qxE s.bad;rw [<-hbe] at J ⊢;obtain⟨hB,h1,h2,h3⟩:=jX w (.cells #[I4 vars,I4 dom, .slice ca q cc] 25) (.cells #[I4 k,I4 U,I4 F,I4 e] 35) (.cells #[.slice ta v tc, .slice ma V mc, .bool bd] 61);have D:=qh hB;have H1:=qh h1;have H2:=qh h2;have H3:=qh h3;have HM:=qh f;have kG:=qh J;have Y:=qh A;have HIN:=qh l;have HT:=qh hT;have HMM:=qh hM;have HC:=qh hc;have HCL:=qh hcl;have HTL:=qh htl
 have HML:=qh hml;clear hB h1 h2 h3 f J A l hT hM hc hs hR hcl htl hml hbe;go_enter Tryz.func73,Tryz.ntmps73
 go_upto_region 1 with fail
 generalize World.alloc (World.alloc (World.alloc w _) _) _=W at D H1 H2 H3 ⊢;obtain⟨i,hgx⟩:=qxE w.heap.size;rw [<-hgx] at H1 H2 H3 ⊢;clear hgx;have hg2:i+1+1=i+2:=rfl
 have n:J2 (∀y,Below W.heap.size W y->K3 y i 2 (.slice ca q cc)/\K3 y (i+1) 0 (I4 k)/\K3 y (i+1) 1 (I4 U)/\K3 y (i+1) 2 (I4 F)/\
   K3 y (i+1) 3 (I4 e)/\K3 y (i+2) 0 (.slice ta v tc)/\K3 y (i+2) 1 (.slice ma V mc)/\K3 y (i+2) 2 (.bool bd)):=λy g=>
  ⟨zl g _ _ (ze H1.o 2),zl g _ _ (ze H2.o 0),zl g _ _ (ze H2.o 1),zl g _ _ (ze H2.o 2),zl g _ _ (ze H2.o 3),zl g _ _ (ze H3.o 0),zl g _ _ (ze H3.o 1),zl g _ _ (ze H3.o 2)⟩
 obtain⟨c0,c1,c2,c3,c4,c5,c6,c7⟩:=n.o W (Below.refl _ _);clear H1 H2 H3;by_cases k1:k=1
 ·subst k1;have f:=HM.o rfl;by_cases z0:0<=F
  rotate_left
  ·have K:decide (0<=F)=false:=decide_eq_false z0;have b:J2 (R=false):=by rw [J2,f,K];rfl
   clear f;go_upto_region 3 with fail
   refine qz (S:=λx=>Below W.heap.size W x) ((Below.refl _ _).drew) (λhbp=> ?_)
   refine zi 0 n.o ?_
   refine zi 1 n.o ?_
   refine zi 2 n.o ?_
   refine zi 3 n.o ?_
   refine zS 4 (by assumption) ?_
   refine zS 5 (by assumption) ?_
   refine zS 6 (by assumption) ?_
   refine zS 7 (by assumption) ?_
   refine zS 8 (by assumption) ?_
   refine zS 9 (by assumption) ?_
   refine zi 10 n.o ?_
   refine zi 11 n.o ?_
   refine zS 12 (by assumption) ?_
   refine zS 13 (by assumption) ?_
   refine zS 14 (by assumption) ?_
   refine zS 15 (by assumption) ?_
   refine zS 16 (by assumption) ?_
   refine zS 17 (by assumption) ?_
   refine zS 18 (by assumption) ?_
   refine zS 19 (by assumption) ?_
   refine zS 20 (by assumption) ?_
   refine zi 21 n.o ?_
   refine zi 22 n.o ?_
   refine xC ?_
   go_wp2_with fail
   go_ret;rw [b.o];exact⟨rfl,zy D.o hbp⟩
  obtain⟨j,rfl⟩:∃j:Nat,F=j:=⟨F.toNat,by omega⟩;have K:decide ((0:Int)<=(j:Int))=true:=decide_eq_true z0;by_cases z1:j<V
  rotate_left
  ·have zn:¬((j:Int)<(V:Int)):=by omega
   have Z:decide ((j:Int)<(V:Int))=false:=decide_eq_false zn;have b:J2 (R=false):=by rw [J2,f,Z];simp
   clear f;go_upto_region 3 with fail
   refine qz (S:=λx=>Below W.heap.size W x) ((Below.refl _ _).drew) (λhcp=> ?_)
   refine zi 0 n.o ?_
   refine zi 1 n.o ?_
   refine zi 2 n.o ?_
   refine zi 3 n.o ?_
   refine zi 4 n.o ?_
   refine zi 5 n.o ?_
   refine zi 6 n.o ?_
   refine zi 7 n.o ?_
   refine zi 8 n.o ?_
   refine zi 9 n.o ?_
   refine zi 10 n.o ?_
   refine zi 11 n.o ?_
   refine zS 12 (by assumption) ?_
   refine zS 13 (by assumption) ?_
   refine zS 14 (by assumption) ?_
   refine zS 15 (by assumption) ?_
   refine zS 16 (by assumption) ?_
   refine zS 17 (by assumption) ?_
   refine zS 18 (by assumption) ?_
   refine zS 19 (by assumption) ?_
   refine zS 20 (by assumption) ?_
   refine zi 21 n.o ?_
   refine zi 22 n.o ?_
   refine xC ?_
   go_wp2_with fail
   go_ret;rw [b.o];exact⟨rfl,zy D.o hcp⟩
  have zI:(j:Int)<(V:Int):=by omega
  have Z:decide ((j:Int)<(V:Int))=true:=decide_eq_true zI;obtain⟨mb,mo,rfl, -,hmc⟩:=qx.part (zh.below uV.stays HMM.o D.o) j (by rw [<-HML.o];exact z1);obtain⟨mvv,hmv⟩:=qxE (s.mem.getD j 0);rw [<-hmv] at hmc;have b:J2 (R=decide (mvv=e)):=by rw [J2,f,K,Z,hmv,Int.toNat_natCast];rfl
  have z:J2 (∀y,Below W.heap.size W y->K3 y mb (mo+j) (I4 mvv)):=λy g=>zl g _ _ hmc
  have u:J2 (∀y,Below W.heap.size W y->K3 y i 2 (.slice ca q cc)/\K3 y (i+1) 0 (I4 1)/\K3 y (i+1) 1 (I4 U)/\K3 y (i+1) 2 (I4 j)/\K3 y (i+1) 3 (I4 e)/\
    K3 y (i+2) 0 (.slice ta v tc)/\K3 y (i+2) 1 (.slice (some ⟨mb,mo,none⟩) V mc)/\K3 y (i+2) 2 (.bool bd)/\K3 y mb (mo+j) (I4 mvv)):=λy g=>by
   obtain⟨e0,e1,e2,e3,e4,e5,e6,e7⟩:=n.o y g;exact⟨e0,e1,e2,e3,e4,e5,e6,e7,z.o y g⟩
  clear f hmv hmc;go_upto_region 3 with fail
  refine qz (S:=λx=>Below W.heap.size W x) ((Below.refl _ _).drew) (λhdp=> ?_)
  refine zi 0 u.o ?_
  refine zi 1 u.o ?_
  refine zi 2 u.o ?_
  refine zi 3 u.o ?_
  refine zi 4 u.o ?_
  refine zi 5 u.o ?_
  refine zi 6 u.o ?_
  refine zi 7 u.o ?_
  refine zi 8 u.o ?_
  refine zi 9 u.o ?_
  refine zi 10 u.o ?_
  refine zi 11 u.o ?_
  refine zi 12 u.o ?_
  refine zi 13 u.o ?_
  refine zi 14 u.o ?_
  refine zi 15 u.o ?_
  refine zi 16 u.o ?_
  refine zi 17 u.o ?_
  refine zi 18 u.o ?_
  refine zi 19 u.o ?_
  refine zi 20 u.o ?_
  refine zi 21 u.o ?_
  refine zi 22 u.o ?_
  refine xC ?_
  go_wp2_with fail
  go_ret;rw [b.o];exact⟨rfl,zy D.o hdp⟩
 by_cases k5:k=5
 ·subst k5;have f:=kG.o rfl;have b:=qh f;clear f;go_wp2_with fail
  go_ret;rw [b.o];exact⟨rfl,D.o⟩
 by_cases t0:U<0
 ·have td:decide (U<0)=true:=decide_eq_true t0;have b:J2 (R=false):=Y.o k1 k5 (.inl t0);go_wp2_with fail
  go_ret;rw [b.o];exact⟨rfl,D.o⟩
 have td:decide (U<0)=false:=decide_eq_false t0;obtain⟨t,rfl⟩:∃t:Nat,U=t:=⟨U.toNat,by omega⟩;by_cases t1:t<v
 rotate_left
 ·have tI:(v:Int)<=(t:Int):=by omega
  have tJ:¬((t:Int)<(v:Int)):=by omega
  obtain⟨G,I⟩:∃G:Nat,(if q<v then(q:Int) else(v:Int))=(G:Int):=⟨if q<v then q else v,by split<;>rfl⟩
  have z6e:(G:Int)<=(t:Int):=by rw [<-I];split<;>omega
  have b:J2 (R=false):=Y.o k1 k5 (.inr (.inl tI));go_wp2_with fail
  go_ret;rw [b.o];exact⟨rfl,D.o⟩
 by_cases t2:t<q
 rotate_left
 ·have tI:(q:Int)<=(t:Int):=by omega
  have tJ:¬((t:Int)<(q:Int)):=by omega
  have tK:((t:Int)<(v:Int)):=by omega
  have tK2:¬((v:Int)<=(t:Int)):=by omega
  obtain⟨G,I⟩:∃G:Nat,(if q<v then(q:Int) else(v:Int))=(G:Int):=⟨if q<v then q else v,by split<;>rfl⟩
  have z6e:(G:Int)<=(t:Int):=by rw [<-I];split<;>omega
  have b:J2 (R=false):=Y.o k1 k5 (.inr (.inr tI));go_wp2_with fail
  go_ret;rw [b.o];exact⟨rfl,D.o⟩
 obtain⟨tb,tof,ba,bc,rfl, -,hr4,y0,y1,y2,y3,y4,y5,B⟩:=qR.part (zh.below uJ.stays HT.o D.o) t (by rw [<-HTL.o];exact t1);obtain⟨a,Q,xa,xc,rfl, -,H, -⟩:=yP.part (zh.below (xV.stays d) HC.o D.o) t (by rw [<-HCL.o];exact t2);have l:=HIN.o k1 k5 t rfl t1 t2 _ rfl _ rfl;obtain⟨th,M⟩:=qxE (s.threads.getD t default);obtain⟨xn,hxn⟩:=qxE ((c.threads.getD t []).length);rw [<-M] at hr4 y0 y1 y2 y3 y4 y5 B l;rw [<-hxn] at H l;clear M hxn;obtain⟨pc,T,buf⟩:=th
 obtain⟨r0,r1,r2,r3,rfl⟩:∃r0 r1 r2 r3,T= [r0,r1,r2,r3] :=by
  match T,hr4 with
  | [r0,r1,r2,r3],_=>exact⟨r0,r1,r2,r3,rfl⟩
 simp only [List.getD_cons_zero,List.getD_cons_succ] at y0 y1 y2 y3 y4 y5 B l;clear hr4;obtain⟨N,hbl⟩:=qxE buf.length;rw [<-hbl] at y5 B l;have jk:=qh hbl;have zde:=qh B;clear hbl B;have vW:J2 (∀y,Below W.heap.size W y->K3 y a (Q+t) (.slice xa xn xc)):=λy g=>zl g _ _ H;clear H;have E:=qh l;clear l;have tI:(t:Int)<(v:Int):=by omega
 have tI2:¬((v:Int)<=(t:Int)):=by omega
 have tC:(t:Int)<(q:Int):=by omega
 have tC2:¬((q:Int)<=(t:Int)):=by omega
 obtain⟨G,I⟩:∃G:Nat,(if q<v then(q:Int) else(v:Int))=(G:Int):=⟨if q<v then q else v,by split<;>rfl⟩
 have z6e:¬((G:Int)<=(t:Int)):=by rw [<-I];split<;>omega
 go_upto_region 9 with fail
 have hXB:=(Below.refl W.heap.size W).alloc (Nat.le_refl _) (.cells #[I4 pc,I4 r0,I4 r1,I4 r2,I4 r3, .slice ba N bc] 75);have hXN:=zQ W (.cells #[I4 pc,I4 r0,I4 r1,I4 r2,I4 r3, .slice ba N bc] 75);have O:=qh hXB;have C:=qh hXN;clear hXB hXN c0 c1 c2 c3 c4 c5 c6 c7 y0 y1 y2 y3 y4 y5;generalize World.alloc W _=X at O C ⊢;obtain⟨L,hgt⟩:=qxE W.heap.size;rw [<-hgt] at C ⊢;clear hgt
 have r:J2 (∀y,Below X.heap.size X y->K3 y i 2 (.slice (some ⟨a,Q,none⟩) q cc)/\K3 y (i+1) 0 (I4 k)/\K3 y (i+1) 1 (I4 t)/\K3 y (i+1) 2 (I4 F)/\
   K3 y (i+1) 3 (I4 e)/\K3 y L 0 (I4 pc)/\K3 y L 1 (I4 r0)/\K3 y L 2 (I4 r1)/\
   K3 y L 3 (I4 r2)/\K3 y L 4 (I4 r3)/\K3 y L 5 (.slice ba N bc)/\K3 y a (Q+t) (.slice xa xn xc)):=λy g=>by
  obtain⟨e0,e1,e2,e3,e4, -⟩:=n.o y (zy O.o g);exact⟨e0,e1,e2,e3,e4,zl g _ _ (ze C.o 0),zl g _ _ (ze C.o 1),zl g _ _ (ze C.o 2),zl g _ _ (ze C.o 3),zl g _ _ (ze C.o 4),zl g _ _ (ze C.o 5),vW.o y (zy O.o g)⟩
 have P:=qh (zy D.o O.o);obtain⟨c0,c1,c2,c3,c4,c5,c6,c7,c8,c9,c10,c11⟩:=r.o X (Below.refl _ _);by_cases k2:k=2
 ·subst k2;have f:=E.o.1 rfl;by_cases z0:0<=F
  rotate_left
  ·have K:decide (0<=F)=false:=decide_eq_false z0;have b:J2 (R=false):=by rw [J2,f,K];rfl
   clear f;go_upto_region 11 with fail
   refine qz (S:=λx=>Below X.heap.size X x) ((Below.refl _ _).drew) (λhep=> ?_)
   refine zi 0 r.o ?_
   refine zi 1 r.o ?_
   refine zi 2 r.o ?_
   refine zi 3 r.o ?_
   refine zS 4 (by assumption) ?_
   refine zS 5 (by assumption) ?_
   refine zS 6 (by assumption) ?_
   refine zi 7 r.o ?_
   refine zi 8 r.o ?_
   refine zS 9 (by assumption) ?_
   refine zS 10 (by assumption) ?_
   refine zS 11 (by assumption) ?_
   refine zS 12 (by assumption) ?_
   refine zS 13 (by assumption) ?_
   refine zS 14 (by assumption) ?_
   refine zS 15 (by assumption) ?_
   refine zS 16 (by assumption) ?_
   refine zi 17 r.o ?_
   refine zi 18 r.o ?_
   refine xC ?_
   go_wp2_with fail
   go_ret;rw [b.o];exact⟨rfl,zy P.o hep⟩
  obtain⟨j,rfl⟩:∃j:Nat,F=j:=⟨F.toNat,by omega⟩;have K:decide ((0:Int)<=(j:Int))=true:=decide_eq_true z0;by_cases z1:j<4
  rotate_left
  ·have zn:¬((j:Int)<4):=by omega
   have Z:decide ((j:Int)<4)=false:=decide_eq_false zn;have b:J2 (R=false):=by rw [J2,f,Z];simp
   clear f;go_upto_region 11 with fail
   refine qz (S:=λx=>Below X.heap.size X x) ((Below.refl _ _).drew) (λhfp=> ?_)
   refine zi 0 r.o ?_
   refine zi 1 r.o ?_
   refine zi 2 r.o ?_
   refine zi 3 r.o ?_
   refine zi 4 r.o ?_
   refine zi 5 r.o ?_
   refine zi 6 r.o ?_
   refine zi 7 r.o ?_
   refine zi 8 r.o ?_
   refine zS 9 (by assumption) ?_
   refine zS 10 (by assumption) ?_
   refine zS 11 (by assumption) ?_
   refine zS 12 (by assumption) ?_
   refine zS 13 (by assumption) ?_
   refine zS 14 (by assumption) ?_
   refine zS 15 (by assumption) ?_
   refine zS 16 (by assumption) ?_
   refine zi 17 r.o ?_
   refine zi 18 r.o ?_
   refine xC ?_
   go_wp2_with fail
   go_ret;rw [b.o];exact⟨rfl,zy P.o hfp⟩
  have zI:(j:Int)<4:=by omega
  have Z:decide ((j:Int)<4)=true:=decide_eq_true zI;obtain⟨rv,hrv⟩:=qxE ( [r0,r1,r2,r3].getD j 0);have b:J2 (R=decide (rv=e)):=by rw [J2,f,K,Z,hrv,Int.toNat_natCast];rfl
  have z:J2 (∀y,Below X.heap.size X y->K3 y (i+1) 0 (I4 2)/\K3 y (i+1) 2 (I4 j)/\K3 y (i+1) 3 (I4 e)/\K3 y L (1+j) (I4 rv)):=λy g=>by
   obtain⟨-,e1, -,e3,e4, -,e6,e7,e8,e9, -⟩:=r.o y g;refine⟨e1,e3,e4, ?_⟩
   rw [hrv];have:j=0\/j=1\/j=2\/j=3:=by omega
   rcases this with rfl|rfl|rfl|rfl
   ·exact e6
   ·exact e7
   ·exact e8
   exact e9
  clear f hrv;go_upto_region 11 with fail
  refine qz (S:=λx=>Below X.heap.size X x) ((Below.refl _ _).drew) (λum=> ?_)
  refine zi 0 z.o ?_
  refine zi 1 z.o ?_
  refine zi 2 z.o ?_
  refine zi 3 z.o ?_
  refine zi 4 z.o ?_
  refine zi 5 z.o ?_
  refine zi 6 z.o ?_
  refine zi 7 z.o ?_
  refine zi 8 z.o ?_
  refine zi 9 z.o ?_
  refine zi 10 z.o ?_
  refine zi 11 z.o ?_
  refine zi 12 z.o ?_
  refine zi 13 z.o ?_
  refine zi 14 z.o ?_
  refine zi 15 z.o ?_
  refine zi 16 z.o ?_
  refine zi 17 z.o ?_
  refine zi 18 z.o ?_
  refine xC ?_
  go_wp2_with fail
  go_ret;rw [b.o];exact⟨rfl,zy P.o um⟩
 by_cases k3:k=3
 ·subst k3;have f:=E.o.2.1 rfl;have b:=qh f;clear f;go_wp2_with fail
  go_ret;rw [b.o];exact⟨rfl,P.o⟩
 by_cases k4:k=4
 ·subst k4;have f:=E.o.2.2.1 rfl;have b:=qh f;clear f;go_wp2_with fail
  go_ret;rw [b.o];exact⟨show Ending.returned (.bool ((N:Int)==0))=_ by rw [zyz],P.o⟩
 by_cases k6:k=6
 rotate_left
 ·have f:=E.o.2.2.2.2 k2 k3 k4 k6;have b:=qh f;clear f;go_wp2_with fail
  go_ret;rw [b.o];exact⟨rfl,P.o⟩
 subst k6;have f:=E.o.2.2.2.1 rfl;by_cases b0:N=0
 rotate_left
 ·have bI:¬((N:Int)=0):=by omega
  have bz:((N:Int)==0)=false:=by simpa using bI
  have bz2:decide (N=0)=false:=decide_eq_false b0;have b:J2 (R=false):=by rw [J2,f,bz2];simp
  clear f
  have m:J2 (∀y,Below X.heap.size X y->K3 y i 2 (.slice (some ⟨a,Q,none⟩) q cc)/\K3 y (i+1) 1 (I4 t)/\K3 y L 0 (I4 pc)/\K3 y L 5 (.slice ba N bc)/\K3 y a (Q+t) (.slice xa xn xc)):=λy g=>by
   obtain⟨e0, -,e2, -, -,e5, -, -, -, -,e10,e11⟩:=r.o y g;exact⟨e0,e2,e5,e10,e11⟩
  go_upto_region 17 with fail
  refine qz (S:=λx=>Below X.heap.size X x) ((Below.refl _ _).drew) (λhhp=> ?_)
  refine zi 0 m.o ?_
  refine zi 1 m.o ?_
  refine zi 2 m.o ?_
  refine zi 3 m.o ?_
  refine zi 4 m.o ?_
  refine zS 5 (by assumption) ?_
  refine zS 6 (by assumption) ?_
  refine zS 7 (by assumption) ?_
  refine zS 8 (by assumption) ?_
  refine zS 9 (by assumption) ?_
  refine zS 10 (by assumption) ?_
  refine zS 11 (by assumption) ?_
  refine zS 12 (by assumption) ?_
  refine zS 13 (by assumption) ?_
  refine zS 14 (by assumption) ?_
  refine zi 15 m.o ?_
  refine zi 16 m.o ?_
  refine xC ?_
  go_wp2_with fail
  go_ret;rw [b.o];exact⟨rfl,zy P.o hhp⟩
 subst b0
 have m:J2 (∀y,Below X.heap.size X y->K3 y i 2 (.slice (some ⟨a,Q,none⟩) q cc)/\K3 y (i+1) 1 (I4 t)/\K3 y L 0 (I4 pc)/\K3 y L 5 (.slice ba 0 bc)/\K3 y a (Q+t) (.slice xa xn xc)):=λy g=>by
  obtain⟨e0, -,e2, -, -,e5, -, -, -, -,e10,e11⟩:=r.o y g;exact⟨e0,e2,e5,e10,e11⟩
 have b:J2 (R=decide (pc=(xn:Int))):=by rw [J2,f];simp
 clear f;go_upto_region 17 with fail
 refine qz (S:=λx=>Below X.heap.size X x) ((Below.refl _ _).drew) (λhip=> ?_)
 refine zi 0 m.o ?_
 refine zi 1 m.o ?_
 refine zi 2 m.o ?_
 refine zi 3 m.o ?_
 refine zi 4 m.o ?_
 refine zi 5 m.o ?_
 refine zi 6 m.o ?_
 refine zi 7 m.o ?_
 refine zi 8 m.o ?_
 refine zi 9 m.o ?_
 refine zi 10 m.o ?_
 refine zi 11 m.o ?_
 refine zi 12 m.o ?_
 refine zi 13 m.o ?_
 refine zi 14 m.o ?_
 refine zi 15 m.o ?_
 refine zi 16 m.o ?_
 refine xC ?_
 go_wp2_with fail
 go_ret;rw [b.o];exact⟨rfl,zy P.o hip⟩
