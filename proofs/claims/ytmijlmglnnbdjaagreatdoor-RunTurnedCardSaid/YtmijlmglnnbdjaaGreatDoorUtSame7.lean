/- Steps. -/
import Derived.Test.YtmijlmglnnbdjaaGreatDoorUtMoves
set_option linter.all false
namespace Go.Proofs.YtmijlmglnnbdjaaGreatDoor
open Go.RowKit
set_option maxRecDepth 100000
set_option maxHeartbeats 16000000
theorem zhY {α:Type} [Inhabited α] {l r:List α} (c:l.length=r.length) (h:∀j,j<l.length->l.getD j default=r.getD j default):l=r:=by
 apply List.ext_getElem c
 intro j b d;have:=h j b
 rwa [List.getD_eq_getElem?_getD,List.getD_eq_getElem?_getD,List.getElem?_eq_getElem b,List.getElem?_eq_getElem d] at this
theorem zhZ {α:Type} [Inhabited α] {l r:List α} (j:Nat) (h:l.getD j default≠r.getD j default):l≠r:=λe=>h (by rw [e])
theorem ztA (w:World) (G F:Value) (b lb:List zq) (v:zX w G b) (u:zX w F lb):
  Calls Tryz.prog 44 #[G,F] w λe M=>e= .returned (.bool (decide (b=lb)))/\Below w.heap.size w M:=by
 obtain⟨aa,ac,rfl,D⟩:=zh.slice v;obtain⟨Q,K,rfl,C⟩:=zh.slice u;obtain⟨n,z⟩:=qxE b.length;obtain⟨m,A⟩:=qxE lb.length;rw [<-z] at v D ⊢;rw [<-A] at u C ⊢;have X:=qh v;have W:=qh u;have x:=qh z;have E:=qh A;have d:J2 (b≠lb->decide (b=lb)=false):=λe=>decide_eq_false e;have H:J2 (b=lb->decide (b=lb)=true):=λe=>decide_eq_true e;obtain⟨r,I⟩:=qxE (decide (b=lb));rw [<-I] at d H ⊢;clear v u z A I;by_cases hl:n=m
 rotate_left
 ·obtain rfl:=d.o (λe=>hl (by rw [x.o,E.o,e]));have R:((n:Int) !=(m:Int))=true:=by simp;omega
  go_enter Tryz.func44,Tryz.ntmps44
  go_wp2_with fail
  go_ret;exact⟨rfl,Below.refl _ _⟩
 subst hl;have U:J2 (b.length=lb.length):=by rw [J2, <-x.o, <-E.o]
 go_enter Tryz.func44,Tryz.ntmps44
 go_wp2_with fail
 go_loopg [5] n (λT N wr=>∃i:Nat,i<=n/\J2 (T=n - i)/\N=I4 i/\J2 (Below w.heap.size w wr)/\J2 (∀j,j<i->b.getD j default=lb.getD j default))
 case atStart=>exact⟨0,Nat.zero_le _,rfl,rfl,Below.refl _ _,λj S=>by omega⟩
 case round=>
 obtain⟨i,Z,V,rfl,c,J⟩:=hrel;by_cases hlt:i<n
 rotate_left
 ·obtain rfl:n=i:=by omega
  obtain rfl:=H.o (zhY U.o (by rw [<-x.o];exact J.o));go_wp2_with fail
  go_ret;exact⟨rfl,c.o⟩
 have Y:(i:Int)<(n:Int):=by omega
 obtain⟨a1,a2,L, -,l,k⟩:=zX.part X.o i (by rw [<-x.o];exact hlt);obtain⟨s,a,B, -,g,f⟩:=zX.part W.o i (by rw [<-E.o];exact hlt);subst L;subst B;replace l:=zl c.o _ _ l;replace k:=zl c.o _ _ k;replace g:=zl c.o _ _ g;replace f:=zl c.o _ _ f;have t:J2 (b.getD i default≠lb.getD i default->r=false):=λh=>d.o (zhZ i h)
 have y:J2 (b.getD i default=lb.getD i default->∀j,j<i+1->b.getD j default=lb.getD j default):=λe j S=>by
  by_cases he:j=i
  ·subst he;exact e
  exact J.o j (by omega)
 generalize b.getD i default=ea at l k t y;generalize lb.getD i default=eb at g f t y;obtain⟨p,q⟩:=ea;obtain⟨P,O⟩:=eb;simp only [] at l k g f;by_cases h1:p=P
 ·subst h1;by_cases h2:q=O
  ·subst h2;go_wp2_with fail
   go_quiet (fail)
   go_wp2_with fail
   go_roundg (n - (i+1))
   case measure=>rw [V.o];omega
   case rel=>exact⟨i+1,by omega,rfl,by simp,yw c.o _,y.o (by trivial)⟩
  obtain rfl:=t.o (by simp [h2]);go_wp2_with fail
  go_quiet (fail)
  go_wp2_with fail
  go_ret;exact⟨by first|rfl|simp,yw c.o _⟩
 obtain rfl:=t.o (by simp [h1]);go_wp2_with fail
 go_quiet (fail)
 go_wp2_with fail
 go_ret;exact⟨by first|rfl|simp,yw c.o _⟩
theorem zgq:∃i,Tryz.prog.info? 3=some i/\i.size=1:=by
 have h:(Tryz.prog.info? 3).map (λi=>i.size)=some 1:=by kernel_rfl
 cases hq:Tryz.prog.info? 3 with
 |none=>rw [hq] at h;cases h
 |some i=>rw [hq] at h;exact⟨i,rfl,by simpa using h⟩
theorem zqH:Tryz.prog.cellsOf 3=1:=by kernel_rfl
theorem ziT:Tryz.prog.underlying 3=some (.int .i64):=by kernel_rfl
theorem ziU:Tryz.prog.underlying 72=some (.array 4 3):=by kernel_rfl
theorem zhw (d:Nat) (w:World) (a b:Int):(Op.equalIn (d+1) 3 (I4 a) (I4 b)).run Tryz.prog w= .ok (a==b) w:=by
 simp [Op.equalIn,run_underlying ziT]
theorem kV (w:World) (xs:Array Value) (j:Nat) (a:Int) (h:xs[j]? =some (I4 a)):(part 3 xs j).run Tryz.prog w= .ok (I4 a) w:=by
 obtain⟨i,d,c⟩:=zgq
 have b:(isAgg 3).run Tryz.prog w= .ok false w:=by
  unfold isAgg;rw [Sem.run_bind,run_underlying ziT w];rfl
 simp [part,Sem.run_bind,b,h]
@[go_sem] theorem z6R (w:World) (n m l k r q p o:Int):(Op.equalIn 10000 72 (.agg #[I4 n,I4 m,I4 l,I4 k]) (.agg #[I4 r,I4 q,I4 p,I4 o])).run Tryz.prog w
  = .ok (decide (([n,m,l,k] :List Int)= [r,q,p,o])) w:=by
 obtain⟨i,t,u⟩:=zgq;rw [run_equalIn_array w 9999 _ _ ziU t,zqH];have e:List.range 4= [0,1,2,3] :=rfl;rw [e];have j:=λ(w:World) (a b c d:Int)=>kV w #[I4 a,I4 b,I4 c,I4 d] 0 a rfl;have h:=λ(w:World) (a b c d:Int)=>kV w #[I4 a,I4 b,I4 c,I4 d] 1 b rfl;have g:=λ(w:World) (a b c d:Int)=>kV w #[I4 a,I4 b,I4 c,I4 d] 2 c rfl;have f:=λ(w:World) (a b c d:Int)=>kV w #[I4 a,I4 b,I4 c,I4 d] 3 d rfl;have ge:=zhw 9998;by_cases h0:n=r
 ·by_cases h1:m=q
  ·by_cases h2:l=p
   ·by_cases h3:k=o
    ·simp [Op.eqItems,j,h,g,f,ge,h0,h1,h2,h3]
    simp [Op.eqItems,j,h,g,f,ge,h0,h1,h2,h3]
   simp [Op.eqItems,j,h,g,f,ge,h0,h1,h2]
  simp [Op.eqItems,j,h,g,f,ge,h0,h1]
 simp [Op.eqItems,j,h,g,f,ge,h0]
theorem ztB {s t:zo} (h:s.threads≠t.threads):s≠t:=λe=>h (by rw [e])
theorem ztC {s t:zo} (h:s.mem≠t.mem):s≠t:=λe=>h (by rw [e])
theorem ztD {s t:zo} (h:s.bad≠t.bad):s≠t:=λe=>h (by rw [e])
theorem ztE {α:Type} {l r:List α} (h:l.length≠r.length):l≠r:=λe=>h (by rw [e])
theorem ztF (w:World) (s t:zo) (sa sb ta tb:Value) (hs:yD w s sa sb) (ht:yD w t ta tb):
  Calls Tryz.prog 20 #[yB s sa sb,yB t ta tb] w λe w'=>e= .returned (.bool (decide (s=t)))/\Below w.heap.size w w':=by
 obtain⟨sa1,Q,rfl,hsl⟩:=zh.slice hs.threads;obtain⟨sb1,sbc,rfl,hsm⟩:=zh.slice hs.mem;obtain⟨ta1,Z,rfl,htl⟩:=zh.slice ht.threads;obtain⟨tb1,tbc,rfl,htm⟩:=zh.slice ht.mem;have zqI:J2 (s.threads≠t.threads->decide (s=t)=false):=λh=>decide_eq_false (ztB h);have zbK:J2 (s.mem≠t.mem->decide (s=t)=false):=λh=>decide_eq_false (ztC h);have zwB:J2 (s.bad≠t.bad->decide (s=t)=false):=λh=>decide_eq_false (ztD h);have pU:J2 (s.threads=t.threads->s.mem=t.mem->s.bad=t.bad->decide (s=t)=true):=λh1 h2 h3=>decide_eq_true (by cases s;cases t;simp only [] at h1 h2 h3;rw [h1,h2,h3]);obtain⟨r,hr⟩:=qxE (decide (s=t))
 rw [<-hr] at zqI zbK zwB pU ⊢;clear hr;have h1:=hs.threads;have h2:=hs.mem;have h3:=ht.threads;have h4:=ht.mem;clear hs ht;unfold yB;obtain⟨tl,sm,k⟩:=s;obtain⟨O,tm,E⟩:=t;simp only [] at h1 h2 h3 h4 hsl hsm htl htm zqI zbK zwB pU ⊢;obtain⟨n,b⟩:=qxE tl.length;obtain⟨n',hn'⟩:=qxE O.length;obtain⟨m,hm⟩:=qxE sm.length;obtain⟨m',hm'⟩:=qxE tm.length;rw [<-b] at h1 hsl ⊢;rw [<-hn'] at h3 htl ⊢;rw [<-hm] at h2 hsm ⊢;rw [<-hm'] at h4 htm ⊢;have hB:=xK w (.cells #[.slice sa1 n Q, .slice sb1 m sbc, .bool k] 61) (.cells #[.slice ta1 n' Z, .slice tb1 m' tbc, .bool E] 61)
 have H1:=qh (xA w (.cells #[.slice sa1 n Q, .slice sb1 m sbc, .bool k] 61) (.cells #[.slice ta1 n' Z, .slice tb1 m' tbc, .bool E] 61));have H2:=qh (xq w (.cells #[.slice sa1 n Q, .slice sb1 m sbc, .bool k] 61) (.cells #[.slice ta1 n' Z, .slice tb1 m' tbc, .bool E] 61));have HT1:=qh (zh.below uJ.stays h1 hB);have HM1:=qh (zh.below uV.stays h2 hB);have HT2:=qh (zh.below uJ.stays h3 hB);have HM2:=qh (zh.below uV.stays h4 hB);have HB:=qh hB;have HN:=qh b;have HN':=qh hn';have HM:=qh hm;have HM':=qh hm';clear h1 h2 h3 h4 hB b hn' hm hm';go_enter Tryz.func20,Tryz.ntmps20
 go_upto_region 1 with fail
 generalize World.alloc (World.alloc w _) _=W at HB H1 H2 HT1 HM1 HT2 HM2 ⊢;obtain⟨gx,hgx⟩:=qxE w.heap.size;rw [<-hgx] at H1 H2 ⊢;clear hgx
 have HC:J2 (∀x,Below W.heap.size W x->K3 x gx 0 (.slice sa1 n Q)/\K3 x gx 1 (.slice sb1 m sbc)/\K3 x gx 2 (.bool k)/\K3 x (gx+1) 0 (.slice ta1 n' Z)/\K3 x (gx+1) 1 (.slice tb1 m' tbc)/\K3 x (gx+1) 2 (.bool E)):=λx hx=>
  ⟨zl hx _ _ (ze H1.o 0),zl hx _ _ (ze H1.o 1),zl hx _ _ (ze H1.o 2),zl hx _ _ (ze H2.o 0),zl hx _ _ (ze H2.o 1),zl hx _ _ (ze H2.o 2)⟩
 have yV:J2 (∀x,Below W.heap.size W x->Below w.heap.size w x):=λx hx=>HB.o.trans (hx.mono HB.o.size);obtain⟨c0,c1,c2,c3,c4,c5⟩:=HC.o W (Below.refl _ _);by_cases hnn:n=n'
 rotate_left
 ·obtain rfl:=zqI.o (ztE (by rw [<-HN.o, <-HN'.o];exact hnn));have hn0:((n:Int) !=(n':Int))=true:=by simp;omega
  go_wp2_with fail
  go_ret;exact⟨by first|rfl|simp,yV.o _ (Below.refl _ _)⟩
 by_cases hmm:m=m'
 rotate_left
 ·obtain rfl:=zbK.o (ztE (by rw [<-HM.o, <-HM'.o];exact hmm));have hm0:((m:Int) !=(m':Int))=true:=by simp;omega
  subst hnn;go_wp2_with fail
  go_ret;exact⟨by first|rfl|simp,yV.o _ (Below.refl _ _)⟩
 by_cases hbb:k=E
 rotate_left
 ·obtain rfl:=zwB.o hbb;subst hnn;subst hmm;have hb0:(k==E)=false:=by cases k<;>cases E<;>simp_all
  clear hbb;go_wp2_with fail
  go_ret;exact⟨by first|rfl|simp,yV.o _ (Below.refl _ _)⟩
 subst hnn;subst hmm;subst hbb;have hb0:(k !=k)=false:=by simp
 go_wp2_with fail
 clear c0 c1 c2 c3 c4 c5 hb0;go_loopg [5] m (λgg s5 wr=>∃i:Nat,i<=m/\J2 (gg=m - i)/\s5=I4 i/\J2 (Below W.heap.size W wr)/\J2 (∀j,j<i->sm.getD j default=tm.getD j default))
 case atStart=>exact⟨0,Nat.zero_le _,rfl,rfl,Below.refl _ _,λj hj=>by omega⟩
 case round=>
 obtain⟨i,hi,HG,rfl,zZ,HJ⟩:=hrel;obtain⟨c0,c1,c2,c3,c4,c5⟩:=HC.o wr zZ.o;by_cases hlt:i<m
 ·have vC:(i:Int)<(m:Int):=by omega
  obtain⟨a1,a2,yI, -,Y⟩:=qx.part HM1.o i (by rw [<-HM.o];exact hlt);obtain⟨b1,b2,heb, -,X⟩:=qx.part HM2.o i (by rw [<-HM'.o];exact hlt);subst yI;subst heb;replace Y:=zl zZ.o _ _ Y;replace X:=zl zZ.o _ _ X;have uI:J2 (sm.getD i 0≠tm.getD i 0->r=false):=λh=>zbK.o (zhZ i h)
  have ug:J2 (sm.getD i 0=tm.getD i 0->∀j,j<i+1->sm.getD j default=tm.getD j default):=λe j hj=>by
   by_cases he:j=i
   ·subst he;exact e
   exact HJ.o j (by omega)
  generalize sm.getD i 0=p at Y uI ug;generalize tm.getD i 0=q at X uI ug;by_cases h1:p=q
  ·subst h1;go_wp2_with fail
   go_quiet (fail)
   go_wp2_with fail
   go_roundg (m - (i+1))
   case measure=>rw [HG.o];omega
   case rel=>exact⟨i+1,by omega,rfl,by simp,yw zZ.o _,ug.o (by trivial)⟩
  obtain rfl:=uI.o (by simp [h1]);go_wp2_with fail
  go_quiet (fail)
  go_wp2_with fail
  go_ret;exact⟨by first|rfl|simp,yV.o _ (yw zZ.o _)⟩
 obtain rfl:m=i:=by omega
 have hmem:sm=tm:=zhY (by rw [<-HM.o, <-HM'.o]) (by rw [<-HM.o];exact HJ.o);have zeP:=qh hmem;clear hmem;go_wp2_with fail
 clear c0 c1 c2 c3 c4 c5;go_loopg [6] n (λgg s6 wr=>∃i:Nat,i<=n/\J2 (gg=n - i)/\s6=I4 i/\J2 (Below W.heap.size W wr)/\J2 (∀j,j<i->tl.getD j default=O.getD j default))
 case atStart=>exact⟨0,Nat.zero_le _,rfl,rfl,zZ.o,λj hj=>by omega⟩
 case round=>
 obtain⟨i,hi,HG6,rfl,f,HJ6⟩:=hrel;obtain⟨wo,rfl⟩:=qxE (wr:World);by_cases hlt:i<n
 rotate_left
 ·obtain rfl:n=i:=by omega
  obtain rfl:=pU.o (zhY (by rw [<-HN.o, <-HN'.o]) (by rw [<-HN.o];exact HJ6.o)) zeP.o (by trivial);obtain⟨c0,c1,c2,c3,c4,c5⟩:=HC.o wo f.o;go_wp2_with fail
  go_ret;exact⟨by first|rfl|simp,yV.o _ f.o⟩
 have vC:(i:Int)<(n:Int):=by omega
 obtain⟨a1,a2,ba,bc,yI, -,hr4,Y,x1,x2,x3,x4,x5,B⟩:=qR.part HT1.o i (by rw [<-HN.o];exact hlt);obtain⟨b1,b2,v,u,heb, -,zqJ,X,y1,y2,y3,y4,y5,V⟩:=qR.part HT2.o i (by rw [<-HN'.o];exact hlt);subst yI;subst heb;have uI:J2 (tl.getD i default≠O.getD i default->r=false):=λh=>zqI.o (zhZ i h)
 have ug:J2 (tl.getD i default=O.getD i default->∀j,j<i+1->tl.getD j default=O.getD j default):=λe j hj=>by
  by_cases he:j=i
  ·subst he;exact e
  exact HJ6.o j (by omega)
 generalize tl.getD i default=ea at Y x1 x2 x3 x4 x5 B hr4 uI ug;generalize O.getD i default=eb at X y1 y2 y3 y4 y5 V zqJ uI ug;obtain⟨pc,rg,bf⟩:=ea;obtain⟨d,rg',bf'⟩:=eb;simp only [] at Y x1 x2 x3 x4 x5 B hr4 X y1 y2 y3 y4 y5 V zqJ;obtain⟨q0,q1,q2,a,rfl⟩:=wM hr4;obtain⟨p0,p1,p2,p3,rfl⟩:=wM zqJ;simp only [List.getD_cons_zero,List.getD_cons_succ] at x1 x2 x3 x4 y1 y2 y3 y4;obtain⟨bl,hbl⟩:=qxE bf.length;obtain⟨l,zwC⟩:=qxE bf'.length;rw [<-hbl] at x5 B;rw [<-zwC] at y5 V
 have HX:J2 (∀y,Below wo.heap.size wo y->(K3 y gx 0 (.slice (some ⟨a1,a2,none⟩) n Q)/\K3 y (gx+1) 0 (.slice (some ⟨b1,b2,none⟩) n Z)/\K3 y a1 (a2+i*6) (I4 pc)/\K3 y a1 (a2+i*6+1) (I4 q0)/\K3 y a1 (a2+i*6+2) (I4 q1)/\K3 y a1 (a2+i*6+3) (I4 q2)/\K3 y a1 (a2+i*6+4) (I4 a)/\K3 y a1 (a2+i*6+5) (.slice ba bl bc)/\
   K3 y b1 (b2+i*6) (I4 d)/\K3 y b1 (b2+i*6+1) (I4 p0)/\K3 y b1 (b2+i*6+2) (I4 p1)/\K3 y b1 (b2+i*6+3) (I4 p2)/\K3 y b1 (b2+i*6+4) (I4 p3)/\K3 y b1 (b2+i*6+5) (.slice v l u))):=λy hy=>by
  have P:=zy f.o hy;obtain⟨c0, -, -,c3, -, -⟩:=HC.o y P;exact⟨c0,c3,zl P _ _ Y,zl P _ _ x1,zl P _ _ x2,zl P _ _ x3,zl P _ _ x4,zl P _ _ x5,zl P _ _ X,zl P _ _ y1,zl P _ _ y2,zl P _ _ y3,zl P _ _ y4,zl P _ _ y5⟩
 have HBF:=qh (zX.below B f.o);have zAw:=qh (zX.below V f.o);obtain⟨c0,c1,c2,c3,c4,c5⟩:=HC.o wo f.o;have jk:=qh hbl;have zFv:=qh zwC;clear Y x1 x2 x3 x4 x5 X y1 y2 y3 y4 y5 B V hbl zwC hr4 zqJ;go_upto_region 11 with fail
 clear c0 c1 c2 c3 c4 c5;go_cut [7,8] (λs7 s8 w'=>∃A z,s7= .pointer (some ⟨A,0,none⟩)/\s8= .pointer (some ⟨z,0,none⟩)/\J2 (Below wo.heap.size wo w')/\J2 (w'.heap[A]? =some (.cells #[I4 pc,I4 q0,I4 q1,I4 q2,I4 a, .slice ba bl bc] 75 (0,0)))/\J2 (w'.heap[z]? =some (.cells #[I4 d,I4 p0,I4 p1,I4 p2,I4 p3, .slice v l u] 75 (0,0))))
 case first=>
  have c:=qh (Loc.start wo).drew;refine qz (S:=λx=>Below wo.heap.size wo x) (Below.refl _ _).drew (λ_=> ?_)
  obtain⟨wd,hwd⟩:=qxE wo.drew;rw [<-hwd] at c ⊢;clear hwd;refine zB 0 zM (c.o.below) ?_
  refine zB 1 HX.o (c.o.below) ?_
  refine zB 2 zM (c.o.below) ?_
  refine zB 3 zM (c.o.below) ?_
  refine zB 4 HX.o (c.o.below) ?_
  refine zB 5 zM (c.o.below) ?_
  refine zB 6 HX.o (c.o.below) ?_
  refine zB 7 zM (c.o.below) ?_
  refine zB 8 zM (c.o.below) ?_
  refine zB 9 HX.o (c.o.below) ?_
  refine wpAnyH_ready (rs:= [10,11]) (by kernel_rfl) (by simp) ?_
  refine AllReadyH.cons rfl (λK hK=> ?_) (AllReadyH.cons rfl (λK hK=> ?_) AllReadyH.nil)
  ·skip
   go_simp
   have L:=c.o.alloc 75 [I4 0,I4 0,I4 0,I4 0,I4 0,N7];refine hK.out _ _ L.below (λ_=> ?_)
   obtain⟨A,hxb⟩:=qxE wd.heap.size;rw [<-hxb] at L ⊢;clear hxb;generalize World.alloc wd _=Xs2 at L ⊢;replace L:=qh L;clear hK K;refine yA 11 rfl (λK hK=> ?_)
   go_simp
   have J:A≠Xs2.heap.size:=L.o.zcl (List.mem_cons_self ..);have H:=L.o.alloc 75 [I4 0,I4 0,I4 0,I4 0,I4 0,N7];refine hK.out _ _ H.below (λ_=> ?_)
   obtain⟨z,hyb⟩:=qxE Xs2.heap.size;rw [<-hyb] at H J ⊢;clear hyb;replace J:=qh J;generalize World.alloc Xs2 _=Xs4 at H ⊢;replace H:=qh H;clear hK K;refine yA 12 rfl (λK hK=> ?_)
   obtain⟨b, -⟩:=H.o.news (A,75, [I4 0,I4 0,I4 0,I4 0,I4 0,N7]) (List.mem_cons_of_mem _ (List.mem_cons_self ..));have d0:=ze b 0;have f0:=zH b 0;have d1:=ze b 1;have f1:=zH b 1;have d2:=ze b 2;have f2:=zH b 2;have d3:=ze b 3;have f3:=zH b 3;have d4:=ze b 4;have f4:=zH b 4;have d5:=ze b 5;have f5:=zH b 5;clear b;have M:=H.o.store (g:=A) (t:=75) (cs:= [I4 0,I4 0,I4 0,I4 0,I4 0,N7]) (List.mem_cons_of_mem _ (List.mem_cons_self ..)) [I4 pc,I4 q0,I4 q1,I4 q2,I4 a, .slice ba bl bc] rfl;replace M:=qh M;go_simp
   clear d0 f0 d1 f1 d2 f2 d3 f3 d4 f4 d5 f5;refine hK.out _ (yU Xs4 A 0 [I4 pc,I4 q0,I4 q1,I4 q2,I4 a, .slice ba bl bc]) M.o.below (λ_=> ?_)
   generalize yU Xs4 A 0 _=Xs6 at M ⊢;clear hK K;refine yA 13 rfl (λK hK=> ?_)
   obtain⟨b, -⟩:=M.o.news (z,75, [I4 0,I4 0,I4 0,I4 0,I4 0,N7]) (kK (List.mem_cons_self ..) (Ne.symm J.o));have d0:=ze b 0;have f0:=zH b 0;have d1:=ze b 1;have f1:=zH b 1;have d2:=ze b 2;have f2:=zH b 2;have d3:=ze b 3;have f3:=zH b 3;have d4:=ze b 4;have f4:=zH b 4;have d5:=ze b 5;have f5:=zH b 5;clear b;have D:=M.o.store (g:=z) (t:=75) (cs:= [I4 0,I4 0,I4 0,I4 0,I4 0,N7]) (kK (List.mem_cons_self ..) (Ne.symm J.o)) [I4 d,I4 p0,I4 p1,I4 p2,I4 p3, .slice v l u] rfl;replace D:=qh D;go_simp
   clear d0 f0 d1 f1 d2 f2 d3 f3 d4 f4 d5 f5;refine hK.out _ (yU Xs6 z 0 [I4 d,I4 p0,I4 p1,I4 p2,I4 p3, .slice v l u]) D.o.below (λ_=> ?_)
   generalize yU Xs6 z 0 _=Xs8 at D ⊢;clear hK K;refine xC ?_
   obtain⟨hx, -⟩:=D.o.news (A,75, [I4 pc,I4 q0,I4 q1,I4 q2,I4 a, .slice ba bl bc]) (kK (zbf (List.mem_cons_of_mem _ (List.mem_cons_self ..))) J.o);obtain⟨hy, -⟩:=D.o.news (z,75, [I4 d,I4 p0,I4 p1,I4 p2,I4 p3, .slice v l u]) (zbf (kK (List.mem_cons_self ..) (Ne.symm J.o)));have HXX:=qh hx;have HYY:=qh hy;clear hx hy;go_wp2_with fail
   go_meet
   case rel=>exact⟨A,z,rfl,rfl,D.o.below,HXX.o,HYY.o⟩
  skip
  go_simp
  have C:=c.o.alloc 75 [I4 0,I4 0,I4 0,I4 0,I4 0,N7];refine hK.out _ _ C.below (λ_=> ?_)
  obtain⟨z,hyb⟩:=qxE wd.heap.size;rw [<-hyb] at C ⊢;clear hyb;generalize World.alloc wd _=zq4 at C ⊢;replace C:=qh C;clear hK K;refine yA 10 rfl (λK hK=> ?_)
  go_simp
  have I:z≠zq4.heap.size:=C.o.zcl (List.mem_cons_self ..);have G:=C.o.alloc 75 [I4 0,I4 0,I4 0,I4 0,I4 0,N7];refine hK.out _ _ G.below (λ_=> ?_)
  obtain⟨A,hxb⟩:=qxE zq4.heap.size;rw [<-hxb] at G I ⊢;clear hxb;replace I:=qh I;generalize World.alloc zq4 _=z3r at G ⊢;replace G:=qh G;clear hK K;refine yA 12 rfl (λK hK=> ?_)
  obtain⟨b, -⟩:=G.o.news (A,75, [I4 0,I4 0,I4 0,I4 0,I4 0,N7]) (List.mem_cons_self ..);have d0:=ze b 0;have f0:=zH b 0;have d1:=ze b 1;have f1:=zH b 1;have d2:=ze b 2;have f2:=zH b 2;have d3:=ze b 3;have f3:=zH b 3;have d4:=ze b 4;have f4:=zH b 4;have d5:=ze b 5;have f5:=zH b 5;clear b;have N:=G.o.store (g:=A) (t:=75) (cs:= [I4 0,I4 0,I4 0,I4 0,I4 0,N7]) (List.mem_cons_self ..) [I4 pc,I4 q0,I4 q1,I4 q2,I4 a, .slice ba bl bc] rfl;replace N:=qh N;go_simp
  clear d0 f0 d1 f1 d2 f2 d3 f3 d4 f4 d5 f5;refine hK.out _ (yU z3r A 0 [I4 pc,I4 q0,I4 q1,I4 q2,I4 a, .slice ba bl bc]) N.o.below (λ_=> ?_)
  generalize yU z3r A 0 _=z3s at N ⊢;clear hK K;refine yA 13 rfl (λK hK=> ?_)
  obtain⟨b, -⟩:=N.o.news (z,75, [I4 0,I4 0,I4 0,I4 0,I4 0,N7]) (kK (List.mem_cons_of_mem _ (List.mem_cons_self ..)) I.o);have d0:=ze b 0;have f0:=zH b 0;have d1:=ze b 1;have f1:=zH b 1;have d2:=ze b 2;have f2:=zH b 2;have d3:=ze b 3;have f3:=zH b 3;have d4:=ze b 4;have f4:=zH b 4;have d5:=ze b 5;have f5:=zH b 5;clear b;have F:=N.o.store (g:=z) (t:=75) (cs:= [I4 0,I4 0,I4 0,I4 0,I4 0,N7]) (kK (List.mem_cons_of_mem _ (List.mem_cons_self ..)) I.o) [I4 d,I4 p0,I4 p1,I4 p2,I4 p3, .slice v l u] rfl;replace F:=qh F;go_simp
  clear d0 f0 d1 f1 d2 f2 d3 f3 d4 f4 d5 f5;refine hK.out _ (yU z3s z 0 [I4 d,I4 p0,I4 p1,I4 p2,I4 p3, .slice v l u]) F.o.below (λ_=> ?_)
  generalize yU z3s z 0 _=zFw at F ⊢;clear hK K;refine xC ?_
  obtain⟨hx, -⟩:=F.o.news (A,75, [I4 pc,I4 q0,I4 q1,I4 q2,I4 a, .slice ba bl bc]) (kK (zbf (List.mem_cons_self ..)) (Ne.symm I.o));obtain⟨hy, -⟩:=F.o.news (z,75, [I4 d,I4 p0,I4 p1,I4 p2,I4 p3, .slice v l u]) (zbf (kK (List.mem_cons_of_mem _ (List.mem_cons_self ..)) I.o));have HXX:=qh hx;have HYY:=qh hy;clear hx hy;go_wp2_with fail
  go_meet
  case rel=>exact⟨A,z,rfl,rfl,F.o.below,HXX.o,HYY.o⟩
 case rest=>
 obtain⟨w2,rfl⟩:=qxE (wc:World);obtain⟨A,z,rfl,rfl,U,T,R⟩:=hcut;have Y:=ze T.o 0;have x1:=ze T.o 1;have x2:=ze T.o 2;have x3:=ze T.o 3;have x4:=ze T.o 4;have x5:=ze T.o 5;have X:=ze R.o 0;have y1:=ze R.o 1;have y2:=ze R.o 2;have y3:=ze R.o 3;have y4:=ze R.o 4;have y5:=ze R.o 5;by_cases e0:pc=d
 rotate_left
 ·obtain rfl:=uI.o (λe=>e0 (by injection e));have he0:((pc:Int) !=d)=true:=by simp;exact e0
  go_wp2_with fail
  go_ret;exact⟨by first|rfl|simp,yV.o _ (zy f.o U.o)⟩
 subst e0;by_cases e1:([q0,q1,q2,a] :List Int)= [p0,p1,p2,p3]
 rotate_left
 ·obtain rfl:=uI.o (λe=>e1 (by injection e));have hag:(([q0,q1,q2,a] :List Int)= [p0,p1,p2,p3])=False:=eq_false e1;have zFx:decide (([q0,q1,q2,a] :List Int)= [p0,p1,p2,p3])=false:=decide_eq_false e1;clear e1;go_wp2_with fail
  go_ret;exact⟨by first|rfl|simp,yV.o _ (zy f.o U.o)⟩
 simp only [List.cons.injEq,and_true] at e1;obtain⟨rfl,rfl,rfl,rfl⟩:=e1
 have HSM:J2 (∀y,Below w2.heap.size w2 y->Calls Tryz.prog 44 #[.slice ba bl bc, .slice v l u] y λe w'=>e= .returned (.bool (decide (bf=bf')))/\Below y.heap.size y w'):=λy hy=>
  ztA y _ _ bf bf' (zX.below (zX.below HBF.o U.o) hy) (zX.below (zX.below zAw.o U.o) hy)
 have he0:((pc:Int) !=pc)=false:=by simp
 by_cases hbe:bf=bf'
 ·subst hbe;have hd:decide (bf=bf)=true:=decide_eq_true rfl;rw [hd] at HSM;clear hd;go_wp2_with(go_at_call 44;refine(HSM.o _ (Below.refl _ _)).mono ?_;rintro e w3 ⟨rfl,hb3⟩;have HB3:=qh hb3;clear hb3);clear Y x1 x2 x3 x4 x5 X y1 y2 y3 y4 y5;go_roundg (n - (i+1))
  case measure=>rw [HG6.o];omega
  case rel=>exact⟨i+1,by omega,rfl,by simp,zy (zy f.o U.o) HB3.o,ug.o (by trivial)⟩
 rw [decide_eq_false hbe] at HSM;obtain rfl:=uI.o (λe=>hbe (by injection e));have yR:=qh hbe;clear hbe;go_wp2_with(go_at_call 44;refine(HSM.o _ (Below.refl _ _)).mono ?_;rintro e w3 ⟨rfl,hb3⟩;have HB3:=qh hb3;clear hb3);clear Y x1 x2 x3 x4 x5 X y1 y2 y3 y4 y5;go_ret;exact⟨by first|rfl|simp,yV.o _ (zy (zy f.o U.o) HB3.o)⟩
def u8 (n:Int):Int:=n % 256
theorem zdH {n:Int} (c:0<=n) (b:n<256):u8 n=n:=Int.emod_eq_of_lt c b
theorem zlK (n:Int):0<=u8 n/\u8 n<256:=⟨Int.emod_nonneg n (by decide),Int.emod_lt_of_pos n (by decide)⟩
def uK (e:zq):List Int:= [u8 e.var,u8 e.n]
def vQ (t:zD):List Int:= [u8 (t.pc / 256),u8 t.pc] ++t.regs.map u8++ [u8 t.buf.length] ++t.buf.flatMap uK
def zcv (s:zo):List Int:=(if s.bad then 1 else 0)::(s.mem.map u8++s.threads.flatMap vQ)
def keyOf (s:zo):ByteArray:=strOfNums (zcv s)
structure zgr (t:zD):Prop where
 pc:0<=t.pc/\t.pc<65536
 regs:t.regs.length=4
 reg:∀x∈t.regs,0<=x/\x<256
 len:t.buf.length<256
 buf:∀e∈t.buf,(0<=e.var/\e.var<256)/\0<=e.n/\e.n<256
structure zks (s:zo):Prop where
 mem:∀x∈s.mem,0<=x/\x<256
 thr:∀t∈s.threads,zgr t
theorem bytes_inj {l r:List Int} (g:∀x∈l,0<=x/\x<256) (f:∀x∈r,0<=x/\x<256) (h:strOfNums l=strOfNums r):l=r:=by
 have c:l.map (λn=>UInt8.ofNat n.toNat)=r.map (λn=>UInt8.ofNat n.toNat):=by
  have:=congrArg (λb:ByteArray=>b.data.toList) h
  simpa [strOfNums] using this
 clear h;induction l generalizing r with
 |nil=>cases r with
  |nil=>rfl
  |cons=>simp at c
 |cons x l ih=>cases r with
  |nil=>simp at c
  |cons y r=>
  simp only [List.map_cons,List.cons.injEq] at c;have hx:=g x (List.mem_cons_self ..);have i:=f y (List.mem_cons_self ..)
  have e:x.toNat=y.toNat:=by
   have:=congrArg UInt8.toNat c.1
   simp only [UInt8.toNat_ofNat'] at this;omega
  rw [show x=y by omega,ih (λz d=>g z (List.mem_cons_of_mem _ d)) (λz d=>f z (List.mem_cons_of_mem _ d)) c.2]
theorem ziY:∀ {l r a b:List Int},l.length=r.length->(∀x∈l,0<=x/\x<256)->(∀x∈r,0<=x/\x<256)->l.map u8++a=r.map u8++b->l=r/\a=b:=by
 intro l;induction l with
 |nil=>intro r a b c _ _ h;cases r with
  |nil=>exact⟨rfl,h⟩
  |cons=>simp at c
 |cons x l ih=>intro r a b c i g h;cases r with
  |nil=>simp at c
  |cons y r=>
  simp only [List.map_cons,List.cons_append,List.cons.injEq] at h;have hx:=i x (List.mem_cons_self ..);have f:=g y (List.mem_cons_self ..);rw [zdH hx.1 hx.2,zdH f.1 f.2] at h;obtain⟨k,j⟩:=ih (by simpa using c) (λz d=>i z (List.mem_cons_of_mem _ d)) (λz d=>g z (List.mem_cons_of_mem _ d)) h.2;exact⟨by rw [h.1,k],j⟩
theorem zwD:∀ {l r:List zq} {a b:List Int},l.length=r.length->(∀e∈l,(0<=e.var/\e.var<256)/\0<=e.n/\e.n<256)->(∀e∈r,(0<=e.var/\e.var<256)/\0<=e.n/\e.n<256)->l.flatMap uK++a=r.flatMap uK++b->l=r/\a=b:=by
 intro l;induction l with
 |nil=>intro r a b d _ _ h;cases r with
  |nil=>exact⟨rfl,h⟩
  |cons=>simp at d
 |cons x l ih=>intro r a b d i g h;cases r with
  |nil=>simp at d
  |cons y r=>
  simp only [List.flatMap_cons,uK,List.cons_append,List.nil_append,List.cons.injEq] at h;have hx:=i x (List.mem_cons_self ..);have c:=g y (List.mem_cons_self ..);rw [zdH hx.1.1 hx.1.2,zdH c.1.1 c.1.2,zdH hx.2.1 hx.2.2,zdH c.2.1 c.2.2] at h;obtain⟨k,j⟩:=ih (by simpa using d) (λz f=>i z (List.mem_cons_of_mem _ f)) (λz f=>g z (List.mem_cons_of_mem _ f)) h.2.2;obtain⟨p,q⟩:=x;obtain⟨m,o⟩:=y;simp only [] at h;exact⟨by rw [h.1,h.2.1,k],j⟩
theorem zow {t u:zD} {a b:List Int} (r:zgr t) (q:zgr u) (h:vQ t++a=vQ u++b):t=u/\a=b:=by
 obtain⟨j,F,tb⟩:=t;obtain⟨g,E,i⟩:=u;obtain⟨l,p,r1,n,f⟩:=r;obtain⟨k,o,r2,m,d⟩:=q;simp only [vQ,List.append_assoc,List.cons_append,List.nil_append,List.cons.injEq] at h l p r1 n f k o r2 m d;obtain⟨A,z,y⟩:=h;have v:j=g:=by unfold u8 at A z;omega
 obtain⟨D,c⟩:=ziY (by omega) r1 r2 y;simp only [List.cons.injEq] at c
 have x:tb.length=i.length:=by
  have:=c.1
  rw [zdH (by omega) (by omega),zdH (by omega) (by omega)] at this;omega
 obtain⟨C,B⟩:=zwD x f d c.2;exact⟨by rw [v,D,C],B⟩
theorem zmG:∀ {l r:List zD},l.length=r.length->(∀t∈l,zgr t)->(∀t∈r,zgr t)->l.flatMap vQ=r.flatMap vQ->l=r:=by
 intro l;induction l with
 |nil=>intro r b _ _ _;cases r with
  |nil=>rfl
  |cons=>simp at b
 |cons x l ih=>intro r b f d h;cases r with
  |nil=>simp at b
  |cons y r=>
  simp only [List.flatMap_cons] at h;obtain⟨i,g⟩:=zow (f x (List.mem_cons_self ..)) (d y (List.mem_cons_self ..)) h;rw [i,ih (by simpa using b) (λz c=>f z (List.mem_cons_of_mem _ c)) (λz c=>d z (List.mem_cons_of_mem _ c)) g]
theorem zpp (s:zo):∀x∈zcv s,0<=x/\x<256:=by
 have b:∀(l:List Int),∀x∈l.map u8,0<=x/\x<256:=λl x hx=>by
  obtain⟨y, -,rfl⟩:=List.mem_map.1 hx;exact zlK y
 intro x hx;rcases List.mem_cons.1 hx with rfl|hx
 ·split<;>omega
 rcases List.mem_append.1 hx with hx|hx
 ·exact b _ x hx
 obtain⟨t, -,hx⟩:=List.mem_flatMap.1 hx;unfold vQ at hx;simp only [List.mem_append,List.mem_cons,List.not_mem_nil,or_false] at hx;rcases hx with((hx|hx)|hx)|hx
 ·rcases hx with rfl|rfl<;>exact zlK _
 ·exact b _ x hx
 ·rw [hx];exact zlK _
 obtain⟨e, -,hx⟩:=List.mem_flatMap.1 hx;unfold uK at hx;simp only [List.mem_cons,List.not_mem_nil,or_false] at hx;rcases hx with rfl|rfl<;>exact zlK _
theorem key_inj {s t:zo} (g:zks s) (f:zks t) (l:s.mem.length=t.mem.length) (k:s.threads.length=t.threads.length) (h:keyOf s=keyOf t):s=t:=by
 have b:=bytes_inj (zpp s) (zpp t) h;obtain⟨r,q,d⟩:=s;obtain⟨p,o,c⟩:=t;simp only [zcv,List.cons.injEq] at b;obtain⟨j,n⟩:=ziY l g.mem f.mem b.2;have i:=zmG k g.thr f.thr n
 have m:d=c:=by
  have:=b.1
  cases d<;>cases c<;>simp at this ⊢
 simp only [] at j i;rw [j,i,m]
def zau (s:zo):Prop:=∀j,j<s.threads.length->(s.threads.getD j default).regs.length=4
theorem yD.zau {w:World} {s:zo} {tv mv:Value} (h:yD w s tv mv):zau s:=λj d=>by
 obtain⟨a,i,k, -,g⟩:=h.threads;obtain⟨b,c,cs, -, -, -, -,f, -⟩:=g j d;exact f
theorem zfe {α:Type} [Inhabited α] {l:List α} {x:α} (h:x∈l):∃j,j<l.length/\l.getD j default=x:=by
 obtain⟨j,b,e⟩:=List.getElem_of_mem h;exact⟨j,b,by rw [List.getD_eq_getElem?_getD,List.getElem?_eq_getElem b];exact e⟩
theorem z0K {c:zG} (h:codeOk c=true) (i:Nat) (d:i<c.threads.length):(c.threads.getD i []).length<=600:=by
 unfold codeOk at h;simp only [Bool.and_eq_true] at h
 have b:=List.all_eq_true.1 h.2 _ (show c.threads.getD i [] ∈c.threads by
  rw [List.getD_eq_getElem?_getD,List.getElem?_eq_getElem d];exact List.getElem_mem _)
 unfold rowOk at b;simp only [Bool.and_eq_true,decide_eq_true_eq] at b;exact b.1
theorem zff {c:zG} {m:zC} {s:zo} (l:yJ c m s=true) (h:zau s):zks s:=by
 have z:=zdD l;have g:=l;unfold yJ at g;simp only [Bool.and_eq_true,decide_eq_true_eq] at g;obtain⟨⟨⟨⟨f,F⟩,E⟩,B⟩,A⟩:=g;unfold jU at f;simp only [Bool.and_eq_true,decide_eq_true_eq] at f;have n:=f.1.1.1.1;have v:=xY n;refine⟨λx hx=> ?_,λt r=> ?_⟩
 ·obtain⟨j,b,rfl⟩:=zfe hx;have:=List.all_eq_true.1 B j (List.mem_range.2 b)
  unfold xJ at this;simp only [Bool.and_eq_true,decide_eq_true_eq] at this;have e:s.mem.getD j default=s.mem.getD j 0:=rfl;rw [e];omega
 obtain⟨j,b,rfl⟩:=zfe r;have d:=List.all_eq_true.1 A j (List.mem_range.2 b);unfold vE at d;simp only [Bool.and_eq_true,decide_eq_true_eq] at d;obtain⟨⟨⟨q,C⟩,p⟩,o⟩:=d;have D:=z0K n j (by omega);have y:=z j b;refine⟨⟨q,by omega⟩,h j b,λx hx=> ?_,by omega,λe u=> ?_⟩
 ·obtain⟨k,i,rfl⟩:=zfe hx;have:=List.all_eq_true.1 p k (List.mem_range.2 (by have:=h j b;omega))
  unfold xJ at this;simp only [Bool.and_eq_true,decide_eq_true_eq] at this;have e:(s.threads.getD j default).regs.getD k default=(s.threads.getD j default).regs.getD k 0:=rfl;rw [e];omega
 obtain⟨k,i,rfl⟩:=zfe u;have:=List.all_eq_true.1 o k (List.mem_range.2 i)
 unfold qF at this;simp only [Bool.and_eq_true,decide_eq_true_eq] at this;omega
theorem zfg {c:zG} {m:zC} {s:zo} (b:yJ c m s=true):s.threads.length=c.threads.length/\(s.mem.length:Int)=c.vars:=by
 unfold yJ at b;simp only [Bool.and_eq_true,decide_eq_true_eq] at b;exact⟨b.1.1.1.2,b.1.1.2⟩
theorem zwE {c:zG} {m:zC} {s t:zo} (d:yJ c m s=true) (b:yJ c m t=true) (rs:zau s) (f:zau t) (h:keyOf s=keyOf t):s=t:=by
 have i:=zfg d;have g:=zfg b;exact key_inj (zff d rs) (zff b f) (by omega) (by omega) h
def vS (n:Int):List Value:= [.int .u8 n]
theorem zwF (n:Int):(vS n).length=1:=rfl
theorem zcn:(Tryz.prog.info? 5).map (λi=>(i.zero,i.size,i.bytes))=some (some (.int .u8 0),1,1):=by kernel_rfl
theorem ztH (n:Int):IntKind.u8.wrap n=u8 n:=by rw [IntKind.wrap_u8];rfl
theorem zco {α:Type} {f:α->List Value} {B:Nat} {e:TypeId} {size:Nat} {w X:World} {a h:Option Addr} {n m c g:Nat} {l:List α} (r:List α) {o:Obj} (i:w.ownsRow B e size (.slice a n c) n (zx f l)) (q:X.ownsRow B e size (.slice h m g) m (zx f l++zx f r))
  (p:Since (λk=>(Value.slice a n c).ownBlock=some k) (w.alloc o) X) {V:World} (d:Below V.heap.size V w) (j:V.heap.size<=B):X.ownsRow B e size (.slice h m g) m (zx f (l++r))/\Below V.heap.size V X:=by
 refine⟨by rw [kS];exact q,d.trans ((((Since.refl _ w).alloc o).trans p (λk b=> .inl b)).below d.size (λk b=>Nat.le_trans j (i.lt k b).1))⟩
theorem zdI {X i:World} {B e size n g:Nat} {v:Value} {xs:List Value} {c:Array Value} {t:TypeId} {f:Nat × Nat} {o:Obj} (h:X.ownsRow B e size v n xs) (d:X.heap[g]? =some (.cells c t f)) (b:e≠t) (l:Since (λk=>v.ownBlock=some k) (X.alloc o) i):i.heap[g]? =some (.cells c t f):=
 ((((Since.refl _ X).alloc o).trans l (λ_ j=> .inl j):Since (λk=>v.ownBlock=some k) X i).block _ (zA d) (λe=>ztw h d b _ e rfl)).trans d
theorem zdJ {α:Type} [Inhabited α] {l:List α} {i:Nat} (b:i<l.length):l.drop i=l.getD i default::l.drop (i+1):=by
 rw [List.drop_eq_getElem_cons b,List.getD_eq_getElem?_getD,List.getElem?_eq_getElem b];rfl
theorem zqK (r0 r1 r2 r3:Int) (k:Nat) (g:k<4) (w:World):(Instr.index 72 (.agg #[I4 r0,I4 r1,I4 r2,I4 r3]) (I4 (k:Int))).run Tryz.prog w= .ok (I4 ([r0,r1,r2,r3].getD k 0)) w:=by
 have f: #[Value.int .i64 r0,I4 r1,I4 r2,I4 r3][k]? =some (I4 ([r0,r1,r2,r3].getD k 0)):=by
  have:k=0\/k=1\/k=2\/k=3:=by omega
  rcases this with rfl|rfl|rfl|rfl<;>rfl
 obtain⟨i,d,c⟩:=zgq;have b:=kV w _ k _ f;generalize [r0,r1,r2,r3].getD k 0=q at b ⊢;unfold Instr.index;simp [run_underlying ziU,asIntOf,sizeOf,typeInfo,d,c,b];intro h;omega
theorem zmH (w:World) (o:Obj) (l:List Value) (t:TypeId):∀j u,l[j]? =some u->((w.alloc o).alloc (.cells l.toArray t)).cell? ((⟨w.heap.size+1,0,none⟩:Addr).add j)=some u:=by
 have:=j4 (w.alloc o) l t
 simpa using this
def zmI (w:World) (K:List Int) (e:Ending) (w':World):Prop:=(∃a c,e= .returned (.slice a K.length c)/\w'.ownsRow w.heap.size 5 1 (.slice a K.length c) K.length (zx vS K))/\Below w.heap.size w w'
theorem ztI (w:World) (s:zo) (sv mv:Value) (hs:yD w s sv mv) (hl:(zcv s).length<=1000000):Calls Tryz.prog 65 #[yB s sv mv] w (zmI w (zcv s)):=by
 obtain⟨ta,tc,rfl,htn⟩:=zh.slice hs.threads;obtain⟨ma,mc,rfl,hmn⟩:=zh.slice hs.mem;obtain⟨K,hK⟩:=qxE (zcv s);rw [<-hK] at hl ⊢;obtain⟨ts,mem,bad⟩:=s;have hK2:K= [if bad then 1 else 0] ++(mem.map u8++ts.flatMap vQ):=hK;have h1:=hs.threads;have h2:=hs.mem;unfold yB;simp only [] at h1 h2 htn hmn ⊢;obtain⟨b0,hb0⟩:=qxE (if bad then 1 else 0:Int);rw [<-hb0] at hK2;obtain⟨m,hm⟩:=qxE mem.length;obtain⟨n,hn⟩:=qxE ts.length;rw [<-hm] at h2 hmn ⊢;rw [<-hn] at h1 htn ⊢;have hB:=(Below.refl w.heap.size w).alloc (Nat.le_refl _) (.cells #[.slice ta n tc, .slice ma m mc, .bool bad] 61)
 have H1:=qh (zQ w (.cells #[.slice ta n tc, .slice ma m mc, .bool bad] 61));have HM:=qh (zh.below uV.stays h2 hB);have HT:=qh (zh.below uJ.stays h1 hB);have HB:=qh hB;have HMM:=qh hm;have HN:=qh hn;have HK:=qh hK2;have HL:=qh hl;have HB0:=qh hb0;clear hs h1 h2 hB hm hn hK hK2 hl hb0;go_enter Tryz.func65,Tryz.ntmps65
 go_upto_region 1 with fail
 generalize World.alloc w _=W at HB H1 HM HT ⊢;obtain⟨gx,hgx⟩:=qxE w.heap.size;rw [<-hgx] at H1 ⊢;have xG:=qh hgx;clear hgx
 have HC:J2 (∀x,Below W.heap.size W x->K3 x gx 0 (.slice ta n tc)/\K3 x gx 1 (.slice ma m mc)/\K3 x gx 2 (.bool bad)):=λx hx=>
  ⟨zl hx _ _ (ze H1.o 0),zl hx _ _ (ze H1.o 1),zl hx _ _ (ze H1.o 2)⟩
 obtain⟨c0,c1,c2⟩:=HC.o (W.alloc (.cells #[.int .u8 0] 5)) ((Below.refl _ _).alloc (Nat.le_refl _) _);go_upto_if 14 with fail
 go_cut [3] (λJ wr=>∃g:Nat,J= .slice (some ⟨g,0,none⟩) 1 1/\J2 (wr.ownsRow W.heap.size 5 1 (.slice (some ⟨g,0,none⟩) 1 1) 1 (zx vS [b0]))/\J2 (Below W.heap.size W wr))
 case first=>
  cases bad with
  |true=>
   have HBB:J2 (b0=1):=HB0.o;go_wp2_with fail
   go_meet
   case rel=>exact⟨W.heap.size,rfl,by rw [HBB.o];exact pV (zQ W (.cells #[.int .u8 1] 5)) (Nat.le_refl _) rfl (by unfold maxLen;omega),(Below.refl _ _).alloc (Nat.le_refl _) _⟩
  |false=>
  have HBB:J2 (b0=0):=HB0.o;go_wp2_with fail
  go_meet
  case rel=>exact⟨W.heap.size,rfl,by rw [HBB.o];exact pV (zQ W (.cells #[.int .u8 0] 5)) (Nat.le_refl _) rfl (by unfold maxLen;omega),(Below.refl _ _).alloc (Nat.le_refl _) _⟩
 case rest=>
 obtain⟨g,rfl,HO,yK⟩:=hcut;obtain⟨W1,rfl⟩:=qxE (wc:World);clear c0 c1 c2;obtain⟨c0,c1,c2⟩:=HC.o W1 yK.o;go_wp2_with fail
 clear c0 c1 c2;go_loopg [3,20] m (λgg J s20 wr=>∃(i:Nat) (y:Option Addr) (c v:Nat) (d:List Int),i<=m/\J2 (gg=m - i)/\J= .slice y c v/\s20=I4 i/\J2 (c=d.length)/\J2 (K=d++((mem.drop i).map u8++ts.flatMap vQ))/\J2 (wr.ownsRow W.heap.size 5 1 (.slice y c v) c (zx vS d))/\J2 (Below W.heap.size W wr))
 case atStart=>exact⟨0,some ⟨g,0,none⟩,1,1, [b0],Nat.zero_le _,rfl,rfl,rfl,rfl,HK.o,HO.o,yK.o⟩
 case round=>
 obtain⟨i,y,c,v,d,hi,HG,rfl,rfl,I,p,G,F⟩:=hrel;clear HO yK;have hon:c<=1000000:=by have h:=congrArg List.length p.o;rw [List.length_append] at h;have:=HL.o;have:=I.o;omega
 by_cases hlt:i<m
 ·have vC:(i:Int)<(m:Int):=by omega
  obtain⟨b,off,yI, -,e0⟩:=qx.part HM.o i (by rw [<-HMM.o];exact hlt);subst yI;have f:mem.drop i=mem.getD i 0::mem.drop (i+1):=zdJ (by rw [<-HMM.o];exact hlt);have z:=qh f;clear f;generalize mem.getD i 0=q at e0 z;have e1:=zl F.o _ _ e0;have hw8:=ztH q;clear e0
  go_wp2_with(at_builtin;go_must(refine zO _ rfl _ _ 22 rfl 5 (.int .u8 0) 1 1 Tryz.underlying22 zcn rfl (by decide) W.heap.size (.slice y c v) c (zx vS d) rfl ((G.o).alloc _) ⟨wr.heap.size,0,none⟩ 1 1 (zx vS [u8 q]) rfl rfl (j4 _ [.int .u8 (u8 q)] _) (by simp [zx,vS,Value.oneCell']) (by unfold maxLen;omega) (by omega) (by have:=F.o.size;simp;omega) ?_);intro M L X B T S r R P;have u:=qh (zco [u8 q] G.o B r F.o (Nat.le_refl _));clear B T S r R P);go_roundg (m - (i+1))
  case measure=>rw [HG.o];omega
  case rel=>exact⟨i+1,M,c+1,L,d++ [u8 q],by omega,rfl,rfl,by simp,by rw [J2,List.length_append,I.o];rfl,by rw [J2,p.o,z.o];simp,u.o.1,u.o.2⟩
 obtain rfl:m=i:=by omega
 have C:J2 (K=d++ts.flatMap vQ):=by rw [J2,p.o,HMM.o];simp
 obtain⟨c0,c1,c2⟩:=HC.o wr F.o;obtain⟨wm,rfl⟩:=qxE (wr:World);go_wp2_with fail
 clear c0 c1 c2;go_loopg [3,33] n (λgg J s33 wr=>∃(i:Nat) (y:Option Addr) (c v:Nat) (d:List Int),i<=n/\J2 (gg=n - i)/\J= .slice y c v/\s33=I4 i/\J2 (c=d.length)/\J2 (K=d++(ts.drop i).flatMap vQ)/\J2 (wr.ownsRow W.heap.size 5 1 (.slice y c v) c (zx vS d))/\J2 (Below W.heap.size W wr))
 case atStart=>exact⟨0,y,c,v,d,Nat.zero_le _,rfl,rfl,rfl,I.o,C.o,G.o,F.o⟩
 case round=>
 obtain⟨i,pa,a,e,pl,hi,HG2,rfl,rfl,HPN,kP,HP,j⟩:=hrel;clear I p G F C HG hon;have hpn:a<=1000000:=by have h:=congrArg List.length kP.o;rw [List.length_append] at h;have:=HL.o;have:=HPN.o;omega
 by_cases hlt:i<n
 rotate_left
 ·obtain rfl:n=i:=by omega
  have hkl:K=pl:=by rw [kP.o,HN.o];simp
  have hpl:a=K.length:=by rw [hkl];exact HPN.o
  have U:zmI w K (.returned (.slice pa a e)) wr:=by
   rw [hpl];refine⟨⟨pa,e,rfl, ?_⟩,HB.o.trans (j.o.mono HB.o.size)⟩
   have:=xO HP.o HB.o.size
   rw [<-hkl,hpl] at this;exact this
  have yG:=qh U;clear U hkl hpl;go_wp2_with fail
  go_ret;exact yG.o
 have vC:(i:Int)<(n:Int):=by omega
 obtain⟨b,off,ba,bc,yI, -,N,x0,x1,x2,x3,x4,x5,D⟩:=qR.part HT.o i (by rw [<-HN.o];exact hlt);subst yI;have f:ts.drop i=ts.getD i default::ts.drop (i+1):=zdJ (by rw [<-HN.o];exact hlt);generalize ts.getD i default=t at N x0 x1 x2 x3 x4 x5 D f;obtain⟨pc,regs,H⟩:=t;simp only [] at N x0 x1 x2 x3 x4 x5 D;obtain⟨r0,r1,r2,r3,rfl⟩:=wM N;simp only [List.getD_cons_zero,List.getD_cons_succ] at x0 x1 x2 x3 x4;obtain⟨l,O⟩:=qxE H.length;have zFy:l<=9223372036854775807:=by have:=zh.room D;omega
 rw [<-O] at x5 D;have z3w:J2 (K=pl++([u8 (pc / 256),u8 pc] ++([r0,r1,r2,r3].map u8++([u8 l] ++(H.flatMap uK++(ts.drop (i+1)).flatMap vQ))))):=by rw [J2,kP.o,f,O];simp [vQ]
 have HBN:=qh O;have HBU:=qh D;clear f N O D kP;have y0:=zl j.o _ _ x0;have y1:=zl j.o _ _ x1;have y2:=zl j.o _ _ x2;have y3:=zl j.o _ _ x3;have y4:=zl j.o _ _ x4;have y5:=zl j.o _ _ x5;clear x0 x1 x2 x3 x4 x5;go_upto_region 12 with fail
 go_upto_region 13 with(at_builtin;go_must(refine zO _ rfl _ _ 22 rfl 5 (.int .u8 0) 1 1 Tryz.underlying22 zcn rfl (by decide) W.heap.size (.slice pa a e) a (zx vS pl) rfl ((HP.o.alloc _).alloc _) ⟨wr.heap.size+1,0,none⟩ 2 2 (zx vS [u8 (pc / 256),u8 pc]) rfl rfl (zmH _ _ (zx vS [u8 (pc / 256),u8 pc]) _) (by simp [zx,vS,Value.oneCell']) (by unfold maxLen;omega) (by omega) (by have:=j.o.size;simp;omega) ?_);intro M L X B T S r R P;have u:=qh (zco [u8 (pc / 256),u8 pc] (HP.o.alloc _) B r (j.o.alloc j.o.size _) (Nat.le_refl _));have A:=qh (zdI (HP.o.alloc _) (zQ wr (.cells #[I4 pc,I4 r0,I4 r1,I4 r2,I4 r3, .slice ba l bc] 75)) (by decide) r);clear B T S r R P)
 generalize wr.heap.size=gt at A ⊢;have Y:J2 (a+2=(pl++ [u8 (pc / 256),u8 pc]).length):=by rw [J2,List.length_append,HPN.o];rfl
 have Z:J2 (K=(pl++ [u8 (pc / 256),u8 pc])++(([r0,r1,r2,r3].drop 0).map u8++([u8 l] ++(H.flatMap uK++(ts.drop (i+1)).flatMap vQ)))):=by rw [J2,z3w.o];simp
 generalize pl++ [u8 (pc / 256),u8 pc] =pl2 at Y Z u;have HP2:=qh u.o.1;have z3x:=qh u.o.2;clear u y0 y1 y2 y3 y4 y5 z3w;obtain⟨wt,rfl⟩:=qxE (X:World);have d1:=ze A.o 1;have d2:=ze A.o 2;have d3:=ze A.o 3;have d4:=ze A.o 4;go_wp2_with fail
 clear d1 d2 d3 d4;go_loopg [3,49] 4 (λgg J s49 wr=>∃(k:Nat) (y:Option Addr) (c v:Nat) (d:List Int),k<=4/\J2 (gg=4 - k)/\J= .slice y c v/\s49=I4 k/\J2 (c=d.length)/\J2 (K=d++(([r0,r1,r2,r3].drop k).map u8++([u8 l] ++(H.flatMap uK++(ts.drop (i+1)).flatMap vQ))))/\J2 (wr.ownsRow W.heap.size 5 1 (.slice y c v) c (zx vS d))/\J2 (Below W.heap.size W wr)/\J2 (wr.heap[gt]? =some (.cells #[I4 pc,I4 r0,I4 r1,I4 r2,I4 r3, .slice ba l bc] 75 (0,0))))
 case atStart=>exact⟨0,M,a+2,L,pl2,by omega,rfl,rfl,rfl,Y.o,Z.o,HP2.o,z3x.o,A.o⟩
 case round=>
 obtain⟨k,y,c,v,d,hk,kZ,rfl,rfl,I,p,G,F,Q⟩:=hrel;clear Y Z HP2 z3x A;have hon:c<=1000000:=by have h:=congrArg List.length p.o;rw [List.length_append] at h;have:=HL.o;have:=I.o;omega
 by_cases hk4:k<4
 ·have hkI:(k:Int)<4:=by omega
  have hix:=zqK r0 r1 r2 r3 k hk4;have f: [r0,r1,r2,r3].drop k= [r0,r1,r2,r3].getD k 0:: [r0,r1,r2,r3].drop (k+1):=zdJ (by simpa using hk4);have z:=qh f;clear f;generalize [r0,r1,r2,r3].getD k 0=q at hix z
  go_wp2_with(at_builtin;go_must(refine zO _ rfl _ _ 22 rfl 5 (.int .u8 0) 1 1 Tryz.underlying22 zcn rfl (by decide) W.heap.size (.slice y c v) c (zx vS d) rfl ((G.o).alloc _) ⟨wr.heap.size,0,none⟩ 1 1 (zx vS [u8 q]) rfl rfl (j4 _ (zx vS [u8 q]) _) (by simp [zx,vS,Value.oneCell']) (by unfold maxLen;omega) (by omega) (by have:=F.o.size;simp;omega) ?_);intro M L X B T S r R P;have u:=qh (zco [u8 q] (G.o) B r (F.o) (Nat.le_refl _));have A:=qh (zdI G.o Q.o (by decide) r);clear B T S r R P);go_roundg (4 - (k+1))
  case measure=>rw [kZ.o];omega
  case rel=>exact⟨k+1,M,c+1,L,d++ [u8 q],by omega,rfl,rfl,by simp,by rw [J2,List.length_append,I.o];rfl,by rw [J2,p.o,z.o];simp,u.o.1,u.o.2,A.o⟩
 obtain rfl:k=4:=by omega
 have d5:=ze Q.o 5;obtain⟨wq,rfl⟩:=qxE (wr:World);go_upto_region 19 with(at_builtin;go_must(refine zO _ rfl _ _ 22 rfl 5 (.int .u8 0) 1 1 Tryz.underlying22 zcn rfl (by decide) W.heap.size (.slice y c v) c (zx vS d) rfl ((G.o).alloc _) ⟨wq.heap.size,0,none⟩ 1 1 (zx vS [u8 l]) rfl rfl (j4 _ (zx vS [u8 l]) _) (by simp [zx,vS,Value.oneCell']) (by unfold maxLen;omega) (by omega) (by have:=F.o.size;simp;omega) ?_);intro M L X B T S r R P;have u:=qh (zco [u8 l] (G.o) B r (F.o) (Nat.le_refl _));have A:=qh (zdI G.o Q.o (by decide) r);clear B T S r R P)
 have V:J2 (c+1=(d++ [u8 l]).length):=by rw [J2,List.length_append,I.o];rfl
 have C:J2 (K=(d++ [u8 l])++((H.drop 0).flatMap uK++(ts.drop (i+1)).flatMap vQ)):=by rw [J2,p.o];simp
 generalize d++ [u8 l] =ol2 at V C u;have HO3:=qh u.o.1;have HB3:=qh u.o.2;clear u I p G F Q d5 hon;have d5:=ze A.o 5;obtain⟨we,rfl⟩:=qxE (X:World);go_wp2_with fail
 clear d5;go_loopg [3,68] l (λgg J s68 wr=>∃(k:Nat) (y:Option Addr) (c v:Nat) (d:List Int),k<=l/\J2 (gg=l - k)/\J= .slice y c v/\s68=I4 k/\J2 (c=d.length)/\J2 (K=d++((H.drop k).flatMap uK++(ts.drop (i+1)).flatMap vQ))/\J2 (wr.ownsRow W.heap.size 5 1 (.slice y c v) c (zx vS d))/\J2 (Below W.heap.size W wr)/\J2 (wr.heap[gt]? =some (.cells #[I4 pc,I4 r0,I4 r1,I4 r2,I4 r3, .slice ba l bc] 75 (0,0))))
 case atStart=>exact⟨0,M,c+1,L,ol2,by omega,rfl,rfl,rfl,V.o,C.o,HO3.o,HB3.o,A.o⟩
 case round=>
 obtain⟨k,qa,qn,qc,ql,hk,kI,rfl,rfl,HQN,HQL,HQ,E,Q⟩:=hrel;clear V C HO3 HB3 A;have hqn:qn<=1000000:=by have h:=congrArg List.length HQL.o;rw [List.length_append] at h;have:=HL.o;have:=HQN.o;omega
 by_cases hkb:k<l
 rotate_left
 ·obtain rfl:l=k:=by omega
  have zAx:J2 (K=ql++(ts.drop (i+1)).flatMap vQ):=by rw [J2,HQL.o,HBN.o];simp
  go_wp2_with fail
  go_roundg (n - (i+1))
  case measure=>rw [HG2.o];omega
  case rel=>exact⟨i+1,qa,qn,qc,ql,by omega,rfl,rfl,by simp,HQN.o,zAx.o,HQ.o,E.o⟩
 have hkI:(k:Int)<(l:Int):=by omega
 obtain⟨eb,eo,yI, -,z0,z1⟩:=zX.part HBU.o k (by rw [<-HBN.o];exact hkb);subst yI;have f:H.drop k=H.getD k default::H.drop (k+1):=zdJ (by rw [<-HBN.o];exact hkb);have z:=qh f;clear f;generalize H.getD k default=en at z0 z1 z;obtain⟨ev,ex⟩:=en;simp only [] at z0 z1;have y0:=zl E.o _ _ z0;have y1:=zl E.o _ _ z1;clear z0 z1
 go_wp2_with(at_builtin;go_must(refine zO _ rfl _ _ 22 rfl 5 (.int .u8 0) 1 1 Tryz.underlying22 zcn rfl (by decide) W.heap.size (.slice qa qn qc) qn (zx vS ql) rfl ((HQ.o.alloc _).alloc _) ⟨wr.heap.size+1,0,none⟩ 2 2 (zx vS [u8 ev,u8 ex]) rfl rfl (zmH _ _ (zx vS [u8 ev,u8 ex]) _) (by simp [zx,vS,Value.oneCell']) (by unfold maxLen;omega) (by omega) (by have:=E.o.size;simp;omega) ?_);intro M L X B T S r R P;have u:=qh (zco [u8 ev,u8 ex] (HQ.o.alloc _) B r (E.o.alloc E.o.size _) (Nat.le_refl _));have A:=qh (zdI (HQ.o.alloc _) ((Below.heap_alloc _ _ _ (zA Q.o)).trans Q.o) (by decide) r);clear B T S r R P)
 go_roundg (l - (k+1))
 case measure=>rw [kI.o];omega
 case rel=>exact⟨k+1,M,qn+2,L,ql++ [u8 ev,u8 ex],by omega,rfl,rfl,by simp,by rw [J2,List.length_append,HQN.o];rfl,by rw [J2,HQL.o,z.o];simp [uK],u.o.1,u.o.2,A.o⟩
def z3y (w:World) (k:ByteArray) (e:Ending) (w':World):Prop:=e= .returned (.string k)/\Below w.heap.size w w'
theorem z0L (w:World) (s:zo) (sv mv:Value) (v:yD w s sv mv) (B:(zcv s).length<=1000000):Calls Tryz.prog 37 #[yB s sv mv] w (z3y w (keyOf s)):=by
 obtain⟨A,tc,rfl, -⟩:=zh.slice v.threads;obtain⟨ma,mc,rfl, -⟩:=zh.slice v.mem;have b:=λW (I:Below w.heap.size w W)=>ztI W s _ _ (v.below I) B;have d:0<(zcv s).length:=by simp [zcv]
 unfold keyOf;generalize zcv s=K at b d ⊢;unfold yB at b ⊢;generalize s.threads.length=n at b ⊢;generalize s.mem.length=m at b ⊢;generalize s.bad=bad at b ⊢;have y:=(Below.refl w.heap.size w).alloc (Nat.le_refl _) (.cells #[.slice A n tc, .slice ma m mc, .bool bad] 61);have u:=qh (zQ w (.cells #[.slice A n tc, .slice ma m mc, .bool bad] 61));have q:=qh (b _ y);have z:=qh y;have r:=qh d;clear b y v B d;go_enter Tryz.func37,Tryz.ntmps37
 go_upto_region 1 with fail
 generalize World.alloc w _=W at z u q ⊢;obtain⟨P,k⟩:=qxE w.heap.size;rw [<-k] at u ⊢;have O:=qh k;clear k;have N:=ze u.o 0;have M:=ze u.o 1;have L:=ze u.o 2;go_wp2_with fail
 go_must(refine q.o.mono ?_)
 rintro e X ⟨⟨a,c,rfl,x⟩,C⟩;have E:=qh (z.o.trans (C.mono z.o.size));obtain⟨g,J,G, -, -⟩:=gW x r.o;cases G
 have p:∀t,Tryz.prog.underlying t=some .string->(convert 22 t (.slice (some ⟨g,0,none⟩) K.length c)).run Tryz.prog X= .ok (.string (strOfNums K)) X:=run_convert_bytes_arg X 22 5 Tryz.underlying22 Tryz.underlying5 g 0 K.length c K rfl (λi F=>by
  rw [Nat.zero_add];have h:=x.cellAt i (by omega);have D:=zaU (f:=vS) (size:=1) zwF (l:=K) (j:=i) (i:=0) F (by omega);rw [Nat.mul_one,Nat.add_zero] at D;rw [h,D];simp [vS])
 have H:=p 9 Tryz.underlying9;clear p N M L x C r;go_wp2_with fail
 go_ret;exact⟨rfl,E.o⟩
