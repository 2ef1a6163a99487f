/- Steps. -/
import Derived.Test.YtmijlmglnnbdjaaGreatDoorUtPMoves
set_option linter.all false
namespace Go.Proofs.YtmijlmglnnbdjaaGreatDoor
open Go.RowKit
set_option maxRecDepth 100000
set_option maxHeartbeats 16000000
inductive zbQ (c:zG) (m:zC) (d:Nat):zo->Prop
 |start:zbQ c m d (vM c)
 |step {s:zo} {x:zw} :zbQ c m d s->x∈xL c m s d->zbQ c m d (jR c m s x d).1
theorem zbQ.zBt {c:zG} {m:zC} {d:Nat} {s:zo} (h:zbQ c m d s):kH 33 s:=by
 cases h with
 |start=>exact zq8 c
 |step _ _=>exact z0E
def zBP (w:World) (c:zG) (m:zC) (d:Nat) (en:Ending) (w':World):Prop:=(∃s tv mv bs,en= .returned (yB s tv mv)/\zbQ c m d s/\OwnAt w.heap.size w' tv mv s.threads s.mem bs)/\Below w.heap.size w w'
def WF (w:World) (gs gr k:Nat):Prop:=k<w.heap.size\/k=gs\/k=gr
structure zEU (w V X:World) (gs gr:Nat) (c:zG) (m:zC) (d:Nat) (s:zo) (tv mv:Value):Prop where
 since:Since (λk=>k=gs) V X
 below:Below w.heap.size w V
 lo:w.heap.size<=gs/\w.heap.size<=gr/\gs≠gr
 box:X.heap[gs]? =some (.cells #[tv,mv, .bool s.bad] 61 (0,0))
 res:V.heap[gr]? =some (.cells #[N7,N7, .bool false] 61 (0,0))
 own:∃bs,OwnAt w.heap.size X tv mv s.threads s.mem bs/\∀k,k=gs\/k=gr->tv.ownBlock≠some k/\mv.ownBlock≠some k/\∀j,j<s.threads.length->(bs.getD j (N7)).ownBlock≠some k
 come:zbQ c m d s
section
variable {w V X Y:World} {gs gr d:Nat} {c:zG} {m:zC} {s:zo} {tv mv:Value}
end
end Go.Proofs.YtmijlmglnnbdjaaGreatDoor
namespace Go.Proofs.YtmijlmglnnbdjaaGreatDoor
open Go.RowKit
set_option maxRecDepth 100000
set_option maxHeartbeats 16000000
def ME (gb:Nat) (mr:Value) (k:Nat):Prop:=k=gb\/mr.ownBlock=some k
structure gU (W X:World) (g6 gb gs:Nat) (v:Value) (out:List zo) (css:List (List Value)) (s:zo) (tv mv:Value) (mr:Value) (ml:List zw):Prop where
 run:wC (ME gb mr) W X gs v out css s tv mv
 zbR:X.heap[g6]? =some (.cells #[N7,I4 0] 42 (0,0))
 zaC:X.heap[gb]? =some (.cells #[mr,I4 0] 42 (0,0))
 row:X.ownsRow W.heap.size 46 3 mr ml.length (zx zw.cells ml)
 lo:W.heap.size<=gb/\g6≠gb/\g6≠gs/\gb≠gs
 ap:mr.ownBlock≠some g6/\mr.ownBlock≠some gb/\mr.ownBlock≠some gs/\v.ownBlock≠some g6/\v.ownBlock≠some gb/\∀k,mr.ownBlock=some k->v.ownBlock≠some k
section
variable {W X X1 Y:World} {g6 gb gs:Nat} {v v' tv mv pv qv mr mr':Value} {s t:zo} {out:List zo} {css:List (List Value)} {ml:List zw}
theorem gU.call (h:gU W X g6 gb gs v out css s tv mv mr ml) (b:Below X.heap.size X Y):gU W Y g6 gb gs v out css s tv mv mr ml:=
 ⟨h.run.call b,(b.block _ (zA h.zbR)).trans h.zbR,(b.block _ (zA h.zaC)).trans h.zaC,xD h.row b,h.lo,h.ap⟩
theorem gU.push (h:gU W X g6 gb gs v out css s tv mv mr ml) {o:Obj} (u:X1.ownsRow W.heap.size 61 3 v' (out.length+1) (css.flatten++ [tv,mv, .bool s.bad]))
  (i:Since (λk=>v.ownBlock=some k) (X.alloc o) X1) (f:∀k,v'.ownBlock=some k->v.ownBlock=some k\/k=(X.alloc o).heap.size):gU W X1 g6 gb gs v' (out++ [s]) (css++ [[tv,mv, .bool s.bad]]) s tv mv mr ml:=by
 have g:Since (λk=>v.ownBlock=some k) X X1:=((Since.refl _ X).alloc o).trans i (λk b=> .inl b);obtain⟨z,y,x,n,l,j⟩:=h.ap;have r:=zA h.zbR;have p:=zA h.zaC;refine⟨h.run.push u i f,(g.block _ r n).trans h.zbR,(g.block _ p l).trans h.zaC,g.row h.row (λk b e=>j k b e),h.lo,z,y,x,λe=> ?_,λe=> ?_,λk b e=> ?_⟩
 ·rcases f _ e with q|q
  ·exact n q
  simp at q;omega
 ·rcases f _ e with q|q
  ·exact l q
  simp at q;omega
 rcases f _ e with q|q
 ·exact j k b q
 have:=(h.row.lt k b).2;simp at q;omega
theorem gU.move (h:gU W X g6 gb gs v out css s tv mv mr ml) {o:Obj} {x:zw} (N:X1.ownsRow W.heap.size 46 3 mr' (ml.length+1) (zx zw.cells ml++ [I4 x.kind,I4 x.thread,I4 x.var]))
  (M:Since (λk=>mr.ownBlock=some k) (X.alloc o) X1) (u:∀k,mr'.ownBlock=some k->mr.ownBlock=some k\/k=(X.alloc o).heap.size):
  gU W (X1.setCell ⟨gb,0,none⟩ mr') g6 gb gs v out css s tv mv mr' (ml++ [x])/\X1.heap[gb]? =some (.cells #[mr,I4 0] 42 (0,0))/\Since (ME gb mr) X (X1.setCell ⟨gb,0,none⟩ mr'):=by
 have l:Since (λk=>mr.ownBlock=some k) X X1:=((Since.refl _ X).alloc o).trans M (λk g=> .inl g);obtain⟨G,y,E,O,D,C⟩:=h.ap;obtain⟨J,I,P,H⟩:=h.lo;have r:=zA h.zbR;have n:=zA h.zaC;have B:=h.run.lt;have i:=(l.block _ n y).trans h.zaC;have A:=Since.setCell (F:=λk=>k=gb) (p:=⟨gb,0,none⟩) (Since.refl _ X1) (.inl rfl) mr';have z:Since (ME gb mr) X (X1.setCell ⟨gb,0,none⟩ mr'):=Since.setCell (F:=ME gb mr) (p:=⟨gb,0,none⟩) (l.mono (λk _ e=> .inr e)) (.inl (.inl rfl)) mr'
 have b:∀j,j<X.heap.size->mr.ownBlock≠some j->mr'.ownBlock≠some j:=λj R L e=>by
  rcases u j e with q|q
  ·exact L q
  simp at q;omega
 have f:=A.row N (λk g e=>b gb n y (e ▸ g));refine⟨⟨?_, ?_,zu i 0 mr', ?_,h.lo,b _ r G,b _ n y,b _ (B gs (.inr rfl)) E,O,D,λk g e=> ?_⟩,i,z⟩
 ·refine h.run.other z (λk e=> ?_) (λk e=> ?_)
  ·rcases e with e|e
   ·rw [e];exact⟨D,H,J⟩
   exact⟨C k e,λq=>E (q ▸ e),(h.row.lt k e).1⟩
  rcases e with e|e
  ·exact .inl (.inl e)
  rcases u k e with q|q
  ·exact .inl (.inr q)
  refine .inr ?_;simp at q;omega
 ·exact(A.block _ (Nat.lt_of_lt_of_le r l.size) I).trans ((l.block _ r G).trans h.zbR)
 ·rw [List.length_append,List.length_singleton,kS];exact f
 rcases u k g with q|q
 ·exact C k q e
 have:=B k (.inl e);simp at q;omega
theorem gU.put (h:gU W X g6 gb gs v out css s tv mv mr ml) (i:Below X.heap.size X Y) (o:yL (GF (ME gb mr) v gs) Y (λy=>qY y t [pv,qv, .bool t.bad])):gU W (yU Y gs 0 [pv,qv, .bool t.bad]) g6 gb gs v out css t pv qv mr ml:=by
 have b:=h.call i;have f:=xR (g:=gs) [pv,qv, .bool t.bad] Y 0;obtain⟨B,A,p,z,x,u⟩:=h.ap;obtain⟨r,q,l,j⟩:=h.lo;exact⟨h.run.put i o,(f.block _ (zA b.zbR) l).trans b.zbR,(f.block _ (zA b.zaC) j).trans b.zaC,f.row b.row (λk n e=>p (e ▸ n)),h.lo,h.ap⟩
theorem gU.fin {w:World} (h:gU W X g6 gb gs v out css s tv mv mr ml) (n:Below w.heap.size w W) (y:w.heap.size<=g6) (bk:Int) (z:Y=X/\bk=0\/Y=X.setCell ⟨gb,1,none⟩ (I4 bk)):(Y.heap[gb]? =some (.cells #[mr,I4 bk] 42 (0,0))/\Y.heap[g6]? =some (.cells #[N7,I4 0] 42 (0,0)))/\
  (yU Y g6 0 [mr,I4 bk]).heap[g6]? =some (.cells #[mr,I4 bk] 42 (0,0))/\(yU Y g6 0 [mr,I4 bk]).ownsRow w.heap.size 46 3 mr ml.length (zx zw.cells ml)/\Below w.heap.size w (yU Y g6 0 [mr,I4 bk]):=by
 obtain⟨B,A,I,H,G,E⟩:=h.ap;obtain⟨r,q,D,C⟩:=h.lo;have u:=zA h.zbR
 have x:(Y.heap[gb]? =some (.cells #[mr,I4 bk] 42 (0,0))/\Y.heap[g6]? =some (.cells #[N7,I4 0] 42 (0,0)))/\Since (λk=>k=gb) X Y:=by
  rcases z with⟨rfl,rfl⟩|rfl
  ·exact⟨⟨h.zaC,h.zbR⟩,Since.refl _ _⟩
  have b:=Since.setCell (F:=λk=>k=gb) (p:=⟨gb,1,none⟩) (Since.refl _ X) (.inl rfl) (I4 bk);exact⟨⟨zu h.zaC 1 _,(b.block _ u q).trans h.zbR⟩,b⟩
 obtain⟨⟨o,j⟩,b⟩:=x;have l:=xR (g:=g6) [mr,I4 bk] Y 0;have f:=zy n (h.run.below.trans (b.below h.run.below.size (λk e=>e ▸ r)));exact⟨⟨o,j⟩,qU (cs:= [N7,I4 0]) _ rfl j,qX (l.row (b.row h.row (λk i e=>A (e ▸ i))) (λk i e=>B (e ▸ i))) n.size,f.trans (l.below f.size (λk e=>e ▸ y))⟩
end
def zlc (w:World) (e:Ending) (w':World):Prop:=(∃(a:Option Addr) (cp n:Nat) (l:List zw) (bk:Nat),n=l.length/\e= .returned (.agg #[.slice a n cp,I4 bk])/\w'.ownsRow w.heap.size 46 3 (.slice a n cp) n (zx zw.cells l)/\(1<=n/\n<=40/\bk<n)/\∀x∈l,vZ x)/\Below w.heap.size w w'
theorem ziv:(Tryz.prog.info? 42).map (·.size)=some 2:=by kernel_rfl
theorem zrK {W X:World} {g6:Nat} {s:zo} {tv mv:Value} (l:W.heap[g6]? =some (.cells #[N7,I4 0] 42 (0,0))) (j:Below W.heap.size W X) (o:yL (λk=>k<W.heap.size) X (λy=>qY y s [tv,mv, .bool s.bad])):
  gU W ((X.alloc (.cells #[tv,mv, .bool s.bad] 61)).alloc (.cells #[N7,I4 0] 42)) g6 (X.heap.size+1) X.heap.size (N7) [] [] s tv mv (N7) [] :=by
 have n:=zA l;have p:=j.size
 have r1:=wC.start (E:=ME (X.heap.size+1) (N7)) j (λk f=>by
  rcases f with f|f
  ·omega
  simp [Value.ownBlock] at f) o
 have i:=(Below.refl X.heap.size X).alloc (Nat.le_refl _) (.cells #[tv,mv, .bool s.bad] 61);have g:(X.alloc (.cells #[tv,mv, .bool s.bad] 61)).heap.size=X.heap.size+1:=by simp
 have b:=(Below.refl (X.alloc (.cells #[tv,mv, .bool s.bad] 61)).heap.size (X.alloc (.cells #[tv,mv, .bool s.bad] 61))).alloc (Nat.le_refl _) (.cells #[N7,I4 0] 42);have h:=zy j (zy i b);refine⟨r1.call b,(h.block _ n).trans l, ?_,World.ownsRow_nil _ _ _ _,⟨by omega,by omega,by omega,by omega⟩, ?_⟩
 ·rw [<-g];exact zQ _ _
 simp [Value.ownBlock]
end Go.Proofs.YtmijlmglnnbdjaaGreatDoor
namespace Go.Proofs.YtmijlmglnnbdjaaGreatDoor
open Go.RowKit
set_option maxRecDepth 100000
set_option maxHeartbeats 16000000
theorem zrl (w:World) (c:zG) (cv:Value) (d:Nat) (hc:yP d w cv c.threads) (m:zC) (wv:Value) (wl:List Int) (hn:vL w .u8 wv wl):Calls Tryz.prog 13 #[yj c cv,yE m,wv] w (zlc w):=by
 obtain⟨ca,cc,rfl, -⟩:=zh.slice hc;obtain⟨la,lc,rfl,hll,hwf,a⟩:=hn;have l:=λW (hW:Below w.heap.size w W)=>zyn W c (.slice ca c.threads.length cc) d (zh.below (xV.stays d) hc hW);have qg:=λW (hW:Below w.heap.size w W) s (B:kH 33 s) sv mv hs n hn=>zyo W c (.slice ca c.threads.length cc) d (zh.below (xV.stays d) hc hW) m s B sv mv hs n hn;have H:=λW (hW:Below w.heap.size w W) s (B:kH 33 s) sv mv hs F hF ha x=>z7t W c (.slice ca c.threads.length cc) d (zh.below (xV.stays d) hc hW) m s B sv mv hs F hF ha x;have hbf:=λs (h:zbQ c m d s)=>h.zBt;have hc0:zbQ c m d (vM c):= .start
 have hc1:=λs x (h:zbQ c m d s) (hx:x∈xL c m s d)=>zbQ.step h hx;have hwm:∀s x,x∈xL c m s d->vZ x:=λs x hx=>ziw hx;obtain⟨S0,hS0⟩:=qxE (vM c);obtain⟨MV,hMV⟩:∃A,A=λs=>xL c m s d:=⟨_,rfl⟩;obtain⟨DO,hDO⟩:∃A,A=λs x=>jR c m s x d:=⟨_,rfl⟩;obtain⟨CO,hCO⟩:∃A,A=λs=>zbQ c m d s:=⟨_,rfl⟩;have e1:∀s,xL c m s d=MV s:=λs=>by rw [hMV]
 have e2:∀s x,jR c m s x d=DO s x:=λs x=>by rw [hDO]
 have e3:∀s,zbQ c m d s=CO s:=λs=>by rw [hCO]
 rw [<-hS0] at l hc0;simp only [e1,e2,e3] at qg H hbf hc0 hc1 hwm;clear e1 e2 e3 hS0 hMV hDO hCO hc;unfold yj yE yB at qg;unfold yj yE yB vF at H;unfold yj at l;unfold yj yE;generalize c.threads.length=cn at l qg H ⊢;generalize c.vars=vars at l qg H ⊢;generalize c.domain=dom at l qg H ⊢;generalize m.model=mod at qg H ⊢;generalize m.bound=bnd at qg H ⊢;clear c m;obtain⟨wn,hwn⟩:=qxE wl.length;have hlr:∀i,i<wn->0<=wl.getD i 0/\wl.getD i 0<=255:=λi hi=>u8_in (hwf _ (jF (by omega)));rw [<-hwn] at a hll ⊢;clear hwf hwn
 obtain⟨hB,h1,h2,h3⟩:=jX w (.cells #[I4 vars,I4 dom, .slice ca cn cc] 25) (.cells #[I4 mod,I4 bnd] 30) (.cells #[N7,I4 0] 42);have HB:=qh hB;have H1:=qh h1;have H2:=qh h2;have H3:=qh h3;have HST:=qh l;have HMV:=qh qg;have HDO:=qh H;have HBF:=qh hbf;have HC0:=qh hc0;have HC1:=qh hc1;have HWM:=qh hwm;have bK:=qh hlr;have zzZ:=qh a;clear hB h1 h2 h3 l qg H hbf hc0 hc1 hwm hlr a;go_enter Tryz.func13,Tryz.ntmps13
 go_upto_region 1 with fail
 generalize World.alloc (World.alloc (World.alloc w _) _) _=W at HB H1 H2 H3 ⊢;obtain⟨E,hgx⟩:=qxE w.heap.size;rw [<-hgx] at H1 H2 H3 ⊢;have xG:=qh hgx;clear hgx;have hg2:E+1+1=E+2:=rfl
 have CC:J2 (∀y,Below W.heap.size W y->K3 y E 0 (I4 vars)/\K3 y E 1 (I4 dom)/\K3 y E 2 (.slice ca cn cc)/\K3 y (E+1) 0 (I4 mod)/\K3 y (E+1) 1 (I4 bnd)):=λy j=>
  ⟨zl j _ _ (ze H1.o 0),zl j _ _ (ze H1.o 1),zl j _ _ (ze H1.o 2),zl j _ _ (ze H2.o 0),zl j _ _ (ze H2.o 1)⟩
 obtain⟨c0,c1,c2,c3,c4⟩:=CC.o W (Below.refl _ _);go_upto_region 2 with(go_at_call 21;go_must(refine(HST.o W HB.o).mono ?_);rintro e X1 ⟨⟨za,zb,zn,zc,zk,zf,rfl,L⟩,B⟩;have bZ:=qh L;have wL:=qh B;clear L B)
 clear c0 c1 c2 c3 c4;obtain⟨bd0,hbd⟩:=qxE S0.bad;have hmg:=zrK (s:=S0) (tv:= .slice za zn zc) (mv:= .slice zb zk zf) H3.o wL.o (by exact bZ.o);rw [<-hbd] at hmg ⊢;have HG0:=qh hmg;clear hmg bZ wL H1 H2 H3 hbd;go_upto_region 4 with fail
 generalize World.alloc (World.alloc X1 _) _=X3 at HG0 ⊢;obtain⟨gs,hgs⟩:=qxE X1.heap.size;rw [<-hgs] at HG0 ⊢;clear hgs;have qd:J2 (gU W X3 (E+2) (gs+1) gs (N7) [] [] S0 (.slice za zn zc) (.slice zb zk zf) (N7) []):=HG0.o;clear HG0;go_wp2_with fail
 go_loopg [8,10] (40) (λgg s8 s10 wr=>∃(i oc:Nat) (oa:Option Addr) (out:List zo) (css:List (List Value)) (s:zo) (pa qa:Option Addr) (pn pc qn qc:Nat) (ra:Option Addr) (rc:Nat) (ml:List zw),i<=40/\J2 (gg=40 - i)/\s10=I4 i/\s8= .slice oa i oc/\J2 (gU W wr (E+2) (gs+1) gs (.slice oa i oc) out css s (.slice pa pn pc) (.slice qa qn qc) (.slice ra i rc) ml)/\J2 (i=out.length/\i=ml.length)/\J2 (∀x∈ml,vZ x)/\J2 (CO s))
 case atStart=>exact⟨0,0,none, [], [],S0,za,zb,zn,zc,zk,zf,none,0, [],Nat.zero_le _,rfl,rfl,rfl,qd.o,⟨rfl,rfl⟩,by simp [J2],HC0.o⟩
 case round=>
 obtain⟨i,oc,oa,out,css,s,pa,qa,pn,pc,qn,qc,ra,rc,ml,hi,HG,rfl,rfl,HM,g,HWF,HCO⟩:=hrel;obtain⟨wo,rfl⟩:=qxE (wr:World);clear qd;by_cases hlt:i<40
 rotate_left
 ·obtain rfl:i=40:=by omega
  obtain⟨⟨k1,k2⟩,z,f,O⟩:=HM.o.fin (Y:=wo) HB.o (by rw [xG.o];omega) 0 (.inl ⟨rfl,rfl⟩)
  rw [<-g.o.2] at f;have b0:=ze k1 0;have b1:=ze k1 1;have z0:=ze k2 0;have z1:=ze k2 1;have f0:=zH k2 0;have f1:=zH k2 1;have zL:=qh z;have zjM:=qh f;have yR:=qh O;clear k1 k2 z f O;go_wp2_with fail
  refine bodyPost_ret (xu rfl _ _ (E+2) 42 _ (0,0) _ rfl zL.o Tryz.underlying42 rfl ziv) rfl ?_
  exact⟨⟨ra,rc,40,ml,0,g.o.2,rfl,zjM.o,by omega,HWF.o⟩,yR.o⟩
 have vC:(i:Int)<40:=by omega
 have zEV:(i:Int)<(40:Int):=by omega
 obtain⟨bd,hbd⟩:=qxE s.bad;have kG:=qh hbd;clear hbd;go_upto_region 7 with fail
 go_wp2_with fail
 go_loopg [11] i (λgg s11 wr=>∃k:Nat,k<=i/\J2 (gg=i - k)/\s11=I4 k/\J2 (Below wo.heap.size wo wr))
 case atStart=>exact⟨0,Nat.zero_le _,rfl,rfl,Below.refl _ _⟩
 case round=>
 obtain⟨k,hk,HG2,rfl,yK⟩:=hrel;obtain⟨C,rfl⟩:=qxE (wr:World);have G:=qh (HM.o.call yK.o);by_cases hki:k<i
 ·have zFQ:(k:Int)<(i:Int):=by omega
  obtain⟨ob,oo,tv2,mv2,hoe, -,y0,y1,y2,L⟩:=jY.part G.o.run.rows.slice k (by rw [<-g.o.1];exact hki);obtain⟨ta2,tc2,rfl, -⟩:=zh.slice L.threads;obtain⟨ua2,uc2,rfl, -⟩:=zh.slice L.mem;have HOE:=qh hoe;subst hoe;obtain⟨t2,ht2⟩:=qxE (out.getD k default);rw [<-ht2] at y0 y1 y2 L;have M:=λy (j:Below C.heap.size C y)=>ztF y t2 s _ _ _ _ (L.below j) (G.o.run.now.below j);unfold yB at M;rw [<-kG.o] at M;generalize decide (t2=s)=sm at M;generalize t2.threads.length=tn2 at M y0;generalize t2.mem.length=un2 at M y1;generalize t2.bad=bd2 at M y2;have b:=G.o.run.box;rw [<-kG.o] at b;have HSM:=qh M
  have D:J2 (∀y,Below C.heap.size C y->K3 y ob (oo+k*3) (.slice ta2 tn2 tc2)/\K3 y ob (oo+k*3+1) (.slice ua2 un2 uc2)/\K3 y ob (oo+k*3+2) (.bool bd2)/\
    K3 y gs 0 (.slice pa pn pc)/\K3 y gs 1 (.slice qa qn qc)/\K3 y gs 2 (.bool bd)):=λy j=>
   ⟨zl j _ _ y0,zl j _ _ y1,zl j _ _ y2,zl j _ _ (ze b 0),zl j _ _ (ze b 1),zl j _ _ (ze b 2)⟩
  clear M y0 y1 y2 L ht2 b;go_upto_region 10 with fail
  go_cut [45] (λs45 w'=>∃st:Bool,s45= .bool st/\J2 (Below C.heap.size C w'))
  case first=>
   cases sm with
   |false=>
    refine qz (S:=λx=>Below C.heap.size C x) ((Below.refl _ _).drew) (λhha=> ?_)
    refine zi 0 D.o ?_
    refine zi 1 D.o ?_
    refine zi 2 D.o ?_
    refine zi 3 D.o ?_
    refine zi 4 D.o ?_
    refine yA 5 rfl (λK hK=> ?_)
    go_simp
    refine(HSM.o C.drew hha).mono ?_
    rintro e aw5 ⟨rfl,B⟩;have z0a:Below C.heap.size C aw5:=zy hha B;refine hK.out _ _ z0a (λ_=> ?_)
    clear hK K B hha;refine zi 6 D.o ?_
    refine zS 7 (by assumption) ?_
    refine zS 8 (by assumption) ?_
    refine zS 9 (by assumption) ?_
    refine zS 10 (by assumption) ?_
    refine zS 11 (by assumption) ?_
    refine zS 12 (by assumption) ?_
    refine zS 13 (by assumption) ?_
    refine zS 14 (by assumption) ?_
    refine zS 15 (by assumption) ?_
    refine zS 16 (by assumption) ?_
    refine zS 17 (by assumption) ?_
    refine zS 18 (by assumption) ?_
    refine zi 19 D.o ?_
    refine xC ?_
    go_wp2_with fail
    go_meet
    case rel=>exact⟨false,rfl,z0a⟩
   |true=>
   by_cases hiw:i<wn
   rotate_left
   ·have Z:(wn:Int)<=(i:Int):=by omega
    have zyp:decide ((wn:Int)<=(i:Int))=true:=decide_eq_true Z;refine qz (S:=λx=>Below C.heap.size C x) ((Below.refl _ _).drew) (λhhb=> ?_)
    refine zi 0 D.o ?_
    refine zi 1 D.o ?_
    refine zi 2 D.o ?_
    refine zi 3 D.o ?_
    refine zi 4 D.o ?_
    refine yA 5 rfl (λK hK=> ?_)
    go_simp
    refine(HSM.o C.drew hhb).mono ?_
    rintro e bw5 ⟨rfl,B⟩;have z0b:Below C.heap.size C bw5:=zy hhb B;refine hK.out _ _ z0b (λ_=> ?_)
    clear hK K B hhb;refine zi 6 D.o ?_
    refine zi 7 D.o ?_
    refine zi 8 D.o ?_
    refine zi 9 D.o ?_
    refine zi 10 D.o ?_
    refine zi 11 D.o ?_
    refine zS 12 (by assumption) ?_
    refine zS 13 (by assumption) ?_
    refine zS 14 (by assumption) ?_
    refine zS 15 (by assumption) ?_
    refine zS 16 (by assumption) ?_
    refine zS 17 (by assumption) ?_
    refine zi 18 D.o ?_
    refine zi 19 D.o ?_
    refine xC ?_
    go_wp2_with fail
    go_meet
    case rel=>exact⟨true,rfl,z0b⟩
   have Z:¬((wn:Int)<=(i:Int)):=by omega
   have zyp:decide ((wn:Int)<=(i:Int))=false:=decide_eq_false Z;have zFR:(i:Int)<(wn:Int):=by omega
   obtain⟨lb,lo,hla,hlb,Q⟩:=zzZ.o i hiw;subst hla;obtain⟨lr1,lr2⟩:=bK.o i hiw;generalize wl.getD i 0=x at Q lr1 lr2;obtain⟨xn,rfl⟩:∃n:Nat,x=n:=⟨x.toNat,by omega⟩;have hbw2:=zy HB.o G.o.run.below
   have q:J2 (∀y,Below C.heap.size C y->K3 y ob (oo+k*3) (.slice ta2 tn2 tc2)/\K3 y ob (oo+k*3+1) (.slice ua2 un2 uc2)/\K3 y ob (oo+k*3+2) (.bool bd2)/\
     K3 y gs 0 (.slice pa pn pc)/\K3 y gs 1 (.slice qa qn qc)/\K3 y gs 2 (.bool bd)/\K3 y lb (lo+i) (.int .u8 xn)):=λy j=>by
    obtain⟨e0,e1,e2,e3,e4,e5⟩:=D.o y j;exact⟨e0,e1,e2,e3,e4,e5,zl (zy hbw2 j) _ _ Q⟩
   clear Q hbw2;obtain⟨r3,hr3⟩:=qxE (xn % 3:Nat);refine qz (S:=λx=>Below C.heap.size C x) ((Below.refl _ _).drew) (λhhc=> ?_)
   refine zi 0 q.o ?_
   refine zi 1 q.o ?_
   refine zi 2 q.o ?_
   refine zi 3 q.o ?_
   refine zi 4 q.o ?_
   refine yA 5 rfl (λK hK=> ?_)
   go_simp
   refine(HSM.o C.drew hhc).mono ?_
   rintro e cw5 ⟨rfl,B⟩;have z0c:Below C.heap.size C cw5:=zy hhc B;refine hK.out _ _ z0c (λ_=> ?_)
   clear hK K B hhc;refine zi 6 q.o ?_
   refine zi 7 q.o ?_
   refine zi 8 q.o ?_
   refine zi 9 q.o ?_
   refine zi 10 q.o ?_
   refine zi 11 q.o ?_
   refine zi 12 q.o ?_
   refine zi 13 q.o ?_
   refine zi 14 q.o ?_
   refine zi 15 q.o ?_
   refine zi 16 q.o ?_
   refine zi 17 q.o ?_
   refine zi 18 q.o ?_
   refine zi 19 q.o ?_
   refine xC ?_
   go_wp2_with fail
   go_meet
   case rel=>exact⟨_,rfl,z0c⟩
  case rest=>
  obtain⟨st,rfl,HBC⟩:=hcut;obtain⟨W5,rfl⟩:=qxE (wc:World);cases st with
  |false=>
   go_wp2_with fail
   go_roundg (i - (k+1))
   case measure=>rw [HG2.o];omega
   case rel=>exact⟨k+1,by omega,rfl,by simp,zy yK.o HBC.o⟩
  |true=>
  have HMC:=qh (G.o.call HBC.o);clear HSM D;obtain⟨⟨k1,k2⟩,z,f,O⟩:=HMC.o.fin (Y:=W5.setCell ⟨gs+1,1,none⟩ (I4 k)) HB.o (by rw [xG.o];omega) (k:Int) (.inr rfl)
  rw [<-g.o.2] at f;have zL:=qh z;have zjM:=qh f;have yR:=qh O;clear k1 k2 z f O;have J:=HMC.o.zaC;have k6:=HMC.o.zbR;have b0:=ze J 0;have b1:=ze J 1;have fb0:=zH J 0;have fb1:=zH J 1;have z0:=ze k6 0;have z1:=ze k6 1;have f0:=zH k6 0;have f1:=zH k6 1;have hne1:¬E+2=gs+1:=HMC.o.lo.2.1;have hne2:¬gs+1=E+2:=λe=>hne1 e.symm;clear J k6;go_wp2_with fail
  refine bodyPost_ret (xu rfl _ _ (E+2) 42 _ (0,0) _ rfl zL.o Tryz.underlying42 rfl ziv) rfl ?_
  exact⟨⟨ra,rc,i,ml,k,g.o.2,rfl,zjM.o,by omega,HWF.o⟩,yR.o⟩
 obtain rfl:i=k:=by omega
 clear HG2;have b:=G.o.run.box;rw [<-kG.o] at b;have b0:=ze b 0;have b1:=ze b 1;have b2:=ze b 2;have f:=G.o.run.rows.row;rw [<-g.o.1] at f;have vW:=qh f;have uh:=qh G.o.run.below.size;clear b f
 go_upto_region 14 with(at_builtin;go_must(refine zO _ rfl _ _ 48 rfl 61 (.agg #[N7,N7, .bool false]) 3 56 Tryz.underlying48 zby rfl (by decide) W.heap.size (.slice oa i oc) i css.flatten rfl ((vW.o).alloc _) ⟨C.heap.size,0,none⟩ 1 1 [.slice pa pn pc, .slice qa qn qc, .bool bd] rfl rfl (j4 _ [.slice pa pn pc, .slice qa qn qc, .bool bd] _) (by simp [Value.oneCell']) (by unfold maxLen;omega) (by omega) (by have:=uh.o;simp;omega) ?_);intro ja jc X4 f1 f2 f3 f4 f5 f6;(have HP:=qh (G.o.push (by rw [<-g.o.1, <-kG.o];exact f1) f4 f5));clear f1 f2 f3 f4 f5 f6)
 clear b0 b1 b2 vW uh G yK HM;have z7u:J2 (i+1=(out++ [s]).length):=by rw [J2,List.length_append,g.o.1];rfl
 obtain⟨I,hmn⟩:=qxE ((MV s).length);have hmv:=HMV.o X4 (zy HB.o HP.o.run.below) s (HBF.o s HCO.o) _ _ HP.o.run.now I hmn;have jE:=qh hmn;rw [<-kG.o] at hmv;have z5Q:=qh hmv;have HRB:J2 (gs+1<X4.heap.size/\∀k,(Value.slice ra i rc).ownBlock=some k->k<X4.heap.size):=⟨zA HP.o.zaC,λk hk=>(HP.o.row.lt k hk).2⟩;obtain⟨c0,c1,c2,c3,c4⟩:=CC.o X4 HP.o.run.below;have b:=HP.o.run.box;rw [<-kG.o] at b;have b0:=ze b 0;have b1:=ze b 1;have b2:=ze b 2;clear hmv hmn b
 go_upto_region 15 with(go_at_call 31;go_must(refine(z5Q.o).mono ?_);rintro e X5 ⟨⟨va,vc,rfl,hvo⟩,B⟩;have P:=qh (HP.o.call B);have HVO:=qh hvo;clear B hvo)
 clear c0 c1 c2 c3 c4 b0 b1 b2 z5Q HP;have hvm:qB X5 (.slice va I vc) (MV s):=zeY (by rw [<-jE.o];exact HVO.o);have HVM:=qh hvm;have zFS:I<=9223372036854775807:=by have:=(zh.room hvm);rw [<-jE.o] at this;omega
 have hmr:=P.o.row;rw [<-g.o.2] at hmr;have HMR:=qh hmr;have HS5:=qh P.o.run.below.size;have HVB:=qh (λk (hk:(Value.slice va I vc).ownBlock=some k)=>(HVO.o.lt k hk).1);clear hvm HVO hmr;by_cases hm0:I=0
 ·subst hm0;have J:=P.o.zaC;have b0:=ze J 0;clear J
  go_upto_region 17 with(at_builtin;go_must(refine zO _ rfl _ _ 40 rfl 46 (.agg #[I4 0,I4 0,I4 0]) 3 24 Tryz.underlying40 uT rfl (by decide) W.heap.size (.slice ra i rc) i (zx zw.cells ml) rfl ((HMR.o).alloc _) ⟨X5.heap.size,0,none⟩ 1 1 [I4 0,I4 0,I4 0] rfl rfl (j4 _ [I4 0,I4 0,I4 0] _) (by simp [Value.oneCell']) (by unfold maxLen;omega) (by omega) (by have:=HS5.o;simp;omega) ?_);intro ka kc X6 f1 f2 f3 f4 f5 f6;(have HPM:=qh (P.o.move (x:=jP) (by rw [<-g.o.2];exact f1) f4 f5));(have q0:=ze HPM.o.2.1 0);(have q1:=zH HPM.o.2.1 0);clear f1 f2 f3 f4 f5 f6 b0)
  have HM7:=qh HPM.o.1;clear HPM q0 q1 P;generalize World.setCell X6 _ _=X7 at HM7 ⊢;have hwz:∀x∈ml++ [jP],vZ x:=λx hx=>(List.mem_append.1 hx).elim (HWF.o x) (λh=>by rw [List.mem_singleton.1 h];exact⟨zaZ (by simp [jP]),zaZ (by simp [jP]),zaZ (by simp [jP])⟩);have HWZ:=qh hwz;have hl7:(ml++ [jP]).length=i+1:=by rw [List.length_append, <-g.o.2];rfl
  have HL7:=qh hl7;clear hwz hl7;obtain⟨⟨k1,k2⟩,z,f,O⟩:=HM7.o.fin (Y:=X7.setCell ⟨gs+1,1,none⟩ (I4 i)) HB.o (by rw [xG.o];omega) (i:Int) (.inr rfl)
  rw [HL7.o] at f;have zL:=qh z;have zjM:=qh f;have yR:=qh O;clear k1 k2 z f O;have J:=HM7.o.zaC;have k6:=HM7.o.zbR;have b0:=ze J 0;have b1:=ze J 1;have fb0:=zH J 0;have fb1:=zH J 1;have z0:=ze k6 0;have z1:=ze k6 1;have f0:=zH k6 0;have f1:=zH k6 1;have hne1:¬E+2=gs+1:=HM7.o.lo.2.1;have hne2:¬gs+1=E+2:=λe=>hne1 e.symm;clear J k6;go_wp2_with fail
  refine bodyPost_ret (xu rfl _ _ (E+2) 42 _ (0,0) _ rfl zL.o Tryz.underlying42 rfl ziv) rfl ?_
  exact⟨⟨ka,kc,(i+1),(ml++ [jP]),i,by simp [g.o.2],rfl,zjM.o,by omega,HWZ.o⟩,yR.o⟩
 have zFT:((I:Int)==0)=false:=by rw [beq_eq_false_iff_ne];omega
 have zFU:(I==0)=false:=by rw [beq_eq_false_iff_ne];omega
 have hmp:0<I:=by omega
 have zFV:(0:Int)<(I:Int):=by omega
 go_upto_if 73 with fail
 have z7v:J2 (i<=255):=by rw [J2];omega
 go_cut [13] (λs13 w'=>∃kx:Nat,s13=I4 kx/\J2 (kx<=255)/\J2 (w'=X5))
 case first=>
  by_cases hiw:i<wn
  rotate_left
  ·have Z:¬(i:Int)<(wn:Int):=by omega
   have zyp:decide ((i:Int)<(wn:Int))=false:=decide_eq_false Z;go_wp2_with fail
   go_meet
   case rel=>exact⟨i,rfl,z7v.o,rfl⟩
  have Z:(i:Int)<(wn:Int):=by omega
  have zyp:decide ((i:Int)<(wn:Int))=true:=decide_eq_true Z;obtain⟨lb,lo,hla,hlb,Q⟩:=zzZ.o i hiw;subst hla;obtain⟨lr1,lr2⟩:=bK.o i hiw;generalize wl.getD i 0=x at Q lr1 lr2;obtain⟨xn,rfl⟩:∃n:Nat,x=n:=⟨x.toNat,by omega⟩;have hx5:=zl (zy HB.o P.o.run.below) _ _ Q;have hwx:=wrap_u8 lr1 lr2;have HXB:J2 (xn<=255):=by rw [J2];omega
  clear Q lr1 lr2;go_wp2_with fail
  go_meet
  case rel=>exact⟨xn,by first|rfl|rw [hwx],HXB.o,rfl⟩
 case rest=>
 obtain⟨kx,rfl,HKX,hw⟩:=hcut;obtain⟨r,hr⟩:=qxE (kx % I:Nat);have hrm:r<I:=by rw [hr];exact Nat.mod_lt _ hmp
 have hrI:(r:Int)<(I:Int):=by omega
 have htm:(kx:Int).tmod (I:Int)=(r:Int):=by rw [Int.tmod_eq_emod_of_nonneg (by omega),hr];exact(Int.natCast_emod kx I).symm
 have zFW:(kx:Int) % (I:Int)=(r:Int):=by rw [hr];exact(Int.natCast_emod kx I).symm
 have zwP:¬I=0:=by omega
 obtain⟨vb,vo,hve, -,x0,x1,x2⟩:=qB.part HVM.o r (by rw [<-jE.o];exact hrm);subst hve;have hmem:(MV s).getD r default∈MV s:=jF (by rw [<-jE.o];exact hrm);have zyq:=HWM.o s _ hmem;have N:=HC1.o s _ HCO.o hmem;obtain⟨x,hx⟩:=qxE ((MV s).getD r default);rw [<-hx] at x0 x1 x2 hmem zyq N;clear hx hmem hr;rw [hw.o];clear hw;have HWX:=qh zyq;have HCX:=qh N;obtain⟨U,T,R⟩:=x;simp only [] at x0 x1 x2;have J:=P.o.zaC
 have C22:J2 (∀y,Below X5.heap.size X5 y->K3 y (gs+1) 0 (.slice ra i rc)/\K3 y vb (vo+r*3) (I4 U)/\K3 y vb (vo+r*3+1) (I4 T)/\K3 y vb (vo+r*3+2) (I4 R)):=λy j=>
  ⟨zl j _ _ (ze J 0),zl j _ _ x0,zl j _ _ x1,zl j _ _ x2⟩
 have HNV:J2 (¬ME (gs+1) (.slice ra i rc) vb):=λe=>by
  have h1:=HVB.o vb rfl;rcases e with e|e
  ·have:=HRB.o.1;omega
  have:=HRB.o.2 _ e;omega
 clear zyq N J x0 x1 x2;go_upto_region 22 with fail
 refine wp_region_noPanic ?_
 refine xg (n0:=10) (S:=λx=>Below X5.heap.size X5 x) (by kernel_rfl) ((Below.refl _ _).drew) (λhT=> ?_)
 obtain⟨V1,hV1⟩:=qxE X5.drew;rw [<-hV1] at hT ⊢;clear hV1;have HV1:=qh hT;refine zU 0 (λ_=>hT) ?_
 refine vX [10,11,12] 1 C22.o hT ?_
 refine zU 2 (λ_=>hT) ?_
 refine zU 3 (λ_=>hT) ?_
 refine zU 4 (λ_=>hT) ?_
 refine zU 5 (λ_=>hT) ?_
 refine zU 6 (λ_=>hT) ?_
 refine zU 7 (λ_=>hT) ?_
 refine vX [9,10,11,12] 8 C22.o hT ?_
 refine kg 9 rfl (λK hK=> ?_)
 go_simp
 have B:Below V1.heap.size V1 (V1.alloc (.cells #[I4 U,I4 T,I4 R] 46)):=(Below.refl _ _).alloc (Nat.le_refl _) _;have jS:=qh (j4 V1 [I4 U,I4 T,I4 R] 46);have HM5:=qh (P.o.call hT);have hro:=HM5.o.row;rw [<-g.o.2] at hro;have HRO:=qh (hro.alloc (.cells #[I4 U,I4 T,I4 R] 46))
 have kT:=qh (λ(X1:World) (v':Value) (h1:X1.ownsRow W.heap.size 46 3 v' (i+1) (zx zw.cells ml++ [I4 U,I4 T,I4 R])) (h4:Since (λk=>(Value.slice ra i rc).ownBlock=some k) (V1.alloc (.cells #[I4 U,I4 T,I4 R] 46)) X1) (h5:∀k,v'.ownBlock=some k->(Value.slice ra i rc).ownBlock=some k\/k=(V1.alloc (.cells #[I4 U,I4 T,I4 R] 46)).heap.size)=>HM5.o.move (x:=⟨U,T,R⟩) (by rw [<-g.o.2];exact h1) h4 h5);have HS6:J2 (W.heap.size<=(V1.alloc (.cells #[I4 U,I4 T,I4 R] 46)).heap.size):=Nat.le_trans HM5.o.run.below.size B.size;clear hro HM5;obtain⟨gq,hgq⟩:=qxE V1.heap.size;rw [<-hgq] at jS ⊢;clear hgq
 generalize World.alloc V1 _=tw9 at B jS HRO kT HS6 ⊢;have hT9:Below X5.heap.size X5 tw9:=zy hT B;refine hK.out _ _ (λ_ _=>hT9) ?_
 clear hK K B hT;refine kg 10 rfl (λK hK=> ?_)
 refine zY tw9 (by rfl) (.tmp 80) (.tmp 88) 40 rfl 46 (.agg #[I4 0,I4 0,I4 0]) 3 24 Tryz.underlying40 uT rfl (by decide) W.heap.size (.slice ra i rc) i (zx zw.cells ml) (by rfl) HRO.o ⟨gq,0,none⟩ 1 1 [I4 U,I4 T,I4 R] (by rfl) rfl jS.o (by simp [Value.oneCell']) (by unfold maxLen;omega) (by omega) HS6.o ?_
 intro ka kc zBu e1 e2 e3 e4 e5;have hpu:=kT.o zBu (.slice ka (i+1) kc) e1 e4 e5;have HPU:=qh hpu;clear e1 e2 e3 e4 e5 hpu;refine hK.out _ _ (λh=>absurd rfl h) ?_
 clear hK K;change vw _ _ _ _ _ _ _ _ (Act.put _ (some 89) _) _;simp only [Act.put,jJ,jK,jL];refine zU 11 (λh=>absurd h (by decide+kernel)) ?_
 refine kg 12 rfl (λK hK=> ?_)
 have q0:=ze HPU.o.2.1 0;have q1:=zH HPU.o.2.1 0;go_simp
 refine hK.out _ _ (λ_ h=>absurd h (by decide+kernel)) ?_
 clear hK K;refine xZ (by kernel_rfl) ?_ _
 refine NoPanic.normal ?_
 have u:=qh HPU.o.1;have HSP:=qh HPU.o.2.2;clear HPU q0 q1;generalize hX8:World.setCell _ _ _=X8 at u HSP;clear hX8;have hb8:=u.o.run.box;have zBv:=hb8;rw [<-kG.o] at hb8
 have C23:J2 (∀y,Below X8.heap.size X8 y->K3 y E 0 (I4 vars)/\K3 y E 1 (I4 dom)/\K3 y E 2 (.slice ca cn cc)/\K3 y (E+1) 0 (I4 mod)/\K3 y (E+1) 1 (I4 bnd)/\
   K3 y gs 0 (.slice pa pn pc)/\K3 y gs 1 (.slice qa qn qc)/\K3 y gs 2 (.bool bd)/\K3 y vb (vo+r*3) (I4 U)/\K3 y vb (vo+r*3+1) (I4 T)/\K3 y vb (vo+r*3+2) (I4 R)):=λy j=>by
  obtain⟨e0,e1,e2,e3,e4⟩:=CC.o y (zy u.o.run.below j);obtain⟨-,x0,x1,x2⟩:=C22.o _ HV1.o;exact⟨e0,e1,e2,e3,e4,zl j _ _ (ze hb8 0),zl j _ _ (ze hb8 1),zl j _ _ (ze hb8 2),zl j _ _ ((HSP.o.cell (World.block_lt_of_cell? _ _ x0) HNV.o).trans x0),zl j _ _ ((HSP.o.cell (World.block_lt_of_cell? _ _ x1) HNV.o).trans x1),zl j _ _ ((HSP.o.cell (World.block_lt_of_cell? _ _ x2) HNV.o).trans x2)⟩
 clear hb8 zBv C22 HSP HNV HV1;obtain⟨⟨t,er⟩,hdd⟩:∃p,p=DO s ⟨U,T,R⟩:=⟨_,rfl⟩;have N:=HCX.o;have hD:=λy (j:Below X8.heap.size X8 y)=>HDO.o y (zy HB.o (zy u.o.run.below j)) s (HBF.o s HCO.o) _ _ ((u.o.call j).run.now) (GF (ME (gs+1) (.slice ka (i+1) kc)) (.slice ja (i+1) jc) gs) (λk hk=>hk.elim (λe=>(u.o.call j).run.lt k (.inl e)) (λh=>h.elim (λe=>(u.o.call j).run.lt k (.inr e)) (λh=>h.elim (λe=>e ▸ zA (u.o.call j).zaC) (λe=>((u.o.call j).row.lt k e).2)))) (u.o.call j).run.st ⟨U,T,R⟩;rw [<-hdd, <-kG.o] at hD;rw [<-hdd] at N;simp only [] at hD N;obtain⟨tb,htb⟩:=qxE t.bad;rw [<-htb] at hD
 have HTB:=qh htb;have HD:=qh hD;have HCT:=qh N;clear hD N hdd htb HCX;go_upto_region 23 with fail
 refine wp_region_noPanic ?_
 refine xg (n0:=14) (S:=λx=>Below X8.heap.size X8 x) (by kernel_rfl) ((Below.refl _ _).drew) (λhU=> ?_)
 refine vX [10,11,12,13,14] 0 C23.o hU ?_
 refine vX [10,11,12,13,14] 1 C23.o hU ?_
 refine vX [10,11,12,13,14] 2 C23.o hU ?_
 refine zU 3 (λ_=>hU) ?_
 refine zU 4 (λ_=>hU) ?_
 refine zU 5 (λ_=>hU) ?_
 refine zU 6 (λ_=>hU) ?_
 refine zU 7 (λ_=>hU) ?_
 refine zU 8 (λ_=>hU) ?_
 refine vX [10,11,12,13,14] 9 C23.o hU ?_
 refine kg 10 rfl (λK hK=> ?_)
 go_simp
 refine(HD.o X8.drew hU).mono ?_
 rintro e zBw ⟨⟨ra2,ua2,rn2,rc2,un2,uc2,rfl,haw⟩,B⟩;have bZ:=qh haw;clear haw;have zkB:Below X8.heap.size X8 zBw:=zy hU B;refine hK.out _ _ (λ_ _=>zkB) ?_
 clear hK K B hU;refine zU 11 (λ_=>zkB) ?_
 refine zU 12 (λ_=>zkB) ?_
 refine zU 13 (λ_=>zkB) ?_
 refine kg 14 rfl (λK hK=> ?_)
 have vT:=qh (zkB);have b:=((zkB).block _ (zA u.o.run.box)).trans u.o.run.box;rw [<-kG.o] at b;have q0:=ze b 0;have q1:=ze b 1;have q2:=ze b 2;have g0:=zH b 0;have g1:=zH b 1;have g2:=zH b 2;clear b;go_simp
 refine hK.out _ _ (λh=>absurd rfl h) ?_
 clear hK K;refine xZ (by kernel_rfl) ?_ _
 refine NoPanic.normal ?_
 have hput:=u.o.put vT.o (t:=t) (pv:= .slice ra2 rn2 rc2) (qv:= .slice ua2 un2 uc2) (by rw [<-HTB.o];exact bZ.o);rw [<-HTB.o] at hput;simp only [yU] at hput;have kT:=qh hput;have zBx:J2 (∀x∈ml++ [⟨U,T,R⟩],vZ x):=λx hx=>(List.mem_append.1 hx).elim (HWF.o x) (λh=>by rw [List.mem_singleton.1 h];exact HWX.o);have z7w:J2 (i+1=(out++ [s]).length/\i+1=(ml++ [(⟨U,T,R⟩:zw)]).length):=⟨z7u.o,by rw [List.length_append, <-g.o.2];rfl⟩
 clear hput bZ q0 q1 q2 g0 g1 g2;go_wp2_with fail
 go_roundg (40 - (i+1))
 case measure=>rw [HG.o];omega
 case rel=>exact⟨i+1,jc,ja,out++ [s],_,t,ra2,ua2,rn2,rc2,un2,uc2,ka,kc,ml++ [(⟨U,T,R⟩:zw)],by omega,rfl,by simp,rfl,kT.o,z7w.o,zBx.o,HCT.o⟩
