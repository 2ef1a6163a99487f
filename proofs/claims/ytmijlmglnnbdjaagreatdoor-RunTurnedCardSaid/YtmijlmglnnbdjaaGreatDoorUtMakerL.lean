/- Steps. -/
import Derived.Deep.RegionLaw
import Derived.Test.YtmijlmglnnbdjaaGreatDoorUtTreeR
set_option linter.all false
namespace Go.Proofs.YtmijlmglnnbdjaaGreatDoor
open Go.RowKit
set_option maxRecDepth 100000
set_option maxHeartbeats 16000000
structure jd (W0 X:World) (g:Nat) (lv:Value) (a:Nat):Prop where
 below:Below W0.heap.size W0 X
 lo:W0.heap.size<=g
 box:X.heap[g]? =some (.cells #[lv,I4 a] 100 (0,0))
theorem jd.later {W0 X Y:World} {g:Nat} {lv:Value} {a:Nat} (h:jd W0 X g lv a) (c:Below X.heap.size X Y):jd W0 Y g lv a:=⟨zy h.below c,h.lo,(c.block _ (zA h.box)).trans h.box⟩
theorem jd.since {W0 X Y:World} {g:Nat} {lv:Value} {a:Nat} {F:Nat->Prop} (h:jd W0 X g lv a) (c:Since F X Y) (d:∀k,F k->W0.heap.size<=k/\k≠g):jd W0 Y g lv a:=
 ⟨h.below.trans (c.below h.below.size (λk f=>(d k f).1)),h.lo,(c.block _ (zA h.box) (λe=>(d _ e).2 rfl)).trans h.box⟩
theorem jd.take {W0 X:World} {g:Nat} {lv:Value} {a:Nat} (h:jd W0 X g lv a) (b:Nat):jd W0 (X.setCell ⟨g,1,none⟩ (I4 b)) g lv b:=by
 refine⟨h.below.trans ((Since.setCell (F:=λk=>k=g) (p:=⟨g,1,none⟩) (Since.refl _ X) (.inl rfl) _).below h.below.size (λk c=>by have:=h.lo;omega)),h.lo, ?_⟩
 have:=zu h.box 1 (I4 b);simpa using this
def zp3 (W0:World) (g:Nat) (lv:Value) (a n:Nat) (w:World) (e:Ending) (w':World):Prop:=∃r:Nat,r<n/\e= .returned (I4 r)/\jd W0 w' g lv (a+1)/\Since (λk=>k=g) w w'
theorem zx4 (W0 w:World) (g:Nat) (lv:Value) (l:List Int) (a n:Nat) (h:jd W0 w g lv a) (I:vL W0 .u8 lv l) (P:1<=n) (O:n<=100) (R:a<=1000000):
  Calls Tryz.prog 48 #[.pointer (some ⟨g,0,none⟩), .int .i64 n] w (zp3 W0 g lv a n w):=by
 obtain⟨E,D,rfl,L,i,c⟩:=I;have j:=h.take (a+1);have m:Since (λk=>k=g) w (w.setCell ⟨g,1,none⟩ (.int .i64 ((a+1:Nat):Int))):=Since.setCell (F:=λk=>k=g) (p:=⟨g,1,none⟩) (Since.refl _ _) (.inl rfl) _;have u:w.cell? ⟨g,1,none⟩=some (.int .i64 a):=ze h.box 1;have A:w.frozen? ⟨g,1,none⟩=false:=zH h.box 1;rw [show((a+1:Nat):Int)=(a:Int)+1 by omega] at j m;have r:=qh j;have C:=qh m;clear j m h;go_enter Tryz.func48,Tryz.ntmps48
 go_upto_region 2 with fail
 generalize hV:World.setCell w _ _=V at r C ⊢;clear hV u A
 have u:V.cell? ⟨g,1,none⟩=some (.int .i64 ((a:Int)+1)):=by
  have:=ze r.o.box 1
  simpa using this
 have J:V.cell? ⟨g,0,none⟩=some (.slice E l.length D):=ze r.o.box 0;by_cases hc:a<l.length
 rotate_left
 ·have B:decide ((l.length:Int)<(a:Int)+1)=true:=by rw [decide_eq_true_iff];omega
  clear i c;go_quiet (fail)
  go_wp2_with fail
  go_ret;exact⟨0,by omega,rfl,r.o.later (yw (Below.refl _ _) _),Since.drewN _ _ C.o⟩
 obtain⟨b,v,rfl,M,hx⟩:=c a hc;have y:=(r.o.below.cell (p:=⟨b,v+a,none⟩) M).trans hx;obtain⟨x,f⟩:=qxE (l.getD a 0);rw [<-f] at y
 have d:(Lit.int .u8 x).wf=true:=by
  rw [f,List.getD_eq_getElem?_getD,List.getElem?_eq_getElem hc];exact i _ (List.getElem_mem hc)
 have H:0<=x:=by simp [Lit.wf,IntKind.min,IntKind.max,IntKind.signed] at d;omega
 have G:x<=255:=by simp [Lit.wf,IntKind.min,IntKind.max,IntKind.signed,IntKind.bits] at d;omega
 have B:decide ((l.length:Int)<(a:Int)+1)=false:=by rw [decide_eq_false_iff_not];omega
 have N:(a:Int)<l.length:=by omega
 clear hx f d i c;go_quiet (fail)
 go_upto_region 4 with fail
 go_quiet (fail)
 go_wp2_with fail
 go_ret;have t:=Int.emod_nonneg x (show(n:Int)≠0 by omega);have z:=Int.emod_lt_of_pos x (show(0:Int)<(n:Int) by omega);refine⟨(x % (n:Int)).toNat, ?_, ?_,r.o.later (yw (yw (Below.refl _ _) _) _),Since.drewN _ _ (Since.drewN _ _ C.o)⟩
 ·generalize x % (n:Int)=q at t z ⊢;omega
 show Ending.returned (.int .i64 (x % (n:Int)))=_
 rw [Int.toNat_of_nonneg t]
theorem zdS:(Tryz.prog.info? 104).map (·.size)=some 4:=by kernel_rfl
theorem zx5 (w:World) (n:Int):Calls Tryz.prog 147 #[I4 n] w λe c=>e= .returned (.agg #[I4 1,I4 n, .int .u8 0,N7])/\Below w.heap.size w c:=by
 have f:=qh ((Below.refl w.heap.size w).alloc (Nat.le_refl _) (.cells #[I4 1,I4 n, .int .u8 0,N7] 104));have d:=qh (zQ w (.cells #[I4 1,I4 n, .int .u8 0,N7] 104));go_enter Tryz.func147,Tryz.ntmps147
 go_wp2_with fail
 refine bodyPost_ret (xu rfl _ _ w.heap.size 104 _ (0,0) _ rfl d.o Tryz.underlying104 rfl zdS) rfl ?_
 exact⟨rfl,f.o⟩
def zb8:Nat->Nat
 |0=>2
 |d+1=>2+2*zb8 d
def zp4 (W0:World) (g:Nat) (lv:Value) (dom:Int) (d a:Nat) (w:World) (e:Ending) (w':World):Prop:=∃(x:zR) (ka:Option Addr) (kc a':Nat),e= .returned (.agg #[I4 x.kind,I4 x.n, .int .u8 x.op, .slice ka x.kids.length kc])/\zV dom (d+1) x=true/\
 yL (λk=>k<w.heap.size) w' (λy=>zJ (d+2) y x (.slice ka x.kids.length kc))/\jd W0 w' g lv a'/\a'<=a+zb8 d/\Since (λk=>k=g) w w'
def zdr (W0:World) (g:Nat) (lv:Value) (dom:Int) (d:Nat):Prop:=∀(w:World) (a:Nat),jd W0 w g lv a->a+zb8 d<=1000000->Calls Tryz.prog 118 #[.pointer (some ⟨g,0,none⟩),I4 d,I4 dom] w (zp4 W0 g lv dom d a w)
theorem zj6 (n:Nat) (F:Nat->Prop) (X:World) (k m o:Int):yL F X (λy=>zJ (n+1) y (.mk k m o []) (N7)):=λ_ _=>⟨none,0,rfl,by simp [zR.kids],λj c=>by simp [zR.kids] at c⟩
theorem z0U (r:Nat) (h:r<(⟨#[43,45,42,60,38,124,61,33]⟩:ByteArray).size):jC (((⟨#[43,45,42,60,38,124,61,33]⟩:ByteArray)[r]'h).toNat:Int)=true:=by
 have c:r<8:=h;match r,c with
 |0,_=>rfl
 |1,_=>rfl
 |2,_=>rfl
 |3,_=>rfl
 |4,_=>rfl
 |5,_=>rfl
 |6,_=>rfl
 |7,_=>rfl
theorem zfw {W0 w X:World} {g f d a m kc:Nat} {lv:Value} {dom:Int} {x:zR} {ka:Option Addr} (p:jd W0 X g lv m) (o:Since (λk=>k=g) w X) (q:f=w.heap.size) (j:f≠g) (l:W0.heap.size<=f)
  (hx:yL (λk=>k<w.heap.size\/k=f) X (λy=>zJ (d+2) y x (.slice ka x.kids.length kc))) (i:zV dom (d+1) x=true) (r:m<=a+zb8 d):
  zp4 W0 g lv dom d a w (.returned (.agg #[I4 x.kind,I4 x.n, .int .u8 x.op, .slice ka x.kids.length kc])) (yU X f 0 [I4 x.kind,I4 x.n, .int .u8 x.op, .slice ka x.kids.length kc]):=by
 have h:=xR (g:=f) [I4 x.kind,I4 x.n, .int .u8 x.op, .slice ka x.kids.length kc] X 0;exact⟨x,ka,kc,m,rfl,i,hx.step h (λk c=> .inl (.inr c)) (λk c=> .inl (.inl c)),p.since h (λk c=>by subst c;exact⟨l,j⟩),r,o.trans h (λk c=> .inr (by omega))⟩
theorem z4U {n l:Nat} {y:World} {d c:zR} {k f:Value} {o:Int} {t:TypeId} (h:y.heap[l]? =some (.cells (d.cells k++c.cells f).toArray t (0,0))) (u:zJ n y d k) (r:zJ n y c f):zJ (n+1) y (.mk 3 0 o [d,c]) (.slice (some ⟨l,0,none⟩) 2 2):=by
 refine⟨_,2,rfl,by simp [zR.kids],λj q=> ?_⟩
 have m:j=0\/j=1:=by simp [zR.kids] at q;omega
 rcases m with rfl|rfl
 ·refine⟨l,0,d.cells k,rfl,zA h,rfl,λi p=> ?_,k,rfl,u⟩
  rw [ze h];match i,p with
  |0,_=>rfl
  |1,_=>rfl
  |2,_=>rfl
  |3,_=>rfl
 refine⟨l,0,c.cells f,rfl,zA h,rfl,λi p=> ?_,f,rfl,r⟩
 rw [ze h];match i,p with
 |0,_=>rfl
 |1,_=>rfl
 |2,_=>rfl
 |3,_=>rfl
theorem zx6 {n g m:Nat} {F F1 x:Nat->Prop} {v u X:World} {i h:zR} {q p:Value} {o:Int} {t:TypeId} (C:yL F1 v (λy=>zJ n y i q)) (B:yL x u (λy=>zJ n y h p)) (A:Since (λk=>k=g) v X) (z:Since (λk=>k=g) u X)
  (r:X.heap[m]? =some (.cells (i.cells q++h.cells p).toArray t (0,0))) (f:∀k,F k\/k=g->F1 k) (d:∀k,F k\/k=g->x k) (l:¬F m):yL F X (λy=>zJ (n+1) y (.mk 3 0 o [i,h]) (.slice (some ⟨m,0,none⟩) 2 2)):=λy j=>
 z4U ((j.block _ (zA r) l).trans r) ((C.step A (F':=F) (λk c=> .inl (f k (.inr c))) (λk c=> .inl (f k (.inl c)))) y j) ((B.step z (F':=F) (λk c=> .inl (d k (.inr c))) (λk c=> .inl (d k (.inl c)))) y j)
theorem z4V {dom:Int} {d n:Nat} (h:(n:Int)<dom):zV dom (d+1) (.mk 1 n 0 [])=true:=by
 unfold zV;simp only [zR.kind,zR.n,zR.op,zR.kids];simp [h]
theorem z4W {dom:Int} {d n:Nat} (h:n<4):zV dom (d+1) (.mk 2 n 0 [])=true:=by
 have c:(n:Int)<4:=by omega
 unfold zV;simp only [zR.kind,zR.n,zR.op,zR.kids];simp [c]
theorem z4X {dom o:Int} {d:Nat} {x y:zR} (f:jC o=true) (hx:zV dom d x=true) (c:zV dom d y=true):zV dom (d+1) (.mk 3 0 o [x,y])=true:=by
 unfold zV;simp only [zR.kind,zR.n,zR.op,zR.kids];simp [f,hx,c]
theorem zij (W0 w:World) (g:Nat) (lv:Value) (l:List Int) (a n:Nat) (d:Int) (c:d=n) (h:jd W0 w g lv a) (j:vL W0 .u8 lv l) (i:1<=n) (f:n<=100) (k:a<=1000000):
  Calls Tryz.prog 48 #[.pointer (some ⟨g,0,none⟩),I4 d] w (zp3 W0 g lv a n w):=by subst c;exact zx4 W0 w g lv l a n h j i f k
theorem zup (d:Nat) (f:1<=d) (c:d<=10):IntKind.i64.wrap ((d:Int) - 1)=(d:Int) - 1:=IntWalk.i64_in _ (by omega)
theorem znq (W0:World) (g:Nat) (lv:Value) (l:List Int) (hn:vL W0 .u8 lv l) (dom:Nat) (e:2<=dom) (hd2:dom<=16) (d:Nat) (hd:d<=10) (T:1<=d->zdr W0 g lv dom (d - 1)):zdr W0 g lv dom d:=by
 intro w a c ha;have hK:2<=zb8 d:=by cases d<;>simp [zb8]
 have C:=λW a n ni hni h n1 n2 ha=>zij W0 W g lv l a n ni hni h hn n1 n2 ha;have s:=(Below.refl w.heap.size w).alloc (Nat.le_refl _) (.cells #[I4 0,I4 0, .int .u8 0,N7] 104);have v:=c.later s;have u:=zQ w (.cells #[I4 0,I4 0, .int .u8 0,N7] 104);have zaB:=zA c.box;have HLO:=qh c.below.size;have vO:=qh C;have yh:=qh s;have HM1:=qh v;have qd:=qh u;have IH:=qh T;clear C s v u T c hn;go_enter Tryz.func118,Tryz.ntmps118
 go_upto_region 1 with fail
 generalize World.alloc w _=W at yh HM1 qd ⊢;obtain⟨gx,Q⟩:=qxE w.heap.size;rw [<-Q] at qd ⊢;have xG:=qh Q;have R:gx≠g:=by omega
 clear Q zaB;go_upto_region 2 with(go_at_call 48;go_must(refine(vO.o W a 5 5 rfl HM1.o (by omega) (by omega) (by omega)).mono ?_);rintro en V ⟨r,hr,rfl,c,f⟩;(have G:=qh c);(have E:=qh ((xW (λk=>k=g) yh.o).trans f (λ_ h=> .inl h)));(have t:=qh ((f.block _ (zA qd.o) (by omega)).trans qd.o));clear c f HM1 qd yh)
 by_cases hc:r<2\/d=0
 ·have hgv:V.heap.size<=V.heap.size:=Nat.le_refl _;clear IH;go_cut [10] (λs10 w'=>s10= .bool true/\w'=V)
  case first=>
   by_cases hr2:r<2
   ·have z4Y:((r:Int))<2:=by omega
    go_wp2_with fail
    go_meet
    case rel=>exact⟨by first|rfl|simp,rfl⟩
   obtain rfl:d=0:=by omega
   have z4Y:decide ((r:Int)<2)=false:=by rw [decide_eq_false_iff_not];omega
   go_wp2_with fail
   go_meet
   case rel=>exact⟨by first|rfl|simp,rfl⟩
  case rest=>
  obtain⟨rfl,hwv⟩:=hcut;obtain rfl:V=wc:=hwv.symm
  go_wp2_with(first|(go_at_call 147;go_must(refine(zx5 V2 _).mono ?_);rintro en V3 ⟨rfl,hb⟩;(have M:=qh (HM3.o.later hb));(have HS4:=qh (HS3.o.trans (xW (λk=>k=g) hb) (λ_ h=> .inl h)));(have q:=qh ((hb.block _ (zA kZ.o)).trans kZ.o));clear hb HM3 HS3 kZ;have f0:=zH q.o 0;have f1:=zH q.o 1;have f2:=zH q.o 2;have f3:=zH q.o 3;have c0:=ze q.o 0;have c1:=ze q.o 1;have c2:=ze q.o 2;have c3:=ze q.o 3)|(go_at_call 48;go_must(refine(vO.o V _ dom dom rfl G.o (by omega) (by omega) (by omega)).mono ?_);rintro en V2 ⟨r2,hr2,rfl,c,f⟩;(have HM3:=qh c);(have HS3:=qh (E.o.trans f (λ_ h=> .inl h)));(have kZ:=qh ((f.block _ (zA t.o) (by omega)).trans t.o));clear c f G E t))
  have p:=zfw (x:= .mk 1 r2 0 []) (d:=d) (dom:=dom) (a:=a) (ka:=none) (kc:=0) M.o HS4.o xG.o R (by have:=M.o.below.size;have:=xG.o;have:=HLO.o;omega) (zj6 _ _ _ _ _ _) (z4V (by omega)) (by omega)
  refine bodyPost_ret (xu rfl _ _ gx 104 _ (0,0) _ rfl (qU (cs:= [I4 0,I4 0, .int .u8 0,N7]) [I4 1,I4 r2, .int .u8 0,N7] rfl q.o) Tryz.underlying104 rfl zdS) rfl ?_
  exact p
 have e:1<=d:=by omega
 have z4Y:decide ((r:Int)<2)=false:=by rw [decide_eq_false_iff_not];omega
 have zF9:decide ((d:Int)<1)=false:=by rw [decide_eq_false_iff_not];omega
 by_cases hr4:r<4
 ·have zAS:(r:Int)<4:=by omega
  clear IH;go_wp2_with(go_at_call 48;go_must(refine(vO.o V _ 2 2 rfl G.o (by omega) (by omega) (by omega)).mono ?_);rintro en V4 ⟨r2,hr2,rfl,c,f⟩;(have M:=qh c);(have HS4:=qh (E.o.trans f (λ_ h=> .inl h)));(have q:=qh ((f.block _ (zA t.o) (by omega)).trans t.o));clear c f G E t;have f0:=zH q.o 0;have f1:=zH q.o 1;have f2:=zH q.o 2;have f3:=zH q.o 3;have c0:=ze q.o 0;have c1:=ze q.o 1;have c2:=ze q.o 2;have c3:=ze q.o 3);have p:=zfw (x:= .mk 2 r2 0 []) (d:=d) (dom:=dom) (a:=a) (ka:=none) (kc:=0) M.o HS4.o xG.o R (by have:=xG.o;have:=HLO.o;omega) (zj6 _ _ _ _ _ _) (z4W (by omega)) (by omega)
  refine bodyPost_ret (xu rfl _ _ gx 104 _ (0,0) _ rfl (qU (cs:= [I4 0,I4 0, .int .u8 0,N7]) [I4 2,I4 r2, .int .u8 0,N7] rfl q.o) Tryz.underlying104 rfl zdS) rfl ?_
  exact p
 have zAS:decide ((r:Int)<4)=false:=by rw [decide_eq_false_iff_not];omega
 have T:=IH.o e;obtain⟨K,hKd⟩:=qxE (zb8 (d - 1));have hK2:zb8 d=2+2*K:=by rw [hKd];cases d with|zero=>omega|succ d=>rfl
 unfold zdr at T;rw [<-hKd,show((d - 1:Nat):Int)=(d:Int) - 1 by omega] at T;have z9J:(1:Int)<=(d:Int):=by omega
 have zFA:(d:Int)<=10:=by omega
 have IH2:=qh T;clear T IH;go_upto_region 6 with fail
 have hw1:=zup d e hd
 go_region_law (first|(go_simp;go_at_call 118;(with_reducible refine(IH2.o Y2 _ Z (by omega)).mono ?_);rintro en Y3 ⟨j,A,y,a3,rfl,P,z5a,hm3,ha3,H⟩;have J:=(H.block _ (zA L) (by omega)).trans L;have i:=λo=>(Below.heap_alloc Y3 o _ (zA J)).trans J;have c0:=λo=>ze (i o) 0;have c1:=λo=>ze (i o) 1;have c2:=λo=>ze (i o) 2;have c3:=λo=>ze (i o) 3;have f0:=λo=>zH (i o) 0;have f1:=λo=>zH (i o) 1;have f2:=λo=>zH (i o) 2;have f3:=λo=>zH (i o) 3;simp only [List.getElem?_toArray,List.getElem?_cons_zero,List.getElem?_cons_succ] at c0 c1 c2 c3)|(go_simp;go_at_call 118;(with_reducible refine(IH2.o Y1 _ v (by omega)).mono ?_);rintro en Y2 ⟨m,B,z,a2,rfl,D,z5b,Z,ha2,S⟩;have L:=(S.block _ (zA u) (by omega)).trans u)|(go_simp;go_at_call 48;(with_reducible refine(vO.o V.drew _ 8 8 rfl (G.o.later (Below.refl _ _).drew) (by omega) (by omega) (by omega)).mono ?_);rintro en Y1 ⟨r1,hr1,rfl,v,kE⟩;have u:=(kE.block (w:=V.drew) _ (zA (w:=V) t.o) (by omega)).trans t.o;have zAT:(r1:Int)<8:=by omega))
 all_goals
  have U:r1<(⟨#[43,45,42,60,38,124,61,33]⟩:ByteArray).size:=hr1;have hsg:=z0U r1 U;have hS2:=H.alloc (.cells #[I4 m.kind,I4 m.n, .int .u8 m.op, .slice B m.kids.length z,I4 j.kind,I4 j.n, .int .u8 j.op, .slice A j.kids.length y] 104);have hS3:=(Since.refl (λk=>k=g) Y3).alloc (.cells #[I4 m.kind,I4 m.n, .int .u8 m.op, .slice B m.kids.length z,I4 j.kind,I4 j.n, .int .u8 j.op, .slice A j.kids.length y] 104);have hbl:=zQ Y3 (.cells #[I4 m.kind,I4 m.n, .int .u8 m.op, .slice B m.kids.length z,I4 j.kind,I4 j.n, .int .u8 j.op, .slice A j.kids.length y] 104);have hgl:=zA v.box;have zFB:=zA u
  have zqw:=zA Z.box;have zES:=zA L;have zET:=zA J;have hwl:w.heap.size=gx:=xG.o.symm;have haw:=zx6 (F:=λk=>k<w.heap.size\/k=gx) (o:=((((⟨#[43,45,42,60,38,124,61,33]⟩:ByteArray)[r1]'U).toNat:Nat):Int)) z5b z5a hS2 hS3 hbl (λk I=>by rcases I with(I|I)|I<;>omega) (λk I=>by rcases I with(I|I)|I<;>omega) (by omega)
  have O:Since (λk=>k=g) w (Y3.alloc (.cells #[I4 m.kind,I4 m.n, .int .u8 m.op, .slice B m.kids.length z,I4 j.kind,I4 j.n, .int .u8 j.op, .slice A j.kids.length y] 104)):=(((E.o.trans ((Since.drew _ (Since.refl _ V)).trans kE (λ_ h=> .inl h)) (λ_ h=> .inl h)).trans S (λ_ h=> .inl h)).trans H (λ_ h=> .inl h)).alloc _;have hdd:d - 1+2+1=d+2:=by omega
  have zAU:d - 1+1=d:=by omega
  rw [hdd] at haw;rw [zAU] at D P;have p:=zfw (d:=d) (dom:=dom) (a:=a) (hm3.later ((Below.refl _ _).alloc (Nat.le_refl _) _)) O xG.o R (by have:=HLO.o;omega) haw (z4X hsg D P) (by omega)
  have N:=qU (cs:= [I4 0,I4 0, .int .u8 0,N7]) [I4 3,I4 0, .int .u8 ((((⟨#[43,45,42,60,38,124,61,33]⟩:ByteArray)[r1]'U).toNat:Nat):Int), .slice (some ⟨Y3.heap.size,0,none⟩) 2 2] rfl (i (.cells #[I4 m.kind,I4 m.n, .int .u8 m.op, .slice B m.kids.length z,I4 j.kind,I4 j.n, .int .u8 j.op, .slice A j.kids.length y] 104));have yG:=qh p;have zL:=qh N;clear p N haw O hS2 hS3 hbl hsg u L J i D P z5b z5a v Z hm3 kE S H hw1;go_wp2_with fail
  refine bodyPost_ret (xu rfl _ _ gx 104 _ (0,0) _ rfl zL.o Tryz.underlying104 rfl zdS) rfl ?_
  exact yG.o
theorem zuv (W0:World) (g:Nat) (lv:Value) (l:List Int) (i:vL W0 .u8 lv l) (dom:Nat) (f:2<=dom) (c:dom<=16) (d:Nat) (j:d<=10):zdr W0 g lv dom d:=by
 induction d with
 |zero=>exact znq W0 g lv l i dom f c 0 (by omega) (λh=>by omega)
 |succ d ih=>exact znq W0 g lv l i dom f c (d+1) j (λ_=>ih (by omega))
end Go.Proofs.YtmijlmglnnbdjaaGreatDoor
namespace Go.Proofs.YtmijlmglnnbdjaaGreatDoor
open Go.RowKit
set_option maxRecDepth 100000
set_option maxHeartbeats 16000000
def kR:Nat->Nat
 |0=>20
 |d+1=>20+3*kR d
def zaO:Nat->Nat
 |0=>1
 |d+1=>1+3*zaO d
theorem zo8 {dom:Int} :∀(d:Nat) (x:zR),zV dom d x=true->zV dom (d+1) x=true:=by
 intro d;induction d with
 |zero=>intro x h;cases h
 |succ d ih=>
 intro x h;unfold zV at h ⊢;split
 ·rename_i h1;rw [if_pos h1] at h;exact h
 rename_i h1;rw [if_neg h1] at h;split
 ·rename_i h2;rw [if_pos h2] at h;exact h
 rename_i h2;rw [if_neg h2] at h;split
 ·rename_i h3;rw [if_pos h3] at h;simp only [Bool.and_eq_true] at h ⊢;exact⟨⟨h.1.1,ih _ h.1.2⟩,ih _ h.2⟩
 rename_i h3;rw [if_neg h3] at h;cases h
theorem zle {dom:Int} {d e:Nat} {x:zR} (h:zV dom d x=true) (c:d<=e):zV dom e x=true:=by
 induction c with
 |refl=>exact h
 |step _ ih=>exact zo8 _ _ ih
theorem zuw {k dom:Int} {x:zR} (h:uz k=true) (hx:zV dom 2 x=true):bU k x dom=true:=by unfold bU;rw [if_pos h];exact zle hx (by omega)
theorem zx8 {k dom:Int} (h:uz k=false):bU k default dom=true:=by unfold bU;rw [if_neg (by rw [h];decide)];rfl
theorem zux {k dom:Int} {x:zR} (h:hasB k=true) (hx:zV dom 2 x=true):zbp k x dom=true:=by unfold zbp;rw [if_pos h];exact zle hx (by omega)
theorem zx9 {k dom:Int} (h:hasB k=false):zbp k default dom=true:=by unfold zbp;rw [if_neg (by rw [h];decide)];rfl
theorem zuy {k:Int} {r:Nat} (h:pQ k=true) (c:r<2):zbo k r=true:=by unfold zbo;rw [if_pos h];simp;omega
theorem zxA {k:Int} (h:pQ k=false):zbo k ((0:Nat):Int)=true:=by unfold zbo;rw [if_neg (by rw [h];decide)];rfl
theorem zuz {k:Int} {v n:Nat} (h:uy k=true) (c:v<n):bT k v n=true:=by unfold bT;rw [if_pos h];simp;omega
theorem zxB {k:Int} {n:Nat} (h:uy k=false):bT k ((0:Nat):Int) n=true:=by unfold bT;rw [if_neg (by rw [h];decide)];rfl
def zk4 (W0:World) (g:Nat) (lv:Value) (vars dom:Int) (d N a:Nat) (w:World) (e:Ending) (w':World):Prop:=∃(L:List zP) (va:Option Addr) (vc a':Nat),e= .returned (.slice va L.length vc)/\xM vars dom L (d+1)=true/\yS L<=N*zaO d/\
 yL (λk=>k<w.heap.size) w' (λy=>yQ 3 (d+2) y L (.slice va L.length vc))/\jd W0 w' g lv a'/\a'<=a+N*kR d/\Since (λk=>k=g) w w'
def zii (W0:World) (g:Nat) (lv kv:Value) (vars dom:Int) (d:Nat):Prop:=∀(w:World) (a n N:Nat) (ni:Int),ni=n->jd W0 w g lv a->n<=N->N<=10->a+N*kR d<=1000000->Calls Tryz.prog 49 #[.pointer (some ⟨g,0,none⟩),I4 ni,I4 d,I4 vars,I4 dom,kv] w (zk4 W0 g lv vars dom d N a w)
def zp5 (W0:World) (g:Nat) (lv:Value) (vars dom:Int) (d a:Nat) (w:World) (e:Ending) (w':World):Prop:=∃(x:zP) (ka kb yv nv:Value) (a':Nat),e= .returned (pz x ka kb yv nv)/\bH vars dom x (d+1)=true/\zaM x<=zaO d/\
 yL (λk=>k<w.heap.size) w' (λy=>zJ 3 y x.a ka/\zJ 3 y x.b kb/\yQ 3 (d+1) y x.yes yv/\yQ 3 (d+1) y x.no nv)/\jd W0 w' g lv a'/\a'<=a+kR d/\Since (λk=>k=g) w w'
def zlf (W0:World) (g:Nat) (lv kv:Value) (vars dom:Int) (d:Nat):Prop:=∀(w:World) (a:Nat),jd W0 w g lv a->a+kR d<=1000000->Calls Tryz.prog 82 #[.pointer (some ⟨g,0,none⟩),I4 d,I4 vars,I4 dom,kv] w (zp5 W0 g lv vars dom d a w)
def zj8:List Value:= [I4 0,I4 0,I4 0,I4 0,I4 0, .int .u8 0,N7,I4 0,I4 0, .int .u8 0,N7,N7,N7]
def stC (k r v ak an ao:Int) (ka:Value) (bk bn bo:Int) (kb yv nv:Value):List Value:= [I4 k,I4 r,I4 v,I4 ak,I4 an, .int .u8 ao,ka,I4 bk,I4 bn, .int .u8 bo,kb,yv,nv]
structure StL (W0 w X:World) (g gb gr:Nat) (lv:Value) (a:Nat) (cs:List Value):Prop where
 yC:jd W0 X g lv a
 since:Since (λk=>k=g) w X
 box:X.heap[gb]? =some (.cells cs.toArray 148 (0,0))
 res:X.heap[gr]? =some (.cells zj8.toArray 148 (0,0))
 lo:w.heap.size<=gb/\w.heap.size<=gr/\gb≠gr/\g<w.heap.size/\W0.heap.size<=w.heap.size
section
variable {W0 w X Y:World} {g gb gr:Nat} {lv:Value} {a b:Nat} {cs:List Value}
theorem StL.put (h:StL W0 w X g gb gr lv a cs) (j:Nat) (u:Value):StL W0 w (X.setCell ⟨gb,j,none⟩ u) g gb gr lv a (cs.set j u):=by
 have s:Since (λk=>k=gb) X (X.setCell ⟨gb,j,none⟩ u):=Since.setCell (F:=λk=>k=gb) (p:=⟨gb,j,none⟩) (Since.refl _ _) (.inl rfl) _;have c:=h.lo;refine⟨h.yC.since s (λk d=>by omega),h.since.trans s (λk d=> .inr (by omega)), ?_,(s.block _ (zA h.res) (by omega)).trans h.res,c⟩
 rw [zu h.box j u,List.setIfInBounds_toArray]
theorem StL.call (h:StL W0 w X g gb gr lv a cs) (f:jd W0 Y g lv b) (c:Since (λk=>k=g) X Y):StL W0 w Y g gb gr lv b cs:=by
 have d:=h.lo;exact⟨f,h.since.trans c (λ_ h=> .inl h),(c.block _ (zA h.box) (by omega)).trans h.box,(c.block _ (zA h.res) (by omega)).trans h.res,d⟩
def SF (w:World) (gb gr k:Nat):Prop:=k<w.heap.size\/k=gb\/k=gr
theorem vG {P:World->Prop} (j:Nat) (u:Value) (d:yL (SF w gb gr) X P):yL (SF w gb gr) (X.setCell ⟨gb,j,none⟩ u) P:=
 d.step (G:=λk=>k=gb) (Since.setCell (F:=λk=>k=gb) (p:=⟨gb,j,none⟩) (Since.refl _ _) (.inl rfl) _) (λ_ c=> .inl (.inr (.inl c))) (λ_ c=> .inl c)
theorem kW {P:World->Prop} (d:Since (λk=>k=g) X Y) (h:g<w.heap.size) (f:yL (SF w gb gr) X P):yL (SF w gb gr) Y P:=
 f.step d (λk c=> .inl (.inl (by omega))) (λk c=> .inl c)
theorem StL.made {P:World->Prop} (h:StL W0 w X g gb gr lv a cs) (f:Since (λk=>k=g) X Y) (d:yL (λk=>k<X.heap.size) Y P):yL (SF w gb gr) Y P:=by
 have l:=zA h.box;have j:=zA h.res;have i:=h.since.size;exact d.step (Since.refl (λ_=>False) Y) (λ_ h=>h.elim) (λk c=>by rcases c with c|c|c<;>(left;omega))
end
theorem zru {W0 w X:World} {g gb gr:Nat} {lv:Value} {a o d:Nat} {vars dom:Int} {x:zP} {ka j f i:Value} (h:StL W0 w X g gb gr lv o (x.cells ka j f i)) (n:bH vars dom x (d+1)=true) (t:zaM x<=zaO d) (A:yL (SF w gb gr) X (λy=>zJ 3 y x.a ka)) (z:yL (SF w gb gr) X (λy=>zJ 3 y x.b j))
  (v:yL (SF w gb gr) X (λy=>yQ 3 (d+1) y x.yes f)) (u:yL (SF w gb gr) X (λy=>yQ 3 (d+1) y x.no i)) (r:o<=a+kR d):
  zp5 W0 g lv vars dom d a w (.returned (pz x ka j f i)) (yU X gr 0 (x.cells ka j f i))/\(yU X gr 0 (x.cells ka j f i)).heap[gr]? =some (.cells (x.cells ka j f i).toArray 148 (0,0)):=by
 have q:=h.lo;have s:=xR (g:=gr) (x.cells ka j f i) X 0;have c:∀ {P:World->Prop},yL (SF w gb gr) X P->yL (λk=>k<w.heap.size) (yU X gr 0 (x.cells ka j f i)) P:=λp=>p.step s (λk l=> .inl (.inr (.inr l))) (λk l=> .inl (.inl l));exact⟨⟨x,ka,j,f,i,o,rfl,n,t,λy m=>⟨c A y m,c z y m,c v y m,c u y m⟩,h.yC.since s (λk l=>by omega),r,h.since.trans s (λk l=> .inr (by omega))⟩,qU (cs:=zj8) _ rfl h.res⟩
def zbN (vars dom k:Int) (d M:Nat) (l:List zP) (least:Int):Prop:=xM vars dom l d=true/\yS l<=M/\(k<least->l= [])
theorem zj9 (vars dom k:Int) (d M:Nat) (c:Int):zbN vars dom k d M [] c:=⟨by rw [xM],Nat.zero_le _,λ_=>rfl⟩
theorem zu0 {vars dom k r v:Int} {a b:zR} {yes no:List zP} {d M:Nat} (j:1<=k) (i:k<=11) (m:zbo k r=true) (l:bT k v vars=true) (o:bU k a dom=true) (n:zbp k b dom=true) (c:zbN vars dom k d (2*M) yes 10) (h:zbN vars dom k d M no 10) (f:k=11->no= []):
  bH vars dom (.mk k r v a b yes no) (d+1)=true/\zaM (.mk k r v a b yes no)<=1+3*M:=by
 constructor
 ·unfold bH zfX vg;simp only [Bool.and_eq_true,Bool.or_eq_true,decide_eq_true_eq,Nat.add_sub_cancel];refine⟨⟨⟨by omega,⟨⟨j,i⟩,⟨⟨m,l⟩,o⟩,n⟩, ?_⟩,c.1⟩,h.1⟩
  by_cases h10:k=10
  ·exact .inl h10
  by_cases h11:k=11
  ·exact .inr ⟨by rw [f h11];rfl, .inl h11⟩
  exact .inr ⟨by rw [h.2.2 (by omega)];rfl, .inr (by rw [c.2.2 (by omega)];rfl)⟩
 rw [zaM];have:=c.2.1
 have:=h.2.1
 omega
theorem zlh (F:Nat->Prop) (X:World):yL F X (λy=>zJ 3 y default (N7)):=λ_ _=>⟨none,0,rfl,by simp [zR.kids,default],λj c=>by simp [zR.kids,default] at c⟩
theorem zns (F:Nat->Prop) (X:World) (d:Nat):yL F X (λy=>yQ 3 (d+1) y [] (N7)):=λ_ _=>⟨none,0,rfl,by simp,λj c=>by simp at c⟩
end Go.Proofs.YtmijlmglnnbdjaaGreatDoor
namespace Go.Proofs.YtmijlmglnnbdjaaGreatDoor
open Go.RowKit
set_option maxRecDepth 100000
set_option maxHeartbeats 16000000
theorem wF {k j:Int} (h:¬k=j):(k==j)=false:=by rw [beq_eq_false_iff_ne];exact h
theorem z0V {k:Int} (h:¬(k=1\/k=3\/k=6)):pQ k=false:=by unfold pQ;rw [decide_eq_false_iff_not];exact h
theorem zxC {k:Int} (h:k=1\/k=3\/k=6):pQ k=true:=by unfold pQ;rw [decide_eq_true_iff];exact h
theorem z0W {k:Int} (h:¬(k=1\/k=2\/k=6\/k=7\/k=8)):uy k=false:=by unfold uy;rw [decide_eq_false_iff_not];exact h
theorem zxD {k:Int} (h:k=1\/k=2\/k=6\/k=7\/k=8):uy k=true:=by unfold uy;rw [decide_eq_true_iff];exact h
theorem z0X {k:Int} (h:¬(k=2\/k=3\/k=6\/k=9\/k=10\/k=11)):uz k=false:=by unfold uz;rw [decide_eq_false_iff_not];exact h
theorem zxE {k:Int} (h:k=2\/k=3\/k=6\/k=9\/k=10\/k=11):uz k=true:=by unfold uz;rw [decide_eq_true_iff];exact h
theorem z0Y {k:Int} (h:¬k=6):hasB k=false:=by unfold hasB;rw [decide_eq_false_iff_not];exact h
theorem zxF {k:Int} (h:k=6):hasB k=true:=by unfold hasB;rw [decide_eq_true_iff];exact h
theorem zu1:(Tryz.prog.info? 148).map (·.size)=some 13:=by kernel_rfl
theorem zni (W0:World) (g:Nat) (lv:Value) (l:List Int) (hn:vL W0 .u8 lv l) (kv:Value) (ks:List Int) (hks:qx W0 kv ks) (hk1:1<=ks.length) (hk2:ks.length<=100) (hk3:∀k∈ks,1<=k/\k<=11) (vars dom:Nat) (hv1:1<=vars) (hv2:vars<=10) (hd1:2<=dom) (hd2:dom<=16) (d:Nat) (hd:d<=10)
  (ih:1<=d->zii W0 g lv kv vars dom (d - 1)):zlf W0 g lv kv vars dom d:=by
 intro w a f ha;have hK:20<=kR d:=by cases d<;>simp [kR]
 have U:=λW a n ni hni h n1 n2 ha=>zij W0 W g lv l a n ni hni h hn n1 n2 ha;have E:=zuv W0 g lv l hn dom hd1 hd2 1 (by omega);unfold zdr at E;rw [show zb8 1=6 from rfl,show((1:Nat):Int)=1 from rfl] at E;obtain⟨ka,kc,rfl, -⟩:=zh.slice hks;obtain⟨kn,hkn⟩:=qxE ks.length;rw [<-hkn] at hks hk1 hk2 ih ⊢;have zzD:∀r,r<kn->1<=ks.getD r 0/\ks.getD r 0<=11:=λr hr=>hk3 _ (jF (by omega));have hbx:=(Below.refl w.heap.size w).alloc (Nat.le_refl _) (.cells zj8.toArray 148);have hm1:=f.later hbx;have hg1:=zQ w (.cells zj8.toArray 148);have B:=zA f.box;have hlo:=f.below.size;have vO:=qh U;have zzE:=qh E
 have HKS:=qh hks;have HKN:=qh hkn;have z7l:=qh zzD;have yh:=qh hbx;have HM1:=qh hm1;have qd:=qh hg1;have IH:=qh ih;clear U E hks hkn zzD hbx hm1 hg1 ih f hn hk3;go_enter Tryz.func82,Tryz.ntmps82
 go_upto_region 1 with fail
 unfold zj8 at yh HM1 qd;generalize World.alloc w _=W at yh HM1 qd ⊢;obtain⟨gr,hgr⟩:=qxE w.heap.size;rw [<-hgr] at qd ⊢;have pq:=qh hgr;have znr:gr≠g:=by omega
 clear hgr;go_upto_region 2 with(go_at_call 48;go_must(refine(vO.o W a kn kn rfl HM1.o hk1 hk2 (by omega)).mono ?_);rintro en V ⟨r,hr,rfl,f,c⟩;(have hrI:(r:Int)<(kn:Int):=by omega);(obtain⟨kb,ko,hka,hkb,hkc⟩:=qx.part HKS.o r (by rw [<-HKN.o];exact hr));subst hka;(have z5c:=(f.below.cell (p:=⟨kb,ko+r,none⟩) hkb).trans hkc);(obtain⟨k1,k2⟩:=z7l.o r hr);generalize ks.getD r 0=k at hkc z5c k1 k2;(have HM2:=qh f);(have HS2:=qh ((xW (λk=>k=g) yh.o).trans c (λ_ h=> .inl h)));(have HG2:=qh ((c.block _ (zA qd.o) (by omega)).trans qd.o));clear f c HM1 qd yh hkb hkc)
 have hL:StL W0 w (V.alloc (.cells #[I4 k,I4 0,I4 0,I4 0,I4 0, .int .u8 0,N7,I4 0,I4 0, .int .u8 0,N7,N7,N7] 148)) g V.heap.size gr lv (a+1) (stC k (0:Nat) (0:Nat) 0 0 0 (N7) 0 0 0 (N7) (N7) (N7)):=by
  have h1:=zA HG2.o;have h2:=pq.o;have h3:=HS2.o.size;exact⟨HM2.o.later ((Below.refl _ _).alloc (Nat.le_refl _) _),HS2.o.alloc _,zQ _ _,(Below.heap_alloc _ _ _ h1).trans HG2.o,⟨h3,by omega,by omega,B,hlo⟩⟩
 have hML:J2 (kR d=20+3*(if d=0 then 0 else kR (d - 1))/\zaO d=1+3*(if d=0 then 0 else zaO (d - 1))):=by
  cases d with
  |zero=>exact⟨rfl,rfl⟩
  |succ d=>exact⟨rfl,rfl⟩
 generalize World.alloc V _=X at hL ⊢;generalize V.heap.size=gb at hL ⊢;clear HM2 HS2 HG2 z5c znr;have HL:=qh hL;clear hL;have F:X.cell? ⟨gb,0,none⟩=some (I4 k):=ze HL.o.box 0;go_cut [26] (λs26 t=>∃b:Bool,s26= .bool b/\t=X/\J2 (b=true->d=0)/\J2 (b=false->d=0->k<=9))
 case first=>
  by_cases hd0:d=0
  ·have hdI:decide ((d:Int)<1)=true:=by rw [decide_eq_true_iff];omega
   have HD0:=qh hd0;clear hd0;by_cases h10:10<=k
   ·go_wp2_with fail
    go_meet
    case rel=>exact⟨true,by first|rfl|simp,rfl,λ_=>HD0.o,λh=>by cases h⟩
   go_wp2_with fail
   go_meet
   case rel=>exact⟨false,by first|rfl|simp,rfl,(λh=>by cases h),λ_ _=>by omega⟩
  have hdI:decide ((d:Int)<1)=false:=by rw [decide_eq_false_iff_not];omega
  have HD0:=qh hd0;clear hd0;go_wp2_with fail
  go_meet
  case rel=>exact⟨false,by first|rfl|simp,rfl,(λh=>by cases h),λ_ h=>absurd h HD0.o⟩
 case rest=>
 obtain⟨b,rfl,hwv,HB1,HB2⟩:=hcut;obtain rfl:X=wc:=hwv.symm;go_upto_if 26 with fail
 go_cut [26] (λzFC t=>∃k2:Int,1<=k2/\k2<=11/\J2 (d=0->k2<=9)/\J2 (StL W0 w t g gb gr lv (a+1) (stC k2 (0:Nat) (0:Nat) 0 0 0 (N7) 0 0 0 (N7) (N7) (N7))))
 case first=>
  cases b with
  |true=>
   have f0:=zH HL.o.box 0;go_wp2_with fail
   go_meet
   case rel=>exact⟨4,by omega,by omega,λ_=>by omega,HL.o.put 0 _⟩
  |false=>
  have HB3:J2 (d=0->k<=9):=HB2.o (by trivial);clear HB1 HB2;go_wp2_with fail
  go_meet
  case rel=>exact⟨k,k1,k2,HB3.o,HL.o⟩
 case rest=>
 obtain⟨q,q1,q2,HD9,HL2⟩:=hcut;clear F HL k1 k2 HB1 HB2;obtain⟨X2,rfl⟩:=qxE (wc:World);have F:X2.cell? ⟨gb,0,none⟩=some (I4 q):=ze HL2.o.box 0;go_upto_block 0 with fail
 go_cut [30] (λzFD t=>∃reg a2:Nat,a2<=a+2/\J2 (zbo q reg=true)/\J2 (StL W0 w t g gb gr lv a2 (stC q reg (0:Nat) 0 0 0 (N7) 0 0 0 (N7) (N7) (N7))))
 case first=>
  by_cases hh:q=1\/q=3\/q=6
  rotate_left
  ·have G:=qh (zxA (z0V hh));have e1:=wF (λh=>hh (.inl h));have e3:=wF (λh=>hh (.inr (.inl h)));have e6:=wF (λh=>hh (.inr (.inr h)));clear hh;go_wp2_with fail
   go_meet
   case rel=>exact⟨0,_,by omega,G.o,HL2.o⟩
  have Q:∀r2:Nat,r2<2->zbo q r2=true:=λr2 h=>zuy (zxC hh) h;have G:=qh Q;clear Q;rcases hh with rfl|rfl|rfl
  all_goals
   go_wp2_with(go_at_call 48;go_must(refine(vO.o X2 _ 2 2 rfl HL2.o.yC (by omega) (by omega) (by omega)).mono ?_);rintro en Y ⟨r2,hr2,rfl,f,c⟩;(have i:=qh (HL2.o.call f c));clear f c F;(have y1:Y.cell? ⟨gb,1,none⟩=some (I4 (0:Nat)):=ze i.o.box 1);(have f1:=zH i.o.box 1))
   go_meet
   case rel=>exact⟨r2,_,by omega,G.o r2 hr2,i.o.put 1 _⟩
 case rest=>
 obtain⟨reg,a2,ha2,HPR,HL3⟩:=hcut;clear F HL2;obtain⟨X3,rfl⟩:=qxE (wc:World);have F:X3.cell? ⟨gb,0,none⟩=some (I4 q):=ze HL3.o.box 0;go_upto_block 1 with fail
 go_cut [39] (λzFE t=>∃var a3:Nat,a3<=a+3/\J2 (bT q var vars=true)/\J2 (StL W0 w t g gb gr lv a3 (stC q reg var 0 0 0 (N7) 0 0 0 (N7) (N7) (N7))))
 case first=>
  by_cases hh:q=1\/q=2\/q=6\/q=7\/q=8
  ·have Q:∀r2:Nat,r2<vars->bT q r2 vars=true:=λr2 h=>zuz (zxD hh) h;have G:=qh Q;clear Q;rcases hh with rfl|rfl|rfl|rfl|rfl
   all_goals
    go_wp2_with(go_at_call 48;go_must(refine(vO.o X3 _ vars vars rfl HL3.o.yC (by omega) (by omega) (by omega)).mono ?_);rintro en Y ⟨r2,hr2,rfl,f,c⟩;(have i:=qh (HL3.o.call f c));clear f c F;(have y1:Y.cell? ⟨gb,2,none⟩=some (I4 (0:Nat)):=ze i.o.box 2);(have f1:=zH i.o.box 2))
    go_meet
    case rel=>exact⟨r2,_,by omega,G.o r2 hr2,i.o.put 2 _⟩
  have G:=qh (zxB (n:=vars) (z0W hh));have e1:=wF (λh=>hh (.inl h));have e2:=wF (λh=>hh (.inr (.inl h)));have e6:=wF (λh=>hh (.inr (.inr (.inl h))));have e7:=wF (λh=>hh (.inr (.inr (.inr (.inl h)))));have e8:=wF (λh=>hh (.inr (.inr (.inr (.inr h)))));clear hh;go_wp2_with fail
  go_meet
  case rel=>exact⟨0,_,by omega,G.o,HL3.o⟩
 case rest=>
 obtain⟨var,a3,ha3,HPV,O⟩:=hcut;clear F HL3 ha2;obtain⟨X4,rfl⟩:=qxE (wc:World);have F:X4.cell? ⟨gb,0,none⟩=some (I4 q):=ze O.o.box 0;go_upto_block 2 with fail
 go_cut [51] (λzFF t=>∃(m:zR) (R:Option Addr) (P a4:Nat),a4<=a+9/\J2 (bU q m dom=true)/\J2 (yL (SF w gb gr) t (λy=>zJ 3 y m (.slice R m.kids.length P)))/\J2 (StL W0 w t g gb gr lv a4 (stC q reg var m.kind m.n m.op (.slice R m.kids.length P) 0 0 0 (N7) (N7) (N7))))
 case first=>
  by_cases hh:q=2\/q=3\/q=6\/q=9\/q=10\/q=11
  ·have Q:∀x,zV dom 2 x=true->bU q x dom=true:=λx h=>zuw (zxE hh) h;have G:=qh Q;clear Q;rcases hh with rfl|rfl|rfl|rfl|rfl|rfl
   all_goals
    go_wp2_with(go_at_call 118;go_must(refine(zzE.o X4 _ O.o.yC (by omega)).mono ?_);rintro en Y ⟨m,R,P,a4,rfl,C,D,f,ha4,c⟩;(have i:=qh (O.o.call f c));(have bZ:=qh (O.o.made c D));(have vP:=qh C);clear f c C D F;(have y3:Y.cell? ⟨gb,3,none⟩=some (I4 0):=ze i.o.box 3);(have f3:=zH i.o.box 3);(have y4:Y.cell? ⟨gb,4,none⟩=some (I4 0):=ze i.o.box 4);(have f4:=zH i.o.box 4);(have y5:Y.cell? ⟨gb,5,none⟩=some (.int .u8 0):=ze i.o.box 5);(have f5:=zH i.o.box 5);(have y6:Y.cell? ⟨gb,6,none⟩=some (N7):=ze i.o.box 6);(have f6:=zH i.o.box 6))
    go_meet
    case rel=>exact⟨m,R,P,a4,by simp only [zb8] at ha4;omega,G.o m vP.o,vG 6 _ (vG 5 _ (vG 4 _ (vG 3 _ bZ.o))),(((i.o.put 3 _).put 4 _).put 5 _).put 6 _⟩
  have G:=qh (zx8 (dom:=dom) (z0X hh));have e2:=wF (λh=>hh (.inl h));have e3:=wF (λh=>hh (.inr (.inl h)));have e6:=wF (λh=>hh (.inr (.inr (.inl h))));have e9:=wF (λh=>hh (.inr (.inr (.inr (.inl h)))));have e10:=wF (λh=>hh (.inr (.inr (.inr (.inr (.inl h))))));have e11:=wF (λh=>hh (.inr (.inr (.inr (.inr (.inr h))))));clear hh;go_wp2_with fail
  go_meet
  case rel=>exact⟨default,none,0,_,by omega,G.o,zlh _ _,O.o⟩
 case rest=>
 obtain⟨m,R,P,a4,ha4,HPA,HAA,J⟩:=hcut;clear F O ha3;obtain⟨X5,rfl⟩:=qxE (wc:World);have F:X5.cell? ⟨gb,0,none⟩=some (I4 q):=ze J.o.box 0;go_upto_if 64 with fail
 go_cut [64] (λzFG t=>∃(u:zR) (ba:Option Addr) (bc a5:Nat),a5<=a+15/\J2 (zbp q u dom=true)/\J2 (yL (SF w gb gr) t (λy=>zJ 3 y m (.slice R m.kids.length P)))/\J2 (yL (SF w gb gr) t (λy=>zJ 3 y u (.slice ba u.kids.length bc)))/\J2 (StL W0 w t g gb gr lv a5 (stC q reg var m.kind m.n m.op (.slice R m.kids.length P) u.kind u.n u.op (.slice ba u.kids.length bc) (N7) (N7))))
 case first=>
  by_cases hh:q=6
  rotate_left
  ·have G:=qh (zx9 (dom:=dom) (z0Y hh));have e6:=wF hh;clear hh;go_wp2_with fail
   go_meet
   case rel=>exact⟨default,none,0,_,by omega,G.o,HAA.o,zlh _ _,J.o⟩
  have Q:∀x,zV dom 2 x=true->zbp q x dom=true:=λx h=>zux (zxF hh) h;have G:=qh Q;clear Q;subst hh
  go_wp2_with(go_at_call 118;go_must(refine(zzE.o X5 _ J.o.yC (by omega)).mono ?_);rintro en Y ⟨u,ba,bc,a5,rfl,C,D,f,ha5,c⟩;(have i:=qh (J.o.call f c));(have bZ:=qh (J.o.made c D));(have zAV:=qh (kW c B HAA.o));(have vP:=qh C);clear f c C D F;(have y3:Y.cell? ⟨gb,7,none⟩=some (I4 0):=ze i.o.box 7);(have f3:=zH i.o.box 7);(have y4:Y.cell? ⟨gb,8,none⟩=some (I4 0):=ze i.o.box 8);(have f4:=zH i.o.box 8);(have y5:Y.cell? ⟨gb,9,none⟩=some (.int .u8 0):=ze i.o.box 9);(have f5:=zH i.o.box 9);(have y6:Y.cell? ⟨gb,10,none⟩=some (N7):=ze i.o.box 10);(have f6:=zH i.o.box 10))
  go_meet
  case rel=>exact⟨u,ba,bc,a5,by simp only [zb8] at ha5;omega,G.o u vP.o,vG 10 _ (vG 9 _ (vG 8 _ (vG 7 _ zAV.o))),vG 10 _ (vG 9 _ (vG 8 _ (vG 7 _ bZ.o))),(((i.o.put 7 _).put 8 _).put 9 _).put 10 _⟩
 case rest=>
 obtain⟨u,ba,bc,a5,ha5,HPB,zxG,zxH,HL6⟩:=hcut;clear F J HAA ha4;obtain⟨X6,rfl⟩:=qxE (wc:World);have F:X6.cell? ⟨gb,0,none⟩=some (I4 q):=ze HL6.o.box 0;obtain⟨K,s⟩:=qxE (if d=0 then 0 else kR (d - 1));obtain⟨M,hMe⟩:=qxE (if d=0 then 0 else zaO (d - 1));have hml:=hML.o;rw [<-s, <-hMe] at hml;have hKK:=hml.1;have HMM:=qh hml.2
 have hls:1<=d->∀(w:World) (a n N:Nat) (ni:Int),ni=n->jd W0 w g lv a->n<=N->N<=10->a+N*K<=1000000->Calls Tryz.prog 49 #[.pointer (some ⟨g,0,none⟩),I4 ni,I4 ((d:Int) - 1),I4 vars,I4 dom, .slice (some ⟨kb,ko,none⟩) kn kc] w (λe t=>∃(L:List zP) (va:Option Addr) (vc a':Nat),e= .returned (.slice va L.length vc)/\xM vars dom L d=true/\yS L<=N*M/\
   yL (λk=>k<w.heap.size) t (λy=>yQ 3 (d+1) y L (.slice va L.length vc))/\jd W0 t g lv a'/\a'<=a+N*K/\Since (λk=>k=g) w t):=by
  intro h1 w2 a2 n N ni hni hm hn hN ha2;have h:=IH.o h1;rw [if_neg (by omega)] at s hMe;rw [s] at ha2;have:=h w2 a2 n N ni hni hm hn hN ha2
  unfold zk4 at this;rw [show((d - 1:Nat):Int)=(d:Int) - 1 by omega,show d - 1+1=d by omega,show d - 1+2=d+1 by omega, <-s, <-hMe] at this;exact this
 have HLS:=qh hls;have HKK:=qh hKK;clear hls hml s hMe hML IH hKK;have haK:a+20+3*K<=1000000:=by have:=HKK.o;omega
 go_upto_if 71 with fail
 go_cut [71] (λzFH t=>∃(I:List zP) (ya:Option Addr) (yc a6:Nat),a6<=a+16+2*K/\J2 (zbN vars dom q d (2*M) I 10)/\J2 (yL (SF w gb gr) t (λy=>zJ 3 y m (.slice R m.kids.length P)))/\J2 (yL (SF w gb gr) t (λy=>zJ 3 y u (.slice ba u.kids.length bc)))/\J2 (yL (SF w gb gr) t (λy=>yQ 3 (d+1) y I (.slice ya I.length yc)))/\
  J2 (StL W0 w t g gb gr lv a6 (stC q reg var m.kind m.n m.op (.slice R m.kids.length P) u.kind u.n u.op (.slice ba u.kids.length bc) (.slice ya I.length yc) (N7))))
 case first=>
  by_cases hh:10<=q
  rotate_left
  ·go_wp2_with fail
   go_meet
   case rel=>exact⟨[],none,0,_,by omega,zj9 _ _ _ _ _ _,zxG.o,zxH.o,zns _ _ _,HL6.o⟩
  have zrv:1<=d:=by
   rcases Nat.eq_zero_or_pos d with h|h
   ·have:=HD9.o h;omega
   exact h
  have hdI:(1:Int)<=(d:Int):=by omega
  have hdJ:(d:Int)<=10:=by omega
  have HQ:=qh hh
  go_wp2_with(first|(go_at_call 49;go_must(refine(HLS.o zrv Y _ (1+r1) 2 (1+(r1:Int)) (by omega) i.o.yC (by omega) (by omega) (by omega)).mono ?_);rintro en Z ⟨I,ya,yc,a6,rfl,C,hN,D,f,ha6,c⟩;(have H:=qh (i.o.call f c));(have bZ:=qh (i.o.made c D));(have T:=qh (kW c B zAW.o));(have S:=qh (kW c B zAX.o));(have vP:=qh (show zbN vars dom q d (2*M) I 10 from⟨C,hN,λh=>by have:=HQ.o;omega⟩));clear f c C D hN;(have y3:Z.cell? ⟨gb,11,none⟩=some (N7):=ze H.o.box 11);(have f3:=zH H.o.box 11))|(go_at_call 48;go_must(refine(vO.o X6 _ 2 2 rfl HL6.o.yC (by omega) (by omega) (by omega)).mono ?_);rintro en Y ⟨r1,hr1,rfl,f,c⟩;(have zAT:(r1:Int)<2:=by omega);(have i:=qh (HL6.o.call f c));(have zAW:=qh (kW c B zxG.o));(have zAX:=qh (kW c B zxH.o));clear f c F))
  go_meet
  case rel=>exact⟨I,ya,yc,a6,by omega,vP.o,vG 11 _ T.o,vG 11 _ S.o,vG 11 _ bZ.o,H.o.put 11 _⟩
 case rest=>
 obtain⟨I,ya,yc,a6,ha6,HP1,T,S,zxI,HL7⟩:=hcut;clear F HL6 zxG zxH ha5;obtain⟨X7,rfl⟩:=qxE (wc:World);have F:X7.cell? ⟨gb,0,none⟩=some (I4 q):=ze HL7.o.box 0;go_upto_if 85 with fail
 go_cut [85] (λzFI t=>∃(L2:List zP) (na:Option Addr) (nc a7:Nat),a7<=a+17+3*K/\J2 (zbN vars dom q d M L2 10)/\J2 (q=11->L2= [])/\J2 (yL (SF w gb gr) t (λy=>zJ 3 y m (.slice R m.kids.length P)))/\J2 (yL (SF w gb gr) t (λy=>zJ 3 y u (.slice ba u.kids.length bc)))/\J2 (yL (SF w gb gr) t (λy=>yQ 3 (d+1) y I (.slice ya I.length yc)))/\J2 (yL (SF w gb gr) t (λy=>yQ 3 (d+1) y L2 (.slice na L2.length nc)))/\
  J2 (StL W0 w t g gb gr lv a7 (stC q reg var m.kind m.n m.op (.slice R m.kids.length P) u.kind u.n u.op (.slice ba u.kids.length bc) (.slice ya I.length yc) (.slice na L2.length nc))))
 case first=>
  by_cases hh:q=10
  rotate_left
  ·have e10:=wF hh;clear hh;go_wp2_with fail
   go_meet
   case rel=>exact⟨[],none,0,_,by omega,zj9 _ _ _ _ _ _,λ_=>rfl,T.o,S.o,zxI.o,zns _ _ _,HL7.o⟩
  have zrv:1<=d:=by
   rcases Nat.eq_zero_or_pos d with h|h
   ·have:=HD9.o h;omega
   exact h
  have hdI:(1:Int)<=(d:Int):=by omega
  have hdJ:(d:Int)<=10:=by omega
  subst hh
  go_wp2_with(first|(go_at_call 49;go_must(refine(HLS.o zrv Y _ r1 1 (r1:Int) rfl i.o.yC (by omega) (by omega) (by omega)).mono ?_);rintro en Z ⟨L2,na,nc,a7,rfl,C,hN,D,f,ha7,c⟩;(have H:=qh (i.o.call f c));(have bZ:=qh (i.o.made c D));(have zxJ:=qh (kW c B zAY.o));(have zxK:=qh (kW c B zAZ.o));(have zxL:=qh (kW c B zBa.o));(have vP:=qh (show zbN vars dom 10 d M L2 10 from⟨C,by omega,λh=>absurd h (by decide)⟩));clear f c C D hN;(have y3:Z.cell? ⟨gb,12,none⟩=some (N7):=ze H.o.box 12);(have f3:=zH H.o.box 12))|(go_at_call 48;go_must(refine(vO.o X7 _ 2 2 rfl HL7.o.yC (by omega) (by omega) (by omega)).mono ?_);rintro en Y ⟨r1,hr1,rfl,f,c⟩;(have i:=qh (HL7.o.call f c));(have zAY:=qh (kW c B T.o));(have zAZ:=qh (kW c B S.o));(have zBa:=qh (kW c B zxI.o));clear f c F))
  go_meet
  case rel=>exact⟨L2,na,nc,a7,by omega,vP.o,(λh=>absurd h (by decide)),vG 12 _ zxJ.o,vG 12 _ zxK.o,vG 12 _ zxL.o,vG 12 _ bZ.o,H.o.put 12 _⟩
 case rest=>
 obtain⟨L2,na,nc,a7,ha7,HP2,HP3,zxJ,zxK,zxL,zBb,z⟩:=hcut;clear F HL7 T S zxI ha6;obtain⟨A,rfl⟩:=qxE (wc:World);obtain⟨hmo,hmn⟩:=zu0 (r:=reg) (v:=var) q1 q2 HPR.o HPV.o HPA.o HPB.o HP1.o HP2.o HP3.o;rw [<-HMM.o] at hmn;obtain⟨hend,hset⟩:=zru (x:= .mk q reg var m u I L2) (a:=a) z.o hmo hmn zxJ.o zxK.o zxL.o zBb.o (by have:=HKK.o;omega)
 have yG:=qh hend;have zL:=qh hset;clear hend hset hmo hmn;have b0:A.cell? ⟨gb,0,none⟩=some (I4 q):=ze z.o.box 0;have b1:A.cell? ⟨gb,1,none⟩=some (I4 reg):=ze z.o.box 1;have b2:A.cell? ⟨gb,2,none⟩=some (I4 var):=ze z.o.box 2;have b3:A.cell? ⟨gb,3,none⟩=some (I4 m.kind):=ze z.o.box 3;have b4:A.cell? ⟨gb,4,none⟩=some (I4 m.n):=ze z.o.box 4;have b5:A.cell? ⟨gb,5,none⟩=some (.int .u8 m.op):=ze z.o.box 5;have b6:A.cell? ⟨gb,6,none⟩=some (.slice R m.kids.length P):=ze z.o.box 6;have b7:A.cell? ⟨gb,7,none⟩=some (I4 u.kind):=ze z.o.box 7;have b8:A.cell? ⟨gb,8,none⟩=some (I4 u.n):=ze z.o.box 8
 have b9:A.cell? ⟨gb,9,none⟩=some (.int .u8 u.op):=ze z.o.box 9;have b10:A.cell? ⟨gb,10,none⟩=some (.slice ba u.kids.length bc):=ze z.o.box 10;have b11:A.cell? ⟨gb,11,none⟩=some (.slice ya I.length yc):=ze z.o.box 11;have b12:A.cell? ⟨gb,12,none⟩=some (.slice na L2.length nc):=ze z.o.box 12;have z0:A.cell? ⟨gr,0,none⟩=some (I4 0):=ze z.o.res 0;have z1:A.cell? ⟨gr,1,none⟩=some (I4 0):=ze z.o.res 1;have z2:A.cell? ⟨gr,2,none⟩=some (I4 0):=ze z.o.res 2;have z3:A.cell? ⟨gr,3,none⟩=some (I4 0):=ze z.o.res 3;have z4:A.cell? ⟨gr,4,none⟩=some (I4 0):=ze z.o.res 4
 have z5:A.cell? ⟨gr,5,none⟩=some (.int .u8 0):=ze z.o.res 5;have z6:A.cell? ⟨gr,6,none⟩=some (N7):=ze z.o.res 6;have z7:A.cell? ⟨gr,7,none⟩=some (I4 0):=ze z.o.res 7;have z8:A.cell? ⟨gr,8,none⟩=some (I4 0):=ze z.o.res 8;have z9:A.cell? ⟨gr,9,none⟩=some (.int .u8 0):=ze z.o.res 9;have z10:A.cell? ⟨gr,10,none⟩=some (N7):=ze z.o.res 10;have z11:A.cell? ⟨gr,11,none⟩=some (N7):=ze z.o.res 11;have z12:A.cell? ⟨gr,12,none⟩=some (N7):=ze z.o.res 12;have zf:∀j,A.frozen? ⟨gr,j,none⟩=false:=λj=>zH z.o.res j;go_wp2_with fail
 refine bodyPost_ret (xu rfl _ _ gr 148 _ (0,0) _ rfl zL.o Tryz.underlying148 rfl zu1) rfl ?_
 exact yG.o
theorem zu4:(Tryz.prog.info? 148).map (λi=>(i.zero,i.size,i.bytes))=some (some (.agg #[I4 0,I4 0,I4 0,I4 0,I4 0, .int .u8 0,N7,I4 0,I4 0, .int .u8 0,N7,N7,N7]),13,168):=by kernel_rfl
structure zfx (W0 w X:World) (g:Nat) (lv:Value) (vars dom:Int) (d a i:Nat) (va:Value) (L:List zP) (css:List (List Value)):Prop where
 yC:∃a',jd W0 X g lv a'/\a'<=a+i*kR d
 since:Since (λk=>k=g) w X
 len:L.length=i
 ok:xM vars dom L (d+1)=true
 many:yS L<=i*zaO d
 row:qA (λk=>k<w.heap.size\/va.ownBlock=some k) X (z7m 3 (d+1)) 13 w.heap.size 148 va L css
theorem zo9 {vars dom:Int} {l r:List zP} {d:Nat} (f:xM vars dom l d=true) (c:xM vars dom r d=true):xM vars dom (l++r) d=true:=by
 rw [zbT] at f c ⊢;intro x hx;rcases List.mem_append.1 hx with hx|hx
 ·exact f x hx
 exact c x hx
theorem zfx.push {W0 w X Y Z:World} {g d a i j r A:Nat} {lv:Value} {vars dom:Int} {l t:Option Addr} {L:List zP} {css:List (List Value)} {x:zP} {ka q n p:Value} {o:Obj} (h:zfx W0 w X g lv vars dom d a i (.slice l i j) L css) (H:g<w.heap.size) (M:W0.heap.size<=w.heap.size)
  (v:bH vars dom x (d+1)=true) (N:zaM x<=zaO d) (z:yL (λk=>k<X.heap.size) Y (λy=>zJ 3 y x.a ka/\zJ 3 y x.b q/\yQ 3 (d+1) y x.yes n/\yQ 3 (d+1) y x.no p)) (D:jd W0 Y g lv A) (I:A<=a+i*kR d+kR d) (B:Since (λk=>k=g) X Y)
  (G:Z.ownsRow w.heap.size 148 13 (.slice t (i+1) r) (i+1) (css.flatten++x.cells ka q n p)) (F:Since (λk=>(Value.slice l i j).ownBlock=some k) (Y.alloc o) Z) (E:∀k,(Value.slice t (i+1) r).ownBlock=some k->(Value.slice l i j).ownBlock=some k\/k=(Y.alloc o).heap.size):
  zfx W0 w Z g lv vars dom d a (i+1) (.slice t (i+1) r) (L++ [x]) (css++ [x.cells ka q n p]):=by
 have u:Since (λk=>(Value.slice l i j).ownBlock=some k) Y Z:=((Since.refl _ Y).alloc o).trans F (λk c=> .inl c);have f:=λk c=>h.row.row.lt k c;have m:=h.row.step (F':=λk=>k<w.heap.size\/(Value.slice l i j).ownBlock=some k) B (λk c e=>by have:=(f k c).1;omega) (λk c=> .inl (.inl (by omega))) (λk c=> .inl c)
 have J:=h.since.size;refine⟨⟨A,D.since u (λk c=>by have:=(f k c).1;omega),by rw [Nat.add_mul,Nat.one_mul];omega⟩,(h.since.trans B (λ_ h=> .inl h)).trans u (λk c=> .inr (f k c).1),by simp [h.len],zo9 h.ok (by rw [xM,v,xM];rfl), ?_, ?_⟩
 ·rw [zeK,Nat.add_mul,Nat.one_mul];have:=h.many
  simp only [yS];omega
 refine m.push u (λk c=> .inl (.inr c)) (λk c=> ?_) (λy C=> ?_) rfl (by rw [h.len];exact G)
 ·rcases c with c|c
  ·exact .inl (.inl c)
  rcases E k c with e|e
  ·exact .inl (.inr e)
  exact .inr (by simp at e;omega)
 exact⟨ka,q,n,p,rfl,z y (C.mono (λk _ c=>by rcases c with c|c;omega;have:=(f k c).2;omega))⟩
theorem zrw {W0 w X:World} {g d a i N c:Nat} {lv:Value} {vars dom:Int} {f:Option Addr} {L:List zP} {css:List (List Value)} (h:zfx W0 w X g lv vars dom d a i (.slice f i c) L css) (m:i<=N):zk4 W0 g lv vars dom d N a w (.returned (.slice f i c)) X:=by
 obtain⟨q,o,r⟩:=h.yC;have t:=Nat.mul_le_mul_right (kR d) m;have p:=Nat.mul_le_mul_right (zaO d) m;have l:=h.len;refine⟨L,f,c,q,by rw [l],h.ok,Nat.le_trans h.many p,λy n=> ?_,o,by omega,h.since⟩
 rw [l];exact(h.row.step (F':=λ_=>False) n (λk j e=>by have:=(h.row.row.lt k j).1;omega) (λk j=> .inl (.inl j)) (λ_ h=>h.elim)).slice
theorem znh (W0:World) (g:Nat) (lv kv:Value) (vars dom:Nat) (d:Nat) (hs:zlf W0 g lv kv vars dom d) (ka:Option Addr) (kn kc:Nat) (R:kv= .slice ka kn kc):zii W0 g lv kv vars dom d:=by
 intro w a n N ni O j hn hN ha;subst O;subst R
 have t:∀i,i<n->a+i*kR d+kR d<=1000000:=λi S=>by
  have:=Nat.mul_le_mul_right (kR d) (show i+1<=N by omega)
  rw [Nat.add_mul,Nat.one_mul] at this;omega
 have f:∀(X:World) (i:Nat) (Q:Value) (L:List zP) (css:List (List Value)),i<n->zfx W0 w X g lv vars dom d a i Q L css->Calls Tryz.prog 82 #[.pointer (some ⟨g,0,none⟩),I4 d,I4 vars,I4 dom, .slice ka kn kc] X λe z=>∃(x:zP) (ka D v C:Value) (u:Nat),e= .returned (pz x ka D v C)/\bH vars dom x (d+1)=true/\zaM x<=zaO d/\
   yL (λk=>k<X.heap.size) z (λy=>zJ 3 y x.a ka/\zJ 3 y x.b D/\yQ 3 (d+1) y x.yes v/\yQ 3 (d+1) y x.no C)/\jd W0 z g lv u/\u<=a+i*kR d+kR d/\Since (λk=>k=g) X z:=λX i Q L css S hL=>by
  obtain⟨a2,hm,ha2⟩:=hL.yC;refine(hs X a2 hm (by have:=t i S;omega)).mono ?_
  rintro e z ⟨x,ka,D,v,C,u,h1,G,F,l,E,T,q⟩;exact⟨x,ka,D,v,C,u,h1,G,F,l,E,by omega,q⟩
 have I:=zA j.box;have P:=j.below.size;have r:zfx W0 w w g lv vars dom d a 0 (N7) [] [] :=⟨⟨a,j,by omega⟩,Since.refl _ _,rfl,by rw [xM],by simp [yS],qA.nil _ _ _ _ _ _⟩;have H:=qh f;have V:=qh r;clear f r hs j t;have hnI:n<=10:=by omega
 go_enter Tryz.func49,Tryz.ntmps49
 go_wp2_with fail
 go_loopg [13,14] n (λgg M J wr=>∃(i:Nat) (B:Option Addr) (A:Nat) (L:List zP) (css:List (List Value)),i<=n/\J2 (gg=n - i)/\M= .slice B i A/\J=I4 i/\J2 (zfx W0 w wr g lv vars dom d a i (.slice B i A) L css))
 case atStart=>exact⟨0,none,0, [], [],Nat.zero_le _,rfl,rfl,rfl,V.o⟩
 case round=>
 obtain⟨i,B,A,L,css,S,HG,rfl,rfl,m⟩:=hrel;by_cases hlt:i<n
 rotate_left
 ·obtain rfl:n=i:=by omega
  go_wp2_with fail
  go_ret;exact zrw m.o hn
 have vC:(i:Int)<(n:Int):=by omega
 go_wp2_with(first|(at_builtin;go_must(refine zO (Y.alloc (.cells #[I4 x.kind,I4 x.reg,I4 x.var,I4 x.a.kind,I4 x.a.n, .int .u8 x.a.op, .slice aa x.a.kids.length ac,I4 x.b.kind,I4 x.b.n, .int .u8 x.b.op, .slice ba x.b.kids.length bc, .slice K x.yes.length W, .slice na x.no.length s] 148)) rfl _ _ 97 rfl 148 (.agg #[I4 0,I4 0,I4 0,I4 0,I4 0, .int .u8 0,N7,I4 0,I4 0, .int .u8 0,N7,N7,N7]) 13 168 Tryz.underlying97 zu4 rfl (by decide) w.heap.size (.slice B i A) i (css.flatten) rfl (vW.o.alloc _) ⟨Y.heap.size,0,none⟩ 1 1 [I4 x.kind,I4 x.reg,I4 x.var,I4 x.a.kind,I4 x.a.n, .int .u8 x.a.op, .slice aa x.a.kids.length ac,I4 x.b.kind,I4 x.b.n, .int .u8 x.b.op, .slice ba x.b.kids.length bc, .slice K x.yes.length W, .slice na x.no.length s] rfl rfl (j4 _ _ _) (by simp [Value.oneCell']) (by unfold maxLen;omega) (by omega) (by have:=U.o.size;simp;omega) ?_);intro ja jc Z e1 e2 e3 e4 e5 e6;have HP:=qh (m.o.push I P p.o.1 p.o.2.1 p.o.2.2.1 p.o.2.2.2.1 p.o.2.2.2.2.1 p.o.2.2.2.2.2 e1 e4 e5);clear e1 e2 e3 e4 e5 e6)|(go_at_call 82;go_must(refine(H.o wr i _ L css hlt m.o).mono ?_);rintro en Y ⟨x,xka,xkb,xyv,xnv,u,rfl,G,F,l,E,T,q⟩;(obtain⟨aa,ac,rfl, -⟩:=l.now.1.slice);(obtain⟨ba,bc,rfl, -⟩:=l.now.2.1.slice);(obtain⟨K,W,rfl, -⟩:=l.now.2.2.1.slice);(obtain⟨na,s,rfl, -⟩:=l.now.2.2.2.slice);(have c:=q.row m.o.row.row (λk hk e=>by have:=(m.o.row.row.lt k hk).1;omega));rw [m.o.len] at c;(have vW:=qh c);(have U:=qh (m.o.since.trans q (λ_ h=> .inl h)));(have p:=qh (And.intro G (And.intro F (And.intro l (And.intro E (And.intro T q))))));clear G F l E T q c;simp only [pz,zP.cells]))
 go_roundg (n - (i+1))
 case measure=>rw [HG.o];omega
 case rel=>exact⟨i+1,ja,jc,_,_,by omega,rfl,rfl,by simp,HP.o⟩
