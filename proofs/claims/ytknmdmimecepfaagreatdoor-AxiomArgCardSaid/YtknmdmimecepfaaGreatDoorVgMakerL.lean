/- Steps. -/
import Derived.Deep.RegionLaw
import Derived.Test.YtknmdmimecepfaaGreatDoorVgTreeR
set_option linter.all false
namespace Go.Proofs.YtknmdmimecepfaaGreatDoor
open Go.RowKit
set_option maxRecDepth 100000
set_option maxHeartbeats 16000000
structure xR (W0 X:World) (g:Nat) (lv:Value) (a:Nat):Prop where
 below:Below W0.heap.size W0 X
 lo:W0.heap.size<=g
 box:X.heap[g]? =some (.cells #[lv, .int .i64 a] 127 (0,0))
theorem xR.later {W0 X Y:World} {g:Nat} {lv:Value} {a:Nat} (h:xR W0 X g lv a) (hb:Below X.heap.size X Y):xR W0 Y g lv a:=⟨zm h.below hb,h.lo,(hb.block _ (zB h.box)).trans h.box⟩
theorem xR.since {W0 X Y:World} {g:Nat} {lv:Value} {a:Nat} {F:Nat->Prop} (h:xR W0 X g lv a) (hs:Since F X Y) (hF:∀k,F k->W0.heap.size<=k/\k≠g):xR W0 Y g lv a:=
 ⟨h.below.trans (hs.below h.below.size (λk hk=>(hF k hk).1)),h.lo,(hs.block _ (zB h.box) (λe=>(hF _ e).2 rfl)).trans h.box⟩
theorem xR.take {W0 X:World} {g:Nat} {lv:Value} {a:Nat} (h:xR W0 X g lv a) (b:Nat):xR W0 (X.setCell ⟨g,1,none⟩ (.int .i64 b)) g lv b:=by
 refine⟨h.below.trans ((Since.setCell (F:=λk=>k=g) (p:=⟨g,1,none⟩) (Since.refl _ X) (.inl rfl) _).below h.below.size (λk hk=>by have:=h.lo;omega)),h.lo, ?_⟩
 have:=zw h.box 1 (.int .i64 b);simpa using this
def zjx (W0:World) (g:Nat) (lv:Value) (a n:Nat) (w:World) (e:Ending) (w':World):Prop:=∃r:Nat,r<n/\e= .returned (.int .i64 r)/\xR W0 w' g lv (a+1)/\Since (λk=>k=g) w w'
theorem zou (W0 w:World) (g:Nat) (lv:Value) (l:List Int) (a n:Nat) (h:xR W0 w g lv a) (hn:vU W0 .u8 lv l) (n1:1<=n) (n2:n<=100) (ha:a<=1000000):
  Calls Tryz.prog 56 #[.pointer (some ⟨g,0,none⟩), .int .i64 n] w (zjx W0 g lv a n w):=by
 obtain⟨la,lc,rfl,hll,hwf,hcell⟩:=hn
 have hst:=h.take (a+1)
 have hsi:Since (λk=>k=g) w (w.setCell ⟨g,1,none⟩ (.int .i64 ((a+1:Nat):Int))):=Since.setCell (F:=λk=>k=g) (p:=⟨g,1,none⟩) (Since.refl _ _) (.inl rfl) _
 have hat:w.cell? ⟨g,1,none⟩=some (.int .i64 a):=za h.box 1
 have hfz:w.frozen? ⟨g,1,none⟩=false:=zF h.box 1
 rw [show((a+1:Nat):Int)=(a:Int)+1 by omega] at hst hsi
 have HS:=qh hst
 have HI:=qh hsi
 clear hst hsi h
 go_enter Tryz.func56,Tryz.ntmps56
 go_upto_region 2 with fail
 generalize hV:World.setCell w _ _=V at HS HI ⊢
 clear hV hat hfz
 have hat:V.cell? ⟨g,1,none⟩=some (.int .i64 ((a:Int)+1)):=by
  have:=za HS.out.box 1
  simpa using this
 have hlv:V.cell? ⟨g,0,none⟩=some (.slice la l.length lc):=za HS.out.box 0
 by_cases hc:a<l.length
 rotate_left
 ·have hcl:decide ((l.length:Int)<(a:Int)+1)=true:=by rw [decide_eq_true_iff];omega
  clear hwf hcell
  go_quiet (fail)
  go_wp2_with fail
  go_ret
  exact⟨0,by omega,rfl,HS.out.later (vK (Below.refl _ _) _),Since.drewN _ _ HI.out⟩
 obtain⟨b,off,rfl,hb,hx⟩:=hcell a hc
 have hx2:=(HS.out.below.cell (p:=⟨b,off+a,none⟩) hb).trans hx
 obtain⟨x,hxd⟩:∃x,x=l.getD a 0:=⟨_,rfl⟩
 rw [<-hxd] at hx2
 have hxw:(Lit.int .u8 x).wf=true:=by
  rw [hxd,List.getD_eq_getElem?_getD,List.getElem?_eq_getElem hc]
  exact hwf _ (List.getElem_mem hc)
 have hx0:0<=x:=by simp [Lit.wf,IntKind.min,IntKind.max,IntKind.signed] at hxw;omega
 have hx1:x<=255:=by simp [Lit.wf,IntKind.min,IntKind.max,IntKind.signed,IntKind.bits] at hxw;omega
 have hcl:decide ((l.length:Int)<(a:Int)+1)=false:=by rw [decide_eq_false_iff_not];omega
 have hal:(a:Int)<l.length:=by omega
 clear hx hxd hxw hwf hcell
 go_quiet (fail)
 go_upto_region 4 with fail
 go_quiet (fail)
 go_wp2_with fail
 go_ret
 have hm0:=Int.emod_nonneg x (show(n:Int)≠0 by omega)
 have hm1:=Int.emod_lt_of_pos x (show(0:Int)<(n:Int) by omega)
 refine⟨(x % (n:Int)).toNat, ?_, ?_,HS.out.later (vK (vK (Below.refl _ _) _) _),Since.drewN _ _ (Since.drewN _ _ HI.out)⟩
 ·generalize x % (n:Int)=q at hm0 hm1 ⊢
  omega
 show Ending.returned (.int .i64 (x % (n:Int)))=_
 rw [Int.toNat_of_nonneg hm0]
theorem zaz:(Tryz.prog.info? 43).map (·.size)=some 4:=by kernel_rfl
theorem zov (w:World) (n:Int):Calls Tryz.prog 125 #[.int .i64 n] w λe w'=>e= .returned (.agg #[.int .i64 1, .int .i64 n, .int .u8 0, .slice none 0 0])/\Below w.heap.size w w':=by
 have HB:=qh ((Below.refl w.heap.size w).alloc (Nat.le_refl _) (.cells #[.int .i64 1, .int .i64 n, .int .u8 0, .slice none 0 0] 43))
 have HG:=qh (zT w (.cells #[.int .i64 1, .int .i64 n, .int .u8 0, .slice none 0 0] 43))
 go_enter Tryz.func125,Tryz.ntmps125
 go_wp2_with fail
 refine bodyPost_ret (yB rfl _ _ w.heap.size 43 _ (0,0) _ rfl HG.out Tryz.underlying43 rfl zaz) rfl ?_
 exact⟨rfl,HB.out⟩
def gM:Nat->Nat
 |0=>2
 |d+1=>2+2*gM d
def zjy (W0:World) (g:Nat) (lv:Value) (dom:Int) (d a:Nat) (w:World) (e:Ending) (w':World):Prop:=∃(x:zx) (ka:Option Addr) (kc a':Nat),e= .returned (.agg #[.int .i64 x.kind, .int .i64 x.n, .int .u8 x.op, .slice ka x.kids.length kc])/\zy dom (d+1) x=true/\
 yA (λk=>k<w.heap.size) w' (λy=>zu (d+2) y x (.slice ka x.kids.length kc))/\xR W0 w' g lv a'/\a'<=a+gM d/\Since (λk=>k=g) w w'
def pX (W0:World) (g:Nat) (lv:Value) (dom:Int) (d:Nat):Prop:=∀(w:World) (a:Nat),xR W0 w g lv a->a+gM d<=1000000->Calls Tryz.prog 103 #[.pointer (some ⟨g,0,none⟩), .int .i64 d, .int .i64 dom] w (zjy W0 g lv dom d a w)
theorem zeX (n:Nat) (F:Nat->Prop) (X:World) (k m o:Int):yA F X (λy=>zu (n+1) y (.mk k m o []) (.slice none 0 0)):=λ_ _=>⟨none,0,rfl,by simp [zx.kids],λj hj=>by simp [zx.kids] at hj⟩
theorem zq1 (r:Nat) (h:r<(⟨#[43,45,42,60,38,124,61,33]⟩:ByteArray).size):qo (((⟨#[43,45,42,60,38,124,61,33]⟩:ByteArray)[r]'h).toNat:Int)=true:=by
 have h8:r<8:=h
 match r,h8 with
 |0,_=>rfl
 |1,_=>rfl
 |2,_=>rfl
 |3,_=>rfl
 |4,_=>rfl
 |5,_=>rfl
 |6,_=>rfl
 |7,_=>rfl
theorem zbC {W0 w X:World} {g gx d a a' kc:Nat} {lv:Value} {dom:Int} {x:zx} {ka:Option Addr} (hm:xR W0 X g lv a') (hs:Since (λk=>k=g) w X) (hgx:gx=w.heap.size) (hne:gx≠g) (hlo:W0.heap.size<=gx)
  (hx:yA (λk=>k<w.heap.size\/k=gx) X (λy=>zu (d+2) y x (.slice ka x.kids.length kc))) (hok:zy dom (d+1) x=true) (ha:a'<=a+gM d):
  zjy W0 g lv dom d a w (.returned (.agg #[.int .i64 x.kind, .int .i64 x.n, .int .u8 x.op, .slice ka x.kids.length kc])) (qE X gx 0 [.int .i64 x.kind, .int .i64 x.n, .int .u8 x.op, .slice ka x.kids.length kc]):=by
 have s1:=vN (g:=gx) [.int .i64 x.kind, .int .i64 x.n, .int .u8 x.op, .slice ka x.kids.length kc] X 0
 exact⟨x,ka,kc,a',rfl,hok,hx.step s1 (λk hk=> .inl (.inr hk)) (λk hk=> .inl (.inl hk)),hm.since s1 (λk hk=>by subst hk;exact⟨hlo,hne⟩),ha,hs.trans s1 (λk hk=> .inr (by omega))⟩
theorem zsa {n g2:Nat} {y:World} {x2 x3:zx} {k2 k3:Value} {o:Int} {t:TypeId} (h:y.heap[g2]? =some (.cells (x2.cells k2++x3.cells k3).toArray t (0,0))) (h2:zu n y x2 k2) (h3:zu n y x3 k3):zu (n+1) y (.mk 3 0 o [x2,x3]) (.slice (some ⟨g2,0,none⟩) 2 2):=by
 refine⟨_,2,rfl,by simp [zx.kids],λj hj=> ?_⟩
 have hj2:j=0\/j=1:=by simp [zx.kids] at hj;omega
 rcases hj2 with rfl|rfl
 ·refine⟨g2,0,x2.cells k2,rfl,zB h,rfl,λi hi=> ?_,k2,rfl,h2⟩
  rw [za h]
  match i,hi with
  |0,_=>rfl
  |1,_=>rfl
  |2,_=>rfl
  |3,_=>rfl
 refine⟨g2,0,x3.cells k3,rfl,zB h,rfl,λi hi=> ?_,k3,rfl,h3⟩
 rw [za h]
 match i,hi with
 |0,_=>rfl
 |1,_=>rfl
 |2,_=>rfl
 |3,_=>rfl
theorem zow {n g g2:Nat} {F F1 F2:Nat->Prop} {Y2 Y3 X:World} {x2 x3:zx} {k2 k3:Value} {o:Int} {t:TypeId} (h2:yA F1 Y2 (λy=>zu n y x2 k2)) (h3:yA F2 Y3 (λy=>zu n y x3 k3)) (s2:Since (λk=>k=g) Y2 X) (s3:Since (λk=>k=g) Y3 X)
  (hb:X.heap[g2]? =some (.cells (x2.cells k2++x3.cells k3).toArray t (0,0))) (hF1:∀k,F k\/k=g->F1 k) (hF2:∀k,F k\/k=g->F2 k) (hg2:¬F g2):yA F X (λy=>zu (n+1) y (.mk 3 0 o [x2,x3]) (.slice (some ⟨g2,0,none⟩) 2 2)):=λy hy=>
 zsa ((hy.block _ (zB hb) hg2).trans hb) ((h2.step s2 (F':=F) (λk hk=> .inl (hF1 k (.inr hk))) (λk hk=> .inl (hF1 k (.inl hk)))) y hy) ((h3.step s3 (F':=F) (λk hk=> .inl (hF2 k (.inr hk))) (λk hk=> .inl (hF2 k (.inl hk)))) y hy)
theorem zsb {dom:Int} {d n:Nat} (h:(n:Int)<dom):zy dom (d+1) (.mk 1 n 0 [])=true:=by
 unfold zy
 simp only [zx.kind,zx.n,zx.op,zx.kids]
 simp [h]
theorem zsc {dom:Int} {d n:Nat} (h:n<4):zy dom (d+1) (.mk 2 n 0 [])=true:=by
 have h2:(n:Int)<4:=by omega
 unfold zy
 simp only [zx.kind,zx.n,zx.op,zx.kids]
 simp [h2]
theorem zsd {dom o:Int} {d:Nat} {x y:zx} (ho:qo o=true) (hx:zy dom d x=true) (hy:zy dom d y=true):zy dom (d+1) (.mk 3 0 o [x,y])=true:=by
 unfold zy
 simp only [zx.kind,zx.n,zx.op,zx.kids]
 simp [ho,hx,hy]
theorem zdS (W0 w:World) (g:Nat) (lv:Value) (l:List Int) (a n:Nat) (ni:Int) (hni:ni=n) (h:xR W0 w g lv a) (hn:vU W0 .u8 lv l) (n1:1<=n) (n2:n<=100) (ha:a<=1000000):
  Calls Tryz.prog 56 #[.pointer (some ⟨g,0,none⟩), .int .i64 ni] w (zjx W0 g lv a n w):=by subst hni;exact zou W0 w g lv l a n h hn n1 n2 ha
theorem zmw (d:Nat) (h1:1<=d) (h2:d<=10):IntKind.i64.wrap ((d:Int) - 1)=(d:Int) - 1:=IntWalk.i64_in _ (by omega)
theorem zhP (W0:World) (g:Nat) (lv:Value) (l:List Int) (hn:vU W0 .u8 lv l) (dom:Nat) (hd1:2<=dom) (hd2:dom<=16) (d:Nat) (hd:d<=10) (ih:1<=d->pX W0 g lv dom (d - 1)):pX W0 g lv dom d:=by
 intro w a hmk ha
 have hK:2<=gM d:=by cases d<;>simp [gM]
 have hpick:=λW a n ni hni h n1 n2 ha=>zdS W0 W g lv l a n ni hni h hn n1 n2 ha
 have hbx:=(Below.refl w.heap.size w).alloc (Nat.le_refl _) (.cells #[.int .i64 0, .int .i64 0, .int .u8 0, .slice none 0 0] 43)
 have hm1:=hmk.later hbx
 have hg1:=zT w (.cells #[.int .i64 0, .int .i64 0, .int .u8 0, .slice none 0 0] 43)
 have kJ:=zB hmk.box
 have HLO:=qh hmk.below.size
 have xM:=qh hpick
 have qz:=qh hbx
 have bE:=qh hm1
 have xE:=qh hg1
 have IH:=qh ih
 clear hpick hbx hm1 hg1 ih hmk hn
 go_enter Tryz.func103,Tryz.ntmps103
 go_upto_region 1 with fail
 generalize World.alloc w _=W at qz bE xE ⊢
 obtain⟨gx,hgx⟩:∃gx,gx=w.heap.size:=⟨_,rfl⟩
 rw [<-hgx] at xE ⊢
 have vk:=qh hgx
 have zhQ:gx≠g:=by omega
 clear hgx kJ
 go_upto_region 2 with(go_at_call 56;go_must(refine(xM.out W a 5 5 rfl bE.out (by omega) (by omega) (by omega)).mono ?_);rintro en V ⟨r,hr,rfl,hmk,hsi⟩;(have HM2:=qh hmk);(have HS2:=qh ((zH (λk=>k=g) qz.out).trans hsi (λ_ h=> .inl h)));(have HG2:=qh ((hsi.block _ (zB xE.out) (by omega)).trans xE.out));clear hmk hsi bE xE qz)
 by_cases hc:r<2\/d=0
 ·have hgv:V.heap.size<=V.heap.size:=Nat.le_refl _
  clear IH
  go_cut [10] (λs10 w'=>s10= .bool true/\w'=V)
  case first=>
   by_cases hr2:r<2
   ·have zsf:((r:Int))<2:=by omega
    go_wp2_with fail
    go_meet
    case rel=>exact⟨by first|rfl|simp,rfl⟩
   obtain rfl:d=0:=by omega
   have zsf:decide ((r:Int)<2)=false:=by rw [decide_eq_false_iff_not];omega
   go_wp2_with fail
   go_meet
   case rel=>exact⟨by first|rfl|simp,rfl⟩
  case rest=>
  obtain⟨rfl,hwv⟩:=hcut
  obtain rfl:V=wc:=hwv.symm
  go_wp2_with(first|(go_at_call 125;go_must(refine(zov V2 _).mono ?_);rintro en V3 ⟨rfl,hb⟩;(have HM4:=qh (xS.out.later hb));(have HS4:=qh (HS3.out.trans (zH (λk=>k=g) hb) (λ_ h=> .inl h)));(have gP:=qh ((hb.block _ (zB HG3.out)).trans HG3.out));clear hb xS HS3 HG3;have f0:=zF gP.out 0;have f1:=zF gP.out 1;have f2:=zF gP.out 2;have f3:=zF gP.out 3;have c0:=za gP.out 0;have c1:=za gP.out 1;have c2:=za gP.out 2;have c3:=za gP.out 3)|(go_at_call 56;go_must(refine(xM.out V _ dom dom rfl HM2.out (by omega) (by omega) (by omega)).mono ?_);rintro en V2 ⟨r2,hr2,rfl,hmk,hsi⟩;(have xS:=qh hmk);(have HS3:=qh (HS2.out.trans hsi (λ_ h=> .inl h)));(have HG3:=qh ((hsi.block _ (zB HG2.out) (by omega)).trans HG2.out));clear hmk hsi HM2 HS2 HG2))
  have hend:=zbC (x:= .mk 1 r2 0 []) (d:=d) (dom:=dom) (a:=a) (ka:=none) (kc:=0) HM4.out HS4.out vk.out zhQ (by have:=HM4.out.below.size;have:=vk.out;have:=HLO.out;omega) (zeX _ _ _ _ _ _) (zsb (by omega)) (by omega)
  refine bodyPost_ret (yB rfl _ _ gx 43 _ (0,0) _ rfl (vG (cs:= [.int .i64 0, .int .i64 0, .int .u8 0, .slice none 0 0]) [.int .i64 1, .int .i64 r2, .int .u8 0, .slice none 0 0] rfl gP.out) Tryz.underlying43 rfl zaz) rfl ?_
  exact hend
 have hd1:1<=d:=by omega
 have zsf:decide ((r:Int)<2)=false:=by rw [decide_eq_false_iff_not];omega
 have zyt:decide ((d:Int)<1)=false:=by rw [decide_eq_false_iff_not];omega
 by_cases hr4:r<4
 ·have zvO:(r:Int)<4:=by omega
  clear IH
  go_wp2_with(go_at_call 56;go_must(refine(xM.out V _ 2 2 rfl HM2.out (by omega) (by omega) (by omega)).mono ?_);rintro en V4 ⟨r2,hr2,rfl,hmk,hsi⟩;(have HM4:=qh hmk);(have HS4:=qh (HS2.out.trans hsi (λ_ h=> .inl h)));(have gP:=qh ((hsi.block _ (zB HG2.out) (by omega)).trans HG2.out));clear hmk hsi HM2 HS2 HG2;have f0:=zF gP.out 0;have f1:=zF gP.out 1;have f2:=zF gP.out 2;have f3:=zF gP.out 3;have c0:=za gP.out 0;have c1:=za gP.out 1;have c2:=za gP.out 2;have c3:=za gP.out 3)
  have hend:=zbC (x:= .mk 2 r2 0 []) (d:=d) (dom:=dom) (a:=a) (ka:=none) (kc:=0) HM4.out HS4.out vk.out zhQ (by have:=vk.out;have:=HLO.out;omega) (zeX _ _ _ _ _ _) (zsc (by omega)) (by omega)
  refine bodyPost_ret (yB rfl _ _ gx 43 _ (0,0) _ rfl (vG (cs:= [.int .i64 0, .int .i64 0, .int .u8 0, .slice none 0 0]) [.int .i64 2, .int .i64 r2, .int .u8 0, .slice none 0 0] rfl gP.out) Tryz.underlying43 rfl zaz) rfl ?_
  exact hend
 have zvO:decide ((r:Int)<4)=false:=by rw [decide_eq_false_iff_not];omega
 have ih:=IH.out hd1
 obtain⟨K,hKd⟩:∃K,K=gM (d - 1):=⟨_,rfl⟩
 have hK2:gM d=2+2*K:=by rw [hKd];cases d with|zero=>omega|succ d=>rfl
 unfold pX at ih
 rw [<-hKd,show((d - 1:Nat):Int)=(d:Int) - 1 by omega] at ih
 have zvP:(1:Int)<=(d:Int):=by omega
 have zyu:(d:Int)<=10:=by omega
 have IH2:=qh ih
 clear ih IH
 go_upto_region 6 with fail
 have hw1:=zmw d hd1 hd
 go_region_law (first|(go_simp;go_at_call 103;(with_reducible refine(IH2.out Y2 _ hm2 (by omega)).mono ?_);rintro en Y3 ⟨x3,ka3,kc3,a3,rfl,zox,zsg,kQ,ha3,zk4⟩;have hg3:=(zk4.block _ (zB hg2) (by omega)).trans hg2;have hgA:=λo=>(Below.heap_alloc Y3 o _ (zB hg3)).trans hg3;have c0:=λo=>za (hgA o) 0;have c1:=λo=>za (hgA o) 1;have c2:=λo=>za (hgA o) 2;have c3:=λo=>za (hgA o) 3;have f0:=λo=>zF (hgA o) 0;have f1:=λo=>zF (hgA o) 1;have f2:=λo=>zF (hgA o) 2;have f3:=λo=>zF (hgA o) 3;simp only [List.getElem?_toArray,List.getElem?_cons_zero,List.getElem?_cons_succ] at c0 c1 c2 c3)|(go_simp;go_at_call 103;(with_reducible refine(IH2.out Y1 _ hm1 (by omega)).mono ?_);rintro en Y2 ⟨x2,ka2,kc2,a2,rfl,hok2,zsh,hm2,ha2,zoy⟩;have hg2:=(zoy.block _ (zB hg1) (by omega)).trans hg1)|(go_simp;go_at_call 56;(with_reducible refine(xM.out V.drew _ 8 8 rfl (HM2.out.later (Below.refl _ _).drew) (by omega) (by omega) (by omega)).mono ?_);rintro en Y1 ⟨r1,hr1,rfl,hm1,zoz⟩;have hg1:=(zoz.block (w:=V.drew) _ (zB (w:=V) HG2.out) (by omega)).trans HG2.out;have zvQ:(r1:Int)<8:=by omega))
 all_goals
  have hsz:r1<(⟨#[43,45,42,60,38,124,61,33]⟩:ByteArray).size:=hr1
  have hsg:=zq1 r1 hsz
  have hS2:=zk4.alloc (.cells #[.int .i64 x2.kind, .int .i64 x2.n, .int .u8 x2.op, .slice ka2 x2.kids.length kc2, .int .i64 x3.kind, .int .i64 x3.n, .int .u8 x3.op, .slice ka3 x3.kids.length kc3] 43)
  have hS3:=(Since.refl (λk=>k=g) Y3).alloc (.cells #[.int .i64 x2.kind, .int .i64 x2.n, .int .u8 x2.op, .slice ka2 x2.kids.length kc2, .int .i64 x3.kind, .int .i64 x3.n, .int .u8 x3.op, .slice ka3 x3.kids.length kc3] 43)
  have hbl:=zT Y3 (.cells #[.int .i64 x2.kind, .int .i64 x2.n, .int .u8 x2.op, .slice ka2 x2.kids.length kc2, .int .i64 x3.kind, .int .i64 x3.n, .int .u8 x3.op, .slice ka3 x3.kids.length kc3] 43)
  have hgl:=zB hm1.box
  have zyv:=zB hg1
  have zyw:=zB hm2.box
  have zxX:=zB hg2
  have zxY:=zB hg3
  have hwl:w.heap.size=gx:=vk.out.symm
  have haw:=zow (F:=λk=>k<w.heap.size\/k=gx) (o:=((((⟨#[43,45,42,60,38,124,61,33]⟩:ByteArray)[r1]'hsz).toNat:Nat):Int)) zsh zsg hS2 hS3 hbl (λk hk=>by rcases hk with(hk|hk)|hk<;>omega) (λk hk=>by rcases hk with(hk|hk)|hk<;>omega) (by omega)
  have hall:Since (λk=>k=g) w (Y3.alloc (.cells #[.int .i64 x2.kind, .int .i64 x2.n, .int .u8 x2.op, .slice ka2 x2.kids.length kc2, .int .i64 x3.kind, .int .i64 x3.n, .int .u8 x3.op, .slice ka3 x3.kids.length kc3] 43)):=(((HS2.out.trans ((Since.drew _ (Since.refl _ V)).trans zoz (λ_ h=> .inl h)) (λ_ h=> .inl h)).trans zoy (λ_ h=> .inl h)).trans zk4 (λ_ h=> .inl h)).alloc _
  have hdd:d - 1+2+1=d+2:=by omega
  have zvR:d - 1+1=d:=by omega
  rw [hdd] at haw
  rw [zvR] at hok2 zox
  have hend:=zbC (d:=d) (dom:=dom) (a:=a) (kQ.later ((Below.refl _ _).alloc (Nat.le_refl _) _)) hall vk.out zhQ (by have:=HLO.out;omega) haw (zsd hsg hok2 zox) (by omega)
  have hset:=vG (cs:= [.int .i64 0, .int .i64 0, .int .u8 0, .slice none 0 0]) [.int .i64 3, .int .i64 0, .int .u8 ((((⟨#[43,45,42,60,38,124,61,33]⟩:ByteArray)[r1]'hsz).toNat:Nat):Int), .slice (some ⟨Y3.heap.size,0,none⟩) 2 2] rfl (hgA (.cells #[.int .i64 x2.kind, .int .i64 x2.n, .int .u8 x2.op, .slice ka2 x2.kids.length kc2, .int .i64 x3.kind, .int .i64 x3.n, .int .u8 x3.op, .slice ka3 x3.kids.length kc3] 43))
  have zS:=qh hend
  have jM:=qh hset
  clear hend hset haw hall hS2 hS3 hbl hsg hg1 hg2 hg3 hgA hok2 zox zsh zsg hm1 hm2 kQ zoz zoy zk4 hw1
  go_wp2_with fail
  refine bodyPost_ret (yB rfl _ _ gx 43 _ (0,0) _ rfl jM.out Tryz.underlying43 rfl zaz) rfl ?_
  exact zS.out
theorem zm1 (W0:World) (g:Nat) (lv:Value) (l:List Int) (hn:vU W0 .u8 lv l) (dom:Nat) (hd1:2<=dom) (hd2:dom<=16) (d:Nat) (hd:d<=10):pX W0 g lv dom d:=by
 induction d with
 |zero=>exact zhP W0 g lv l hn dom hd1 hd2 0 (by omega) (λh=>by omega)
 |succ d ih=>exact zhP W0 g lv l hn dom hd1 hd2 (d+1) hd (λ_=>ih (by omega))
end Go.Proofs.YtknmdmimecepfaaGreatDoor
namespace Go.Proofs.YtknmdmimecepfaaGreatDoor
open Go.RowKit
set_option maxRecDepth 100000
set_option maxHeartbeats 16000000
def qY:Nat->Nat
 |0=>20
 |d+1=>20+3*qY d
def kV:Nat->Nat
 |0=>1
 |d+1=>1+3*kV d
theorem ziE {dom:Int} :∀(d:Nat) (x:zx),zy dom d x=true->zy dom (d+1) x=true:=by
 intro d
 induction d with
 |zero=>intro x h;cases h
 |succ d ih=>
 intro x h
 unfold zy at h ⊢
 split
 ·rename_i h1;rw [if_pos h1] at h;exact h
 rename_i h1;rw [if_neg h1] at h
 split
 ·rename_i h2;rw [if_pos h2] at h;exact h
 rename_i h2;rw [if_neg h2] at h
 split
 ·rename_i h3;rw [if_pos h3] at h
  simp only [Bool.and_eq_true] at h ⊢
  exact⟨⟨h.1.1,ih _ h.1.2⟩,ih _ h.2⟩
 rename_i h3;rw [if_neg h3] at h;cases h
theorem zge {dom:Int} {d e:Nat} {x:zx} (h:zy dom d x=true) (hl:d<=e):zy dom e x=true:=by
 induction hl with
 |refl=>exact h
 |step _ ih=>exact ziE _ _ ih
theorem zm2 {k dom:Int} {x:zx} (h:j4 k=true) (hx:zy dom 2 x=true):kg k x dom=true:=by unfold kg;rw [if_pos h];exact zge hx (by omega)
theorem zo0 {k dom:Int} (h:j4 k=false):kg k default dom=true:=by unfold kg;rw [if_neg (by rw [h];decide)];rfl
theorem zm3 {k dom:Int} {x:zx} (h:hasB k=true) (hx:zy dom 2 x=true):wX k x dom=true:=by unfold wX;rw [if_pos h];exact zge hx (by omega)
theorem zo1 {k dom:Int} (h:hasB k=false):wX k default dom=true:=by unfold wX;rw [if_neg (by rw [h];decide)];rfl
theorem zm4 {k:Int} {r:Nat} (h:jT k=true) (hr:r<2):wW k r=true:=by unfold wW;rw [if_pos h];simp;omega
theorem zo2 {k:Int} (h:jT k=false):wW k ((0:Nat):Int)=true:=by unfold wW;rw [if_neg (by rw [h];decide)];rfl
theorem zm5 {k:Int} {v n:Nat} (h:j3 k=true) (hr:v<n):jZ k v n=true:=by unfold jZ;rw [if_pos h];simp;omega
theorem zo3 {k:Int} {n:Nat} (h:j3 k=false):jZ k ((0:Nat):Int) n=true:=by unfold jZ;rw [if_neg (by rw [h];decide)];rfl
def zf7 (W0:World) (g:Nat) (lv:Value) (vars dom:Int) (d N a:Nat) (w:World) (e:Ending) (w':World):Prop:=∃(L:List zq) (va:Option Addr) (vc a':Nat),e= .returned (.slice va L.length vc)/\zX vars dom L (d+1)=true/\zM L<=N*kV d/\
 yA (λk=>k<w.heap.size) w' (λy=>zJ 3 (d+2) y L (.slice va L.length vc))/\xR W0 w' g lv a'/\a'<=a+N*qY d/\Since (λk=>k=g) w w'
def zdR (W0:World) (g:Nat) (lv kv:Value) (vars dom:Int) (d:Nat):Prop:=∀(w:World) (a n N:Nat) (ni:Int),ni=n->xR W0 w g lv a->n<=N->N<=10->a+N*qY d<=1000000->Calls Tryz.prog 57 #[.pointer (some ⟨g,0,none⟩), .int .i64 ni, .int .i64 d, .int .i64 vars, .int .i64 dom,kv] w (zf7 W0 g lv vars dom d N a w)
def zjz (W0:World) (g:Nat) (lv:Value) (vars dom:Int) (d a:Nat) (w:World) (e:Ending) (w':World):Prop:=∃(x:zq) (ka kb yv nv:Value) (a':Nat),e= .returned (jG x ka kb yv nv)/\jD vars dom x (d+1)=true/\kW x<=kV d/\
 yA (λk=>k<w.heap.size) w' (λy=>zu 3 y x.a ka/\zu 3 y x.b kb/\zJ 3 (d+1) y x.yes yv/\zJ 3 (d+1) y x.no nv)/\xR W0 w' g lv a'/\a'<=a+qY d/\Since (λk=>k=g) w w'
def zgf (W0:World) (g:Nat) (lv kv:Value) (vars dom:Int) (d:Nat):Prop:=∀(w:World) (a:Nat),xR W0 w g lv a->a+qY d<=1000000->Calls Tryz.prog 78 #[.pointer (some ⟨g,0,none⟩), .int .i64 d, .int .i64 vars, .int .i64 dom,kv] w (zjz W0 g lv vars dom d a w)
def zeY:List Value:= [.int .i64 0, .int .i64 0, .int .i64 0, .int .i64 0, .int .i64 0, .int .u8 0, .slice none 0 0, .int .i64 0, .int .i64 0, .int .u8 0, .slice none 0 0, .slice none 0 0, .slice none 0 0]
def stC (k r v ak an ao:Int) (ka:Value) (bk bn bo:Int) (kb yv nv:Value):List Value:= [.int .i64 k, .int .i64 r, .int .i64 v, .int .i64 ak, .int .i64 an, .int .u8 ao,ka, .int .i64 bk, .int .i64 bn, .int .u8 bo,kb,yv,nv]
structure bB (W0 w X:World) (g gb gr:Nat) (lv:Value) (a:Nat) (cs:List Value):Prop where
 zG:xR W0 X g lv a
 since:Since (λk=>k=g) w X
 box:X.heap[gb]? =some (.cells cs.toArray 151 (0,0))
 res:X.heap[gr]? =some (.cells zeY.toArray 151 (0,0))
 lo:w.heap.size<=gb/\w.heap.size<=gr/\gb≠gr/\g<w.heap.size/\W0.heap.size<=w.heap.size
section
variable {W0 w X Y:World} {g gb gr:Nat} {lv:Value} {a b:Nat} {cs:List Value}
theorem bB.put (h:bB W0 w X g gb gr lv a cs) (j:Nat) (u:Value):bB W0 w (X.setCell ⟨gb,j,none⟩ u) g gb gr lv a (cs.set j u):=by
 have s:Since (λk=>k=gb) X (X.setCell ⟨gb,j,none⟩ u):=Since.setCell (F:=λk=>k=gb) (p:=⟨gb,j,none⟩) (Since.refl _ _) (.inl rfl) _
 have hlo:=h.lo
 refine⟨h.zG.since s (λk hk=>by omega),h.since.trans s (λk hk=> .inr (by omega)), ?_,(s.block _ (zB h.res) (by omega)).trans h.res,hlo⟩
 rw [zw h.box j u,List.setIfInBounds_toArray]
theorem bB.call (h:bB W0 w X g gb gr lv a cs) (hm:xR W0 Y g lv b) (hs:Since (λk=>k=g) X Y):bB W0 w Y g gb gr lv b cs:=by
 have hlo:=h.lo
 exact⟨hm,h.since.trans hs (λ_ h=> .inl h),(hs.block _ (zB h.box) (by omega)).trans h.box,(hs.block _ (zB h.res) (by omega)).trans h.res,hlo⟩
def SF (w:World) (gb gr k:Nat):Prop:=k<w.heap.size\/k=gb\/k=gr
theorem xk {P:World->Prop} (j:Nat) (u:Value) (hp:yA (SF w gb gr) X P):yA (SF w gb gr) (X.setCell ⟨gb,j,none⟩ u) P:=
 hp.step (G:=λk=>k=gb) (Since.setCell (F:=λk=>k=gb) (p:=⟨gb,j,none⟩) (Since.refl _ _) (.inl rfl) _) (λ_ hk=> .inl (.inr (.inl hk))) (λ_ hk=> .inl hk)
theorem vw {P:World->Prop} (hs:Since (λk=>k=g) X Y) (hg:g<w.heap.size) (hp:yA (SF w gb gr) X P):yA (SF w gb gr) Y P:=
 hp.step hs (λk hk=> .inl (.inl (by omega))) (λk hk=> .inl hk)
theorem bB.made {P:World->Prop} (h:bB W0 w X g gb gr lv a cs) (_hs:Since (λk=>k=g) X Y) (hp:yA (λk=>k<X.heap.size) Y P):yA (SF w gb gr) Y P:=by
 have h1:=zB h.box
 have h2:=zB h.res
 have h3:=h.since.size
 exact hp.step (Since.refl (λ_=>False) Y) (λ_ h=>h.elim) (λk hk=>by rcases hk with hk|hk|hk<;>(left;omega))
end
theorem zk5 {W0 w X:World} {g gb gr:Nat} {lv:Value} {a a' d:Nat} {vars dom:Int} {x:zq} {ka kb yv nv:Value} (h:bB W0 w X g gb gr lv a' (x.cells ka kb yv nv)) (hok:jD vars dom x (d+1)=true) (hN:kW x<=kV d) (h1:yA (SF w gb gr) X (λy=>zu 3 y x.a ka)) (h2:yA (SF w gb gr) X (λy=>zu 3 y x.b kb))
  (h3:yA (SF w gb gr) X (λy=>zJ 3 (d+1) y x.yes yv)) (h4:yA (SF w gb gr) X (λy=>zJ 3 (d+1) y x.no nv)) (ha:a'<=a+qY d):
  zjz W0 g lv vars dom d a w (.returned (jG x ka kb yv nv)) (qE X gr 0 (x.cells ka kb yv nv))/\(qE X gr 0 (x.cells ka kb yv nv)).heap[gr]? =some (.cells (x.cells ka kb yv nv).toArray 151 (0,0)):=by
 have hlo:=h.lo
 have s:=vN (g:=gr) (x.cells ka kb yv nv) X 0
 have hall:∀ {P:World->Prop},yA (SF w gb gr) X P->yA (λk=>k<w.heap.size) (qE X gr 0 (x.cells ka kb yv nv)) P:=λhp=>hp.step s (λk hk=> .inl (.inr (.inr hk))) (λk hk=> .inl (.inl hk))
 exact⟨⟨x,ka,kb,yv,nv,a',rfl,hok,hN,λy hy=>⟨hall h1 y hy,hall h2 y hy,hall h3 y hy,hall h4 y hy⟩,h.zG.since s (λk hk=>by omega),ha,h.since.trans s (λk hk=> .inr (by omega))⟩,vG (cs:=zeY) _ rfl h.res⟩
def uI (vars dom k:Int) (d M:Nat) (l:List zq) (least:Int):Prop:=zX vars dom l d=true/\zM l<=M/\(k<least->l= [])
theorem zeZ (vars dom k:Int) (d M:Nat) (least:Int):uI vars dom k d M [] least:=⟨by rw [zX],Nat.zero_le _,λ_=>rfl⟩
theorem zm6 {vars dom k r v:Int} {a b:zx} {yes no:List zq} {d M:Nat} (k1:1<=k) (k2:k<=11) (hr:wW k r=true) (hv:jZ k v vars=true) (ha:kg k a dom=true) (hb:wX k b dom=true) (hy:uI vars dom k d (2*M) yes 10) (hn:uI vars dom k d M no 10) (hn2:k=11->no= []):
  jD vars dom (.mk k r v a b yes no) (d+1)=true/\kW (.mk k r v a b yes no)<=1+3*M:=by
 constructor
 ·unfold jD zc5 xu
  simp only [Bool.and_eq_true,Bool.or_eq_true,decide_eq_true_eq,Nat.add_sub_cancel]
  refine⟨⟨⟨by omega,⟨⟨k1,k2⟩,⟨⟨hr,hv⟩,ha⟩,hb⟩, ?_⟩,hy.1⟩,hn.1⟩
  by_cases h10:k=10
  ·exact .inl h10
  by_cases h11:k=11
  ·exact .inr ⟨by rw [hn2 h11];rfl, .inl h11⟩
  exact .inr ⟨by rw [hn.2.2 (by omega)];rfl, .inr (by rw [hy.2.2 (by omega)];rfl)⟩
 rw [kW]
 have:=hy.2.1
 have:=hn.2.1
 omega
theorem zgh (F:Nat->Prop) (X:World):yA F X (λy=>zu 3 y default (.slice none 0 0)):=λ_ _=>⟨none,0,rfl,by simp [zx.kids,default],λj hj=>by simp [zx.kids,default] at hj⟩
theorem zhR (F:Nat->Prop) (X:World) (d:Nat):yA F X (λy=>zJ 3 (d+1) y [] (.slice none 0 0)):=λ_ _=>⟨none,0,rfl,by simp,λj hj=>by simp at hj⟩
end Go.Proofs.YtknmdmimecepfaaGreatDoor
namespace Go.Proofs.YtknmdmimecepfaaGreatDoor
open Go.RowKit
set_option maxRecDepth 100000
set_option maxHeartbeats 16000000
theorem vF {k j:Int} (h:¬k=j):(k==j)=false:=by rw [beq_eq_false_iff_ne];exact h
theorem zq2 {k:Int} (h:¬(k=1\/k=3\/k=6)):jT k=false:=by unfold jT;rw [decide_eq_false_iff_not];exact h
theorem zo4 {k:Int} (h:k=1\/k=3\/k=6):jT k=true:=by unfold jT;rw [decide_eq_true_iff];exact h
theorem zq3 {k:Int} (h:¬(k=1\/k=2\/k=6\/k=7\/k=8)):j3 k=false:=by unfold j3;rw [decide_eq_false_iff_not];exact h
theorem zo5 {k:Int} (h:k=1\/k=2\/k=6\/k=7\/k=8):j3 k=true:=by unfold j3;rw [decide_eq_true_iff];exact h
theorem zq4 {k:Int} (h:¬(k=2\/k=3\/k=6\/k=9\/k=10\/k=11)):j4 k=false:=by unfold j4;rw [decide_eq_false_iff_not];exact h
theorem zo6 {k:Int} (h:k=2\/k=3\/k=6\/k=9\/k=10\/k=11):j4 k=true:=by unfold j4;rw [decide_eq_true_iff];exact h
theorem zq5 {k:Int} (h:¬k=6):hasB k=false:=by unfold hasB;rw [decide_eq_false_iff_not];exact h
theorem zo7 {k:Int} (h:k=6):hasB k=true:=by unfold hasB;rw [decide_eq_true_iff];exact h
theorem zm7:(Tryz.prog.info? 151).map (·.size)=some 13:=by kernel_rfl
theorem zh2 (W0:World) (g:Nat) (lv:Value) (l:List Int) (hn:vU W0 .u8 lv l) (kv:Value) (ks:List Int) (hks:xX W0 kv ks) (hk1:1<=ks.length) (hk2:ks.length<=100) (hk3:∀k∈ks,1<=k/\k<=11) (vars dom:Nat) (hv1:1<=vars) (hv2:vars<=10) (hd1:2<=dom) (hd2:dom<=16) (d:Nat) (hd:d<=10)
  (ih:1<=d->zdR W0 g lv kv vars dom (d - 1)):zgf W0 g lv kv vars dom d:=by
 intro w a hmk ha
 have hK:20<=qY d:=by cases d<;>simp [qY]
 have hpick:=λW a n ni hni h n1 n2 ha=>zdS W0 W g lv l a n ni hni h hn n1 n2 ha
 have hexpr:=zm1 W0 g lv l hn dom hd1 hd2 1 (by omega)
 unfold pX at hexpr
 rw [show gM 1=6 from rfl,show((1:Nat):Int)=1 from rfl] at hexpr
 obtain⟨ka,kc,rfl, -⟩:=zh.slice hks
 obtain⟨kn,hkn⟩:∃n,n=ks.length:=⟨_,rfl⟩
 rw [<-hkn] at hks hk1 hk2 ih ⊢
 have zpN:∀r,r<kn->1<=ks.getD r 0/\ks.getD r 0<=11:=λr hr=>hk3 _ (yL (by omega))
 have hbx:=(Below.refl w.heap.size w).alloc (Nat.le_refl _) (.cells zeY.toArray 151)
 have hm1:=hmk.later hbx
 have hg1:=zT w (.cells zeY.toArray 151)
 have kJ:=zB hmk.box
 have hlo:=hmk.below.size
 have xM:=qh hpick
 have zpO:=qh hexpr
 have HKS:=qh hks
 have HKN:=qh hkn
 have zt8:=qh zpN
 have qz:=qh hbx
 have bE:=qh hm1
 have xE:=qh hg1
 have IH:=qh ih
 clear hpick hexpr hks hkn zpN hbx hm1 hg1 ih hmk hn hk3
 go_enter Tryz.func78,Tryz.ntmps78
 go_upto_region 1 with fail
 unfold zeY at qz bE xE
 generalize World.alloc w _=W at qz bE xE ⊢
 obtain⟨gr,hgr⟩:∃gr,gr=w.heap.size:=⟨_,rfl⟩
 rw [<-hgr] at xE ⊢
 have HGR:=qh hgr
 have zhQ:gr≠g:=by omega
 clear hgr
 go_upto_region 2 with(go_at_call 56;go_must(refine(xM.out W a kn kn rfl bE.out hk1 hk2 (by omega)).mono ?_);rintro en V ⟨r,hr,rfl,hmk,hsi⟩;(have hrI:(r:Int)<(kn:Int):=by omega);(obtain⟨kb,ko,hka,hkb,hkc⟩:=xX.part HKS.out r (by rw [<-HKN.out];exact hr));subst hka;(have zsi:=(hmk.below.cell (p:=⟨kb,ko+r,none⟩) hkb).trans hkc);(obtain⟨k1,k2⟩:=zt8.out r hr);generalize ks.getD r 0=k at hkc zsi k1 k2;(have HM2:=qh hmk);(have HS2:=qh ((zH (λk=>k=g) qz.out).trans hsi (λ_ h=> .inl h)));(have HG2:=qh ((hsi.block _ (zB xE.out) (by omega)).trans xE.out));clear hmk hsi bE xE qz hkb hkc)
 have hL:bB W0 w (V.alloc (.cells #[.int .i64 k, .int .i64 0, .int .i64 0, .int .i64 0, .int .i64 0, .int .u8 0, .slice none 0 0, .int .i64 0, .int .i64 0, .int .u8 0, .slice none 0 0, .slice none 0 0, .slice none 0 0] 151)) g V.heap.size gr lv (a+1) (stC k (0:Nat) (0:Nat) 0 0 0 (.slice none 0 0) 0 0 0 (.slice none 0 0) (.slice none 0 0) (.slice none 0 0)):=by
  have h1:=zB HG2.out
  have h2:=HGR.out
  have h3:=HS2.out.size
  exact⟨HM2.out.later ((Below.refl _ _).alloc (Nat.le_refl _) _),HS2.out.alloc _,zT _ _,(Below.heap_alloc _ _ _ h1).trans HG2.out,⟨h3,by omega,by omega,kJ,hlo⟩⟩
 have hML:Hid (qY d=20+3*(if d=0 then 0 else qY (d - 1))/\kV d=1+3*(if d=0 then 0 else kV (d - 1))):=by
  cases d with
  |zero=>exact⟨rfl,rfl⟩
  |succ d=>exact⟨rfl,rfl⟩
 generalize World.alloc V _=X at hL ⊢
 generalize V.heap.size=gb at hL ⊢
 clear HM2 HS2 HG2 zsi zhQ
 have HL:=qh hL
 clear hL
 have c0:X.cell? ⟨gb,0,none⟩=some (.int .i64 k):=za HL.out.box 0
 go_cut [26] (λs26 w'=>∃b:Bool,s26= .bool b/\w'=X/\Hid (b=true->d=0)/\Hid (b=false->d=0->k<=9))
 case first=>
  by_cases hd0:d=0
  ·have hdI:decide ((d:Int)<1)=true:=by rw [decide_eq_true_iff];omega
   have HD0:=qh hd0
   clear hd0
   by_cases h10:10<=k
   ·go_wp2_with fail
    go_meet
    case rel=>exact⟨true,by first|rfl|simp,rfl,λ_=>HD0.out,λh=>by cases h⟩
   go_wp2_with fail
   go_meet
   case rel=>exact⟨false,by first|rfl|simp,rfl,(λh=>by cases h),λ_ _=>by omega⟩
  have hdI:decide ((d:Int)<1)=false:=by rw [decide_eq_false_iff_not];omega
  have HD0:=qh hd0
  clear hd0
  go_wp2_with fail
  go_meet
  case rel=>exact⟨false,by first|rfl|simp,rfl,(λh=>by cases h),λ_ h=>absurd h HD0.out⟩
 case rest=>
 obtain⟨b,rfl,hwv,HB1,HB2⟩:=hcut
 obtain rfl:X=wc:=hwv.symm
 go_upto_if 26 with fail
 go_cut [26] (λzyx w'=>∃k2:Int,1<=k2/\k2<=11/\Hid (d=0->k2<=9)/\Hid (bB W0 w w' g gb gr lv (a+1) (stC k2 (0:Nat) (0:Nat) 0 0 0 (.slice none 0 0) 0 0 0 (.slice none 0 0) (.slice none 0 0) (.slice none 0 0))))
 case first=>
  cases b with
  |true=>
   have f0:=zF HL.out.box 0
   go_wp2_with fail
   go_meet
   case rel=>exact⟨4,by omega,by omega,λ_=>by omega,HL.out.put 0 _⟩
  |false=>
  have HB3:Hid (d=0->k<=9):=HB2.out (by trivial)
  clear HB1 HB2
  go_wp2_with fail
  go_meet
  case rel=>exact⟨k,k1,k2,HB3.out,HL.out⟩
 case rest=>
 obtain⟨q,q1,q2,HD9,HL2⟩:=hcut
 clear c0 HL k1 k2 HB1 HB2
 obtain⟨X2,rfl⟩:∃x:World,x=wc:=⟨_,rfl⟩
 have c0:X2.cell? ⟨gb,0,none⟩=some (.int .i64 q):=za HL2.out.box 0
 go_upto_block 0 with fail
 go_cut [30] (λzyy w'=>∃reg a2:Nat,a2<=a+2/\Hid (wW q reg=true)/\Hid (bB W0 w w' g gb gr lv a2 (stC q reg (0:Nat) 0 0 0 (.slice none 0 0) 0 0 0 (.slice none 0 0) (.slice none 0 0) (.slice none 0 0))))
 case first=>
  by_cases hh:q=1\/q=3\/q=6
  rotate_left
  ·have HP:=qh (zo2 (zq2 hh))
   have e1:=vF (λh=>hh (.inl h))
   have e3:=vF (λh=>hh (.inr (.inl h)))
   have e6:=vF (λh=>hh (.inr (.inr h)))
   clear hh
   go_wp2_with fail
   go_meet
   case rel=>exact⟨0,_,by omega,HP.out,HL2.out⟩
  have hp:∀r2:Nat,r2<2->wW q r2=true:=λr2 h=>zm4 (zo4 hh) h
  have HP:=qh hp
  clear hp
  rcases hh with rfl|rfl|rfl
  all_goals
   go_wp2_with(go_at_call 56;go_must(refine(xM.out X2 _ 2 2 rfl HL2.out.zG (by omega) (by omega) (by omega)).mono ?_);rintro en Y ⟨r2,hr2,rfl,hmk,hsi⟩;(have qG:=qh (HL2.out.call hmk hsi));clear hmk hsi c0;(have y1:Y.cell? ⟨gb,1,none⟩=some (.int .i64 (0:Nat)):=za qG.out.box 1);(have f1:=zF qG.out.box 1))
   go_meet
   case rel=>exact⟨r2,_,by omega,HP.out r2 hr2,qG.out.put 1 _⟩
 case rest=>
 obtain⟨reg,a2,ha2,HPR,HL3⟩:=hcut
 clear c0 HL2
 obtain⟨X3,rfl⟩:∃x:World,x=wc:=⟨_,rfl⟩
 have c0:X3.cell? ⟨gb,0,none⟩=some (.int .i64 q):=za HL3.out.box 0
 go_upto_block 1 with fail
 go_cut [39] (λzyz w'=>∃var a3:Nat,a3<=a+3/\Hid (jZ q var vars=true)/\Hid (bB W0 w w' g gb gr lv a3 (stC q reg var 0 0 0 (.slice none 0 0) 0 0 0 (.slice none 0 0) (.slice none 0 0) (.slice none 0 0))))
 case first=>
  by_cases hh:q=1\/q=2\/q=6\/q=7\/q=8
  ·have hp:∀r2:Nat,r2<vars->jZ q r2 vars=true:=λr2 h=>zm5 (zo5 hh) h
   have HP:=qh hp
   clear hp
   rcases hh with rfl|rfl|rfl|rfl|rfl
   all_goals
    go_wp2_with(go_at_call 56;go_must(refine(xM.out X3 _ vars vars rfl HL3.out.zG (by omega) (by omega) (by omega)).mono ?_);rintro en Y ⟨r2,hr2,rfl,hmk,hsi⟩;(have qG:=qh (HL3.out.call hmk hsi));clear hmk hsi c0;(have y1:Y.cell? ⟨gb,2,none⟩=some (.int .i64 (0:Nat)):=za qG.out.box 2);(have f1:=zF qG.out.box 2))
    go_meet
    case rel=>exact⟨r2,_,by omega,HP.out r2 hr2,qG.out.put 2 _⟩
  have HP:=qh (zo3 (n:=vars) (zq3 hh))
  have e1:=vF (λh=>hh (.inl h))
  have e2:=vF (λh=>hh (.inr (.inl h)))
  have e6:=vF (λh=>hh (.inr (.inr (.inl h))))
  have e7:=vF (λh=>hh (.inr (.inr (.inr (.inl h)))))
  have e8:=vF (λh=>hh (.inr (.inr (.inr (.inr h)))))
  clear hh
  go_wp2_with fail
  go_meet
  case rel=>exact⟨0,_,by omega,HP.out,HL3.out⟩
 case rest=>
 obtain⟨var,a3,ha3,HPV,HL4⟩:=hcut
 clear c0 HL3 ha2
 obtain⟨X4,rfl⟩:∃x:World,x=wc:=⟨_,rfl⟩
 have c0:X4.cell? ⟨gb,0,none⟩=some (.int .i64 q):=za HL4.out.box 0
 go_upto_block 2 with fail
 go_cut [51] (λzy0 w'=>∃(xa:zx) (aa:Option Addr) (ac a4:Nat),a4<=a+9/\Hid (kg q xa dom=true)/\Hid (yA (SF w gb gr) w' (λy=>zu 3 y xa (.slice aa xa.kids.length ac)))/\Hid (bB W0 w w' g gb gr lv a4 (stC q reg var xa.kind xa.n xa.op (.slice aa xa.kids.length ac) 0 0 0 (.slice none 0 0) (.slice none 0 0) (.slice none 0 0))))
 case first=>
  by_cases hh:q=2\/q=3\/q=6\/q=9\/q=10\/q=11
  ·have hp:∀x,zy dom 2 x=true->kg q x dom=true:=λx h=>zm2 (zo6 hh) h
   have HP:=qh hp
   clear hp
   rcases hh with rfl|rfl|rfl|rfl|rfl|rfl
   all_goals
    go_wp2_with(go_at_call 103;go_must(refine(zpO.out X4 _ HL4.out.zG (by omega)).mono ?_);rintro en Y ⟨xa,aa,ac,a4,rfl,hok,haw,hmk,ha4,hsi⟩;(have qG:=qh (HL4.out.call hmk hsi));(have pV:=qh (HL4.out.made hsi haw));(have qx:=qh hok);clear hmk hsi hok haw c0;(have y3:Y.cell? ⟨gb,3,none⟩=some (.int .i64 0):=za qG.out.box 3);(have f3:=zF qG.out.box 3);(have y4:Y.cell? ⟨gb,4,none⟩=some (.int .i64 0):=za qG.out.box 4);(have f4:=zF qG.out.box 4);(have y5:Y.cell? ⟨gb,5,none⟩=some (.int .u8 0):=za qG.out.box 5);(have f5:=zF qG.out.box 5);(have y6:Y.cell? ⟨gb,6,none⟩=some (.slice none 0 0):=za qG.out.box 6);(have f6:=zF qG.out.box 6))
    go_meet
    case rel=>exact⟨xa,aa,ac,a4,by simp only [gM] at ha4;omega,HP.out xa qx.out,xk 6 _ (xk 5 _ (xk 4 _ (xk 3 _ pV.out))),(((qG.out.put 3 _).put 4 _).put 5 _).put 6 _⟩
  have HP:=qh (zo0 (dom:=dom) (zq4 hh))
  have e2:=vF (λh=>hh (.inl h))
  have e3:=vF (λh=>hh (.inr (.inl h)))
  have e6:=vF (λh=>hh (.inr (.inr (.inl h))))
  have e9:=vF (λh=>hh (.inr (.inr (.inr (.inl h)))))
  have e10:=vF (λh=>hh (.inr (.inr (.inr (.inr (.inl h))))))
  have e11:=vF (λh=>hh (.inr (.inr (.inr (.inr (.inr h))))))
  clear hh
  go_wp2_with fail
  go_meet
  case rel=>exact⟨default,none,0,_,by omega,HP.out,zgh _ _,HL4.out⟩
 case rest=>
 obtain⟨xa,aa,ac,a4,ha4,HPA,HAA,HL5⟩:=hcut
 clear c0 HL4 ha3
 obtain⟨X5,rfl⟩:∃x:World,x=wc:=⟨_,rfl⟩
 have c0:X5.cell? ⟨gb,0,none⟩=some (.int .i64 q):=za HL5.out.box 0
 go_upto_if 64 with fail
 go_cut [64] (λzy1 w'=>∃(xb:zx) (ba:Option Addr) (bc a5:Nat),a5<=a+15/\Hid (wX q xb dom=true)/\Hid (yA (SF w gb gr) w' (λy=>zu 3 y xa (.slice aa xa.kids.length ac)))/\Hid (yA (SF w gb gr) w' (λy=>zu 3 y xb (.slice ba xb.kids.length bc)))/\Hid (bB W0 w w' g gb gr lv a5 (stC q reg var xa.kind xa.n xa.op (.slice aa xa.kids.length ac) xb.kind xb.n xb.op (.slice ba xb.kids.length bc) (.slice none 0 0) (.slice none 0 0))))
 case first=>
  by_cases hh:q=6
  rotate_left
  ·have HP:=qh (zo1 (dom:=dom) (zq5 hh))
   have e6:=vF hh
   clear hh
   go_wp2_with fail
   go_meet
   case rel=>exact⟨default,none,0,_,by omega,HP.out,HAA.out,zgh _ _,HL5.out⟩
  have hp:∀x,zy dom 2 x=true->wX q x dom=true:=λx h=>zm3 (zo7 hh) h
  have HP:=qh hp
  clear hp
  subst hh
  go_wp2_with(go_at_call 103;go_must(refine(zpO.out X5 _ HL5.out.zG (by omega)).mono ?_);rintro en Y ⟨xb,ba,bc,a5,rfl,hok,haw,hmk,ha5,hsi⟩;(have qG:=qh (HL5.out.call hmk hsi));(have pV:=qh (HL5.out.made hsi haw));(have zvS:=qh (vw hsi kJ HAA.out));(have qx:=qh hok);clear hmk hsi hok haw c0;(have y3:Y.cell? ⟨gb,7,none⟩=some (.int .i64 0):=za qG.out.box 7);(have f3:=zF qG.out.box 7);(have y4:Y.cell? ⟨gb,8,none⟩=some (.int .i64 0):=za qG.out.box 8);(have f4:=zF qG.out.box 8);(have y5:Y.cell? ⟨gb,9,none⟩=some (.int .u8 0):=za qG.out.box 9);(have f5:=zF qG.out.box 9);(have y6:Y.cell? ⟨gb,10,none⟩=some (.slice none 0 0):=za qG.out.box 10);(have f6:=zF qG.out.box 10))
  go_meet
  case rel=>exact⟨xb,ba,bc,a5,by simp only [gM] at ha5;omega,HP.out xb qx.out,xk 10 _ (xk 9 _ (xk 8 _ (xk 7 _ zvS.out))),xk 10 _ (xk 9 _ (xk 8 _ (xk 7 _ pV.out))),(((qG.out.put 7 _).put 8 _).put 9 _).put 10 _⟩
 case rest=>
 obtain⟨xb,ba,bc,a5,ha5,HPB,zo8,zo9,HL6⟩:=hcut
 clear c0 HL5 HAA ha4
 obtain⟨X6,rfl⟩:∃x:World,x=wc:=⟨_,rfl⟩
 have c0:X6.cell? ⟨gb,0,none⟩=some (.int .i64 q):=za HL6.out.box 0
 obtain⟨K,hKe⟩:∃K,K=(if d=0 then 0 else qY (d - 1)):=⟨_,rfl⟩
 obtain⟨M,hMe⟩:∃M,M=(if d=0 then 0 else kV (d - 1)):=⟨_,rfl⟩
 have hml:=hML.out
 rw [<-hKe, <-hMe] at hml
 have hKK:=hml.1
 have HMM:=qh hml.2
 have hls:1<=d->∀(w:World) (a n N:Nat) (ni:Int),ni=n->xR W0 w g lv a->n<=N->N<=10->a+N*K<=1000000->Calls Tryz.prog 57 #[.pointer (some ⟨g,0,none⟩), .int .i64 ni, .int .i64 ((d:Int) - 1), .int .i64 vars, .int .i64 dom, .slice (some ⟨kb,ko,none⟩) kn kc] w (λe w'=>∃(L:List zq) (va:Option Addr) (vc a':Nat),e= .returned (.slice va L.length vc)/\zX vars dom L d=true/\zM L<=N*M/\
   yA (λk=>k<w.heap.size) w' (λy=>zJ 3 (d+1) y L (.slice va L.length vc))/\xR W0 w' g lv a'/\a'<=a+N*K/\Since (λk=>k=g) w w'):=by
  intro h1 w2 a2 n N ni hni hm hn hN ha2
  have h:=IH.out h1
  rw [if_neg (by omega)] at hKe hMe
  rw [hKe] at ha2
  have:=h w2 a2 n N ni hni hm hn hN ha2
  unfold zf7 at this
  rw [show((d - 1:Nat):Int)=(d:Int) - 1 by omega,show d - 1+1=d by omega,show d - 1+2=d+1 by omega, <-hKe, <-hMe] at this
  exact this
 have HLS:=qh hls
 have HKK:=qh hKK
 clear hls hml hKe hMe hML IH hKK
 have haK:a+20+3*K<=1000000:=by have:=HKK.out;omega
 go_upto_if 71 with fail
 go_cut [71] (λzy2 w'=>∃(L1:List zq) (ya:Option Addr) (yc a6:Nat),a6<=a+16+2*K/\Hid (uI vars dom q d (2*M) L1 10)/\Hid (yA (SF w gb gr) w' (λy=>zu 3 y xa (.slice aa xa.kids.length ac)))/\Hid (yA (SF w gb gr) w' (λy=>zu 3 y xb (.slice ba xb.kids.length bc)))/\Hid (yA (SF w gb gr) w' (λy=>zJ 3 (d+1) y L1 (.slice ya L1.length yc)))/\
  Hid (bB W0 w w' g gb gr lv a6 (stC q reg var xa.kind xa.n xa.op (.slice aa xa.kids.length ac) xb.kind xb.n xb.op (.slice ba xb.kids.length bc) (.slice ya L1.length yc) (.slice none 0 0))))
 case first=>
  by_cases hh:10<=q
  rotate_left
  ·go_wp2_with fail
   go_meet
   case rel=>exact⟨[],none,0,_,by omega,zeZ _ _ _ _ _ _,zo8.out,zo9.out,zhR _ _ _,HL6.out⟩
  have zoA:1<=d:=by
   rcases Nat.eq_zero_or_pos d with h|h
   ·have:=HD9.out h;omega
   exact h
  have hdI:(1:Int)<=(d:Int):=by omega
  have hdJ:(d:Int)<=10:=by omega
  have HQ:=qh hh
  go_wp2_with(first|(go_at_call 57;go_must(refine(HLS.out zoA Y _ (1+r1) 2 (1+(r1:Int)) (by omega) qG.out.zG (by omega) (by omega) (by omega)).mono ?_);rintro en Z ⟨L1,ya,yc,a6,rfl,hok,hN,haw,hmk,ha6,hsi⟩;(have HLZ:=qh (qG.out.call hmk hsi));(have pV:=qh (qG.out.made hsi haw));(have zhT:=qh (vw hsi kJ zvT.out));(have zhU:=qh (vw hsi kJ zvU.out));(have qx:=qh (show uI vars dom q d (2*M) L1 10 from⟨hok,hN,λh=>by have:=HQ.out;omega⟩));clear hmk hsi hok haw hN;(have y3:Z.cell? ⟨gb,11,none⟩=some (.slice none 0 0):=za HLZ.out.box 11);(have f3:=zF HLZ.out.box 11))|(go_at_call 56;go_must(refine(xM.out X6 _ 2 2 rfl HL6.out.zG (by omega) (by omega) (by omega)).mono ?_);rintro en Y ⟨r1,hr1,rfl,hmk,hsi⟩;(have zvQ:(r1:Int)<2:=by omega);(have qG:=qh (HL6.out.call hmk hsi));(have zvT:=qh (vw hsi kJ zo8.out));(have zvU:=qh (vw hsi kJ zo9.out));clear hmk hsi c0))
  go_meet
  case rel=>exact⟨L1,ya,yc,a6,by omega,qx.out,xk 11 _ zhT.out,xk 11 _ zhU.out,xk 11 _ pV.out,HLZ.out.put 11 _⟩
 case rest=>
 obtain⟨L1,ya,yc,a6,ha6,HP1,zhT,zhU,zoB,HL7⟩:=hcut
 clear c0 HL6 zo8 zo9 ha5
 obtain⟨X7,rfl⟩:∃x:World,x=wc:=⟨_,rfl⟩
 have c0:X7.cell? ⟨gb,0,none⟩=some (.int .i64 q):=za HL7.out.box 0
 go_upto_if 85 with fail
 go_cut [85] (λzy3 w'=>∃(L2:List zq) (na:Option Addr) (nc a7:Nat),a7<=a+17+3*K/\Hid (uI vars dom q d M L2 10)/\Hid (q=11->L2= [])/\Hid (yA (SF w gb gr) w' (λy=>zu 3 y xa (.slice aa xa.kids.length ac)))/\Hid (yA (SF w gb gr) w' (λy=>zu 3 y xb (.slice ba xb.kids.length bc)))/\Hid (yA (SF w gb gr) w' (λy=>zJ 3 (d+1) y L1 (.slice ya L1.length yc)))/\Hid (yA (SF w gb gr) w' (λy=>zJ 3 (d+1) y L2 (.slice na L2.length nc)))/\
  Hid (bB W0 w w' g gb gr lv a7 (stC q reg var xa.kind xa.n xa.op (.slice aa xa.kids.length ac) xb.kind xb.n xb.op (.slice ba xb.kids.length bc) (.slice ya L1.length yc) (.slice na L2.length nc))))
 case first=>
  by_cases hh:q=10
  rotate_left
  ·have e10:=vF hh
   clear hh
   go_wp2_with fail
   go_meet
   case rel=>exact⟨[],none,0,_,by omega,zeZ _ _ _ _ _ _,λ_=>rfl,zhT.out,zhU.out,zoB.out,zhR _ _ _,HL7.out⟩
  have zoA:1<=d:=by
   rcases Nat.eq_zero_or_pos d with h|h
   ·have:=HD9.out h;omega
   exact h
  have hdI:(1:Int)<=(d:Int):=by omega
  have hdJ:(d:Int)<=10:=by omega
  subst hh
  go_wp2_with(first|(go_at_call 57;go_must(refine(HLS.out zoA Y _ r1 1 (r1:Int) rfl qG.out.zG (by omega) (by omega) (by omega)).mono ?_);rintro en Z ⟨L2,na,nc,a7,rfl,hok,hN,haw,hmk,ha7,hsi⟩;(have HLZ:=qh (qG.out.call hmk hsi));(have pV:=qh (qG.out.made hsi haw));(have zoC:=qh (vw hsi kJ zvV.out));(have zoD:=qh (vw hsi kJ zvW.out));(have zoE:=qh (vw hsi kJ zvX.out));(have qx:=qh (show uI vars dom 10 d M L2 10 from⟨hok,by omega,λh=>absurd h (by decide)⟩));clear hmk hsi hok haw hN;(have y3:Z.cell? ⟨gb,12,none⟩=some (.slice none 0 0):=za HLZ.out.box 12);(have f3:=zF HLZ.out.box 12))|(go_at_call 56;go_must(refine(xM.out X7 _ 2 2 rfl HL7.out.zG (by omega) (by omega) (by omega)).mono ?_);rintro en Y ⟨r1,hr1,rfl,hmk,hsi⟩;(have qG:=qh (HL7.out.call hmk hsi));(have zvV:=qh (vw hsi kJ zhT.out));(have zvW:=qh (vw hsi kJ zhU.out));(have zvX:=qh (vw hsi kJ zoB.out));clear hmk hsi c0))
  go_meet
  case rel=>exact⟨L2,na,nc,a7,by omega,qx.out,(λh=>absurd h (by decide)),xk 12 _ zoC.out,xk 12 _ zoD.out,xk 12 _ zoE.out,xk 12 _ pV.out,HLZ.out.put 12 _⟩
 case rest=>
 obtain⟨L2,na,nc,a7,ha7,HP2,HP3,zoC,zoD,zoE,zvY,jf⟩:=hcut
 clear c0 HL7 zhT zhU zoB ha6
 obtain⟨X8,rfl⟩:∃x:World,x=wc:=⟨_,rfl⟩
 obtain⟨hmo,hmn⟩:=zm6 (r:=reg) (v:=var) q1 q2 HPR.out HPV.out HPA.out HPB.out HP1.out HP2.out HP3.out
 rw [<-HMM.out] at hmn
 obtain⟨hend,hset⟩:=zk5 (x:= .mk q reg var xa xb L1 L2) (a:=a) jf.out hmo hmn zoC.out zoD.out zoE.out zvY.out (by have:=HKK.out;omega)
 have zS:=qh hend
 have jM:=qh hset
 clear hend hset hmo hmn
 have b0:X8.cell? ⟨gb,0,none⟩=some (.int .i64 q):=za jf.out.box 0
 have b1:X8.cell? ⟨gb,1,none⟩=some (.int .i64 reg):=za jf.out.box 1
 have b2:X8.cell? ⟨gb,2,none⟩=some (.int .i64 var):=za jf.out.box 2
 have b3:X8.cell? ⟨gb,3,none⟩=some (.int .i64 xa.kind):=za jf.out.box 3
 have b4:X8.cell? ⟨gb,4,none⟩=some (.int .i64 xa.n):=za jf.out.box 4
 have b5:X8.cell? ⟨gb,5,none⟩=some (.int .u8 xa.op):=za jf.out.box 5
 have b6:X8.cell? ⟨gb,6,none⟩=some (.slice aa xa.kids.length ac):=za jf.out.box 6
 have b7:X8.cell? ⟨gb,7,none⟩=some (.int .i64 xb.kind):=za jf.out.box 7
 have b8:X8.cell? ⟨gb,8,none⟩=some (.int .i64 xb.n):=za jf.out.box 8
 have b9:X8.cell? ⟨gb,9,none⟩=some (.int .u8 xb.op):=za jf.out.box 9
 have b10:X8.cell? ⟨gb,10,none⟩=some (.slice ba xb.kids.length bc):=za jf.out.box 10
 have b11:X8.cell? ⟨gb,11,none⟩=some (.slice ya L1.length yc):=za jf.out.box 11
 have b12:X8.cell? ⟨gb,12,none⟩=some (.slice na L2.length nc):=za jf.out.box 12
 have z0:X8.cell? ⟨gr,0,none⟩=some (.int .i64 0):=za jf.out.res 0
 have z1:X8.cell? ⟨gr,1,none⟩=some (.int .i64 0):=za jf.out.res 1
 have z2:X8.cell? ⟨gr,2,none⟩=some (.int .i64 0):=za jf.out.res 2
 have z3:X8.cell? ⟨gr,3,none⟩=some (.int .i64 0):=za jf.out.res 3
 have z4:X8.cell? ⟨gr,4,none⟩=some (.int .i64 0):=za jf.out.res 4
 have z5:X8.cell? ⟨gr,5,none⟩=some (.int .u8 0):=za jf.out.res 5
 have z6:X8.cell? ⟨gr,6,none⟩=some (.slice none 0 0):=za jf.out.res 6
 have z7:X8.cell? ⟨gr,7,none⟩=some (.int .i64 0):=za jf.out.res 7
 have z8:X8.cell? ⟨gr,8,none⟩=some (.int .i64 0):=za jf.out.res 8
 have z9:X8.cell? ⟨gr,9,none⟩=some (.int .u8 0):=za jf.out.res 9
 have z10:X8.cell? ⟨gr,10,none⟩=some (.slice none 0 0):=za jf.out.res 10
 have z11:X8.cell? ⟨gr,11,none⟩=some (.slice none 0 0):=za jf.out.res 11
 have z12:X8.cell? ⟨gr,12,none⟩=some (.slice none 0 0):=za jf.out.res 12
 have zf:∀j,X8.frozen? ⟨gr,j,none⟩=false:=λj=>zF jf.out.res j
 go_wp2_with fail
 refine bodyPost_ret (yB rfl _ _ gr 151 _ (0,0) _ rfl jM.out Tryz.underlying151 rfl zm7) rfl ?_
 exact zS.out
theorem zmC:(Tryz.prog.info? 151).map (λi=>(i.zero,i.size,i.bytes))=some (some (.agg #[.int .i64 0, .int .i64 0, .int .i64 0, .int .i64 0, .int .i64 0, .int .u8 0, .slice none 0 0, .int .i64 0, .int .i64 0, .int .u8 0, .slice none 0 0, .slice none 0 0, .slice none 0 0]),13,168):=by kernel_rfl
structure zbD (W0 w X:World) (g:Nat) (lv:Value) (vars dom:Int) (d a i:Nat) (va:Value) (L:List zq) (css:List (List Value)):Prop where
 zG:∃a',xR W0 X g lv a'/\a'<=a+i*qY d
 since:Since (λk=>k=g) w X
 len:L.length=i
 ok:zX vars dom L (d+1)=true
 many:zM L<=i*kV d
 row:xC (λk=>k<w.heap.size\/va.ownBlock=some k) X (zt7 3 (d+1)) 13 w.heap.size 151 va L css
theorem ziF {vars dom:Int} {l r:List zq} {d:Nat} (h1:zX vars dom l d=true) (h2:zX vars dom r d=true):zX vars dom (l++r) d=true:=by
 rw [uR] at h1 h2 ⊢
 intro x hx
 rcases List.mem_append.1 hx with hx|hx
 ·exact h1 x hx
 exact h2 x hx
theorem zbD.push {W0 w X Y Z:World} {g d a i oc xc a':Nat} {lv:Value} {vars dom:Int} {oa xa:Option Addr} {L:List zq} {css:List (List Value)} {x:zq} {ka kb yv nv:Value} {o:Obj} (h:zbD W0 w X g lv vars dom d a i (.slice oa i oc) L css) (hg:g<w.heap.size) (hW:W0.heap.size<=w.heap.size)
  (hok:jD vars dom x (d+1)=true) (hN:kW x<=kV d) (haw:yA (λk=>k<X.heap.size) Y (λy=>zu 3 y x.a ka/\zu 3 y x.b kb/\zJ 3 (d+1) y x.yes yv/\zJ 3 (d+1) y x.no nv)) (hm:xR W0 Y g lv a') (ha:a'<=a+i*qY d+qY d) (hs:Since (λk=>k=g) X Y)
  (h1:Z.ownsRow w.heap.size 151 13 (.slice xa (i+1) xc) (i+1) (css.flatten++x.cells ka kb yv nv)) (h4:Since (λk=>(Value.slice oa i oc).ownBlock=some k) (Y.alloc o) Z) (h5:∀k,(Value.slice xa (i+1) xc).ownBlock=some k->(Value.slice oa i oc).ownBlock=some k\/k=(Y.alloc o).heap.size):
  zbD W0 w Z g lv vars dom d a (i+1) (.slice xa (i+1) xc) (L++ [x]) (css++ [x.cells ka kb yv nv]):=by
 have s1:Since (λk=>(Value.slice oa i oc).ownBlock=some k) Y Z:=((Since.refl _ Y).alloc o).trans h4 (λk hk=> .inl hk)
 have hlt:=λk hk=>h.row.row.lt k hk
 have hrow:=h.row.step (F':=λk=>k<w.heap.size\/(Value.slice oa i oc).ownBlock=some k) hs (λk hk e=>by have:=(hlt k hk).1;omega) (λk hk=> .inl (.inl (by omega))) (λk hk=> .inl hk)
 have hX:=h.since.size
 refine⟨⟨a',hm.since s1 (λk hk=>by have:=(hlt k hk).1;omega),by rw [Nat.add_mul,Nat.one_mul];omega⟩,(h.since.trans hs (λ_ h=> .inl h)).trans s1 (λk hk=> .inr (hlt k hk).1),by simp [h.len],ziF h.ok (by rw [zX,hok,zX];rfl), ?_, ?_⟩
 ·rw [zbE,Nat.add_mul,Nat.one_mul]
  have:=h.many
  simp only [zM];omega
 refine hrow.push s1 (λk hk=> .inl (.inr hk)) (λk hk=> ?_) (λy hy=> ?_) rfl (by rw [h.len];exact h1)
 ·rcases hk with hk|hk
  ·exact .inl (.inl hk)
  rcases h5 k hk with e|e
  ·exact .inl (.inr e)
  exact .inr (by simp at e;omega)
 exact⟨ka,kb,yv,nv,rfl,haw y (hy.mono (λk _ hk=>by rcases hk with hk|hk;omega;have:=(hlt k hk).2;omega))⟩
theorem zk6 {W0 w X:World} {g d a i N oc:Nat} {lv:Value} {vars dom:Int} {oa:Option Addr} {L:List zq} {css:List (List Value)} (h:zbD W0 w X g lv vars dom d a i (.slice oa i oc) L css) (hi:i<=N):zf7 W0 g lv vars dom d N a w (.returned (.slice oa i oc)) X:=by
 obtain⟨a',hm,ha⟩:=h.zG
 have h1:=Nat.mul_le_mul_right (qY d) hi
 have h2:=Nat.mul_le_mul_right (kV d) hi
 have hl:=h.len
 refine⟨L,oa,oc,a',by rw [hl],h.ok,Nat.le_trans h.many h2,λy hy=> ?_,hm,by omega,h.since⟩
 rw [hl]
 exact(h.row.step (F':=λ_=>False) hy (λk hk e=>by have:=(h.row.row.lt k hk).1;omega) (λk hk=> .inl (.inl hk)) (λ_ h=>h.elim)).slice
theorem zh1 (W0:World) (g:Nat) (lv kv:Value) (vars dom:Nat) (d:Nat) (hs:zgf W0 g lv kv vars dom d) (ka:Option Addr) (kn kc:Nat) (hkv:kv= .slice ka kn kc):zdR W0 g lv kv vars dom d:=by
 intro w a n N ni hni hmk hn hN ha
 subst hni
 subst hkv
 have hKN:∀i,i<n->a+i*qY d+qY d<=1000000:=λi hi=>by
  have:=Nat.mul_le_mul_right (qY d) (show i+1<=N by omega)
  rw [Nat.add_mul,Nat.one_mul] at this
  omega
 have hcall:∀(X:World) (i:Nat) (va:Value) (L:List zq) (css:List (List Value)),i<n->zbD W0 w X g lv vars dom d a i va L css->Calls Tryz.prog 78 #[.pointer (some ⟨g,0,none⟩), .int .i64 d, .int .i64 vars, .int .i64 dom, .slice ka kn kc] X λe w'=>∃(x:zq) (ka kb yv nv:Value) (a':Nat),e= .returned (jG x ka kb yv nv)/\jD vars dom x (d+1)=true/\kW x<=kV d/\
   yA (λk=>k<X.heap.size) w' (λy=>zu 3 y x.a ka/\zu 3 y x.b kb/\zJ 3 (d+1) y x.yes yv/\zJ 3 (d+1) y x.no nv)/\xR W0 w' g lv a'/\a'<=a+i*qY d+qY d/\Since (λk=>k=g) X w':=λX i va L css hi hL=>by
  obtain⟨a2,hm,ha2⟩:=hL.zG
  refine(hs X a2 hm (by have:=hKN i hi;omega)).mono ?_
  rintro e w' ⟨x,ka,kb,yv,nv,a',h1,h2,h3,h4,h5,h6,h7⟩
  exact⟨x,ka,kb,yv,nv,a',h1,h2,h3,h4,h5,by omega,h7⟩
 have kJ:=zB hmk.box
 have hlo:=hmk.below.size
 have hL0:zbD W0 w w g lv vars dom d a 0 (.slice none 0 0) [] [] :=⟨⟨a,hmk,by omega⟩,Since.refl _ _,rfl,by rw [zX],by simp [zM],xC.nil _ _ _ _ _ _⟩
 have zb7:=qh hcall
 have HL0:=qh hL0
 clear hcall hL0 hs hmk hKN
 have hnI:n<=10:=by omega
 go_enter Tryz.func57,Tryz.ntmps57
 go_wp2_with fail
 go_loopg [13,14] n (λgg s13 s14 wr=>∃(i:Nat) (oa:Option Addr) (oc:Nat) (L:List zq) (css:List (List Value)),i<=n/\Hid (gg=n - i)/\s13= .slice oa i oc/\s14= .int .i64 i/\Hid (zbD W0 w wr g lv vars dom d a i (.slice oa i oc) L css))
 case atStart=>exact⟨0,none,0, [], [],Nat.zero_le _,rfl,rfl,rfl,HL0.out⟩
 case round=>
 obtain⟨i,oa,oc,L,css,hi,HG,rfl,rfl,HL⟩:=hrel
 by_cases hlt:i<n
 rotate_left
 ·obtain rfl:n=i:=by omega
  go_wp2_with fail
  go_ret
  exact zk6 HL.out hn
 have qQ:(i:Int)<(n:Int):=by omega
 go_wp2_with(first|(at_builtin;go_must(refine jh (Y.alloc (.cells #[.int .i64 x.kind, .int .i64 x.reg, .int .i64 x.var, .int .i64 x.a.kind, .int .i64 x.a.n, .int .u8 x.a.op, .slice aa x.a.kids.length ac, .int .i64 x.b.kind, .int .i64 x.b.n, .int .u8 x.b.op, .slice ba x.b.kids.length bc, .slice ya x.yes.length yc, .slice na x.no.length nc] 151)) rfl _ _ 124 rfl 151 (.agg #[.int .i64 0, .int .i64 0, .int .i64 0, .int .i64 0, .int .i64 0, .int .u8 0, .slice none 0 0, .int .i64 0, .int .i64 0, .int .u8 0, .slice none 0 0, .slice none 0 0, .slice none 0 0]) 13 168 Tryz.underlying124 zmC rfl (by decide) w.heap.size (.slice oa i oc) i (css.flatten) rfl (yS.out.alloc _) ⟨Y.heap.size,0,none⟩ 1 1 [.int .i64 x.kind, .int .i64 x.reg, .int .i64 x.var, .int .i64 x.a.kind, .int .i64 x.a.n, .int .u8 x.a.op, .slice aa x.a.kids.length ac, .int .i64 x.b.kind, .int .i64 x.b.n, .int .u8 x.b.op, .slice ba x.b.kids.length bc, .slice ya x.yes.length yc, .slice na x.no.length nc] rfl rfl (wC _ _ _) (by simp [Value.oneCell']) (by unfold maxLen;omega) (by omega) (by have:=HSY.out.size;simp;omega) ?_);intro ja jc Z e1 e2 e3 e4 e5 e6;have HP:=qh (HL.out.push kJ hlo qx.out.1 qx.out.2.1 qx.out.2.2.1 qx.out.2.2.2.1 qx.out.2.2.2.2.1 qx.out.2.2.2.2.2 e1 e4 e5);clear e1 e2 e3 e4 e5 e6)|(go_at_call 78;go_must(refine(zb7.out wr i _ L css hlt HL.out).mono ?_);rintro en Y ⟨x,xka,xkb,xyv,xnv,a',rfl,h2,h3,h4,h5,h6,h7⟩;(obtain⟨aa,ac,rfl, -⟩:=h4.now.1.slice);(obtain⟨ba,bc,rfl, -⟩:=h4.now.2.1.slice);(obtain⟨ya,yc,rfl, -⟩:=h4.now.2.2.1.slice);(obtain⟨na,nc,rfl, -⟩:=h4.now.2.2.2.slice);(have hrow:=h7.row HL.out.row.row (λk hk e=>by have:=(HL.out.row.row.lt k hk).1;omega));rw [HL.out.len] at hrow;(have yS:=qh hrow);(have HSY:=qh (HL.out.since.trans h7 (λ_ h=> .inl h)));(have qx:=qh (And.intro h2 (And.intro h3 (And.intro h4 (And.intro h5 (And.intro h6 h7))))));clear h2 h3 h4 h5 h6 h7 hrow;simp only [jG,zq.cells]))
 go_roundg (n - (i+1))
 case measure=>rw [HG.out];omega
 case rel=>exact⟨i+1,ja,jc,_,_,by omega,rfl,rfl,by simp,HP.out⟩
