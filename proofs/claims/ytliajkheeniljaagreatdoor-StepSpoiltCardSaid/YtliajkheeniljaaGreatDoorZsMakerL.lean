/- Programs by numbers: what picks numbers; expressions. Programs by numbers: expressions. Programs by numbers: a statement, its parts' answers given. Programs by numbers: a statement: the walk. Programs by numbers: statements: the walk. -/
import Derived.Deep.RegionLaw
import Derived.IntWalk
import Derived.Test.YtliajkheeniljaaGreatDoorZsExpQ
import Derived.Test.YtliajkheeniljaaGreatDoorZsFits
import Derived.Test.YtliajkheeniljaaGreatDoorZsTreeR
import Derived.Test.YtliajkheeniljaaGreatDoorZsShort
set_option linter.all false
namespace Go.Proofs.YtliajkheeniljaaGreatDoor
open Go.RowKit
set_option maxRecDepth 100000
set_option maxHeartbeats 16000000
structure qJ (W0 X:World) (g:Nat) (lv:Value) (a:Nat):Prop where
 below:Below W0.heap.size W0 X
 lo:W0.heap.size<=g
 box:X.heap[g]? =some (.cells #[lv, .int .i64 a] 132 (0,0))
theorem qJ.later {W0 X Y:World} {g:Nat} {lv:Value} {a:Nat} (h:qJ W0 X g lv a) (hb:Below X.heap.size X Y):qJ W0 Y g lv a:=⟨zF h.below hb,h.lo,(hb.block _ (zw h.box)).trans h.box⟩
theorem qJ.since {W0 X Y:World} {g:Nat} {lv:Value} {a:Nat} {F:Nat->Prop} (h:qJ W0 X g lv a) (hs:Since F X Y) (hF:∀k,F k->W0.heap.size<=k/\k≠g):qJ W0 Y g lv a:=
 ⟨h.below.trans (hs.below h.below.size (fun k hk=>(hF k hk).1)),h.lo,(hs.block _ (zw h.box) (fun e=>(hF _ e).2 rfl)).trans h.box⟩
theorem qJ.take {W0 X:World} {g:Nat} {lv:Value} {a:Nat} (h:qJ W0 X g lv a) (b:Nat):qJ W0 (X.setCell ⟨g,1,none⟩ (.int .i64 b)) g lv b:=by
 refine⟨h.below.trans ((Since.setCell (F:=fun k=>k=g) (p:=⟨g,1,none⟩) (Since.refl _ X) (.inl rfl) _).below h.below.size (fun k hk=>by have:=h.lo;omega)),h.lo, ?_⟩
 have:=zA h.box 1 (.int .i64 b);simpa using this
def zkQ (W0:World) (g:Nat) (lv:Value) (a n:Nat) (w:World) (e:Ending) (w':World):Prop:=∃r:Nat,r<n/\e= .returned (.int .i64 r)/\qJ W0 w' g lv (a+1)/\Since (fun k=>k=g) w w'
theorem zsg (W0 w:World) (g:Nat) (lv:Value) (l:List Int) (a n:Nat) (h:qJ W0 w g lv a) (hn:jg W0 .u8 lv l) (n1:1<=n) (n2:n<=100) (ha:a<=1000000):
  Calls Tryz.prog 77 #[.pointer (some ⟨g,0,none⟩), .int .i64 n] w (zkQ W0 g lv a n w):=by
 obtain⟨la,lc,rfl,hll,hwf,hcell⟩:=hn
 have hst:=h.take (a+1)
 have hsi:Since (fun k=>k=g) w (w.setCell ⟨g,1,none⟩ (.int .i64 ((a+1:Nat):Int))):=Since.setCell (F:=fun k=>k=g) (p:=⟨g,1,none⟩) (Since.refl _ _) (.inl rfl) _
 have hat:w.cell? ⟨g,1,none⟩=some (.int .i64 a):=zi h.box 1
 have hfz:w.frozen? ⟨g,1,none⟩=false:=zB h.box 1
 rw [show((a+1:Nat):Int)=(a:Int)+1 by omega] at hst hsi
 have HS:=qh hst
 have HI:=qh hsi
 clear hst hsi h
 go_enter Tryz.func77,Tryz.ntmps77
 go_upto_region 2 with fail
 generalize hV:World.setCell w _ _=V at HS HI ⊢
 clear hV hat hfz
 have hat:V.cell? ⟨g,1,none⟩=some (.int .i64 ((a:Int)+1)):=by
  have:=zi HS.out.box 1
  simpa using this
 have hlv:V.cell? ⟨g,0,none⟩=some (.slice la l.length lc):=zi HS.out.box 0
 by_cases hc:a<l.length
 rotate_left
 ·have hcl:decide ((l.length:Int)<(a:Int)+1)=true:=by rw [decide_eq_true_iff];omega
  clear hwf hcell
  go_quiet (fail)
  go_wp2_with fail
  go_ret
  exact⟨0,by omega,rfl,HS.out.later (zV (Below.refl _ _) _),Since.drewN _ _ HI.out⟩
 obtain⟨b,off,rfl,hb,hx⟩:=hcell a hc
 have hx2:=(HS.out.below.cell (p:=⟨b,off+a,none⟩) hb).trans hx
 obtain⟨x,hxd⟩:∃x,x=l.getD a 0:=⟨_,rfl⟩
 rw [<-hxd] at hx2
 have hxw:(Lit.int .u8 x).wf=true:=by
  rw [hxd,List.getD_eq_getElem?_getD,List.getElem?_eq_getElem hc]
  exact hwf _ (List.getElem_mem hc)
 have hx0:0<=x:=by simp [Lit.wf,IntKind.min,IntKind.max,IntKind.signed] at hxw;omega
 have hx1:x<=255:=by simp [Lit.wf,IntKind.min,IntKind.max,IntKind.signed,IntKind.bits] at hxw;omega
 have hcl:decide ((l.length:Int)<(a:Int)+1)=false:=by rw [decide_eq_false_iff_not];omega
 have hal:(a:Int)<l.length:=by omega
 clear hx hxd hxw hwf hcell
 go_quiet (fail)
 go_upto_region 4 with fail
 go_quiet (fail)
 go_wp2_with fail
 go_ret
 have hm0:=Int.emod_nonneg x (show(n:Int)≠0 by omega)
 have hm1:=Int.emod_lt_of_pos x (show(0:Int)<(n:Int) by omega)
 refine⟨(x % (n:Int)).toNat, ?_, ?_,HS.out.later (zV (zV (Below.refl _ _) _) _),Since.drewN _ _ (Since.drewN _ _ HI.out)⟩
 ·generalize x % (n:Int)=q at hm0 hm1 ⊢
  omega
 ·show Ending.returned (.int .i64 (x % (n:Int)))=_
  rw [Int.toNat_of_nonneg hm0]
end Go.Proofs.YtliajkheeniljaaGreatDoor
namespace Go.Proofs.YtliajkheeniljaaGreatDoor
open Go.RowKit
set_option maxRecDepth 100000
set_option maxHeartbeats 16000000
theorem zbB:(Tryz.prog.info? 62).map (·.size)=some 4:=by kernel_rfl
theorem zsh (w:World) (n:Int):Calls Tryz.prog 154 #[.int .i64 n] w fun e w'=>e= .returned (.agg #[.int .i64 1, .int .i64 n, .int .u8 0, .slice none 0 0])/\Below w.heap.size w w':=by
 have HB:=qh ((Below.refl w.heap.size w).alloc (Nat.le_refl _) (.cells #[.int .i64 1, .int .i64 n, .int .u8 0, .slice none 0 0] 62))
 have HG:=qh (yD w (.cells #[.int .i64 1, .int .i64 n, .int .u8 0, .slice none 0 0] 62))
 go_enter Tryz.func154,Tryz.ntmps154
 go_wp2_with fail
 refine bodyPost_ret (yV rfl _ _ w.heap.size 62 _ (0,0) _ rfl HG.out Tryz.underlying62 rfl zbB) rfl ?_
 exact⟨rfl,HB.out⟩
def pJ:Nat->Nat
 |0=>2
 |d+1=>2+2*pJ d
def zkR (W0:World) (g:Nat) (lv:Value) (dom:Int) (d a:Nat) (w:World) (e:Ending) (w':World):Prop:=∃(x:zJ) (ka:Option Addr) (kc a':Nat),e= .returned (.agg #[.int .i64 x.kind, .int .i64 x.n, .int .u8 x.op, .slice ka x.kids.length kc])/\zS dom (d+1) x=true/\
 yM (fun k=>k<w.heap.size) w' (fun y=>zC (d+2) y x (.slice ka x.kids.length kc))/\qJ W0 w' g lv a'/\a'<=a+pJ d/\Since (fun k=>k=g) w w'
def zbm (W0:World) (g:Nat) (lv:Value) (dom:Int) (d:Nat):Prop:=∀(w:World) (a:Nat),qJ W0 w g lv a->a+pJ d<=1000000->Calls Tryz.prog 122 #[.pointer (some ⟨g,0,none⟩), .int .i64 d, .int .i64 dom] w (zkR W0 g lv dom d a w)
theorem zgg (n:Nat) (F:Nat->Prop) (X:World) (k m o:Int):yM F X (fun y=>zC (n+1) y (.mk k m o []) (.slice none 0 0)):=fun _ _=>⟨none,0,rfl,by simp [zJ.kids],fun j hj=>by simp [zJ.kids] at hj⟩
theorem zvm (r:Nat) (h:r<(⟨#[43,45,42,60,38,124,61,33]⟩:ByteArray).size):qY (((⟨#[43,45,42,60,38,124,61,33]⟩:ByteArray)[r]'h).toNat:Int)=true:=by
 have h8:r<8:=h
 match r,h8 with
 |0,_=>rfl
 |1,_=>rfl
 |2,_=>rfl
 |3,_=>rfl
 |4,_=>rfl
 |5,_=>rfl
 |6,_=>rfl
 |7,_=>rfl
theorem zcI {W0 w X:World} {g gx d a a' kc:Nat} {lv:Value} {dom:Int} {x:zJ} {ka:Option Addr} (hm:qJ W0 X g lv a') (hs:Since (fun k=>k=g) w X) (hgx:gx=w.heap.size) (hne:gx≠g) (hlo:W0.heap.size<=gx)
  (hx:yM (fun k=>k<w.heap.size\/k=gx) X (fun y=>zC (d+2) y x (.slice ka x.kids.length kc))) (hok:zS dom (d+1) x=true) (ha:a'<=a+pJ d):
  zkR W0 g lv dom d a w (.returned (.agg #[.int .i64 x.kind, .int .i64 x.n, .int .u8 x.op, .slice ka x.kids.length kc])) (zU X gx 0 [.int .i64 x.kind, .int .i64 x.n, .int .u8 x.op, .slice ka x.kids.length kc]):=by
 have s1:=yP (g:=gx) [.int .i64 x.kind, .int .i64 x.n, .int .u8 x.op, .slice ka x.kids.length kc] X 0
 exact⟨x,ka,kc,a',rfl,hok,hx.step s1 (fun k hk=> .inl (.inr hk)) (fun k hk=> .inl (.inl hk)),hm.since s1 (fun k hk=>by subst hk;exact⟨hlo,hne⟩),ha,hs.trans s1 (fun k hk=> .inr (by omega))⟩
theorem zy0 {n g2:Nat} {y:World} {x2 x3:zJ} {k2 k3:Value} {o:Int} {t:TypeId} (h:y.heap[g2]? =some (.cells (x2.cells k2++x3.cells k3).toArray t (0,0))) (h2:zC n y x2 k2) (h3:zC n y x3 k3):zC (n+1) y (.mk 3 0 o [x2,x3]) (.slice (some ⟨g2,0,none⟩) 2 2):=by
 refine⟨_,2,rfl,by simp [zJ.kids],fun j hj=> ?_⟩
 have hj2:j=0\/j=1:=by simp [zJ.kids] at hj;omega
 rcases hj2 with rfl|rfl
 ·refine⟨g2,0,x2.cells k2,rfl,zw h,rfl,fun i hi=> ?_,k2,rfl,h2⟩
  rw [zi h]
  match i,hi with
  |0,_=>rfl
  |1,_=>rfl
  |2,_=>rfl
  |3,_=>rfl
 ·refine⟨g2,0,x3.cells k3,rfl,zw h,rfl,fun i hi=> ?_,k3,rfl,h3⟩
  rw [zi h]
  match i,hi with
  |0,_=>rfl
  |1,_=>rfl
  |2,_=>rfl
  |3,_=>rfl
theorem zsi {n g g2:Nat} {F F1 F2:Nat->Prop} {Y2 Y3 X:World} {x2 x3:zJ} {k2 k3:Value} {o:Int} {t:TypeId} (h2:yM F1 Y2 (fun y=>zC n y x2 k2)) (h3:yM F2 Y3 (fun y=>zC n y x3 k3)) (s2:Since (fun k=>k=g) Y2 X) (s3:Since (fun k=>k=g) Y3 X)
  (hb:X.heap[g2]? =some (.cells (x2.cells k2++x3.cells k3).toArray t (0,0))) (hF1:∀k,F k\/k=g->F1 k) (hF2:∀k,F k\/k=g->F2 k) (hg2:¬F g2):yM F X (fun y=>zC (n+1) y (.mk 3 0 o [x2,x3]) (.slice (some ⟨g2,0,none⟩) 2 2)):=fun y hy=>
 zy0 ((hy.block _ (zw hb) hg2).trans hb) ((h2.step s2 (F':=F) (fun k hk=> .inl (hF1 k (.inr hk))) (fun k hk=> .inl (hF1 k (.inl hk)))) y hy) ((h3.step s3 (F':=F) (fun k hk=> .inl (hF2 k (.inr hk))) (fun k hk=> .inl (hF2 k (.inl hk)))) y hy)
theorem zy1 {dom:Int} {d n:Nat} (h:(n:Int)<dom):zS dom (d+1) (.mk 1 n 0 [])=true:=by
 unfold zS
 simp only [zJ.kind,zJ.n,zJ.op,zJ.kids]
 simp [h]
theorem zy2 {dom:Int} {d n:Nat} (h:n<4):zS dom (d+1) (.mk 2 n 0 [])=true:=by
 have h2:(n:Int)<4:=by omega
 unfold zS
 simp only [zJ.kind,zJ.n,zJ.op,zJ.kids]
 simp [h2]
theorem zy3 {dom o:Int} {d:Nat} {x y:zJ} (ho:qY o=true) (hx:zS dom d x=true) (hy:zS dom d y=true):zS dom (d+1) (.mk 3 0 o [x,y])=true:=by
 unfold zS
 simp only [zJ.kind,zJ.n,zJ.op,zJ.kids]
 simp [ho,hx,hy]
theorem zfa (W0 w:World) (g:Nat) (lv:Value) (l:List Int) (a n:Nat) (ni:Int) (hni:ni=n) (h:qJ W0 w g lv a) (hn:jg W0 .u8 lv l) (n1:1<=n) (n2:n<=100) (ha:a<=1000000):
  Calls Tryz.prog 77 #[.pointer (some ⟨g,0,none⟩), .int .i64 ni] w (zkQ W0 g lv a n w):=by subst hni;exact zsg W0 w g lv l a n h hn n1 n2 ha
theorem zpu (d:Nat) (h1:1<=d) (h2:d<=10):IntKind.i64.wrap ((d:Int) - 1)=(d:Int) - 1:=IntWalk.i64_in _ (by omega)
theorem zjw (W0:World) (g:Nat) (lv:Value) (l:List Int) (hn:jg W0 .u8 lv l) (dom:Nat) (hd1:2<=dom) (hd2:dom<=16) (d:Nat) (hd:d<=10) (ih:1<=d->zbm W0 g lv dom (d - 1)):zbm W0 g lv dom d:=by
 intro w a hmk ha
 have hK:2<=pJ d:=by cases d<;>simp [pJ]
 have hpick:=fun W a n ni hni h n1 n2 ha=>zfa W0 W g lv l a n ni hni h hn n1 n2 ha
 have hbx:=(Below.refl w.heap.size w).alloc (Nat.le_refl _) (.cells #[.int .i64 0, .int .i64 0, .int .u8 0, .slice none 0 0] 62)
 have hm1:=hmk.later hbx
 have hg1:=yD w (.cells #[.int .i64 0, .int .i64 0, .int .u8 0, .slice none 0 0] 62)
 have uh:=zw hmk.box
 have HLO:=qh hmk.below.size
 have qC:=qh hpick
 have xg:=qh hbx
 have HM1:=qh hm1
 have xL:=qh hg1
 have IH:=qh ih
 clear hpick hbx hm1 hg1 ih hmk hn
 go_enter Tryz.func122,Tryz.ntmps122
 go_upto_region 1 with fail
 generalize World.alloc w _=W at xg HM1 xL ⊢
 obtain⟨gx,hgx⟩:∃gx,gx=w.heap.size:=⟨_,rfl⟩
 rw [<-hgx] at xL ⊢
 have yS:=qh hgx
 have zjx:gx≠g:=by omega
 clear hgx uh
 go_upto_region 2 with(go_at_call 77;go_must(refine(qC.out W a 5 5 rfl HM1.out (by omega) (by omega) (by omega)).mono ?_);rintro en V ⟨r,hr,rfl,hmk,hsi⟩;(have bC:=qh hmk);(have HS2:=qh ((kQ (fun k=>k=g) xg.out).trans hsi (fun _ h=> .inl h)));(have HG2:=qh ((hsi.block _ (zw xL.out) (by omega)).trans xL.out));clear hmk hsi HM1 xL xg)
 by_cases hc:r<2\/d=0
 ·have hgv:V.heap.size<=V.heap.size:=Nat.le_refl _
  clear IH
  go_cut [10] (fun s10 w'=>s10= .bool true/\w'=V)
  case first=>
   by_cases hr2:r<2
   ·have zy5:((r:Int))<2:=by omega
    go_wp2_with fail
    go_meet
    case rel=>exact⟨by first|rfl|simp,rfl⟩
   ·obtain rfl:d=0:=by omega
    have zy5:decide ((r:Int)<2)=false:=by rw [decide_eq_false_iff_not];omega
    go_wp2_with fail
    go_meet
    case rel=>exact⟨by first|rfl|simp,rfl⟩
  case rest=>
   obtain⟨rfl,hwv⟩:=hcut
   obtain rfl:V=wc:=hwv.symm
   go_wp2_with(first|(go_at_call 154;go_must(refine(zsh V2 _).mono ?_);rintro en V3 ⟨rfl,hb⟩;(have HM4:=qh (gY.out.later hb));(have HS4:=qh (wJ.out.trans (kQ (fun k=>k=g) hb) (fun _ h=> .inl h)));(have jq:=qh ((hb.block _ (zw jk.out)).trans jk.out));clear hb gY wJ jk;have f0:=zB jq.out 0;have f1:=zB jq.out 1;have f2:=zB jq.out 2;have f3:=zB jq.out 3;have c0:=zi jq.out 0;have c1:=zi jq.out 1;have c2:=zi jq.out 2;have c3:=zi jq.out 3)|(go_at_call 77;go_must(refine(qC.out V _ dom dom rfl bC.out (by omega) (by omega) (by omega)).mono ?_);rintro en V2 ⟨r2,hr2,rfl,hmk,hsi⟩;(have gY:=qh hmk);(have wJ:=qh (HS2.out.trans hsi (fun _ h=> .inl h)));(have jk:=qh ((hsi.block _ (zw HG2.out) (by omega)).trans HG2.out));clear hmk hsi bC HS2 HG2))
   have hend:=zcI (x:= .mk 1 r2 0 []) (d:=d) (dom:=dom) (a:=a) (ka:=none) (kc:=0) HM4.out HS4.out yS.out zjx (by have:=HM4.out.below.size;have:=yS.out;have:=HLO.out;omega) (zgg _ _ _ _ _ _) (zy1 (by omega)) (by omega)
   refine bodyPost_ret (yV rfl _ _ gx 62 _ (0,0) _ rfl (xG (cs:= [.int .i64 0, .int .i64 0, .int .u8 0, .slice none 0 0]) [.int .i64 1, .int .i64 r2, .int .u8 0, .slice none 0 0] rfl jq.out) Tryz.underlying62 rfl zbB) rfl ?_
   exact hend
 have hd1:1<=d:=by omega
 have zy5:decide ((r:Int)<2)=false:=by rw [decide_eq_false_iff_not];omega
 have zIW:decide ((d:Int)<1)=false:=by rw [decide_eq_false_iff_not];omega
 by_cases hr4:r<4
 ·have zAG:(r:Int)<4:=by omega
  clear IH
  go_wp2_with(go_at_call 77;go_must(refine(qC.out V _ 2 2 rfl bC.out (by omega) (by omega) (by omega)).mono ?_);rintro en V4 ⟨r2,hr2,rfl,hmk,hsi⟩;(have HM4:=qh hmk);(have HS4:=qh (HS2.out.trans hsi (fun _ h=> .inl h)));(have jq:=qh ((hsi.block _ (zw HG2.out) (by omega)).trans HG2.out));clear hmk hsi bC HS2 HG2;have f0:=zB jq.out 0;have f1:=zB jq.out 1;have f2:=zB jq.out 2;have f3:=zB jq.out 3;have c0:=zi jq.out 0;have c1:=zi jq.out 1;have c2:=zi jq.out 2;have c3:=zi jq.out 3)
  have hend:=zcI (x:= .mk 2 r2 0 []) (d:=d) (dom:=dom) (a:=a) (ka:=none) (kc:=0) HM4.out HS4.out yS.out zjx (by have:=yS.out;have:=HLO.out;omega) (zgg _ _ _ _ _ _) (zy2 (by omega)) (by omega)
  refine bodyPost_ret (yV rfl _ _ gx 62 _ (0,0) _ rfl (xG (cs:= [.int .i64 0, .int .i64 0, .int .u8 0, .slice none 0 0]) [.int .i64 2, .int .i64 r2, .int .u8 0, .slice none 0 0] rfl jq.out) Tryz.underlying62 rfl zbB) rfl ?_
  exact hend
 have zAG:decide ((r:Int)<4)=false:=by rw [decide_eq_false_iff_not];omega
 have ih:=IH.out hd1
 obtain⟨K,hKd⟩:∃K,K=pJ (d - 1):=⟨_,rfl⟩
 have hK2:pJ d=2+2*K:=by rw [hKd];cases d with|zero=>omega|succ d=>rfl
 unfold zbm at ih
 rw [<-hKd,show((d - 1:Nat):Int)=(d:Int) - 1 by omega] at ih
 have z9O:(1:Int)<=(d:Int):=by omega
 have zIX:(d:Int)<=10:=by omega
 have IH2:=qh ih
 clear ih IH
 go_upto_region 6 with fail
 have hw1:=zpu d hd1 hd
 go_region_law (first|(go_simp;go_at_call 122;(with_reducible refine(IH2.out Y2 _ hm2 (by omega)).mono ?_);rintro en Y3 ⟨x3,ka3,kc3,a3,rfl,zsj,zy6,hm3,ha3,zmU⟩;have hg3:=(zmU.block _ (zw hg2) (by omega)).trans hg2;have hgA:=fun o=>(Below.heap_alloc Y3 o _ (zw hg3)).trans hg3;have c0:=fun o=>zi (hgA o) 0;have c1:=fun o=>zi (hgA o) 1;have c2:=fun o=>zi (hgA o) 2;have c3:=fun o=>zi (hgA o) 3;have f0:=fun o=>zB (hgA o) 0;have f1:=fun o=>zB (hgA o) 1;have f2:=fun o=>zB (hgA o) 2;have f3:=fun o=>zB (hgA o) 3;simp only [List.getElem?_toArray,List.getElem?_cons_zero,List.getElem?_cons_succ] at c0 c1 c2 c3)|(go_simp;go_at_call 122;(with_reducible refine(IH2.out Y1 _ hm1 (by omega)).mono ?_);rintro en Y2 ⟨x2,ka2,kc2,a2,rfl,hok2,zy7,hm2,ha2,zsk⟩;have hg2:=(zsk.block _ (zw hg1) (by omega)).trans hg1)|(go_simp;go_at_call 77;(with_reducible refine(qC.out V.drew _ 8 8 rfl (bC.out.later (Below.refl _ _).drew) (by omega) (by omega) (by omega)).mono ?_);rintro en Y1 ⟨r1,hr1,rfl,hm1,zfb⟩;have hg1:=(zfb.block (w:=V.drew) _ (zw (w:=V) HG2.out) (by omega)).trans HG2.out;have zAH:(r1:Int)<8:=by omega))
 all_goals
  have hsz:r1<(⟨#[43,45,42,60,38,124,61,33]⟩:ByteArray).size:=hr1
  have hsg:=zvm r1 hsz
  have hS2:=zmU.alloc (.cells #[.int .i64 x2.kind, .int .i64 x2.n, .int .u8 x2.op, .slice ka2 x2.kids.length kc2, .int .i64 x3.kind, .int .i64 x3.n, .int .u8 x3.op, .slice ka3 x3.kids.length kc3] 62)
  have hS3:=(Since.refl (fun k=>k=g) Y3).alloc (.cells #[.int .i64 x2.kind, .int .i64 x2.n, .int .u8 x2.op, .slice ka2 x2.kids.length kc2, .int .i64 x3.kind, .int .i64 x3.n, .int .u8 x3.op, .slice ka3 x3.kids.length kc3] 62)
  have hbl:=yD Y3 (.cells #[.int .i64 x2.kind, .int .i64 x2.n, .int .u8 x2.op, .slice ka2 x2.kids.length kc2, .int .i64 x3.kind, .int .i64 x3.n, .int .u8 x3.op, .slice ka3 x3.kids.length kc3] 62)
  have hgl:=zw hm1.box
  have zIY:=zw hg1
  have z8R:=zw hm2.box
  have zGz:=zw hg2
  have zG0:=zw hg3
  have hwl:w.heap.size=gx:=yS.out.symm
  have haw:=zsi (F:=fun k=>k<w.heap.size\/k=gx) (o:=((((⟨#[43,45,42,60,38,124,61,33]⟩:ByteArray)[r1]'hsz).toNat:Nat):Int)) zy7 zy6 hS2 hS3 hbl (fun k hk=>by rcases hk with(hk|hk)|hk<;>omega) (fun k hk=>by rcases hk with(hk|hk)|hk<;>omega) (by omega)
  have hall:Since (fun k=>k=g) w (Y3.alloc (.cells #[.int .i64 x2.kind, .int .i64 x2.n, .int .u8 x2.op, .slice ka2 x2.kids.length kc2, .int .i64 x3.kind, .int .i64 x3.n, .int .u8 x3.op, .slice ka3 x3.kids.length kc3] 62)):=(((HS2.out.trans ((Since.drew _ (Since.refl _ V)).trans zfb (fun _ h=> .inl h)) (fun _ h=> .inl h)).trans zsk (fun _ h=> .inl h)).trans zmU (fun _ h=> .inl h)).alloc _
  have hdd:d - 1+2+1=d+2:=by omega
  have zAI:d - 1+1=d:=by omega
  rw [hdd] at haw
  rw [zAI] at hok2 zsj
  have hend:=zcI (d:=d) (dom:=dom) (a:=a) (hm3.later ((Below.refl _ _).alloc (Nat.le_refl _) _)) hall yS.out zjx (by have:=HLO.out;omega) haw (zy3 hsg hok2 zsj) (by omega)
  have hset:=xG (cs:= [.int .i64 0, .int .i64 0, .int .u8 0, .slice none 0 0]) [.int .i64 3, .int .i64 0, .int .u8 ((((⟨#[43,45,42,60,38,124,61,33]⟩:ByteArray)[r1]'hsz).toNat:Nat):Int), .slice (some ⟨Y3.heap.size,0,none⟩) 2 2] rfl (hgA (.cells #[.int .i64 x2.kind, .int .i64 x2.n, .int .u8 x2.op, .slice ka2 x2.kids.length kc2, .int .i64 x3.kind, .int .i64 x3.n, .int .u8 x3.op, .slice ka3 x3.kids.length kc3] 62))
  have yj:=qh hend
  have zI:=qh hset
  clear hend hset haw hall hS2 hS3 hbl hsg hg1 hg2 hg3 hgA hok2 zsj zy7 zy6 hm1 hm2 hm3 zfb zsk zmU hw1
  go_wp2_with fail
  refine bodyPost_ret (yV rfl _ _ gx 62 _ (0,0) _ rfl zI.out Tryz.underlying62 rfl zbB) rfl ?_
  exact yj.out
theorem zpz (W0:World) (g:Nat) (lv:Value) (l:List Int) (hn:jg W0 .u8 lv l) (dom:Nat) (hd1:2<=dom) (hd2:dom<=16) (d:Nat) (hd:d<=10):zbm W0 g lv dom d:=by
 induction d with
 |zero=>exact zjw W0 g lv l hn dom hd1 hd2 0 (by omega) (fun h=>by omega)
 |succ d ih=>exact zjw W0 g lv l hn dom hd1 hd2 (d+1) hd (fun _=>ih (by omega))
end Go.Proofs.YtliajkheeniljaaGreatDoor
namespace Go.Proofs.YtliajkheeniljaaGreatDoor
open Go.RowKit
set_option maxRecDepth 100000
set_option maxHeartbeats 16000000
def jd:Nat->Nat
 |0=>20
 |d+1=>20+3*jd d
def uG:Nat->Nat
 |0=>1
 |d+1=>1+3*uG d
theorem zku {dom:Int} :∀(d:Nat) (x:zJ),zS dom d x=true->zS dom (d+1) x=true:=by
 intro d
 induction d with
 |zero=>intro x h;cases h
 |succ d ih=>
  intro x h
  unfold zS at h ⊢
  split
  ·rename_i h1;rw [if_pos h1] at h;exact h
  ·rename_i h1;rw [if_neg h1] at h
   split
   ·rename_i h2;rw [if_pos h2] at h;exact h
   ·rename_i h2;rw [if_neg h2] at h
    split
    ·rename_i h3;rw [if_pos h3] at h
     simp only [Bool.and_eq_true] at h ⊢
     exact⟨⟨h.1.1,ih _ h.1.2⟩,ih _ h.2⟩
    ·rename_i h3;rw [if_neg h3] at h;cases h
theorem zh0 {dom:Int} {d e:Nat} {x:zJ} (h:zS dom d x=true) (hl:d<=e):zS dom e x=true:=by
 induction hl with
 |refl=>exact h
 |step _ ih=>exact zku _ _ ih
theorem zp0 {k dom:Int} {x:zJ} (h:kP k=true) (hx:zS dom 2 x=true):uF k x dom=true:=by unfold uF;rw [if_pos h];exact zh0 hx (by omega)
theorem zsl {k dom:Int} (h:kP k=false):uF k default dom=true:=by unfold uF;rw [if_neg (by rw [h];decide)];rfl
theorem zp1 {k dom:Int} {x:zJ} (h:hasB k=true) (hx:zS dom 2 x=true):zaq k x dom=true:=by unfold zaq;rw [if_pos h];exact zh0 hx (by omega)
theorem zsm {k dom:Int} (h:hasB k=false):zaq k default dom=true:=by unfold zaq;rw [if_neg (by rw [h];decide)];rfl
theorem zp2 {k:Int} {r:Nat} (h:gq k=true) (hr:r<2):pG k r=true:=by unfold pG;rw [if_pos h];simp;omega
theorem zsn {k:Int} (h:gq k=false):pG k ((0:Nat):Int)=true:=by unfold pG;rw [if_neg (by rw [h];decide)];rfl
theorem zp3 {k:Int} {v n:Nat} (h:kN k=true) (hr:v<n):gP k v n=true:=by unfold gP;rw [if_pos h];simp;omega
theorem zso {k:Int} {n:Nat} (h:kN k=false):gP k ((0:Nat):Int) n=true:=by unfold gP;rw [if_neg (by rw [h];decide)];rfl
def zgW (W0:World) (g:Nat) (lv:Value) (vars dom:Int) (d N a:Nat) (w:World) (e:Ending) (w':World):Prop:=∃(L:List zH) (va:Option Addr) (vc a':Nat),e= .returned (.slice va L.length vc)/\yX vars dom L (d+1)=true/\yA L<=N*uG d/\
 yM (fun k=>k<w.heap.size) w' (fun y=>yt 3 (d+2) y L (.slice va L.length vc))/\qJ W0 w' g lv a'/\a'<=a+N*jd d/\Since (fun k=>k=g) w w'
def zfc (W0:World) (g:Nat) (lv kv:Value) (vars dom:Int) (d:Nat):Prop:=∀(w:World) (a n N:Nat) (ni:Int),ni=n->qJ W0 w g lv a->n<=N->N<=10->a+N*jd d<=1000000->Calls Tryz.prog 78 #[.pointer (some ⟨g,0,none⟩), .int .i64 ni, .int .i64 d, .int .i64 vars, .int .i64 dom,kv] w (zgW W0 g lv vars dom d N a w)
def zkS (W0:World) (g:Nat) (lv:Value) (vars dom:Int) (d a:Nat) (w:World) (e:Ending) (w':World):Prop:=∃(x:zH) (ka kb yv nv:Value) (a':Nat),e= .returned (wM x ka kb yv nv)/\wB vars dom x (d+1)=true/\uE x<=uG d/\
 yM (fun k=>k<w.heap.size) w' (fun y=>zC 3 y x.a ka/\zC 3 y x.b kb/\yt 3 (d+1) y x.yes yv/\yt 3 (d+1) y x.no nv)/\qJ W0 w' g lv a'/\a'<=a+jd d/\Since (fun k=>k=g) w w'
def zh1 (W0:World) (g:Nat) (lv kv:Value) (vars dom:Int) (d:Nat):Prop:=∀(w:World) (a:Nat),qJ W0 w g lv a->a+jd d<=1000000->Calls Tryz.prog 104 #[.pointer (some ⟨g,0,none⟩), .int .i64 d, .int .i64 vars, .int .i64 dom,kv] w (zkS W0 g lv vars dom d a w)
def zgh:List Value:= [.int .i64 0, .int .i64 0, .int .i64 0, .int .i64 0, .int .i64 0, .int .u8 0, .slice none 0 0, .int .i64 0, .int .i64 0, .int .u8 0, .slice none 0 0, .slice none 0 0, .slice none 0 0]
def stC (k r v ak an ao:Int) (ka:Value) (bk bn bo:Int) (kb yv nv:Value):List Value:= [.int .i64 k, .int .i64 r, .int .i64 v, .int .i64 ak, .int .i64 an, .int .u8 ao,ka, .int .i64 bk, .int .i64 bn, .int .u8 bo,kb,yv,nv]
structure StL (W0 w X:World) (g gb gr:Nat) (lv:Value) (a:Nat) (cs:List Value):Prop where
 yh:qJ W0 X g lv a
 since:Since (fun k=>k=g) w X
 box:X.heap[gb]? =some (.cells cs.toArray 165 (0,0))
 res:X.heap[gr]? =some (.cells zgh.toArray 165 (0,0))
 lo:w.heap.size<=gb/\w.heap.size<=gr/\gb≠gr/\g<w.heap.size/\W0.heap.size<=w.heap.size
section
variable {W0 w X Y:World} {g gb gr:Nat} {lv:Value} {a b:Nat} {cs:List Value}
theorem StL.put (h:StL W0 w X g gb gr lv a cs) (j:Nat) (u:Value):StL W0 w (X.setCell ⟨gb,j,none⟩ u) g gb gr lv a (cs.set j u):=by
 have s:Since (fun k=>k=gb) X (X.setCell ⟨gb,j,none⟩ u):=Since.setCell (F:=fun k=>k=gb) (p:=⟨gb,j,none⟩) (Since.refl _ _) (.inl rfl) _
 have hlo:=h.lo
 refine⟨h.yh.since s (fun k hk=>by omega),h.since.trans s (fun k hk=> .inr (by omega)), ?_,(s.block _ (zw h.res) (by omega)).trans h.res,hlo⟩
 rw [zA h.box j u,List.setIfInBounds_toArray]
theorem StL.call (h:StL W0 w X g gb gr lv a cs) (hm:qJ W0 Y g lv b) (hs:Since (fun k=>k=g) X Y):StL W0 w Y g gb gr lv b cs:=by
 have hlo:=h.lo
 exact⟨hm,h.since.trans hs (fun _ h=> .inl h),(hs.block _ (zw h.box) (by omega)).trans h.box,(hs.block _ (zw h.res) (by omega)).trans h.res,hlo⟩
def SF (w:World) (gb gr k:Nat):Prop:=k<w.heap.size\/k=gb\/k=gr
theorem qd {P:World->Prop} (j:Nat) (u:Value) (hp:yM (SF w gb gr) X P):yM (SF w gb gr) (X.setCell ⟨gb,j,none⟩ u) P:=
 hp.step (G:=fun k=>k=gb) (Since.setCell (F:=fun k=>k=gb) (p:=⟨gb,j,none⟩) (Since.refl _ _) (.inl rfl) _) (fun _ hk=> .inl (.inr (.inl hk))) (fun _ hk=> .inl hk)
theorem ji {P:World->Prop} (hs:Since (fun k=>k=g) X Y) (hg:g<w.heap.size) (hp:yM (SF w gb gr) X P):yM (SF w gb gr) Y P:=
 hp.step hs (fun k hk=> .inl (.inl (by omega))) (fun k hk=> .inl hk)
theorem StL.made {P:World->Prop} (h:StL W0 w X g gb gr lv a cs) (_hs:Since (fun k=>k=g) X Y) (hp:yM (fun k=>k<X.heap.size) Y P):yM (SF w gb gr) Y P:=by
 have h1:=zw h.box
 have h2:=zw h.res
 have h3:=h.since.size
 exact hp.step (Since.refl (fun _=>False) Y) (fun _ h=>h.elim) (fun k hk=>by rcases hk with hk|hk|hk<;>(left;omega))
end
theorem zmV {W0 w X:World} {g gb gr:Nat} {lv:Value} {a a' d:Nat} {vars dom:Int} {x:zH} {ka kb yv nv:Value} (h:StL W0 w X g gb gr lv a' (x.cells ka kb yv nv)) (hok:wB vars dom x (d+1)=true) (hN:uE x<=uG d) (h1:yM (SF w gb gr) X (fun y=>zC 3 y x.a ka)) (h2:yM (SF w gb gr) X (fun y=>zC 3 y x.b kb))
  (h3:yM (SF w gb gr) X (fun y=>yt 3 (d+1) y x.yes yv)) (h4:yM (SF w gb gr) X (fun y=>yt 3 (d+1) y x.no nv)) (ha:a'<=a+jd d):
  zkS W0 g lv vars dom d a w (.returned (wM x ka kb yv nv)) (zU X gr 0 (x.cells ka kb yv nv))/\(zU X gr 0 (x.cells ka kb yv nv)).heap[gr]? =some (.cells (x.cells ka kb yv nv).toArray 165 (0,0)):=by
 have hlo:=h.lo
 have s:=yP (g:=gr) (x.cells ka kb yv nv) X 0
 have hall:∀ {P:World->Prop},yM (SF w gb gr) X P->yM (fun k=>k<w.heap.size) (zU X gr 0 (x.cells ka kb yv nv)) P:=fun hp=>hp.step s (fun k hk=> .inl (.inr (.inr hk))) (fun k hk=> .inl (.inl hk))
 exact⟨⟨x,ka,kb,yv,nv,a',rfl,hok,hN,fun y hy=>⟨hall h1 y hy,hall h2 y hy,hall h3 y hy,hall h4 y hy⟩,h.yh.since s (fun k hk=>by omega),ha,h.since.trans s (fun k hk=> .inr (by omega))⟩,xG (cs:=zgh) _ rfl h.res⟩
def zad (vars dom k:Int) (d M:Nat) (l:List zH) (least:Int):Prop:=yX vars dom l d=true/\yA l<=M/\(k<least->l= [])
theorem zgi (vars dom k:Int) (d M:Nat) (least:Int):zad vars dom k d M [] least:=⟨by rw [yX],Nat.zero_le _,fun _=>rfl⟩
theorem zp4 {vars dom k r v:Int} {a b:zJ} {yes no:List zH} {d M:Nat} (k1:1<=k) (k2:k<=11) (hr:pG k r=true) (hv:gP k v vars=true) (ha:uF k a dom=true) (hb:zaq k b dom=true) (hy:zad vars dom k d (2*M) yes 10) (hn:zad vars dom k d M no 10) (hn2:k=11->no= []):
  wB vars dom (.mk k r v a b yes no) (d+1)=true/\uE (.mk k r v a b yes no)<=1+3*M:=by
 constructor
 ·unfold wB zdC qP
  simp only [Bool.and_eq_true,Bool.or_eq_true,decide_eq_true_eq,Nat.add_sub_cancel]
  refine⟨⟨⟨by omega,⟨⟨k1,k2⟩,⟨⟨hr,hv⟩,ha⟩,hb⟩, ?_⟩,hy.1⟩,hn.1⟩
  by_cases h10:k=10
  ·exact .inl h10
  ·by_cases h11:k=11
   ·exact .inr ⟨by rw [hn2 h11];rfl, .inl h11⟩
   ·exact .inr ⟨by rw [hn.2.2 (by omega)];rfl, .inr (by rw [hy.2.2 (by omega)];rfl)⟩
 ·rw [uE]
  have:=hy.2.1
  have:=hn.2.1
  omega
theorem zh3 (F:Nat->Prop) (X:World):yM F X (fun y=>zC 3 y default (.slice none 0 0)):=fun _ _=>⟨none,0,rfl,by simp [zJ.kids,default],fun j hj=>by simp [zJ.kids,default] at hj⟩
theorem zj1 (F:Nat->Prop) (X:World) (d:Nat):yM F X (fun y=>yt 3 (d+1) y [] (.slice none 0 0)):=fun _ _=>⟨none,0,rfl,by simp,fun j hj=>by simp at hj⟩
end Go.Proofs.YtliajkheeniljaaGreatDoor
namespace Go.Proofs.YtliajkheeniljaaGreatDoor
open Go.RowKit
set_option maxRecDepth 100000
set_option maxHeartbeats 16000000
theorem jr {k j:Int} (h:¬k=j):(k==j)=false:=by rw [beq_eq_false_iff_ne];exact h
theorem zvn {k:Int} (h:¬(k=1\/k=3\/k=6)):gq k=false:=by unfold gq;rw [decide_eq_false_iff_not];exact h
theorem zsp {k:Int} (h:k=1\/k=3\/k=6):gq k=true:=by unfold gq;rw [decide_eq_true_iff];exact h
theorem zvo {k:Int} (h:¬(k=1\/k=2\/k=6\/k=7\/k=8)):kN k=false:=by unfold kN;rw [decide_eq_false_iff_not];exact h
theorem zsq {k:Int} (h:k=1\/k=2\/k=6\/k=7\/k=8):kN k=true:=by unfold kN;rw [decide_eq_true_iff];exact h
theorem zvp {k:Int} (h:¬(k=2\/k=3\/k=6\/k=9\/k=10\/k=11)):kP k=false:=by unfold kP;rw [decide_eq_false_iff_not];exact h
theorem zsr {k:Int} (h:k=2\/k=3\/k=6\/k=9\/k=10\/k=11):kP k=true:=by unfold kP;rw [decide_eq_true_iff];exact h
theorem zvq {k:Int} (h:¬k=6):hasB k=false:=by unfold hasB;rw [decide_eq_false_iff_not];exact h
theorem zss {k:Int} (h:k=6):hasB k=true:=by unfold hasB;rw [decide_eq_true_iff];exact h
theorem zp5:(Tryz.prog.info? 165).map (·.size)=some 13:=by kernel_rfl
theorem zj2 (W0:World) (g:Nat) (lv:Value) (l:List Int) (hn:jg W0 .u8 lv l) (kv:Value) (ks:List Int) (hks:xJ W0 kv ks) (hk1:1<=ks.length) (hk2:ks.length<=100) (hk3:∀k∈ks,1<=k/\k<=11) (vars dom:Nat) (hv1:1<=vars) (hv2:vars<=10) (hd1:2<=dom) (hd2:dom<=16) (d:Nat) (hd:d<=10)
  (ih:1<=d->zfc W0 g lv kv vars dom (d - 1)):zh1 W0 g lv kv vars dom d:=by
 intro w a hmk ha
 have hK:20<=jd d:=by cases d<;>simp [jd]
 have hpick:=fun W a n ni hni h n1 n2 ha=>zfa W0 W g lv l a n ni hni h hn n1 n2 ha
 have hexpr:=zpz W0 g lv l hn dom hd1 hd2 1 (by omega)
 unfold zbm at hexpr
 rw [show pJ 1=6 from rfl,show((1:Nat):Int)=1 from rfl] at hexpr
 obtain⟨ka,kc,rfl, -⟩:=zk.slice hks
 obtain⟨kn,hkn⟩:∃n,n=ks.length:=⟨_,rfl⟩
 rw [<-hkn] at hks hk1 hk2 ih ⊢
 have zuh:∀r,r<kn->1<=ks.getD r 0/\ks.getD r 0<=11:=fun r hr=>hk3 _ (vG (by omega))
 have hbx:=(Below.refl w.heap.size w).alloc (Nat.le_refl _) (.cells zgh.toArray 165)
 have hm1:=hmk.later hbx
 have hg1:=yD w (.cells zgh.toArray 165)
 have uh:=zw hmk.box
 have hlo:=hmk.below.size
 have qC:=qh hpick
 have zui:=qh hexpr
 have HKS:=qh hks
 have HKN:=qh hkn
 have z3u:=qh zuh
 have xg:=qh hbx
 have HM1:=qh hm1
 have xL:=qh hg1
 have IH:=qh ih
 clear hpick hexpr hks hkn zuh hbx hm1 hg1 ih hmk hn hk3
 go_enter Tryz.func104,Tryz.ntmps104
 go_upto_region 1 with fail
 unfold zgh at xg HM1 xL
 generalize World.alloc w _=W at xg HM1 xL ⊢
 obtain⟨gr,hgr⟩:∃gr,gr=w.heap.size:=⟨_,rfl⟩
 rw [<-hgr] at xL ⊢
 have wK:=qh hgr
 have zjx:gr≠g:=by omega
 clear hgr
 go_upto_region 2 with(go_at_call 77;go_must(refine(qC.out W a kn kn rfl HM1.out hk1 hk2 (by omega)).mono ?_);rintro en V ⟨r,hr,rfl,hmk,hsi⟩;(have hrI:(r:Int)<(kn:Int):=by omega);(obtain⟨kb,ko,hka,hkb,hkc⟩:=xJ.part HKS.out r (by rw [<-HKN.out];exact hr));subst hka;(have zy8:=(hmk.below.cell (p:=⟨kb,ko+r,none⟩) hkb).trans hkc);(obtain⟨k1,k2⟩:=z3u.out r hr);generalize ks.getD r 0=k at hkc zy8 k1 k2;(have bC:=qh hmk);(have HS2:=qh ((kQ (fun k=>k=g) xg.out).trans hsi (fun _ h=> .inl h)));(have HG2:=qh ((hsi.block _ (zw xL.out) (by omega)).trans xL.out));clear hmk hsi HM1 xL xg hkb hkc)
 have hL:StL W0 w (V.alloc (.cells #[.int .i64 k, .int .i64 0, .int .i64 0, .int .i64 0, .int .i64 0, .int .u8 0, .slice none 0 0, .int .i64 0, .int .i64 0, .int .u8 0, .slice none 0 0, .slice none 0 0, .slice none 0 0] 165)) g V.heap.size gr lv (a+1) (stC k (0:Nat) (0:Nat) 0 0 0 (.slice none 0 0) 0 0 0 (.slice none 0 0) (.slice none 0 0) (.slice none 0 0)):=by
  have h1:=zw HG2.out
  have h2:=wK.out
  have h3:=HS2.out.size
  exact⟨bC.out.later ((Below.refl _ _).alloc (Nat.le_refl _) _),HS2.out.alloc _,yD _ _,(Below.heap_alloc _ _ _ h1).trans HG2.out,⟨h3,by omega,by omega,uh,hlo⟩⟩
 have hML:Hid (jd d=20+3*(if d=0 then 0 else jd (d - 1))/\uG d=1+3*(if d=0 then 0 else uG (d - 1))):=by
  cases d with
  |zero=>exact⟨rfl,rfl⟩
  |succ d=>exact⟨rfl,rfl⟩
 generalize World.alloc V _=X at hL ⊢
 generalize V.heap.size=gb at hL ⊢
 clear bC HS2 HG2 zy8 zjx
 have HL:=qh hL
 clear hL
 have c0:X.cell? ⟨gb,0,none⟩=some (.int .i64 k):=zi HL.out.box 0
 go_cut [26] (fun s26 w'=>∃b:Bool,s26= .bool b/\w'=X/\Hid (b=true->d=0)/\Hid (b=false->d=0->k<=9))
 case first=>
  by_cases hd0:d=0
  ·have hdI:decide ((d:Int)<1)=true:=by rw [decide_eq_true_iff];omega
   have HD0:=qh hd0
   clear hd0
   by_cases h10:10<=k
   ·go_wp2_with fail
    go_meet
    case rel=>exact⟨true,by first|rfl|simp,rfl,fun _=>HD0.out,fun h=>by cases h⟩
   ·go_wp2_with fail
    go_meet
    case rel=>exact⟨false,by first|rfl|simp,rfl,(fun h=>by cases h),fun _ _=>by omega⟩
  ·have hdI:decide ((d:Int)<1)=false:=by rw [decide_eq_false_iff_not];omega
   have HD0:=qh hd0
   clear hd0
   go_wp2_with fail
   go_meet
   case rel=>exact⟨false,by first|rfl|simp,rfl,(fun h=>by cases h),fun _ h=>absurd h HD0.out⟩
 case rest=>
 obtain⟨b,rfl,hwv,HB1,HB2⟩:=hcut
 obtain rfl:X=wc:=hwv.symm
 go_upto_if 26 with fail
 go_cut [26] (fun zIZ w'=>∃k2:Int,1<=k2/\k2<=11/\Hid (d=0->k2<=9)/\Hid (StL W0 w w' g gb gr lv (a+1) (stC k2 (0:Nat) (0:Nat) 0 0 0 (.slice none 0 0) 0 0 0 (.slice none 0 0) (.slice none 0 0) (.slice none 0 0))))
 case first=>
  cases b with
  |true=>
   have f0:=zB HL.out.box 0
   go_wp2_with fail
   go_meet
   case rel=>exact⟨4,by omega,by omega,fun _=>by omega,HL.out.put 0 _⟩
  |false=>
   have HB3:Hid (d=0->k<=9):=HB2.out (by trivial)
   clear HB1 HB2
   go_wp2_with fail
   go_meet
   case rel=>exact⟨k,k1,k2,HB3.out,HL.out⟩
 case rest=>
 obtain⟨q,q1,q2,HD9,HL2⟩:=hcut
 clear c0 HL k1 k2 HB1 HB2
 obtain⟨X2,rfl⟩:∃x:World,x=wc:=⟨_,rfl⟩
 have c0:X2.cell? ⟨gb,0,none⟩=some (.int .i64 q):=zi HL2.out.box 0
 go_upto_block 0 with fail
 go_cut [30] (fun zJa w'=>∃reg a2:Nat,a2<=a+2/\Hid (pG q reg=true)/\Hid (StL W0 w w' g gb gr lv a2 (stC q reg (0:Nat) 0 0 0 (.slice none 0 0) 0 0 0 (.slice none 0 0) (.slice none 0 0) (.slice none 0 0))))
 case first=>
  by_cases hh:q=1\/q=3\/q=6
  rotate_left
  ·have HP:=qh (zsn (zvn hh))
   have e1:=jr (fun h=>hh (.inl h))
   have e3:=jr (fun h=>hh (.inr (.inl h)))
   have e6:=jr (fun h=>hh (.inr (.inr h)))
   clear hh
   go_wp2_with fail
   go_meet
   case rel=>exact⟨0,_,by omega,HP.out,HL2.out⟩
  have hp:∀r2:Nat,r2<2->pG q r2=true:=fun r2 h=>zp2 (zsp hh) h
  have HP:=qh hp
  clear hp
  rcases hh with rfl|rfl|rfl
  all_goals
   go_wp2_with(go_at_call 77;go_must(refine(qC.out X2 _ 2 2 rfl HL2.out.yh (by omega) (by omega) (by omega)).mono ?_);rintro en Y ⟨r2,hr2,rfl,hmk,hsi⟩;(have qD:=qh (HL2.out.call hmk hsi));clear hmk hsi c0;(have y1:Y.cell? ⟨gb,1,none⟩=some (.int .i64 (0:Nat)):=zi qD.out.box 1);(have f1:=zB qD.out.box 1))
   go_meet
   case rel=>exact⟨r2,_,by omega,HP.out r2 hr2,qD.out.put 1 _⟩
 case rest=>
 obtain⟨reg,a2,ha2,HPR,HL3⟩:=hcut
 clear c0 HL2
 obtain⟨X3,rfl⟩:∃x:World,x=wc:=⟨_,rfl⟩
 have c0:X3.cell? ⟨gb,0,none⟩=some (.int .i64 q):=zi HL3.out.box 0
 go_upto_block 1 with fail
 go_cut [39] (fun zJb w'=>∃var a3:Nat,a3<=a+3/\Hid (gP q var vars=true)/\Hid (StL W0 w w' g gb gr lv a3 (stC q reg var 0 0 0 (.slice none 0 0) 0 0 0 (.slice none 0 0) (.slice none 0 0) (.slice none 0 0))))
 case first=>
  by_cases hh:q=1\/q=2\/q=6\/q=7\/q=8
  ·have hp:∀r2:Nat,r2<vars->gP q r2 vars=true:=fun r2 h=>zp3 (zsq hh) h
   have HP:=qh hp
   clear hp
   rcases hh with rfl|rfl|rfl|rfl|rfl
   all_goals
    go_wp2_with(go_at_call 77;go_must(refine(qC.out X3 _ vars vars rfl HL3.out.yh (by omega) (by omega) (by omega)).mono ?_);rintro en Y ⟨r2,hr2,rfl,hmk,hsi⟩;(have qD:=qh (HL3.out.call hmk hsi));clear hmk hsi c0;(have y1:Y.cell? ⟨gb,2,none⟩=some (.int .i64 (0:Nat)):=zi qD.out.box 2);(have f1:=zB qD.out.box 2))
    go_meet
    case rel=>exact⟨r2,_,by omega,HP.out r2 hr2,qD.out.put 2 _⟩
  have HP:=qh (zso (n:=vars) (zvo hh))
  have e1:=jr (fun h=>hh (.inl h))
  have e2:=jr (fun h=>hh (.inr (.inl h)))
  have e6:=jr (fun h=>hh (.inr (.inr (.inl h))))
  have e7:=jr (fun h=>hh (.inr (.inr (.inr (.inl h)))))
  have e8:=jr (fun h=>hh (.inr (.inr (.inr (.inr h)))))
  clear hh
  go_wp2_with fail
  go_meet
  case rel=>exact⟨0,_,by omega,HP.out,HL3.out⟩
 case rest=>
 obtain⟨var,a3,ha3,HPV,HL4⟩:=hcut
 clear c0 HL3 ha2
 obtain⟨X4,rfl⟩:∃x:World,x=wc:=⟨_,rfl⟩
 have c0:X4.cell? ⟨gb,0,none⟩=some (.int .i64 q):=zi HL4.out.box 0
 go_upto_block 2 with fail
 go_cut [51] (fun zJc w'=>∃(xa:zJ) (aa:Option Addr) (ac a4:Nat),a4<=a+9/\Hid (uF q xa dom=true)/\Hid (yM (SF w gb gr) w' (fun y=>zC 3 y xa (.slice aa xa.kids.length ac)))/\Hid (StL W0 w w' g gb gr lv a4 (stC q reg var xa.kind xa.n xa.op (.slice aa xa.kids.length ac) 0 0 0 (.slice none 0 0) (.slice none 0 0) (.slice none 0 0))))
 case first=>
  by_cases hh:q=2\/q=3\/q=6\/q=9\/q=10\/q=11
  ·have hp:∀x,zS dom 2 x=true->uF q x dom=true:=fun x h=>zp0 (zsr hh) h
   have HP:=qh hp
   clear hp
   rcases hh with rfl|rfl|rfl|rfl|rfl|rfl
   all_goals
    go_wp2_with(go_at_call 122;go_must(refine(zui.out X4 _ HL4.out.yh (by omega)).mono ?_);rintro en Y ⟨xa,aa,ac,a4,rfl,hok,haw,hmk,ha4,hsi⟩;(have qD:=qh (HL4.out.call hmk hsi));(have HAW:=qh (HL4.out.made hsi haw));(have vC:=qh hok);clear hmk hsi hok haw c0;(have y3:Y.cell? ⟨gb,3,none⟩=some (.int .i64 0):=zi qD.out.box 3);(have f3:=zB qD.out.box 3);(have y4:Y.cell? ⟨gb,4,none⟩=some (.int .i64 0):=zi qD.out.box 4);(have f4:=zB qD.out.box 4);(have y5:Y.cell? ⟨gb,5,none⟩=some (.int .u8 0):=zi qD.out.box 5);(have f5:=zB qD.out.box 5);(have y6:Y.cell? ⟨gb,6,none⟩=some (.slice none 0 0):=zi qD.out.box 6);(have f6:=zB qD.out.box 6))
    go_meet
    case rel=>exact⟨xa,aa,ac,a4,by simp only [pJ] at ha4;omega,HP.out xa vC.out,qd 6 _ (qd 5 _ (qd 4 _ (qd 3 _ HAW.out))),(((qD.out.put 3 _).put 4 _).put 5 _).put 6 _⟩
  have HP:=qh (zsl (dom:=dom) (zvp hh))
  have e2:=jr (fun h=>hh (.inl h))
  have e3:=jr (fun h=>hh (.inr (.inl h)))
  have e6:=jr (fun h=>hh (.inr (.inr (.inl h))))
  have e9:=jr (fun h=>hh (.inr (.inr (.inr (.inl h)))))
  have e10:=jr (fun h=>hh (.inr (.inr (.inr (.inr (.inl h))))))
  have e11:=jr (fun h=>hh (.inr (.inr (.inr (.inr (.inr h))))))
  clear hh
  go_wp2_with fail
  go_meet
  case rel=>exact⟨default,none,0,_,by omega,HP.out,zh3 _ _,HL4.out⟩
 case rest=>
 obtain⟨xa,aa,ac,a4,ha4,HPA,HAA,HL5⟩:=hcut
 clear c0 HL4 ha3
 obtain⟨X5,rfl⟩:∃x:World,x=wc:=⟨_,rfl⟩
 have c0:X5.cell? ⟨gb,0,none⟩=some (.int .i64 q):=zi HL5.out.box 0
 go_upto_if 64 with fail
 go_cut [64] (fun zJd w'=>∃(xb:zJ) (ba:Option Addr) (bc a5:Nat),a5<=a+15/\Hid (zaq q xb dom=true)/\Hid (yM (SF w gb gr) w' (fun y=>zC 3 y xa (.slice aa xa.kids.length ac)))/\Hid (yM (SF w gb gr) w' (fun y=>zC 3 y xb (.slice ba xb.kids.length bc)))/\Hid (StL W0 w w' g gb gr lv a5 (stC q reg var xa.kind xa.n xa.op (.slice aa xa.kids.length ac) xb.kind xb.n xb.op (.slice ba xb.kids.length bc) (.slice none 0 0) (.slice none 0 0))))
 case first=>
  by_cases hh:q=6
  rotate_left
  ·have HP:=qh (zsm (dom:=dom) (zvq hh))
   have e6:=jr hh
   clear hh
   go_wp2_with fail
   go_meet
   case rel=>exact⟨default,none,0,_,by omega,HP.out,HAA.out,zh3 _ _,HL5.out⟩
  have hp:∀x,zS dom 2 x=true->zaq q x dom=true:=fun x h=>zp1 (zss hh) h
  have HP:=qh hp
  clear hp
  subst hh
  go_wp2_with(go_at_call 122;go_must(refine(zui.out X5 _ HL5.out.yh (by omega)).mono ?_);rintro en Y ⟨xb,ba,bc,a5,rfl,hok,haw,hmk,ha5,hsi⟩;(have qD:=qh (HL5.out.call hmk hsi));(have HAW:=qh (HL5.out.made hsi haw));(have zAJ:=qh (ji hsi uh HAA.out));(have vC:=qh hok);clear hmk hsi hok haw c0;(have y3:Y.cell? ⟨gb,7,none⟩=some (.int .i64 0):=zi qD.out.box 7);(have f3:=zB qD.out.box 7);(have y4:Y.cell? ⟨gb,8,none⟩=some (.int .i64 0):=zi qD.out.box 8);(have f4:=zB qD.out.box 8);(have y5:Y.cell? ⟨gb,9,none⟩=some (.int .u8 0):=zi qD.out.box 9);(have f5:=zB qD.out.box 9);(have y6:Y.cell? ⟨gb,10,none⟩=some (.slice none 0 0):=zi qD.out.box 10);(have f6:=zB qD.out.box 10))
  go_meet
  case rel=>exact⟨xb,ba,bc,a5,by simp only [pJ] at ha5;omega,HP.out xb vC.out,qd 10 _ (qd 9 _ (qd 8 _ (qd 7 _ zAJ.out))),qd 10 _ (qd 9 _ (qd 8 _ (qd 7 _ HAW.out))),(((qD.out.put 7 _).put 8 _).put 9 _).put 10 _⟩
 case rest=>
 obtain⟨xb,ba,bc,a5,ha5,HPB,zst,zsu,HL6⟩:=hcut
 clear c0 HL5 HAA ha4
 obtain⟨X6,rfl⟩:∃x:World,x=wc:=⟨_,rfl⟩
 have c0:X6.cell? ⟨gb,0,none⟩=some (.int .i64 q):=zi HL6.out.box 0
 obtain⟨K,hKe⟩:∃K,K=(if d=0 then 0 else jd (d - 1)):=⟨_,rfl⟩
 obtain⟨M,hMe⟩:∃M,M=(if d=0 then 0 else uG (d - 1)):=⟨_,rfl⟩
 have hml:=hML.out
 rw [<-hKe, <-hMe] at hml
 have hKK:=hml.1
 have HMM:=qh hml.2
 have hls:1<=d->∀(w:World) (a n N:Nat) (ni:Int),ni=n->qJ W0 w g lv a->n<=N->N<=10->a+N*K<=1000000->Calls Tryz.prog 78 #[.pointer (some ⟨g,0,none⟩), .int .i64 ni, .int .i64 ((d:Int) - 1), .int .i64 vars, .int .i64 dom, .slice (some ⟨kb,ko,none⟩) kn kc] w (fun e w'=>∃(L:List zH) (va:Option Addr) (vc a':Nat),e= .returned (.slice va L.length vc)/\yX vars dom L d=true/\yA L<=N*M/\
   yM (fun k=>k<w.heap.size) w' (fun y=>yt 3 (d+1) y L (.slice va L.length vc))/\qJ W0 w' g lv a'/\a'<=a+N*K/\Since (fun k=>k=g) w w'):=by
  intro h1 w2 a2 n N ni hni hm hn hN ha2
  have h:=IH.out h1
  rw [if_neg (by omega)] at hKe hMe
  rw [hKe] at ha2
  have:=h w2 a2 n N ni hni hm hn hN ha2
  unfold zgW at this
  rw [show((d - 1:Nat):Int)=(d:Int) - 1 by omega,show d - 1+1=d by omega,show d - 1+2=d+1 by omega, <-hKe, <-hMe] at this
  exact this
 have HLS:=qh hls
 have HKK:=qh hKK
 clear hls hml hKe hMe hML IH hKK
 have haK:a+20+3*K<=1000000:=by have:=HKK.out;omega
 go_upto_if 71 with fail
 go_cut [71] (fun zJe w'=>∃(L1:List zH) (ya:Option Addr) (yc a6:Nat),a6<=a+16+2*K/\Hid (zad vars dom q d (2*M) L1 10)/\Hid (yM (SF w gb gr) w' (fun y=>zC 3 y xa (.slice aa xa.kids.length ac)))/\Hid (yM (SF w gb gr) w' (fun y=>zC 3 y xb (.slice ba xb.kids.length bc)))/\Hid (yM (SF w gb gr) w' (fun y=>yt 3 (d+1) y L1 (.slice ya L1.length yc)))/\
  Hid (StL W0 w w' g gb gr lv a6 (stC q reg var xa.kind xa.n xa.op (.slice aa xa.kids.length ac) xb.kind xb.n xb.op (.slice ba xb.kids.length bc) (.slice ya L1.length yc) (.slice none 0 0))))
 case first=>
  by_cases hh:10<=q
  rotate_left
  ·go_wp2_with fail
   go_meet
   case rel=>exact⟨[],none,0,_,by omega,zgi _ _ _ _ _ _,zst.out,zsu.out,zj1 _ _ _,HL6.out⟩
  have zsv:1<=d:=by
   rcases Nat.eq_zero_or_pos d with h|h
   ·have:=HD9.out h;omega
   ·exact h
  have hdI:(1:Int)<=(d:Int):=by omega
  have hdJ:(d:Int)<=10:=by omega
  have HQ:=qh hh
  go_wp2_with(first|(go_at_call 78;go_must(refine(HLS.out zsv Y _ (1+r1) 2 (1+(r1:Int)) (by omega) qD.out.yh (by omega) (by omega) (by omega)).mono ?_);rintro en Z ⟨L1,ya,yc,a6,rfl,hok,hN,haw,hmk,ha6,hsi⟩;(have HLZ:=qh (qD.out.call hmk hsi));(have HAW:=qh (qD.out.made hsi haw));(have zj3:=qh (ji hsi uh zAK.out));(have zj4:=qh (ji hsi uh zAL.out));(have vC:=qh (show zad vars dom q d (2*M) L1 10 from⟨hok,hN,fun h=>by have:=HQ.out;omega⟩));clear hmk hsi hok haw hN;(have y3:Z.cell? ⟨gb,11,none⟩=some (.slice none 0 0):=zi HLZ.out.box 11);(have f3:=zB HLZ.out.box 11))|(go_at_call 77;go_must(refine(qC.out X6 _ 2 2 rfl HL6.out.yh (by omega) (by omega) (by omega)).mono ?_);rintro en Y ⟨r1,hr1,rfl,hmk,hsi⟩;(have zAH:(r1:Int)<2:=by omega);(have qD:=qh (HL6.out.call hmk hsi));(have zAK:=qh (ji hsi uh zst.out));(have zAL:=qh (ji hsi uh zsu.out));clear hmk hsi c0))
  go_meet
  case rel=>exact⟨L1,ya,yc,a6,by omega,vC.out,qd 11 _ zj3.out,qd 11 _ zj4.out,qd 11 _ HAW.out,HLZ.out.put 11 _⟩
 case rest=>
 obtain⟨L1,ya,yc,a6,ha6,HP1,zj3,zj4,zsw,HL7⟩:=hcut
 clear c0 HL6 zst zsu ha5
 obtain⟨X7,rfl⟩:∃x:World,x=wc:=⟨_,rfl⟩
 have c0:X7.cell? ⟨gb,0,none⟩=some (.int .i64 q):=zi HL7.out.box 0
 go_upto_if 85 with fail
 go_cut [85] (fun zJf w'=>∃(L2:List zH) (na:Option Addr) (nc a7:Nat),a7<=a+17+3*K/\Hid (zad vars dom q d M L2 10)/\Hid (q=11->L2= [])/\Hid (yM (SF w gb gr) w' (fun y=>zC 3 y xa (.slice aa xa.kids.length ac)))/\Hid (yM (SF w gb gr) w' (fun y=>zC 3 y xb (.slice ba xb.kids.length bc)))/\Hid (yM (SF w gb gr) w' (fun y=>yt 3 (d+1) y L1 (.slice ya L1.length yc)))/\Hid (yM (SF w gb gr) w' (fun y=>yt 3 (d+1) y L2 (.slice na L2.length nc)))/\
  Hid (StL W0 w w' g gb gr lv a7 (stC q reg var xa.kind xa.n xa.op (.slice aa xa.kids.length ac) xb.kind xb.n xb.op (.slice ba xb.kids.length bc) (.slice ya L1.length yc) (.slice na L2.length nc))))
 case first=>
  by_cases hh:q=10
  rotate_left
  ·have e10:=jr hh
   clear hh
   go_wp2_with fail
   go_meet
   case rel=>exact⟨[],none,0,_,by omega,zgi _ _ _ _ _ _,fun _=>rfl,zj3.out,zj4.out,zsw.out,zj1 _ _ _,HL7.out⟩
  have zsv:1<=d:=by
   rcases Nat.eq_zero_or_pos d with h|h
   ·have:=HD9.out h;omega
   ·exact h
  have hdI:(1:Int)<=(d:Int):=by omega
  have hdJ:(d:Int)<=10:=by omega
  subst hh
  go_wp2_with(first|(go_at_call 78;go_must(refine(HLS.out zsv Y _ r1 1 (r1:Int) rfl qD.out.yh (by omega) (by omega) (by omega)).mono ?_);rintro en Z ⟨L2,na,nc,a7,rfl,hok,hN,haw,hmk,ha7,hsi⟩;(have HLZ:=qh (qD.out.call hmk hsi));(have HAW:=qh (qD.out.made hsi haw));(have zsx:=qh (ji hsi uh zAM.out));(have zsy:=qh (ji hsi uh zAN.out));(have zsz:=qh (ji hsi uh zAO.out));(have vC:=qh (show zad vars dom 10 d M L2 10 from⟨hok,by omega,fun h=>absurd h (by decide)⟩));clear hmk hsi hok haw hN;(have y3:Z.cell? ⟨gb,12,none⟩=some (.slice none 0 0):=zi HLZ.out.box 12);(have f3:=zB HLZ.out.box 12))|(go_at_call 77;go_must(refine(qC.out X7 _ 2 2 rfl HL7.out.yh (by omega) (by omega) (by omega)).mono ?_);rintro en Y ⟨r1,hr1,rfl,hmk,hsi⟩;(have qD:=qh (HL7.out.call hmk hsi));(have zAM:=qh (ji hsi uh zj3.out));(have zAN:=qh (ji hsi uh zj4.out));(have zAO:=qh (ji hsi uh zsw.out));clear hmk hsi c0))
  go_meet
  case rel=>exact⟨L2,na,nc,a7,by omega,vC.out,(fun h=>absurd h (by decide)),qd 12 _ zsx.out,qd 12 _ zsy.out,qd 12 _ zsz.out,qd 12 _ HAW.out,HLZ.out.put 12 _⟩
 case rest=>
 obtain⟨L2,na,nc,a7,ha7,HP2,HP3,zsx,zsy,zsz,zAP,jQ⟩:=hcut
 clear c0 HL7 zj3 zj4 zsw ha6
 obtain⟨X8,rfl⟩:∃x:World,x=wc:=⟨_,rfl⟩
 obtain⟨hmo,hmn⟩:=zp4 (r:=reg) (v:=var) q1 q2 HPR.out HPV.out HPA.out HPB.out HP1.out HP2.out HP3.out
 rw [<-HMM.out] at hmn
 obtain⟨hend,hset⟩:=zmV (x:= .mk q reg var xa xb L1 L2) (a:=a) jQ.out hmo hmn zsx.out zsy.out zsz.out zAP.out (by have:=HKK.out;omega)
 have yj:=qh hend
 have zI:=qh hset
 clear hend hset hmo hmn
 have b0:X8.cell? ⟨gb,0,none⟩=some (.int .i64 q):=zi jQ.out.box 0
 have b1:X8.cell? ⟨gb,1,none⟩=some (.int .i64 reg):=zi jQ.out.box 1
 have b2:X8.cell? ⟨gb,2,none⟩=some (.int .i64 var):=zi jQ.out.box 2
 have b3:X8.cell? ⟨gb,3,none⟩=some (.int .i64 xa.kind):=zi jQ.out.box 3
 have b4:X8.cell? ⟨gb,4,none⟩=some (.int .i64 xa.n):=zi jQ.out.box 4
 have b5:X8.cell? ⟨gb,5,none⟩=some (.int .u8 xa.op):=zi jQ.out.box 5
 have b6:X8.cell? ⟨gb,6,none⟩=some (.slice aa xa.kids.length ac):=zi jQ.out.box 6
 have b7:X8.cell? ⟨gb,7,none⟩=some (.int .i64 xb.kind):=zi jQ.out.box 7
 have b8:X8.cell? ⟨gb,8,none⟩=some (.int .i64 xb.n):=zi jQ.out.box 8
 have b9:X8.cell? ⟨gb,9,none⟩=some (.int .u8 xb.op):=zi jQ.out.box 9
 have b10:X8.cell? ⟨gb,10,none⟩=some (.slice ba xb.kids.length bc):=zi jQ.out.box 10
 have b11:X8.cell? ⟨gb,11,none⟩=some (.slice ya L1.length yc):=zi jQ.out.box 11
 have b12:X8.cell? ⟨gb,12,none⟩=some (.slice na L2.length nc):=zi jQ.out.box 12
 have z0:X8.cell? ⟨gr,0,none⟩=some (.int .i64 0):=zi jQ.out.res 0
 have z1:X8.cell? ⟨gr,1,none⟩=some (.int .i64 0):=zi jQ.out.res 1
 have z2:X8.cell? ⟨gr,2,none⟩=some (.int .i64 0):=zi jQ.out.res 2
 have z3:X8.cell? ⟨gr,3,none⟩=some (.int .i64 0):=zi jQ.out.res 3
 have z4:X8.cell? ⟨gr,4,none⟩=some (.int .i64 0):=zi jQ.out.res 4
 have z5:X8.cell? ⟨gr,5,none⟩=some (.int .u8 0):=zi jQ.out.res 5
 have z6:X8.cell? ⟨gr,6,none⟩=some (.slice none 0 0):=zi jQ.out.res 6
 have z7:X8.cell? ⟨gr,7,none⟩=some (.int .i64 0):=zi jQ.out.res 7
 have z8:X8.cell? ⟨gr,8,none⟩=some (.int .i64 0):=zi jQ.out.res 8
 have z9:X8.cell? ⟨gr,9,none⟩=some (.int .u8 0):=zi jQ.out.res 9
 have z10:X8.cell? ⟨gr,10,none⟩=some (.slice none 0 0):=zi jQ.out.res 10
 have z11:X8.cell? ⟨gr,11,none⟩=some (.slice none 0 0):=zi jQ.out.res 11
 have z12:X8.cell? ⟨gr,12,none⟩=some (.slice none 0 0):=zi jQ.out.res 12
 have zf:∀j,X8.frozen? ⟨gr,j,none⟩=false:=fun j=>zB jQ.out.res j
 go_wp2_with fail
 refine bodyPost_ret (yV rfl _ _ gr 165 _ (0,0) _ rfl zI.out Tryz.underlying165 rfl zp5) rfl ?_
 exact yj.out
end Go.Proofs.YtliajkheeniljaaGreatDoor
namespace Go.Proofs.YtliajkheeniljaaGreatDoor
open Go.RowKit
set_option maxRecDepth 100000
set_option maxHeartbeats 16000000
theorem zpA:(Tryz.prog.info? 165).map (fun i=>(i.zero,i.size,i.bytes))=some (some (.agg #[.int .i64 0, .int .i64 0, .int .i64 0, .int .i64 0, .int .i64 0, .int .u8 0, .slice none 0 0, .int .i64 0, .int .i64 0, .int .u8 0, .slice none 0 0, .slice none 0 0, .slice none 0 0]),13,168):=by kernel_rfl
structure zcJ (W0 w X:World) (g:Nat) (lv:Value) (vars dom:Int) (d a i:Nat) (va:Value) (L:List zH) (css:List (List Value)):Prop where
 yh:∃a',qJ W0 X g lv a'/\a'<=a+i*jd d
 since:Since (fun k=>k=g) w X
 len:L.length=i
 ok:yX vars dom L (d+1)=true
 many:yA L<=i*uG d
 row:xR (fun k=>k<w.heap.size\/va.ownBlock=some k) X (z3v 3 (d+1)) 13 w.heap.size 165 va L css
theorem zkv {vars dom:Int} {l r:List zH} {d:Nat} (h1:yX vars dom l d=true) (h2:yX vars dom r d=true):yX vars dom (l++r) d=true:=by
 rw [zao] at h1 h2 ⊢
 intro x hx
 rcases List.mem_append.1 hx with hx|hx
 ·exact h1 x hx
 ·exact h2 x hx
theorem zcJ.push {W0 w X Y Z:World} {g d a i oc xc a':Nat} {lv:Value} {vars dom:Int} {oa xa:Option Addr} {L:List zH} {css:List (List Value)} {x:zH} {ka kb yv nv:Value} {o:Obj} (h:zcJ W0 w X g lv vars dom d a i (.slice oa i oc) L css) (hg:g<w.heap.size) (hW:W0.heap.size<=w.heap.size)
  (hok:wB vars dom x (d+1)=true) (hN:uE x<=uG d) (haw:yM (fun k=>k<X.heap.size) Y (fun y=>zC 3 y x.a ka/\zC 3 y x.b kb/\yt 3 (d+1) y x.yes yv/\yt 3 (d+1) y x.no nv)) (hm:qJ W0 Y g lv a') (ha:a'<=a+i*jd d+jd d) (hs:Since (fun k=>k=g) X Y)
  (h1:Z.ownsRow w.heap.size 165 13 (.slice xa (i+1) xc) (i+1) (css.flatten++x.cells ka kb yv nv)) (h4:Since (fun k=>(Value.slice oa i oc).ownBlock=some k) (Y.alloc o) Z) (h5:∀k,(Value.slice xa (i+1) xc).ownBlock=some k->(Value.slice oa i oc).ownBlock=some k\/k=(Y.alloc o).heap.size):
  zcJ W0 w Z g lv vars dom d a (i+1) (.slice xa (i+1) xc) (L++ [x]) (css++ [x.cells ka kb yv nv]):=by
 have s1:Since (fun k=>(Value.slice oa i oc).ownBlock=some k) Y Z:=((Since.refl _ Y).alloc o).trans h4 (fun k hk=> .inl hk)
 have hlt:=fun k hk=>h.row.row.lt k hk
 have hrow:=h.row.step (F':=fun k=>k<w.heap.size\/(Value.slice oa i oc).ownBlock=some k) hs (fun k hk e=>by have:=(hlt k hk).1;omega) (fun k hk=> .inl (.inl (by omega))) (fun k hk=> .inl hk)
 have hX:=h.since.size
 refine⟨⟨a',hm.since s1 (fun k hk=>by have:=(hlt k hk).1;omega),by rw [Nat.add_mul,Nat.one_mul];omega⟩,(h.since.trans hs (fun _ h=> .inl h)).trans s1 (fun k hk=> .inr (hlt k hk).1),by simp [h.len],zkv h.ok (by rw [yX,hok,yX];rfl), ?_, ?_⟩
 ·rw [zcA,Nat.add_mul,Nat.one_mul]
  have:=h.many
  simp only [yA];omega
 ·refine hrow.push s1 (fun k hk=> .inl (.inr hk)) (fun k hk=> ?_) (fun y hy=> ?_) rfl (by rw [h.len];exact h1)
  ·rcases hk with hk|hk
   ·exact .inl (.inl hk)
   ·rcases h5 k hk with e|e
    ·exact .inl (.inr e)
    ·exact .inr (by simp at e;omega)
  ·exact⟨ka,kb,yv,nv,rfl,haw y (hy.mono (fun k _ hk=>by rcases hk with hk|hk;omega;have:=(hlt k hk).2;omega))⟩
theorem zmW {W0 w X:World} {g d a i N oc:Nat} {lv:Value} {vars dom:Int} {oa:Option Addr} {L:List zH} {css:List (List Value)} (h:zcJ W0 w X g lv vars dom d a i (.slice oa i oc) L css) (hi:i<=N):zgW W0 g lv vars dom d N a w (.returned (.slice oa i oc)) X:=by
 obtain⟨a',hm,ha⟩:=h.yh
 have h1:=Nat.mul_le_mul_right (jd d) hi
 have h2:=Nat.mul_le_mul_right (uG d) hi
 have hl:=h.len
 refine⟨L,oa,oc,a',by rw [hl],h.ok,Nat.le_trans h.many h2,fun y hy=> ?_,hm,by omega,h.since⟩
 rw [hl]
 exact(h.row.step (F':=fun _=>False) hy (fun k hk e=>by have:=(h.row.row.lt k hk).1;omega) (fun k hk=> .inl (.inl hk)) (fun _ h=>h.elim)).slice
theorem zj6 (W0:World) (g:Nat) (lv kv:Value) (vars dom:Nat) (d:Nat) (hs:zh1 W0 g lv kv vars dom d) (ka:Option Addr) (kn kc:Nat) (hkv:kv= .slice ka kn kc):zfc W0 g lv kv vars dom d:=by
 intro w a n N ni hni hmk hn hN ha
 subst hni
 subst hkv
 have hKN:∀i,i<n->a+i*jd d+jd d<=1000000:=fun i hi=>by
  have:=Nat.mul_le_mul_right (jd d) (show i+1<=N by omega)
  rw [Nat.add_mul,Nat.one_mul] at this
  omega
 have hcall:∀(X:World) (i:Nat) (va:Value) (L:List zH) (css:List (List Value)),i<n->zcJ W0 w X g lv vars dom d a i va L css->Calls Tryz.prog 104 #[.pointer (some ⟨g,0,none⟩), .int .i64 d, .int .i64 vars, .int .i64 dom, .slice ka kn kc] X fun e w'=>∃(x:zH) (ka kb yv nv:Value) (a':Nat),e= .returned (wM x ka kb yv nv)/\wB vars dom x (d+1)=true/\uE x<=uG d/\
   yM (fun k=>k<X.heap.size) w' (fun y=>zC 3 y x.a ka/\zC 3 y x.b kb/\yt 3 (d+1) y x.yes yv/\yt 3 (d+1) y x.no nv)/\qJ W0 w' g lv a'/\a'<=a+i*jd d+jd d/\Since (fun k=>k=g) X w':=fun X i va L css hi hL=>by
  obtain⟨a2,hm,ha2⟩:=hL.yh
  refine(hs X a2 hm (by have:=hKN i hi;omega)).mono ?_
  rintro e w' ⟨x,ka,kb,yv,nv,a',h1,h2,h3,h4,h5,h6,h7⟩
  exact⟨x,ka,kb,yv,nv,a',h1,h2,h3,h4,h5,by omega,h7⟩
 have uh:=zw hmk.box
 have hlo:=hmk.below.size
 have hL0:zcJ W0 w w g lv vars dom d a 0 (.slice none 0 0) [] [] :=⟨⟨a,hmk,by omega⟩,Since.refl _ _,rfl,by rw [yX],by simp [yA],xR.nil _ _ _ _ _ _⟩
 have z3w:=qh hcall
 have bT:=qh hL0
 clear hcall hL0 hs hmk hKN
 have hnI:n<=10:=by omega
 go_enter Tryz.func78,Tryz.ntmps78
 go_wp2_with fail
 go_loopg [13,14] n (fun gg s13 s14 wr=>∃(i:Nat) (oa:Option Addr) (oc:Nat) (L:List zH) (css:List (List Value)),i<=n/\Hid (gg=n - i)/\s13= .slice oa i oc/\s14= .int .i64 i/\Hid (zcJ W0 w wr g lv vars dom d a i (.slice oa i oc) L css))
 case atStart=>exact⟨0,none,0, [], [],Nat.zero_le _,rfl,rfl,rfl,bT.out⟩
 case round=>
  obtain⟨i,oa,oc,L,css,hi,HG,rfl,rfl,HL⟩:=hrel
  by_cases hlt:i<n
  rotate_left
  ·obtain rfl:n=i:=by omega
   go_wp2_with fail
   go_ret
   exact zmW HL.out hn
  have qQ:(i:Int)<(n:Int):=by omega
  go_wp2_with(first|(at_builtin;go_must(refine yg (Y.alloc (.cells #[.int .i64 x.kind, .int .i64 x.reg, .int .i64 x.var, .int .i64 x.a.kind, .int .i64 x.a.n, .int .u8 x.a.op, .slice aa x.a.kids.length ac, .int .i64 x.b.kind, .int .i64 x.b.n, .int .u8 x.b.op, .slice ba x.b.kids.length bc, .slice ya x.yes.length yc, .slice na x.no.length nc] 165)) rfl _ _ 129 rfl 165 (.agg #[.int .i64 0, .int .i64 0, .int .i64 0, .int .i64 0, .int .i64 0, .int .u8 0, .slice none 0 0, .int .i64 0, .int .i64 0, .int .u8 0, .slice none 0 0, .slice none 0 0, .slice none 0 0]) 13 168 Tryz.underlying129 zpA rfl (by decide) w.heap.size (.slice oa i oc) i (css.flatten) rfl (vO.out.alloc _) ⟨Y.heap.size,0,none⟩ 1 1 [.int .i64 x.kind, .int .i64 x.reg, .int .i64 x.var, .int .i64 x.a.kind, .int .i64 x.a.n, .int .u8 x.a.op, .slice aa x.a.kids.length ac, .int .i64 x.b.kind, .int .i64 x.b.n, .int .u8 x.b.op, .slice ba x.b.kids.length bc, .slice ya x.yes.length yc, .slice na x.no.length nc] rfl rfl (jI _ _ _) (by simp [Value.oneCell']) (by unfold maxLen;omega) (by omega) (by have:=HSY.out.size;simp;omega) ?_);intro ja jc Z e1 e2 e3 e4 e5 e6;have HP:=qh (HL.out.push uh hlo vC.out.1 vC.out.2.1 vC.out.2.2.1 vC.out.2.2.2.1 vC.out.2.2.2.2.1 vC.out.2.2.2.2.2 e1 e4 e5);clear e1 e2 e3 e4 e5 e6)|(go_at_call 104;go_must(refine(z3w.out wr i _ L css hlt HL.out).mono ?_);rintro en Y ⟨x,xka,xkb,xyv,xnv,a',rfl,h2,h3,h4,h5,h6,h7⟩;(obtain⟨aa,ac,rfl, -⟩:=h4.now.1.slice);(obtain⟨ba,bc,rfl, -⟩:=h4.now.2.1.slice);(obtain⟨ya,yc,rfl, -⟩:=h4.now.2.2.1.slice);(obtain⟨na,nc,rfl, -⟩:=h4.now.2.2.2.slice);(have hrow:=h7.row HL.out.row.row (fun k hk e=>by have:=(HL.out.row.row.lt k hk).1;omega));rw [HL.out.len] at hrow;(have vO:=qh hrow);(have HSY:=qh (HL.out.since.trans h7 (fun _ h=> .inl h)));(have vC:=qh (And.intro h2 (And.intro h3 (And.intro h4 (And.intro h5 (And.intro h6 h7))))));clear h2 h3 h4 h5 h6 h7 hrow;simp only [wM,zH.cells]))
  go_roundg (n - (i+1))
  case measure=>rw [HG.out];omega
  case rel=>exact⟨i+1,ja,jc,_,_,by omega,rfl,rfl,by simp,HP.out⟩
end Go.Proofs.YtliajkheeniljaaGreatDoor
