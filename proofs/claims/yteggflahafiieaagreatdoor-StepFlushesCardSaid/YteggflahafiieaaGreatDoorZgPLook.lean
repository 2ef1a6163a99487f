/- Steps. -/
import Derived.LoopIn
import Derived.LoopNIn
import Derived.OwnWalkIn
import Derived.RangeFuncBound
import Derived.RangeFuncNested
import Derived.Shelf.RegionOpen
import Derived.Test.YteggflahafiieaaGreatDoorZgOwnS
import Derived.Test.YteggflahafiieaaGreatDoorZgPSrc
set_option linter.all false
namespace Go.Proofs.YteggflahafiieaaGreatDoor
open Go.RowKit Go.Shelf
set_option maxRecDepth 100000
set_option maxHeartbeats 16000000
attribute [local go_sem] Oper.semAt_some
def upTo {α:Type} (f:Nat->α) (k:Nat):List α:=(List.range k).map f
theorem zb9 {α:Type} (f:Nat->α) (k:Nat):upTo f (k+1)=upTo f k++ [f k] :=by simp [upTo,List.range_succ]
theorem zoL {α:Type} (f:Nat->α) (k:Nat):(upTo f k).length=k:=by simp [upTo]
def kg (l:List zi) (k:Nat):Int × zi:=((l.length:Int) - 1 - (k:Int),l.getD (l.length - 1 - k) default)
theorem zv6 (n l Bs n0 len cap:Nat) (a:Option Addr) (L:List zi) (hlen:len=L.length) (ztn:len<=1000000) (hn:1<=n) (J Jx:List (Int × zi)->World->Prop)
  (hY:∀pre x W,J pre W->pre.length<len->YieldAt Fence.wide (n - 1) Tryz.prog l #[.int .i64 x.1, .agg #[.int .i64 x.2.var, .int .i64 x.2.n]] W λe W'=>
   (e= .returned (.bool true)/\J (pre++ [x]) W'/\Below n0 W W')\/(e= .returned (.bool false)/\Jx (pre++ [x]) W'))
  (W:World) (hBs:W.cell? ⟨Bs,0,none⟩=some (.slice a len cap)) (hBl:Bs<n0) (hc:∀j,j<len->∃b off,a=some ⟨b,off,none⟩/\b<n0/\W.cell? ⟨b,off+j*2,none⟩=some (.int .i64 (L.getD j default).var)/\W.cell? ⟨b,off+j*2+1,none⟩=some (.int .i64 (L.getD j default).n)) (h0:J [] W):
  CallsIn Fence.wide n Tryz.prog 219 #[.func (.yield l) #[] #[], .pointer (some ⟨Bs,0,none⟩)] W λe W'=>(∃v,e= .returned v)/\
   ((∃ys,ys=upTo (kg L) len/\J ys W')\/(∃pre,(∃k,k<=len/\pre=upTo (kg L) k)/\Jx pre W')):=by
 refine callsIn_of_wp Tryz.func219 rfl trivial ?_ rfl
 simp only [Tryz.ntmps219,List.size_toArray,List.length_cons,List.length_nil,Nat.reduceAdd,Nat.reduceSub,Array.replicate_succ,Array.replicate_zero,List.push_toArray,List.append_toArray,List.nil_append,List.cons_append]
 have HLE:=qh hlen
 clear hlen
 gi_wp2
 gi_loopw [3] (λi wr=>∃k:Nat,k<=len/\i= .int .i64 ((len:Int) - 1 - k)/\J (upTo (kg L) k) wr/\Below n0 W wr)
  (λi _=>(intOf i+1).toNat)
 case atStart=>exact⟨0,Nat.zero_le _,by simp,h0,Below.refl _ _⟩
 case round=>
 obtain⟨k,hk,rfl,hJs,hnx⟩:=hrel
 by_cases hlt:k<len
 rotate_left
 ·obtain rfl:len=k:=by omega
  have hz:(len:Int) - 1 - (len:Int)= -1:=by omega
  rw [hz]
  clear hz
  gi_wp2
  go_end0
  exact⟨⟨_,rfl⟩, .inl ⟨_,rfl,hJs⟩⟩
 obtain⟨q,hq⟩:∃q:Nat,q=len - 1 - k:=⟨_,rfl⟩
 have hqi:(len:Int) - 1 - (k:Int)=(q:Int):=by omega
 have hql:q<len:=by omega
 obtain⟨b,off,rfl,hb,f0,f1⟩:=hc q hql
 have e0:=(hnx.cell (p:=⟨b,off+q*2,none⟩) hb).trans f0
 have e1:=(hnx.cell (p:=⟨b,off+q*2+1,none⟩) hb).trans f1
 clear f0 f1
 have eb:=(hnx.cell (p:=⟨Bs,0,none⟩) hBl).trans hBs
 obtain⟨fn,tmps,assign,body,hy,hR⟩:=hY _ (kg L k) wr hJs (by rw [zoL];exact hlt)
 have hbk:kg L k=((q:Int),L.getD q default):=by unfold kg;rw [<-HLE.out,hqi, <-hq]
 rw [hbk] at hy
 dsimp only at hy
 obtain⟨ev,hev⟩:∃ev,ev=(L.getD q default).var:=⟨_,rfl⟩
 obtain⟨en,hen⟩:∃en,en=(L.getD q default).n:=⟨_,rfl⟩
 rw [<-hev] at e0 hy
 rw [<-hen] at e1 hy
 clear hev hen
 rw [hqi]
 have hlI:(q:Int)<(len:Int):=by omega
 have HW1:=qh (show wrap64 ((q:Int) - 1)=(q:Int) - 1 by unfold wrap64;omega)
 have HQI:=qh hqi
 clear hq hqi hbk
 gi_wp2
 refine hR.mono ?_
 rintro e W3 (⟨rfl,hJ3,hk3⟩|⟨rfl,hJx3⟩)
 ·gi_wp2
  go_roundw
  case rel=>exact⟨k+1,by omega,by have:=HQI.out;have:=HW1.out;simp<;>omega,by rw [zb9];exact hJ3,hnx.trans hk3⟩
  case measure=>have:=HQI.out;have:=HW1.out;simp [intOf] <;>omega
 gi_wp2
 refine bodyPost_ret (results_none rfl _ _ _) rfl ?_
 exact⟨⟨_,rfl⟩, .inr ⟨_,⟨k+1,by omega,(zb9 _ _).symm⟩,hJx3⟩⟩
theorem zra (n Bs n0:Nat) (a:Option Addr) (cap:Nat) (L:List zi) (ztn:L.length<=1000000) (hn:1<=n) (w:World) (hBs:Bs<w.heap.size) (hBl:Bs<n0) (hn0:n0<=w.heap.size) (hc:w.cell? ⟨Bs,0,none⟩=some (.slice a L.length cap))
  (hI:∀j,j<L.length->∃b off,a=some ⟨b,off,none⟩/\b<n0/\w.cell? ⟨b,off+j*2,none⟩=some (.int .i64 (L.getD j default).var)/\w.cell? ⟨b,off+j*2+1,none⟩=some (.int .i64 (L.getD j default).n)):
  SeqStopsK Fence.wide n Tryz.prog 219 #[.pointer (some ⟨Bs,0,none⟩)] (λx:Int × zi=> #[Value.int .i64 x.1,Value.agg #[Value.int .i64 x.2.var,Value.int .i64 x.2.n]]) (Below n0) (λys=>ys=upTo (kg L) L.length)
   (λpre=>∃k,k<=L.length/\pre=upTo (kg L) k) L.length w:=λl J Jx W hW _ _ hY h0=>
 zv6 n l Bs n0 L.length cap a L rfl ztn hn J Jx hY W ((hW.cell (p:=⟨Bs,0,none⟩) hBs).trans hc) hBl (λj hj=>by
  obtain⟨b,off,e,hb,f0,f1⟩:=hI j hj
  exact⟨b,off,e,hb,(hW.cell (p:=⟨b,off+j*2,none⟩) (Nat.lt_of_lt_of_le hb hn0)).trans f0,(hW.cell (p:=⟨b,off+j*2+1,none⟩) (Nat.lt_of_lt_of_le hb hn0)).trans f1⟩) h0
theorem zxG (n:Nat) (a:Option Addr) (len cap:Nat) (w:World):
  CallsIn Fence.wide n Tryz.prog 208 #[.slice a len cap] w λe w'=>e= .returned (.func (.func 219) #[] #[.pointer (some ⟨w.heap.size,0,none⟩)])/\w'=w.alloc (.cells #[.slice a len cap] 45):=by
 refine callsIn_of_wp Tryz.func208 rfl trivial ?_ rfl
 simp only [Tryz.ntmps208,List.size_toArray,List.length_cons,List.length_nil,Nat.reduceAdd,Nat.reduceSub,Array.replicate_succ,Array.replicate_zero,List.push_toArray,List.append_toArray,List.nil_append,List.cons_append]
 gi_wp2
 go_ret
 exact⟨rfl,rfl⟩
theorem zom (l:List zi) (v:Int):∀k,k<=l.length->(∀p∈upTo (kg l) k,p.2.var≠v)->kF l v=gU l v (l.length - k):=by
 intro k
 induction k with
 |zero=>intro _ _;rfl
 |succ k ih=>
 intro hk h
 rw [zb9] at h
 rw [ih (by omega) (λp hp=>h p (List.mem_append.2 (.inl hp)))]
 have hne:=h (kg l k) (List.mem_append.2 (.inr (by simp)))
 obtain⟨q,hq⟩:∃q,l.length - k=q+1:=⟨l.length - k - 1,by omega⟩
 have hq2:l.length - (k+1)=q:=by omega
 have hq3:l.length - 1 - k=q:=by omega
 rw [hq,hq2]
 unfold kg at hne
 rw [hq3] at hne
 rw [show gU l v (q+1)=if (l.getD q default).var=v then some (l.getD q default).n else gU l v q from rfl,if_neg hne]
theorem zv7 (l:List zi) (v:Int) (k:Nat) (hk:k<l.length) (h:∀p∈upTo (kg l) k,p.2.var≠v) (hv:(kg l k).2.var=v):kF l v=some (kg l k).2.n:=by
 rw [zom l v k (by omega) h]
 obtain⟨q,hq⟩:∃q,l.length - k=q+1:=⟨l.length - k - 1,by omega⟩
 have hq3:l.length - 1 - k=q:=by omega
 rw [hq]
 unfold kg at hv ⊢
 rw [hq3] at hv ⊢
 rw [show gU l v (q+1)=if (l.getD q default).var=v then some (l.getD q default).n else gU l v q from rfl,if_pos hv]
theorem zsf (w:World) (bv:Value) (l:List zi) (h:zW w bv l) (hl:l.length<=1000000) (v:Int):
  Calls Tryz.prog 174 #[bv, .int .i64 v] w λe w'=>e= .returned (.tuple #[.int .i64 ((kF l v).getD 0), .bool (kF l v).isSome])/\Below w.heap.size w w':=by
 obtain⟨ba,bc,rfl, -⟩:=ze.slice h
 have hI:∀j,j<l.length->∃b off,ba=some ⟨b,off,none⟩/\b<w.heap.size/\w.cell? ⟨b,off+j*2,none⟩=some (.int .i64 (l.getD j default).var)/\w.cell? ⟨b,off+j*2+1,none⟩=some (.int .i64 (l.getD j default).n):=λj hj=>h.part j hj
 refine(callsIn_wide (n:=8)).1 ?_
 refine callsIn_of_wp_marks Tryz.func174 rfl trivial ?_ rfl
 simp only [Tryz.ntmps174,List.size_toArray,List.length_cons,List.length_nil,Nat.reduceAdd,Nat.reduceSub,Array.replicate_succ,Array.replicate_zero,List.push_toArray,List.append_toArray,List.nil_append,List.cons_append]
 have hB:=zaW w (.cells #[.int .i64 v] 3) (.cells #[.int .i64 0] 3) (.cells #[.bool false] 4) (.cells #[.slice ba l.length bc] 45)
 obtain⟨hB0,b0,b1,b2,b3,hsz⟩:=hB
 gi_wp2_with (refine⟨trivial, ?_⟩;gi_at_call 208;refine(zxG (8 - 1) _ _ _ _).mono ?_;rintro e w' ⟨rfl,rfl⟩)
 obtain⟨W0,hW0⟩:∃W0,(((w.alloc (.cells #[.int .i64 v] 3)).alloc (.cells #[.int .i64 0] 3)).alloc (.cells #[.bool false] 4)).alloc (.cells #[.slice ba l.length bc] 45)=W0:=⟨_,rfl⟩
 rw [hW0] at hB0 b0 b1 b2 b3 hsz ⊢
 clear hW0
 refine wpIn_rangeFunc_ownH rfl (by decide) (gf:=219) (lb:= #[.pointer (some ⟨w.heap.size+1+1+1,0,none⟩)]) rfl trivial (enters_of Tryz.func219 (by kernel_rfl) rfl)
  (zra (8 - 1) (w.heap.size+3) (w.heap.size+4) ba bc l hl (by decide) W0 (by omega) (by omega) (by omega) (za b3 0) (λj hj=>by
   obtain⟨b,off,e,hb,f0,f1⟩:=hI j hj
   exact⟨b,off,e,by omega,zh hB0 _ _ f0,zh hB0 _ _ f1⟩)) belowK_t (belowK_b (by omega)) (Below.refl _ _) (λ_=>rfl)
  (λpre W=>((∀p∈pre,p.2.var≠v)/\Boxed W w.heap.size 3 (.int .i64 v)/\Boxed W (w.heap.size+1) 3 (.int .i64 0)/\Boxed W (w.heap.size+2) 4 (.bool false))/\Below (w.heap.size+4) W0 W)
  (λc pre W=>(c= .ret/\∃ini last,pre=ini++ [last] /\(∀p∈ini,p.2.var≠v)/\last.2.var=v/\Boxed W (w.heap.size+1) 3 (.int .i64 last.2.n)/\Boxed W (w.heap.size+2) 4 (.bool true))/\Below w.heap.size w W)
  (OwnFrom.and (λs X Y row hs hg hr=>⟨hs.1,boxed_own _ _ (λ(_:Unit)=>Value.int .i64 v) () X Y row hs.2.1 hg (λr e=>(hr r e).2),boxed_own _ _ (λ(_:Unit)=>Value.int .i64 0) () X Y row hs.2.2.1 hg (λr e=>(hr r e).2),boxed_own _ _ (λ(_:Unit)=>Value.bool false) () X Y row hs.2.2.2 hg (λr e=>(hr r e).2)⟩) (ownFrom_below (by omega) (by omega)))
  (λc=>OwnFrom.and (λs X Y row hs hg hr=>by
   obtain⟨hc,ini,last,e1,e2,e3,e4,e5⟩:=hs
   exact⟨hc,ini,last,e1,e2,e3,boxed_own _ _ (λ(_:Unit)=>Value.int .i64 last.2.n) () X Y row e4 hg (λr e=>(hr r e).2),boxed_own _ _ (λ(_:Unit)=>Value.bool true) () X Y row e5 hg (λr e=>(hr r e).2)⟩) (ownFrom_below (Nat.le_refl _) (by omega)))
  ⟨⟨by simp,b0,b1,b2⟩,(Below.refl _ _)⟩
  (λx a' W=>∃Bx,w.heap.size+3<Bx/\W.heap[Bx]? =some (.cells #[.int .i64 x.2.var, .int .i64 x.2.n] 136 (0,0))/\a'= { tmps:= #[.slice ba l.length bc, .int .i64 v,undef, .pointer (some ⟨w.heap.size,0,none⟩), .pointer (some ⟨w.heap.size+1,0,none⟩), .pointer (some ⟨w.heap.size+1+1,0,none⟩),undef, .pointer (some ⟨Bx,0,none⟩), .slice ba l.length bc, .func (.func 219) #[] #[.pointer (some ⟨w.heap.size+1+1+1,0,none⟩)], .int .i64 x.1, .agg #[.int .i64 x.2.var, .int .i64 x.2.n],undef,undef,undef,undef,undef,undef],defers:= [] })
  (λx a' _ X Y row hs hg hr=>by
   obtain⟨Bx,h1,h2,h3⟩:=hs
   refine⟨Bx,h1, ?_,h3⟩
   refine(hg.block Bx (zq h2) (λe=> ?_)).trans h2
   obtain⟨o,ho,hc⟩:=(hr Bx e.symm).2
   rw [h2] at ho;cases ho;cases hc)
  ?assign ?body ?done ?stop
 case assign=>
  rintro l2 pre x W K ⟨⟨hp,x1,x2,x3⟩,hB1⟩ hK
  gi_wp2
  exact hK _ _ ((KeepsOthers.alloc _ _).from _) ((Below.refl _ W).alloc (by have:=hB1.size;omega) _) ⟨⟨hp,x1.alloc _,x2.alloc _,x3.alloc _⟩,hB1.alloc (by have:=hB1.size;omega) _⟩ ⟨W.heap.size,by have:=x3.lt;have:=hB1.size;omega,yE W _,rfl⟩
 case body=>
  rintro l2 pre x a' W hl2 - ⟨⟨hp,x1,x2,x3⟩,hB1⟩ ⟨Bx,hBx,bX,rfl⟩ hlt
  have d0:W.cell? ⟨Bx,0,none⟩=some (.int .i64 x.2.var):=za bX 0
  have d1:W.cell? ⟨Bx,1,none⟩=some (.int .i64 x.2.n):=za bX 1
  have c1:=x1.cell
  have c2:=x2.cell
  have c3:=x3.cell
  have f2:=x2.frozen
  have f3:=x3.frozen
  gi_wp2
  ·have hx:(x.2.var==v)=true:=by assumption
   have hx2:x.2.var=v:=by simpa using hx
   refine⟨((KeepsOthers.setCell _ _ _).trans (KeepsOthers.setCell _ _ _)).from _,⟨rfl,pre,x,rfl,hp,hx2,(x2.set _).other (by omega) _,(x3.other (by omega) _).set _⟩, ?_⟩
   exact((hB0.trans (hB1.mono (by omega))).setCell (p:=⟨w.heap.size+1,0,none⟩) (by simp) _).setCell (p:=⟨w.heap.size+2,0,none⟩) (by simp) _
  have hx:(x.2.var==v)=false:=by assumption
  have hx2:x.2.var≠v:=by simpa using hx
  exact⟨KeepsFrom.refl _ _,Below.refl _ _,⟨λp hp'=>(List.mem_append.1 hp').elim (hp p) (λe=>by simp at e;subst e;exact hx2),x1,x2,x3⟩,hB1⟩
 case done=>
  rintro D ys W hD rfl ⟨⟨hp,x1,x2,x3⟩,hB1⟩ hK
  have c2:=x2.cell
  have c3:=x3.cell
  have f2:=x2.frozen
  have f3:=x3.frozen
  have hn:kF l v=none:=by rw [zom l v l.length (Nat.le_refl _) hp,Nat.sub_self];rfl
  have HN:=qh hn
  clear hn
  gi_wp2
  have y2:=(x2.set (.int .i64 0)).other (B':=w.heap.size+2) (by omega) (.bool false)
  have y3:=(x3.other (B':=w.heap.size+1) (by omega) (.int .i64 0)).set (.bool false)
  have hK':=((KeepsOthers.setCell W ⟨w.heap.size+1,0,none⟩ (.int .i64 0)).trans (KeepsOthers.setCell _ ⟨w.heap.size+2,0,none⟩ (.bool false))).same D _ hK rfl
  refine⟨by simp, .inl ⟨_,_,rfl,run_takeDeferred hK', ?_⟩⟩
  have hc4:=cell_kept y2.cell (grownBy_putObj' _ D (.deferred none)) (λr e=>by cases e;exact⟨_,hK',rfl⟩)
  have hc5:=cell_kept y3.cell (grownBy_putObj' _ D (.deferred none)) (λr e=>by cases e;exact⟨_,hK',rfl⟩)
  refine⟨.tuple #[.int .i64 0, .bool false], ?_,by rw [HN.out];rfl,(((hB0.trans (hB1.mono (by omega))).setCell (p:=⟨w.heap.size+1,0,none⟩) (by simp) _).setCell (p:=⟨w.heap.size+2,0,none⟩) (by simp) _).trans (belowK_b (w:=w) (Nat.le_refl _) _ D _ _ (by omega) hK' rfl rfl)⟩
  simp [results,Tryz.f174,go_sem,hc4,hc5]
 case stop=>
 rintro D c pre W hD ⟨k,hk,rfl⟩ ⟨⟨rfl,ini,last,e1,e2,e3,x2,x3⟩,hB1⟩ hK
 gi_wp2
 refine⟨by simp, .inl ⟨_,_,rfl,run_takeDeferred hK, ?_⟩⟩
 have hc4:=cell_kept x2.cell (grownBy_putObj' _ D (.deferred none)) (λr e=>by cases e;exact⟨_,hK,rfl⟩)
 have hc5:=cell_kept x3.cell (grownBy_putObj' _ D (.deferred none)) (λr e=>by cases e;exact⟨_,hK,rfl⟩)
 obtain⟨k',rfl⟩:∃k',k=k'+1:=by
  cases k with
  |zero=>simp [upTo] at e1
  |succ k'=>exact⟨k',rfl⟩
 rw [zb9] at e1
 obtain⟨rfl,e5⟩:=List.append_inj' e1 rfl
 obtain rfl:kg l k'=last:=by simpa using e5
 have hn:=zv7 l v k' (by omega) e2 e3
 refine⟨.tuple #[.int .i64 (kg l k').2.n, .bool true], ?_,by rw [hn];rfl,hB1.trans (belowK_b (w:=w) (Nat.le_refl _) W D _ _ (by omega) hK rfl rfl)⟩
 simp [results,Tryz.f174,go_sem,hc4,hc5]
