/- Steps. -/
import Derived.Shelf.SlicesQ.Reverse
import Derived.Test.YtnhahkiojbanfaaGreatDoorRyFinMadeP
import Derived.Test.YtnhahkiojbanfaaGreatDoorRyPTry
import Derived.Test.YtnhahkiojbanfaaGreatDoorRySameM0
import Derived.Test.YtnhahkiojbanfaaGreatDoorRyTabAdd
set_option linter.all false
namespace Go.Proofs.YtnhahkiojbanfaaGreatDoor
open Go.RowKit Go.Sort
set_option maxRecDepth 100000
set_option maxHeartbeats 16000000
def znr:Go.Shelf.Ren:=⟨λ|35=>44|n=>n,λ|0=>0|3=>3|4=>4|22=>32|23=>70|n=>n,λn=>n⟩
theorem znX:Go.Proofs.SlLaysE0.n35 Tryz.prog znr:= {
 mixed:=by kernel_rfl,
 f35:=⟨Tryz.f44.name,by decide,Tryz.func44.trans (congrArg some (by kernel_rfl))⟩,
 t0:=Tryz.underlying0,
 a0:=Tryz.isAgg0,
 z0:=Tryz.sizeOf0,
 v0:=Tryz.zeroValue0,
 t3:=Tryz.underlying3,
 a3:=Tryz.isAgg3,
 z3:=Tryz.sizeOf3,
 v3:=Tryz.zeroValue3,
 t4:=Tryz.underlying4,
 a4:=Tryz.isAgg4,
 z4:=Tryz.sizeOf4,
 v4:=Tryz.zeroValue4,
 t22:=Tryz.underlying32,
 a22:=Tryz.isAgg32,
 z22:=Tryz.sizeOf32,
 v22:=Tryz.zeroValue32 }
theorem zxH {w:World} {B g n cap:Nat} {e:TypeId} {size:Nat} {xs:List Value} (h:w.ownsRow B e size (.slice (some ⟨g,0,none⟩) n cap) n xs):B<=g/\∃cur,w.heap[g]? =some (.cells cur e (0,0))/\cur.size=cap*size/\∀j,j<n*size->cur[j]? =xs[j]? :=by
 rcases h.2 with⟨h1, -⟩|⟨g',cap',cur,h1,h2,h3, -, -,h6,h7⟩
 ·cases h1
 cases h1
 refine⟨h2,cur,h3,h6,λj hj=> ?_⟩
 rw [<-h7,List.getElem?_take_of_lt hj]
 simp
theorem zpn {w:World} {g n:Nat} {dk:Array zq} {cur:Array Value} {t:TypeId} (hb:w.heap[g]? =some (.cells cur t (0,0))):
  (putRowK zq.cells 3 (Go.Sort.ahead w n) g 0 dk).heap[g]? =some (.cells (putCells id 0 (flatK zq.cells 3 dk) cur) t (0,0)):=by
 unfold putRowK putRow mapBlock Go.Sort.ahead
 simp only []
 rw [Array.getElem?_modify,if_pos rfl,hb]
 rfl
theorem zpo (w:World) (g n:Nat) (dk:Array zq):Since (λi=>i=g) w (putRowK zq.cells 3 (Go.Sort.ahead w n) g 0 dk):=by
 refine⟨rfl,rfl,rfl, ?_,λi hi hne=> ?_⟩
 ·unfold putRowK putRow mapBlock Go.Sort.ahead
  simp
 unfold putRowK putRow mapBlock Go.Sort.ahead
 simp only []
 rw [Array.getElem?_modify,if_neg (λe=>hne e.symm)]
theorem zgv (l:List zq) (d:Array zq) (hd:d.toList=l) (t:Nat) (ht:t<l.length*3):(zo zq.cells l)[t]? =some ((flatK zq.cells 3 d)[t]!):=by
 have hds:d.size=l.length:=by rw [<-hd];simp
 have hq:t / 3<l.length:=by omega
 have h1:=za0 (f:=zq.cells) (size:=3) bA (l:=l) (j:=t / 3) (i:=t % 3) hq (by omega)
 rw [show t / 3*3+t % 3=t by omega] at h1
 rw [h1,get_flatK zq.cells 3 d t (by rw [hds];exact ht)]
 have hg:d[t / 3]! =l.getD (t / 3) default:=by
  rw [getElem!_pos d _ (by rw [hds];exact hq)]
  subst hd
  simp [List.getD_eq_getElem?_getD,Array.getElem?_eq_getElem (show t / 3<d.size by rw [hds];exact hq)]
 rw [hg,List.getElem?_eq_getElem (by rw [bA];omega),List.getElem!_eq_getElem?_getD,List.getElem?_eq_getElem (by rw [bA];omega)]
 rfl
def zzk (w:World) (B:Nat) (v:Value) (l:List zq) (e:Ending) (w':World):Prop:=e= .returned (.tuple #[])/\w'.ownsRow B 70 3 v l.length (zo zq.cells l.reverse)/\Since (λk=>v.ownBlock=some k) w w'
theorem zns (w:World) (B:Nat) (v:Value) (l:List zq) (hrow:w.ownsRow B 70 3 v l.length (zo zq.cells l)) (hn:l.length<=1000000):
  Calls Tryz.prog 44 #[v] w (zzk w B v l):=by
 rcases Nat.eq_zero_or_pos l.length with h0|h0
 ·have hP:l= [] :=List.eq_nil_of_length_eq_zero h0
  subst hP
  obtain⟨a,cap,rfl, -, -⟩:=xu hrow
  refine Calls.mono (Go.Proofs.AnyQ.slices_Reverse_empty znX a cap w) λe w' ⟨he,hw⟩=> ?_
  subst hw
  exact⟨he,hrow,Since.refl _ _⟩
 obtain⟨g,cap,rfl,hcap,hcm⟩:=uE hrow h0
 obtain⟨hbg,cur,hcb,hcs,hcur⟩:=zxH hrow
 have hH:HoldsK zq.cells 3 w g 0 l.toArray:=by
  intro t ht
  rw [size_flatK,List.size_toArray] at ht
  refine⟨?_,zA hcb _⟩
  rw [Nat.zero_add,ze hcb,hcur t ht,zgv l l.toArray (by simp) t ht]
  rfl
 have hc:=Go.Proofs.AnyQ.slices_Reverse znX 3 Tryz.isAgg70 Tryz.sizeOf70 zq.cells bA (λx u hu=>by
  simp only [zq.cells,List.mem_cons,List.not_mem_nil,or_false] at hu
  rcases hu with rfl|rfl|rfl<;>rfl) g 0 cap l.toArray w hH (by rw [List.size_toArray];omega)
 rw [List.size_toArray] at hc
 refine Calls.mono hc λe w' ⟨he,n,hw⟩=> ?_
 have hblk:=zpn (n:=n) (dk:=l.toArray.reverse) hcb
 rw [<-hw] at hblk
 refine⟨he,⟨by rw [jC bA,List.length_reverse], .inr ⟨g,cap,_,rfl,hbg,hblk,hcap,hcm,by simp [putCells,hcs], ?_⟩⟩, ?_⟩
 ·apply List.ext_getElem?
  intro t
  rw [List.getElem?_take]
  split
  ·rename_i ht
   have h1:=zgv l.reverse l.toArray.reverse (by simp) t (by rw [List.length_reverse];exact ht)
   rw [h1,Array.getElem?_toList]
   unfold putCells
   rw [Array.getElem?_mapIdx,Array.getElem?_eq_getElem (by rw [hcs];have:=Nat.mul_le_mul_right 3 hcap;omega)]
   simp only [Option.map_some]
   rw [if_pos ⟨Nat.zero_le _,by rw [size_flatK];simp;omega⟩,Nat.sub_zero]
   rfl
  rename_i ht
  rw [List.getElem?_eq_none (by rw [jC bA,List.length_reverse];omega)]
 rw [hw]
 exact(zpo w g n _).mono (λk _ hk=>by rw [hk];rfl)
end Go.Proofs.YtnhahkiojbanfaaGreatDoor
namespace Go.Proofs.YtnhahkiojbanfaaGreatDoor
open Go.RowKit
set_option maxRecDepth 100000
set_option maxHeartbeats 16000000
theorem znt (w:World) (S:yV) (t:Int) (z y b:Nat) (ml:List (Int × Value)) (ht:t<=1000000) (hz:Boxed w z 3 (.int .i64 t)) (hy:Boxed w y 128 (.map (some b))) (hm:xL w b ml) (hh:jH ml (qx S S.next.length)):
  Calls Tryz.prog 42 #[.func (.func 67) #[] #[.pointer (some ⟨z,0,none⟩), .pointer (some ⟨y,0,none⟩)]] w (zlB w z (xQ S t.toNat t)):=by
 go_enter Tryz.func42,Tryz.ntmps42
 go_wp2_with(go_at_call 65;go_must(refine(zk5 w S t z y b ml ht hz hy hm hh).mono ?_);rintro e w2 ⟨sv,rfl,h1,h2⟩;(have H1:=qh h1);(have H2:=qh h2);clear h1 h2)
 go_ret
 exact⟨sv,rfl,H1.out,H2.out⟩
def zcx (w:World) (l:List zq) (e:Ending) (w':World):Prop:=∃sv,e= .returned sv/\w'.ownsRow w.heap.size 70 3 sv l.length (zo zq.cells l)/\Below w.heap.size w w'
theorem zpp (w:World) (S:yV) (sv mv nv:Value) (h:kW w S sv mv nv) (hm:S.moves.length=S.states.length) (hn:S.next.length=S.states.length) (i:Nat) (hi:i<S.states.length) (hb:S.states.length<=1000000):
  Calls Tryz.prog 22 #[zb5 sv mv nv, .int .i64 (i:Int)] w (zcx w (xQ S i (i:Int)).reverse):=by
 obtain⟨a1,c1,rfl, -⟩:=zh.slice h.1
 obtain⟨a2,c2,rfl, -⟩:=zh.slice h.2.1
 obtain⟨a3,c3,rfl, -⟩:=zh.slice h.2.2
 have HM:=qh (hm.trans hn.symm)
 have HXL:Hid ((xQ S i (i:Int)).length<=1000000):=by have:=zff S i (i:Int);rw [Hid];omega
 obtain⟨n,hnn⟩:∃n,n=S.states.length:=⟨_,rfl⟩
 rw [hm,hn, <-hnn] at h ⊢
 rw [<-hnn] at hi hb
 have hi2:(i:Int)<(n:Int):=by omega
 have h02:(0:Int)<=(i:Int):=by omega
 have hi1:(i:Int)<=1000000:=by omega
 have HI1:=qh hi1
 have hB:Below w.heap.size w (w.alloc (.cells #[.slice a1 n c1, .slice a2 n c2, .slice a3 n c3] 49)):=(Below.refl _ w).alloc (Nat.le_refl _) _
 have HS:=qh (h.below hB)
 have HH1:=qh (yh w (.cells #[.slice a1 n c1, .slice a2 n c2, .slice a3 n c3] 49))
 have HB:=qh hB
 clear h hB hm hn hb hnn hi hi1
 unfold zb5
 go_enter Tryz.func22,Tryz.ntmps22
 go_upto_region 1 with fail
 generalize World.alloc w _=W at HS HH1 HB ⊢
 obtain⟨g,hg⟩:∃g,g=w.heap.size:=⟨_,rfl⟩
 rw [<-hg] at HH1 ⊢
 have c0:W.cell? ⟨g,0,none⟩=some (.slice a1 n c1):=ze HH1.out 0
 have c1':W.cell? ⟨g,1,none⟩=some (.slice a2 n c2):=ze HH1.out 1
 have c2':W.cell? ⟨g,2,none⟩=some (.slice a3 n c3):=ze HH1.out 2
 have HG:=qh hg
 clear hg
 go_wp2_with(first
  |(go_at_call 43;go_must(refine(ztZ W S _ _ _ HS.out HM.out (i:Int)).mono ?_);rintro e w2 ⟨z,y,b,ml,rfl,q1,q2,q3,q4,q5,q6⟩;(have Q1:=qh q1);(have Q2:=qh q2);(have Q3:=qh q3);(have Q4:=qh q4);(have Q5:=qh q5);(have Q6:=qh q6);clear q1 q2 q3 q4 q5 q6)
  |(go_at_call 42;go_must(refine(znt _ S (i:Int) _ _ _ _ HI1.out Q2.out Q3.out Q4.out Q5.out).mono ?_);rintro e w3 ⟨rv,rfl,r1,r2⟩;simp only [Int.toNat_natCast] at r1;(have R1:=qh r1);(have R2:=qh r2);clear r1 r2)
  |(go_at_call 44;go_must(refine(zns _ _ _ _ R1.out HXL.out).mono ?_);rintro e w4 ⟨rfl,s1,s2⟩;(have S1:=qh s1);(have S2:=qh s2);clear s1 s2))
 go_ret
 have hs1:=HB.out.size
 have hs2:=Q6.out.size
 have hs3:=R2.out.size
 have hq1:=Q1.out
 refine⟨rv,rfl,yU (C:=w.heap.size) (by rw [List.length_reverse];exact S1.out) (by omega), ?_⟩
 refine((HB.out.trans (Q6.out.mono hs1)).trans (R2.out.below (by omega) (λk hk=>by omega))).trans (S2.out.below (by omega) (λk hk=> ?_))
 have:=(R1.out.lt k hk).1
 omega
end Go.Proofs.YtnhahkiojbanfaaGreatDoor
namespace Go.Proofs.YtnhahkiojbanfaaGreatDoor
open Go.RowKit
set_option maxRecDepth 100000
set_option maxHeartbeats 16000000
inductive zlC (c:zI) (m:zG) (d:Nat):zk->Prop
 |start:zlC c m d (vE c)
 |step {s:zk} {x:zq} :zlC c m d s->x∈qp c m s d->zlC c m d (kK c m s x d).1
def z6Y (w:World) (c:zI) (m:zG) (d:Nat) (en:Ending) (w':World):Prop:=(∃s tv mv bs,en= .returned (yE s tv mv)/\zlC c m d s/\OwnAt w.heap.size w' tv mv s.threads s.mem bs)/\Below w.heap.size w w'
def WF (w:World) (gs gr k:Nat):Prop:=k<w.heap.size\/k=gs\/k=gr
structure z90 (w V X:World) (gs gr:Nat) (c:zI) (m:zG) (d:Nat) (s:zk) (tv mv:Value):Prop where
 since:Since (λk=>k=gs) V X
 below:Below w.heap.size w V
 lo:w.heap.size<=gs/\w.heap.size<=gr/\gs≠gr
 box:X.heap[gs]? =some (.cells #[tv,mv, .bool s.bad] 42 (0,0))
 res:V.heap[gr]? =some (.cells #[.slice none 0 0, .slice none 0 0, .bool false] 42 (0,0))
 own:∃bs,OwnAt w.heap.size X tv mv s.threads s.mem bs/\∀k,k=gs\/k=gr->tv.ownBlock≠some k/\mv.ownBlock≠some k/\∀j,j<s.threads.length->(bs.getD j (.slice none 0 0)).ownBlock≠some k
 come:zlC c m d s
section
variable {w V X Y:World} {gs gr d:Nat} {c:zI} {m:zG} {s:zk} {tv mv:Value}
end
end Go.Proofs.YtnhahkiojbanfaaGreatDoor
namespace Go.Proofs.YtnhahkiojbanfaaGreatDoor
open Go.RowKit
set_option maxRecDepth 100000
set_option maxHeartbeats 16000000
def scM:zG:=⟨0,1⟩
section
variable {c:zI} {m:zG} {d:Nat} {S:yV}
end
end Go.Proofs.YtnhahkiojbanfaaGreatDoor
namespace Go.Proofs.YtnhahkiojbanfaaGreatDoor
open Go.RowKit
set_option maxRecDepth 100000
set_option maxHeartbeats 16000000
structure z9O (w W X:World) (g gs:Nat) (s:zk) (tv mv:Value):Prop where
 since:Since (λk=>k=gs) W X
 below:Below w.heap.size w W
 lo:w.heap.size<=g/\g<gs/\gs<W.heap.size
 res:X.heap[g]? =some (.cells #[.slice none 0 0, .slice none 0 0, .bool false] 42 (0,0))
 box:X.heap[gs]? =some (.cells #[tv,mv, .bool s.bad] 42 (0,0))
 st:yw X s tv mv
section
variable {w W X Y:World} {g gs:Nat} {s t:zk} {tv mv:Value}
end
end Go.Proofs.YtnhahkiojbanfaaGreatDoor
namespace Go.Proofs.YtnhahkiojbanfaaGreatDoor
open Go.RowKit
set_option maxRecDepth 100000
set_option maxHeartbeats 16000000
structure Bfs (S:yV) (n:Nat) (L:Nat->Nat):Prop where
 zero:L 0=1
 lt:∀i,i<n->i<L i
 le:∀i,i<n->L i<=L (i+1)
 below:∀i,i<n->∀j,j<(S.next.getD i []).length->(S.next.getD i []).getD j 0<(L (i+1):Int)
 all:∀i,i<n->∀b,L i<=b->b<L (i+1)->∃j,j<(S.next.getD i []).length/\(S.next.getD i []).getD j 0=(b:Int)
section
variable {S:yV} {n:Nat} {L:Nat->Nat}
theorem zrl {b i:Nat} {mv:zq} (h1:1<=b) (h:zah S (b:Int)=some (mv,i)):xQ S b (b:Int)=mv::xQ S i (i:Int):=by
 have:=zhU (S:=S) (t:=(b:Int)) (by omega) h
 simpa using this
end
end Go.Proofs.YtnhahkiojbanfaaGreatDoor
namespace Go.Proofs.YtnhahkiojbanfaaGreatDoor
open Go.RowKit
set_option maxRecDepth 100000
set_option maxHeartbeats 16000000
def xw (s:zk):zk:=⟨s.threads,s.mem,false⟩
def zdl (T:List zk) (s:zk):Bool:=decide (xw s∈T.map xw)
def za1 (T:List zk) (s:zk):Bool:=bN s && !zdl T s
def zpq (l T:List zk):Option Nat:=(List.range l.length).find? λi=>za1 T (l.getD i default)
def zjq (S T:yV):Bool × List zq × Int:=
 match zpq S.states T.states with
 |some i=>(false,(xQ S i (i:Int)).reverse,0)
 |none=>(true, [],0)
def qU (c:zI) (m:zG) (R:Int) (d:Nat):Bool × List zq × Int:=
 if (yT c m R d).2=0 then
  if (yT c scM R d).2=0 then zjq (yT c m R d).1 (yT c scM R d).1
  else(false, [],(yT c scM R d).2)
 else(false, [],(yT c m R d).2)
theorem find_range {p:Nat->Bool} :∀ {n i:Nat},(∀j,j<i->p j=false)->p i=true->i<n->(List.range n).find? p=some i:=by
 intro n
 induction n with
 |zero=>intro i _ _ h;omega
 |succ n ih=>
 intro i h1 h2 h3
 rw [List.range_succ,List.find?_append]
 rcases Nat.lt_or_ge i n with h|h
 ·rw [ih h1 h2 h];rfl
 obtain rfl:i=n:=by omega
 rw [List.find?_eq_none.2 (λx hx=>by rw [h1 x (List.mem_range.1 hx)];simp)]
 simp [h2]
theorem zua {l T:List zk} {i:Nat} (h1:∀j,j<i->za1 T (l.getD j default)=false) (h2:za1 T (l.getD i default)=true) (h3:i<l.length):zpq l T=some i:=find_range h1 h2 h3
theorem zue {l T:List zk} (h1:∀j,j<l.length->za1 T (l.getD j default)=false):zpq l T=none:=by
 unfold zpq
 rw [List.find?_eq_none]
 intro x hx
 rw [h1 x (List.mem_range.1 hx)];simp
theorem zk6 {c:zI} {m:zG} {d:Nat} {R:Int} (h:(yT c m R d).2=0):jh c m=true/\1<=R/\R<=100000:=by
 unfold yT at h
 split at h
 ·cases h
 rename_i hr
 refine⟨?_, ?_, ?_⟩
 ·cases e:jh c m
  ·exact absurd (.inl e) hr
  rfl
 ·exact Int.not_lt.1 λe=>hr (.inr (.inl e))
 exact Int.not_lt.1 λe=>hr (.inr (.inr e))
def zhP (S:yV) (er:Int) (n1 n2 n3:Nat) (w:World) (e:Ending) (w':World):Prop:=(∃(a1 a2 a3:Option Addr) (c1 c2 c3:Nat),e= .returned (.tuple #[.agg #[.slice a1 n1 c1, .slice a2 n2 c2, .slice a3 n3 c3], .int .i64 er])/\kW w' S (.slice a1 n1 c1) (.slice a2 n2 c2) (.slice a3 n3 c3))/\Below w.heap.size w w'
theorem zec {w w':World} {r:yV × Int} {S:yV} {er:Int} {n1 n2 n3:Nat} {e:Ending} (hr:r=(S,er)) (h1:n1=S.states.length) (h2:n2=S.moves.length) (h3:n3=S.next.length) (h:zd6 w r e w'):zhP S er n1 n2 n3 w e w':=by
 subst hr h1 h2 h3
 obtain⟨⟨sv,mv,nv,rfl,hs, -, -⟩,hb⟩:=h
 obtain⟨a1,c1,rfl, -⟩:=zh.slice hs.1
 obtain⟨a2,c2,rfl, -⟩:=zh.slice hs.2.1
 obtain⟨a3,c3,rfl, -⟩:=zh.slice hs.2.2
 exact⟨⟨a1,a2,a3,c1,c2,c3,rfl,hs⟩,hb⟩
def zzl (X:World) (sb o:Nat) (s:zk) (bd:Bool):Prop:=∃(a b:Option Addr) (n c k f:Nat),∀y,Below X.heap.size X y->y.cell? ⟨sb,o,none⟩=some (.slice a n c)/\y.cell? ⟨sb,o+1,none⟩=some (.slice b k f)/\y.cell? ⟨sb,o+2,none⟩=some (.bool bd)/\yw y s (.slice a n c) (.slice b k f)
theorem zjo {X:World} {a:Option Addr} {n cap:Nat} {l:List zk} (h:j6 X (.slice a n cap) l) (hp:0<l.length):∃sb so,a=some ⟨sb,so,none⟩/\∀i,i<l.length->zzl X sb (so+i*3) (l.getD i default) (l.getD i default).bad:=by
 obtain⟨sb,so, -, -,rfl, -⟩:=j6.part h 0 hp
 refine⟨sb,so,rfl,λi hi=> ?_⟩
 obtain⟨b2,o2,tv,mv,e, -,x0,x1,x2,hs⟩:=j6.part h i hi
 cases e
 obtain⟨ta,tc,rfl, -⟩:=zh.slice hs.threads
 obtain⟨ma,mc,rfl, -⟩:=zh.slice hs.mem
 exact⟨ta,ma,_,tc,_,mc,λy hy=>⟨zi hy _ _ x0,zi hy _ _ x1,zi hy _ _ x2,hs.below hy⟩⟩
structure zeb (c:zI) (m:zG) (S:yV):Prop where
 pos:0<S.states.length
 mvs:S.moves.length=S.states.length
 nxt:S.next.length=S.states.length
 lens:∀i,i<S.states.length->(S.next.getD i []).length=(S.moves.getD i []).length
 few:S.states.length<=100000
 fits:∀s∈S.states,yB c m s=true
theorem zkO {c:zI} {m:zG} {d:Nat} {R:Int} {S:yV} (h:yT c m R d=(S,0)):zeb c m S:=by
 have h0:(yT c m R d).2=0:=by rw [h]
 obtain⟨h1,h2,h3⟩:=zk6 h0
 obtain⟨k,rfl⟩:∃k:Nat,R=k:=⟨R.toNat,by omega⟩
 have hi:=zlD (c:=c) (m:=m) (d:=d) (R:=k) (P:=λs=>yB c m s=true) (λ_ _ _ hx=>znY hx) (zhV h1)
 rw [h] at hi
 rcases zjr (d:=d) h1 h2 h3 with⟨-,hc⟩|h40
 ·rw [h] at hc
  exact⟨hc.pos,hc.moves,hc.next,λi hi=>(hc.lead i hi).2.len,by have:=hi.2;simp only [] at this;omega,hi.1⟩
 rw [h40] at h0;cases h0
def zhO (w:World) (r:Bool × List zq × Int) (e:Ending) (w':World):Prop:=(∃(a:Option Addr) (n c:Nat),e= .returned (.tuple #[.bool r.1, .slice a n c, .int .i64 r.2.2])/\vZ w' (.slice a n c) r.2.1)/\Below w.heap.size w w'
theorem pQ {w w':World} {r:Bool × List zq × Int} {b:Bool} {k:Int} (h:r=(b, [],k)) (hb:Below w.heap.size w w'):zhO w r (.returned (.tuple #[.bool b, .slice none 0 0, .int .i64 k])) w':=by
 subst h;exact⟨⟨none,0,0,rfl,zh.nil _⟩,hb⟩
structure z5w (R:Bool × List zq × Int) (S T:yV) (e1 e2:Int):Prop where
 one:e1≠0->R=(false, [],e1)
 two:e1=0->e2≠0->R=(false, [],e2)
 odd:e1=0->e2=0->∀i,i<S.states.length->(∀j,j<i->za1 T.states (S.states.getD j default)=false)->za1 T.states (S.states.getD i default)=true->R=(false,(xQ S i (i:Int)).reverse,0)
 none:e1=0->e2=0->(∀j,j<S.states.length->za1 T.states (S.states.getD j default)=false)->R=(true, [],0)
theorem zwC (c:zI) (m:zG) (R:Int) (d:Nat):z5w (qU c m R d) (yT c m R d).1 (yT c scM R d).1 (yT c m R d).2 (yT c scM R d).2:=by
 refine⟨λh=> ?_,λh h2=> ?_,λh h2 i hi h3 h4=> ?_,λh h2 h3=> ?_⟩<;>unfold qU
 ·rw [if_neg h]
 ·rw [if_pos h,if_neg h2]
 ·rw [if_pos h,if_pos h2];unfold zjq;rw [zua h3 h4 hi]
 rw [if_pos h,if_pos h2];unfold zjq;rw [zue h3]
theorem zaC.plain {s:zk} (h:zaC s):zaC (xw s):=by
 obtain⟨ts,mem,bad⟩:=s
 exact⟨h.1,h.2⟩
theorem zpr {s:zk} :(bO (xw s)).length=(bO s).length:=by
 obtain⟨ts,mem,bad⟩:=s
 simp [bO,xw]
theorem zgw {c:zI} {m:zG} {s:zk} (hf:yB c m s=true) (hr:vX s):(bO (xw s)).length<=1000000:=by
 rw [zpr];exact zcP hf hr
theorem zru {c:zI} {m m':zG} {s t:zk} (hs:yB c m s=true) (ht:yB c m' t=true) (rs:vX s) (rt:vX t) (h:keyOf (xw s)=keyOf (xw t)):xw s=xw t:=by
 have h1:=zaQ hs
 have h2:=zaQ ht
 exact key_inj (zaC.plain (zaR hs rs)) (zaC.plain (zaR ht rt)) (by show s.mem.length=t.mem.length;omega) (by show s.threads.length=t.threads.length;omega) h
theorem yw.plain {w:World} {s:zk} {tv mv:Value} (h:yw w s tv mv):yw w (xw s) tv mv:=⟨h.threads,h.mem⟩
theorem zjM (w:World) (s:zk) (a b:Option Addr) (n c k f:Nat) (bd:Bool) (hs:yw w s (.slice a n c) (.slice b k f)) (hl:(bO (xw s)).length<=1000000):Calls Tryz.prog 20 #[.agg #[.slice a n c, .slice b k f, .bool bd]] w (zrv w (keyOf (xw s))):=by
 obtain⟨W,hW⟩:∃W,W=w.alloc (.cells #[.slice a n c, .slice b k f, .bool bd] 42):=⟨_,rfl⟩
 have h1:W.heap[w.heap.size]? =some (.cells #[.slice a n c, .slice b k f, .bool bd] 42 (0,0)):=by rw [hW];exact yh _ _
 have hB0:Below w.heap.size w W:=by rw [hW];exact(Below.refl _ _).alloc (Nat.le_refl _) _
 have hs1:Since (λk=>k=w.heap.size) W (W.setCell ⟨w.heap.size,2,none⟩ (.bool false)):=Since.setCell (F:=λk=>k=w.heap.size) (p:=⟨w.heap.size,2,none⟩) (Since.refl _ _) (.inl rfl) _
 have hx:(W.setCell ⟨w.heap.size,2,none⟩ (.bool false)).heap[w.heap.size]? =some (.cells #[.slice a n c, .slice b k f, .bool false] 42 (0,0)):=by have:=zu h1 2 (.bool false);simpa using this
 have hB:=hB0.trans (hs1.below hB0.size (λk hk=>Nat.le_of_eq hk.symm))
 have hk:=zjs (W.setCell ⟨w.heap.size,2,none⟩ (.bool false)) (xw s) _ _ ((hs.below hB).plain) hl
 unfold yE at hk
 have e:(xw s).bad=false:=rfl
 rw [e] at hk
 have y2:=ze h1 2
 have f2:=zA h1 2
 have HK:=qh hk
 have HB:=qh hB
 have HW:=qh hW
 have HX:=qh hx
 clear hk hB hB0 hs1 h1 hx e hs hl hW
 go_enter Tryz.func20,Tryz.ntmps20
 go_upto_region 1 with fail
 rw [<-HW.out]
 clear HW
 go_upto_region 2 with fail
 clear y2 f2
 generalize World.setCell W _ _=X at HX HB HK ⊢
 have z0:=ze HX.out 0
 have z1:=ze HX.out 1
 have z2:=ze HX.out 2
 go_wp2_with(go_at_call 38;go_must(refine(HK.out).mono ?_);rintro e Y ⟨rfl,hb⟩;(have HY:=qh hb);clear hb)
 go_ret
 exact⟨rfl,HB.out.trans (HY.out.mono HB.out.size)⟩
theorem zgx (w:World) (a b:Option Addr) (n c k f:Nat) (bd:Bool):Calls Tryz.prog 45 #[.agg #[.slice a n c, .slice b k f, .bool bd]] w λe w'=>e= .returned (.agg #[.slice a n c, .slice b k f, .bool false])/\Below w.heap.size w w':=by
 obtain⟨W,hW⟩:∃W,W=(w.alloc (.cells #[.slice a n c, .slice b k f, .bool bd] 42)).alloc (.cells #[.slice none 0 0, .slice none 0 0, .bool false] 42):=⟨_,rfl⟩
 have h1:W.heap[w.heap.size]? =some (.cells #[.slice a n c, .slice b k f, .bool bd] 42 (0,0)):=by rw [hW];exact xA _ _ _
 have h2:W.heap[w.heap.size+1]? =some (.cells #[.slice none 0 0, .slice none 0 0, .bool false] 42 (0,0)):=by rw [hW];exact xg _ _ _
 have hB:Below w.heap.size w W:=by rw [hW];exact xB _ _ _
 have hs1:Since (λk=>k=w.heap.size) W (W.setCell ⟨w.heap.size,2,none⟩ (.bool false)):=Since.setCell (F:=λk=>k=w.heap.size) (p:=⟨w.heap.size,2,none⟩) (Since.refl _ _) (.inl rfl) _
 have h3:(W.setCell ⟨w.heap.size,2,none⟩ (.bool false)).heap[w.heap.size]? =some (.cells #[.slice a n c, .slice b k f, .bool false] 42 (0,0)):=by have:=zu h1 2 (.bool false);simpa using this
 have h4:=(hs1.block _ (zx h2) (by omega)).trans h2
 have hB2:=hB.trans (hs1.below hB.size (λk hk=>Nat.le_of_eq hk.symm))
 have HW:=qh hW
 have y2:=ze h1 2
 have f2:=zA h1 2
 have H3:=qh h3
 have H4:=qh h4
 have HB2:=qh hB2
 clear h2 h3 h4 hB hB2 hs1 h1 hW
 go_enter Tryz.func45,Tryz.ntmps45
 go_upto_region 1 with fail
 rw [<-HW.out]
 clear HW
 go_upto_region 2 with fail
 clear y2 f2
 generalize World.setCell W _ _=X at H3 H4 HB2 ⊢
 obtain⟨g,hg⟩:∃g,g=w.heap.size:=⟨_,rfl⟩
 rw [<-hg] at H3 H4 ⊢
 have HG:=qh hg
 clear hg
 have z0:=ze H3.out 0
 have z1:=ze H3.out 1
 have z2:=ze H3.out 2
 have q0:=ze H4.out 0
 have q1:=ze H4.out 1
 have q2:=ze H4.out 2
 have f0:=zA H4.out 0
 have f1:=zA H4.out 1
 have f2:=zA H4.out 2
 have hs:=xW (g:=g+1) [.slice a n c, .slice b k f, .bool false] X 0
 have hset:=vO (cs:= [.slice none 0 0, .slice none 0 0, .bool false]) [.slice a n c, .slice b k f, .bool false] rfl H4.out
 have hend:=HB2.out.trans (hs.below HB2.out.size (λk hk=>by have:=HG.out;omega))
 have zL:=qh hset
 have zR:=qh hend
 clear hs hset hend
 go_wp2_with fail
 refine bodyPost_ret (xI rfl _ _ (g+1) 42 _ (0,0) _ rfl zL.out Tryz.underlying42 rfl zP) rfl ?_
 exact⟨rfl,zR.out⟩
theorem zrs (w:World) (lv:Value) (l:List zk) (hl:j6 w lv l) (s:zk) (a b:Option Addr) (n c k f:Nat) (bd:Bool) (hs:yw w s (.slice a n c) (.slice b k f)):Calls Tryz.prog 23 #[lv, .agg #[.slice a n c, .slice b k f, .bool bd]] w λe w'=>e= .returned (.bool (zdl l s))/\Below w.heap.size w w':=by
 obtain⟨la,lc,rfl,hl63⟩:=zh.slice hl
 obtain⟨W,hW⟩:∃W,W=w.alloc (.cells #[.slice a n c, .slice b k f, .bool bd] 42):=⟨_,rfl⟩
 have hB:Below w.heap.size w W:=by rw [hW];exact(Below.refl _ _).alloc (Nat.le_refl _) _
 have hbx:W.heap[w.heap.size]? =some (.cells #[.slice a n c, .slice b k f, .bool bd] 42 (0,0)):=by rw [hW];exact yh _ _
 have hls:=zh.below xV.stays hl hB
 have hst:=hs.below hB
 obtain⟨ln,hln⟩:∃x,x=l.length:=⟨_,rfl⟩
 rw [<-hln] at hls hl63 ⊢
 obtain⟨r,hr⟩:∃r,r=zdl l s:=⟨_,rfl⟩
 have hyes:∀i,i<ln->xw (l.getD i default)=xw s->r=true:=λi hi e=>by
  rw [hr]
  exact decide_eq_true (List.mem_map.2 ⟨_,qG (by rw [<-hln];exact hi),e⟩)
 have hno:(∀i,i<ln->xw (l.getD i default)≠xw s)->r=false:=λh=>by
  rw [hr]
  refine decide_eq_false (λe=> ?_)
  obtain⟨t,ht,he⟩:=List.mem_map.1 e
  obtain⟨i,hi,rfl⟩:=List.getElem_of_mem ht
  exact h i (by rw [hln];exact hi) (by rw [List.getD_eq_getElem?_getD,List.getElem?_eq_getElem hi];exact he)
 rw [<-hr]
 have HW:=qh hW
 have HB:=qh hB
 have yZ:=qh hbx
 have HLS:=qh hls
 have HST:=qh hst
 have jV:=qh hyes
 have jR:=qh hno
 have jW:=qh hln
 clear hl hs hW hB hbx hls hst hyes hno hr hln
 go_enter Tryz.func23,Tryz.ntmps23
 go_upto_region 1 with fail
 rw [<-HW.out]
 clear HW
 obtain⟨g,hg⟩:∃g,g=w.heap.size:=⟨_,rfl⟩
 rw [<-hg] at yZ ⊢
 clear hg
 go_wp2_with fail
 go_loopg [5] ln (λgg s5 wr=>∃i:Nat,i<=ln/\Hid (gg=ln - i)/\s5= .int .i64 i/\Hid (∀j,j<i->xw (l.getD j default)≠xw s)/\Hid (Below W.heap.size W wr))
 case atStart=>exact⟨0,Nat.zero_le _,rfl,rfl,λj hj=>absurd hj (Nat.not_lt_zero _),Below.refl _ _⟩
 case round=>
 obtain⟨i,hi,HG,rfl,j3,zH⟩:=hrel
 obtain⟨wo,rfl⟩:∃X:World,X=wr:=⟨_,rfl⟩
 by_cases hlt:i<ln
 rotate_left
 ·obtain rfl:i=ln:=by omega
  have hr:=jR.out j3.out
  subst hr
  clear jV jR
  go_wp2_with fail
  go_ret
  exact⟨rfl,HB.out.trans (zH.out.mono HB.out.size)⟩
 have qA:(i:Int)<(ln:Int):=by omega
 obtain⟨eb,eo,tv,mv,yg, -,y0,y1,y2,hst⟩:=j6.part HLS.out i (by rw [<-jW.out];exact hlt)
 subst yg
 obtain⟨t,ht⟩:∃t,t=l.getD i default:=⟨_,rfl⟩
 rw [<-ht] at y2 hst
 obtain⟨ta,tac,rfl, -⟩:=zh.slice hst.threads
 obtain⟨ma,mac,rfl, -⟩:=zh.slice hst.mem
 obtain⟨tn,htn⟩:∃x,x=t.threads.length:=⟨_,rfl⟩
 obtain⟨mn,hmn⟩:∃x,x=t.mem.length:=⟨_,rfl⟩
 rw [<-htn, <-hmn] at hst
 rw [<-htn] at y0
 rw [<-hmn] at y1
 obtain⟨tb,htb⟩:∃x,x=t.bad:=⟨_,rfl⟩
 rw [<-htb] at y2
 have CC:Hid (∀y,Below wo.heap.size wo y->(y.cell? ⟨eb,eo+i*3,none⟩=some (.slice ta tn tac)/\y.cell? ⟨eb,eo+i*3+1,none⟩=some (.slice ma mn mac)/\y.cell? ⟨eb,eo+i*3+2,none⟩=some (.bool tb))/\y.cell? ⟨g,0,none⟩=some (.slice a n c)/\y.cell? ⟨g,1,none⟩=some (.slice b k f)/\y.cell? ⟨g,2,none⟩=some (.bool bd)):=λy hy=>by
  have hb:=zD zH.out hy
  exact⟨⟨zi hb _ _ y0,zi hb _ _ y1,zi hb _ _ y2⟩,zi hb _ _ (ze yZ.out 0),zi hb _ _ (ze yZ.out 1),zi hb _ _ (ze yZ.out 2)⟩
 have HSM:Hid (∀y,Below wo.heap.size wo y->Calls Tryz.prog 16 #[.agg #[.slice ta tn tac, .slice ma mn mac, .bool false], .agg #[.slice a n c, .slice b k f, .bool false]] y λe w'=>e= .returned (.bool (decide (xw t=xw s)))/\Below y.heap.size y w'):=λy hy=>zjN y (xw t) (xw s) _ _ _ _ ((hst.below (zD zH.out hy)).plain) ((HST.out.below (zD zH.out hy)).plain)
 have HTE:=qh ht
 clear ht htn hmn htb hst y0 y1 y2
 go_upto_region 4 with fail
 go_cut [19] (λs19 w'=>s19= .bool (decide (xw t=xw s))/\Hid (Below wo.heap.size wo w'))
 case first=>
  refine vD (S:=λx=>Below wo.heap.size wo x) ((Below.refl _ _).drew) (λhH=> ?_)
  refine zw 0 CC.out ?_
  refine zw 1 CC.out ?_
  refine zw 2 CC.out ?_
  refine zw 3 CC.out ?_
  refine zw 5 CC.out ?_
  refine yj 4 rfl (λK hK=> ?_)
  go_simp
  refine(zgx wo.drew _ _ _ _ _ _ _).mono ?_
  rintro e hw4 ⟨rfl,hb⟩
  have zuf:Below wo.heap.size wo hw4:=zD hH hb
  refine hK.out _ _ zuf (λ_=> ?_)
  clear hK K hb hH
  refine yj 6 rfl (λK hK=> ?_)
  go_simp
  refine(zgx hw4 _ _ _ _ _ _ _).mono ?_
  rintro e hw6 ⟨rfl,hb⟩
  have zps:Below wo.heap.size wo hw6:=zD zuf hb
  refine hK.out _ _ zps (λ_=> ?_)
  clear hK K hb zuf
  refine yj 7 rfl (λK hK=> ?_)
  go_simp
  refine(HSM.out hw6 zps).mono ?_
  rintro e hw7 ⟨rfl,hb⟩
  have wu:Below wo.heap.size wo hw7:=zD zps hb
  refine hK.out _ _ wu (λ_=> ?_)
  clear hK K hb zps
  refine xP ?_
  go_wp2_with fail
  go_meet
  case rel=>exact⟨rfl,wu⟩
 case rest=>
 obtain⟨rfl,HR4⟩:=hcut
 obtain⟨w4,rfl⟩:∃X:World,X=wc:=⟨_,rfl⟩
 have qZ:=qh (zD zH.out HR4.out)
 by_cases he:xw t=xw s
 ·have hr:=jV.out i hlt (by rw [<-HTE.out];exact he)
  subst hr
  rw [decide_eq_true he]
  clear jV jR
  go_wp2_with fail
  go_ret
  exact⟨rfl,HB.out.trans (qZ.out.mono HB.out.size)⟩
 rw [decide_eq_false he]
 have z5x:Hid (∀j,j<i+1->xw (l.getD j default)≠xw s):=λj hj=>by
  by_cases e:j=i
  ·subst e;rw [<-HTE.out];exact he
  exact j3.out j (by omega)
 go_wp2_with fail
 go_roundg (ln - (i+1))
 case measure=>rw [HG.out];omega
 case rel=>exact⟨i+1,by omega,rfl,by simp,z5x.out,qZ.out⟩
