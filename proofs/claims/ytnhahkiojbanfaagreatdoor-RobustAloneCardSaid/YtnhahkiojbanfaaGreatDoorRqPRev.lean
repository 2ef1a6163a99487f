/- Steps. -/
import Derived.Shelf.SlicesQ.Reverse
import Derived.Test.YtnhahkiojbanfaaGreatDoorRqReplayR
set_option linter.all false
namespace Go.Proofs.YtnhahkiojbanfaaGreatDoor
open Go.RowKit Go.Sort
set_option maxRecDepth 100000
set_option maxHeartbeats 16000000
def zjE:Go.Shelf.Ren:=⟨λ|35=>44|n=>n,λ|0=>0|3=>3|4=>4|22=>32|23=>70|n=>n,λn=>n⟩
theorem zk4:Go.Proofs.SlLaysE0.n35 Tryz.prog zjE:= {
 mixed:=by kernel_rfl,
 f35:=⟨Tryz.f44.name,by decide,Tryz.func44.trans (congrArg some (by kernel_rfl))⟩,
 t0:=Tryz.underlying0,
 a0:=Tryz.isAgg0,
 z0:=Tryz.sizeOf0,
 v0:=Tryz.zeroValue0,
 t3:=Tryz.underlying3,
 a3:=Tryz.isAgg3,
 z3:=Tryz.sizeOf3,
 v3:=Tryz.zeroValue3,
 t4:=Tryz.underlying4,
 a4:=Tryz.isAgg4,
 z4:=Tryz.sizeOf4,
 v4:=Tryz.zeroValue4,
 t22:=Tryz.underlying32,
 a22:=Tryz.isAgg32,
 z22:=Tryz.sizeOf32,
 v22:=Tryz.zeroValue32 }
theorem zs5 {w:World} {B g n cap:Nat} {e:TypeId} {size:Nat} {xs:List Value} (h:w.ownsRow B e size (.slice (some ⟨g,0,none⟩) n cap) n xs):B<=g/\∃cur,w.heap[g]? =some (.cells cur e (0,0))/\cur.size=cap*size/\∀j,j<n*size->cur[j]? =xs[j]? :=by
 rcases h.2 with⟨h1, -⟩|⟨g',cap',cur,h1,h2,h3, -, -,h6,h7⟩
 ·cases h1
 cases h1
 refine⟨h2,cur,h3,h6,λj hj=> ?_⟩
 rw [<-h7,List.getElem?_take_of_lt hj]
 simp
theorem zmm {w:World} {g n:Nat} {dk:Array zo} {cur:Array Value} {t:TypeId} (hb:w.heap[g]? =some (.cells cur t (0,0))):
  (putRowK zo.cells 3 (Go.Sort.ahead w n) g 0 dk).heap[g]? =some (.cells (putCells id 0 (flatK zo.cells 3 dk) cur) t (0,0)):=by
 unfold putRowK putRow mapBlock Go.Sort.ahead
 simp only []
 rw [Array.getElem?_modify,if_pos rfl,hb]
 rfl
theorem zmn (w:World) (g n:Nat) (dk:Array zo):Since (λi=>i=g) w (putRowK zo.cells 3 (Go.Sort.ahead w n) g 0 dk):=by
 refine⟨rfl,rfl,rfl, ?_,λi hi hne=> ?_⟩
 ·unfold putRowK putRow mapBlock Go.Sort.ahead
  simp
 unfold putRowK putRow mapBlock Go.Sort.ahead
 simp only []
 rw [Array.getElem?_modify,if_neg (λe=>hne e.symm)]
theorem zeh (l:List zo) (d:Array zo) (hd:d.toList=l) (t:Nat) (ht:t<l.length*3):(zq zo.cells l)[t]? =some ((flatK zo.cells 3 d)[t]!):=by
 have hds:d.size=l.length:=by rw [<-hd];simp
 have hq:t / 3<l.length:=by omega
 have h1:=gI (f:=zo.cells) (size:=3) wh (l:=l) (j:=t / 3) (i:=t % 3) hq (by omega)
 rw [show t / 3*3+t % 3=t by omega] at h1
 rw [h1,get_flatK zo.cells 3 d t (by rw [hds];exact ht)]
 have hg:d[t / 3]! =l.getD (t / 3) default:=by
  rw [getElem!_pos d _ (by rw [hds];exact hq)]
  subst hd
  simp [List.getD_eq_getElem?_getD,Array.getElem?_eq_getElem (show t / 3<d.size by rw [hds];exact hq)]
 rw [hg,List.getElem?_eq_getElem (by rw [wh];omega),List.getElem!_eq_getElem?_getD,List.getElem?_eq_getElem (by rw [wh];omega)]
 rfl
def zvt (w:World) (B:Nat) (v:Value) (l:List zo) (e:Ending) (w':World):Prop:=e= .returned (.tuple #[])/\w'.ownsRow B 70 3 v l.length (zq zo.cells l.reverse)/\Since (λk=>v.ownBlock=some k) w w'
theorem zjF (w:World) (B:Nat) (v:Value) (l:List zo) (hrow:w.ownsRow B 70 3 v l.length (zq zo.cells l)) (hn:l.length<=1000000):
  Calls Tryz.prog 44 #[v] w (zvt w B v l):=by
 rcases Nat.eq_zero_or_pos l.length with h0|h0
 ·have hP:l= [] :=List.eq_nil_of_length_eq_zero h0
  subst hP
  obtain⟨a,cap,rfl, -, -⟩:=xB hrow
  refine Calls.mono (Go.Proofs.AnyQ.slices_Reverse_empty zk4 a cap w) λe w' ⟨he,hw⟩=> ?_
  subst hw
  exact⟨he,hrow,Since.refl _ _⟩
 obtain⟨g,cap,rfl,hcap,hcm⟩:=jU hrow h0
 obtain⟨hbg,cur,hcb,hcs,hcur⟩:=zs5 hrow
 have hH:HoldsK zo.cells 3 w g 0 l.toArray:=by
  intro t ht
  rw [size_flatK,List.size_toArray] at ht
  refine⟨?_,zK hcb _⟩
  rw [Nat.zero_add,ze hcb,hcur t ht,zeh l l.toArray (by simp) t ht]
  rfl
 have hc:=Go.Proofs.AnyQ.slices_Reverse zk4 3 Tryz.isAgg70 Tryz.sizeOf70 zo.cells wh (λx u hu=>by
  simp only [zo.cells,List.mem_cons,List.not_mem_nil,or_false] at hu
  rcases hu with rfl|rfl|rfl<;>rfl) g 0 cap l.toArray w hH (by rw [List.size_toArray];omega)
 rw [List.size_toArray] at hc
 refine Calls.mono hc λe w' ⟨he,n,hw⟩=> ?_
 have hblk:=zmm (n:=n) (dk:=l.toArray.reverse) hcb
 rw [<-hw] at hblk
 refine⟨he,⟨by rw [jO wh,List.length_reverse], .inr ⟨g,cap,_,rfl,hbg,hblk,hcap,hcm,by simp [putCells,hcs], ?_⟩⟩, ?_⟩
 ·apply List.ext_getElem?
  intro t
  rw [List.getElem?_take]
  split
  ·rename_i ht
   have h1:=zeh l.reverse l.toArray.reverse (by simp) t (by rw [List.length_reverse];exact ht)
   rw [h1,Array.getElem?_toList]
   unfold putCells
   rw [Array.getElem?_mapIdx,Array.getElem?_eq_getElem (by rw [hcs];have:=Nat.mul_le_mul_right 3 hcap;omega)]
   simp only [Option.map_some]
   rw [if_pos ⟨Nat.zero_le _,by rw [size_flatK];simp;omega⟩,Nat.sub_zero]
   rfl
  rename_i ht
  rw [List.getElem?_eq_none (by rw [jO wh,List.length_reverse];omega)]
 rw [hw]
 exact(zmn w g n _).mono (λk _ hk=>by rw [hk];rfl)
end Go.Proofs.YtnhahkiojbanfaaGreatDoor
namespace Go.Proofs.YtnhahkiojbanfaaGreatDoor
open Go.RowKit
set_option maxRecDepth 100000
set_option maxHeartbeats 16000000
theorem zjG (w:World) (S:yj) (t:Int) (z y b:Nat) (ml:List (Int × Value)) (ht:t<=1000000) (hz:Boxed w z 3 (.int .i64 t)) (hy:Boxed w y 128 (.map (some b))) (hm:yB w b ml) (hh:vg ml (xD S S.next.length)):
  Calls Tryz.prog 42 #[.func (.func 67) #[] #[.pointer (some ⟨z,0,none⟩), .pointer (some ⟨y,0,none⟩)]] w (zhu w z (xV S t.toNat t)):=by
 go_enter Tryz.func42,Tryz.ntmps42
 go_wp2_with(go_at_call 65;go_must(refine(zgY w S t z y b ml ht hz hy hm hh).mono ?_);rintro e w2 ⟨sv,rfl,h1,h2⟩;(have H1:=qh h1);(have H2:=qh h2);clear h1 h2)
 go_ret
 exact⟨sv,rfl,H1.out,H2.out⟩
def ziC (w:World) (l:List zo) (e:Ending) (w':World):Prop:=∃sv,e= .returned sv/\w'.ownsRow w.heap.size 70 3 sv l.length (zq zo.cells l)/\Below w.heap.size w w'
theorem zlK (w:World) (S:yj) (sv mv nv:Value) (h:kC w S sv mv nv) (hm:S.moves.length=S.states.length) (hn:S.next.length=S.states.length) (i:Nat) (hi:i<S.states.length) (hb:S.states.length<=1000000):
  Calls Tryz.prog 22 #[zaW sv mv nv, .int .i64 (i:Int)] w (ziC w (xV S i (i:Int)).reverse):=by
 obtain⟨a1,c1,rfl, -⟩:=zh.slice h.1
 obtain⟨a2,c2,rfl, -⟩:=zh.slice h.2.1
 obtain⟨a3,c3,rfl, -⟩:=zh.slice h.2.2
 have HM:=qh (hm.trans hn.symm)
 have HXL:Hid ((xV S i (i:Int)).length<=1000000):=by have:=zgj S i (i:Int);rw [Hid];omega
 obtain⟨n,hnn⟩:∃n,n=S.states.length:=⟨_,rfl⟩
 rw [hm,hn, <-hnn] at h ⊢
 rw [<-hnn] at hi hb
 have hi2:(i:Int)<(n:Int):=by omega
 have h02:(0:Int)<=(i:Int):=by omega
 have hi1:(i:Int)<=1000000:=by omega
 have HI1:=qh hi1
 have hB:Below w.heap.size w (w.alloc (.cells #[.slice a1 n c1, .slice a2 n c2, .slice a3 n c3] 49)):=(Below.refl _ w).alloc (Nat.le_refl _) _
 have HS:=qh (h.below hB)
 have HH1:=qh (zS w (.cells #[.slice a1 n c1, .slice a2 n c2, .slice a3 n c3] 49))
 have HB:=qh hB
 clear h hB hm hn hb hnn hi hi1
 unfold zaW
 go_enter Tryz.func22,Tryz.ntmps22
 go_upto_region 1 with fail
 generalize World.alloc w _=W at HS HH1 HB ⊢
 obtain⟨g,hg⟩:∃g,g=w.heap.size:=⟨_,rfl⟩
 rw [<-hg] at HH1 ⊢
 have c0:W.cell? ⟨g,0,none⟩=some (.slice a1 n c1):=ze HH1.out 0
 have c1':W.cell? ⟨g,1,none⟩=some (.slice a2 n c2):=ze HH1.out 1
 have c2':W.cell? ⟨g,2,none⟩=some (.slice a3 n c3):=ze HH1.out 2
 have HG:=qh hg
 clear hg
 go_wp2_with(first
  |(go_at_call 43;go_must(refine(zo5 W S _ _ _ HS.out HM.out (i:Int)).mono ?_);rintro e w2 ⟨z,y,b,ml,rfl,q1,q2,q3,q4,q5,q6⟩;(have Q1:=qh q1);(have Q2:=qh q2);(have Q3:=qh q3);(have Q4:=qh q4);(have Q5:=qh q5);(have Q6:=qh q6);clear q1 q2 q3 q4 q5 q6)
  |(go_at_call 42;go_must(refine(zjG _ S (i:Int) _ _ _ _ HI1.out Q2.out Q3.out Q4.out Q5.out).mono ?_);rintro e w3 ⟨rv,rfl,r1,r2⟩;simp only [Int.toNat_natCast] at r1;(have R1:=qh r1);(have R2:=qh r2);clear r1 r2)
  |(go_at_call 44;go_must(refine(zjF _ _ _ _ R1.out HXL.out).mono ?_);rintro e w4 ⟨rfl,s1,s2⟩;(have S1:=qh s1);(have S2:=qh s2);clear s1 s2))
 go_ret
 have hs1:=HB.out.size
 have hs2:=Q6.out.size
 have hs3:=R2.out.size
 have hq1:=Q1.out
 refine⟨rv,rfl,kK (C:=w.heap.size) (by rw [List.length_reverse];exact S1.out) (by omega), ?_⟩
 refine((HB.out.trans (Q6.out.mono hs1)).trans (R2.out.below (by omega) (λk hk=>by omega))).trans (S2.out.below (by omega) (λk hk=> ?_))
 have:=(R1.out.lt k hk).1
 omega
def zlJ (S:yj) (er:Int) (n1 n2 n3:Nat) (w:World) (e:Ending) (w':World):Prop:=(∃(a1 a2 a3:Option Addr) (c1 c2 c3:Nat),e= .returned (.tuple #[.agg #[.slice a1 n1 c1, .slice a2 n2 c2, .slice a3 n3 c3], .int .i64 er])/\kC w' S (.slice a1 n1 c1) (.slice a2 n2 c2) (.slice a3 n3 c3))/\Below w.heap.size w w'
theorem ziB {w w':World} {r:yj × Int} {S:yj} {er:Int} {n1 n2 n3:Nat} {e:Ending} (hr:r=(S,er)) (h1:n1=S.states.length) (h2:n2=S.moves.length) (h3:n3=S.next.length) (h:zc5 w r e w'):zlJ S er n1 n2 n3 w e w':=by
 subst hr h1 h2 h3
 obtain⟨⟨sv,mv,nv,rfl,hs, -, -⟩,hb⟩:=h
 obtain⟨a1,c1,rfl, -⟩:=zh.slice hs.1
 obtain⟨a2,c2,rfl, -⟩:=zh.slice hs.2.1
 obtain⟨a3,c3,rfl, -⟩:=zh.slice hs.2.2
 exact⟨⟨a1,a2,a3,c1,c2,c3,rfl,hs⟩,hb⟩
def zvu (X:World) (sb o:Nat) (s:zi) (bd:Bool):Prop:=∃(a b:Option Addr) (n c k f:Nat),∀y,Below X.heap.size X y->y.cell? ⟨sb,o,none⟩=some (.slice a n c)/\y.cell? ⟨sb,o+1,none⟩=some (.slice b k f)/\y.cell? ⟨sb,o+2,none⟩=some (.bool bd)/\yG y s (.slice a n c) (.slice b k f)
theorem zkv {X:World} {a:Option Addr} {n cap:Nat} {l:List zi} (h:gJ X (.slice a n cap) l) (hp:0<l.length):∃sb so,a=some ⟨sb,so,none⟩/\∀i,i<l.length->zvu X sb (so+i*3) (l.getD i default) (l.getD i default).bad:=by
 obtain⟨sb,so, -, -,rfl, -⟩:=gJ.part h 0 hp
 refine⟨sb,so,rfl,λi hi=> ?_⟩
 obtain⟨b2,o2,tv,mv,e, -,x0,x1,x2,hs⟩:=gJ.part h i hi
 cases e
 obtain⟨ta,tc,rfl, -⟩:=zh.slice hs.threads
 obtain⟨ma,mc,rfl, -⟩:=zh.slice hs.mem
 exact⟨ta,ma,_,tc,_,mc,λy hy=>⟨zk hy _ _ x0,zk hy _ _ x1,zk hy _ _ x2,hs.below hy⟩⟩
structure ziA (c:zx) (m:zu) (S:yj):Prop where
 pos:0<S.states.length
 mvs:S.moves.length=S.states.length
 nxt:S.next.length=S.states.length
 lens:∀i,i<S.states.length->(S.next.getD i []).length=(S.moves.getD i []).length
 few:S.states.length<=100000
 fits:∀s∈S.states,zP c m s=true
theorem zrw {c:zx} {m:zu} {d:Nat} {R:Int} {S:yj} (h:zV c m R d=(S,0)):ziA c m S:=by
 have h0:(zV c m R d).2=0:=by rw [h]
 obtain⟨h1,h2,h3⟩:=gH h0
 obtain⟨k,rfl⟩:∃k:Nat,R=k:=⟨R.toNat,by omega⟩
 have hi:=kM (c:=c) (m:=m) (d:=d) (R:=k) (P:=λs=>zP c m s=true) (λ_ _ _ hx=>zbb hx) (uy h1)
 rw [h] at hi
 rcases jH (d:=d) h1 h2 h3 with⟨-,hc⟩|h40
 ·rw [h] at hc
  exact⟨hc.pos,hc.moves,hc.next,λi hi=>(hc.lead i hi).2.len,by have:=hi.2;simp only [] at this;omega,hi.1⟩
 rw [h40] at h0;cases h0
def zin (w:World) (r:Bool × List zo × Int) (e:Ending) (w':World):Prop:=(∃(a:Option Addr) (n c:Nat),e= .returned (.tuple #[.bool r.1, .slice a n c, .int .i64 r.2.2])/\gU w' (.slice a n c) r.2.1)/\Below w.heap.size w w'
theorem zbR {w w':World} {r:Bool × List zo × Int} {b:Bool} {k:Int} (h:r=(b, [],k)) (hb:Below w.heap.size w w'):zin w r (.returned (.tuple #[.bool b, .slice none 0 0, .int .i64 k])) w':=by
 subst h;exact⟨⟨none,0,0,rfl,zh.nil _⟩,hb⟩
structure zyr (R:Bool × List zo × Int) (S T:yj) (e1 e2:Int):Prop where
 one:e1≠0->R=(false, [],e1)
 two:e1=0->e2≠0->R=(false, [],e2)
 odd:e1=0->e2=0->∀i,i<S.states.length->(∀j,j<i->bU T.states (S.states.getD j default)=false)->bU T.states (S.states.getD i default)=true->R=(false,(xV S i (i:Int)).reverse,0)
 none:e1=0->e2=0->(∀j,j<S.states.length->bU T.states (S.states.getD j default)=false)->R=(true, [],0)
theorem zvT (c:zx) (m:zu) (R:Int) (d:Nat):zyr (yD c m R d) (zV c m R d).1 (zV c jf R d).1 (zV c m R d).2 (zV c jf R d).2:=by
 refine⟨λh=> ?_,λh h2=> ?_,λh h2 i hi h3 h4=> ?_,λh h2 h3=> ?_⟩<;>unfold yD
 ·rw [if_neg h]
 ·rw [if_pos h,if_neg h2]
 ·rw [if_pos h,if_pos h2];unfold uS;rw [zpN h3 h4 hi]
 rw [if_pos h,if_pos h2];unfold uS;rw [zi9 h3]
theorem gY.plain {s:zi} (h:gY s):gY (xK s):=by
 obtain⟨ts,mem,bad⟩:=s
 exact⟨h.1,h.2⟩
theorem zmo {s:zi} :(wu (xK s)).length=(wu s).length:=by
 obtain⟨ts,mem,bad⟩:=s
 simp [wu,xK]
theorem zdX {c:zx} {m:zu} {s:zi} (hf:zP c m s=true) (hr:qE s):(wu (xK s)).length<=1000000:=by
 rw [zmo];exact zaA hf hr
theorem znF {c:zx} {m m':zu} {s t:zi} (hs:zP c m s=true) (ht:zP c m' t=true) (rs:qE s) (rt:qE t) (h:keyOf (xK s)=keyOf (xK t)):xK s=xK t:=by
 have h1:=uI hs
 have h2:=uI ht
 exact key_inj (gY.plain (uH hs rs)) (gY.plain (uH ht rt)) (by show s.mem.length=t.mem.length;omega) (by show s.threads.length=t.threads.length;omega) h
