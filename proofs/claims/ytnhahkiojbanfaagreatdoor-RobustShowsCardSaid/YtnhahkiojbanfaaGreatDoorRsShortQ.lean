/- Steps. -/
import Derived.Shelf.SlicesQ.Reverse
import Derived.Test.YtnhahkiojbanfaaGreatDoorRsClosedP
import Derived.Test.YtnhahkiojbanfaaGreatDoorRsTabAdd
set_option linter.all false
namespace Go.Proofs.YtnhahkiojbanfaaGreatDoor
open Go.RowKit
set_option maxRecDepth 100000
set_option maxHeartbeats 16000000
theorem zmP {c:zD} {m:zy} {d:Nat} (x:zq):∀(l:List zq) (s t:zi),jR c m d s l=(t,0)->(qB c m t x d).2=0->jR c m d s (l++ [x])=((qB c m t x d).1,0):=by
 intro l
 induction l with
 |nil=>
  intro s t h h2
  have e:s=t:=congrArg Prod.fst h
  subst e
  show(if (qB c m s x d).2=0 then jR c m d (qB c m s x d).1 [] else(xA,(qB c m s x d).2))=_
  rw [if_pos h2]
  rfl
 |cons y l ih=>
 intro s t h h2
 have h':(if (qB c m s y d).2=0 then jR c m d (qB c m s y d).1 l else(xA,(qB c m s y d).2))=(t,0):=h
 show(if (qB c m s y d).2=0 then jR c m d (qB c m s y d).1 (l++ [x]) else(xA,(qB c m s y d).2))=_
 split at h'
 ·rename_i h0
  rw [if_pos h0]
  exact ih _ t h' h2
 rename_i h0
 exact absurd (congrArg Prod.snd h') h0
theorem zyr {c:zD} {m:zy} {s:zi} {d:Nat} {x:zq} (h:x∈xH c m s d):(qB c m s x d).2=0:=by
 obtain⟨i, -,h2⟩:=zhm h
 rcases h2 with⟨-,t, -,he⟩|⟨v, -, -,he⟩<;>rw [he]
section
variable {c:zD} {m:zy} {d:Nat} {S:yH} {L:Nat->Nat}
theorem Closed.lens (hc:Closed c m d S):∀i,i<S.states.length->(S.next.getD i []).length=(S.moves.getD i []).length:=λi hi=>(hc.lead i hi).2.len
theorem zmQ (hc:Closed c m d S) (h:Bfs S S.states.length L) (hn:L S.states.length=S.states.length):∀b,b<S.states.length->jR c m d (xY c) (qJ S b (b:Int)).reverse=(S.states.getD b default,0):=by
 intro b
 induction b using Nat.strongRecOn with
 |_ b ih=>
 intro hb
 rcases Nat.lt_or_ge 0 b with e|e
 ·obtain⟨i,j,w1,w2,w3,w4,w5, -, -⟩:=h.way hn hc.next hc.lens (b:=b) e hb
  rw [zs6 e w1,List.reverse_cons]
  have hi:=ih i w3 w2
  obtain⟨l1,l2⟩:=hc.lead i w2
  have hmem:(S.moves.getD i []).getD j default∈xH c m (S.states.getD i default) d:=by
   rw [<-l1]
   exact xS w4
  rw [zmP _ _ _ _ hi (zyr hmem)]
  obtain⟨t,t1,t2,t3⟩:=l2.land j w4
  rw [w5] at t2
  have htb:t=b:=by omega
  rw [<-t3,htb]
 obtain rfl:b=0:=by omega
 rw [hc.first]
 rfl
end
end Go.Proofs.YtnhahkiojbanfaaGreatDoor
namespace Go.Proofs.YtnhahkiojbanfaaGreatDoor
open Go.RowKit
set_option maxRecDepth 100000
set_option maxHeartbeats 16000000
def qL (s:zi):zi:=⟨s.threads,s.mem,false⟩
def zf9 (T:List zi) (s:zi):Bool:=decide (qL s∈T.map qL)
def zbm (T:List zi) (s:zi):Bool:=wR s && !zf9 T s
def zfW (l T:List zi):Option Nat:=(List.range l.length).find? λi=>zbm T (l.getD i default)
def zbh (S T:yH):Bool × List zq × Int:=
 match zfW S.states T.states with
 |some i=>(false,(qJ S i (i:Int)).reverse,0)
 |none=>(true, [],0)
def xC (c:zD) (m:zy) (R:Int) (d:Nat):Bool × List zq × Int:=
 if (yt c m R d).2=0 then
  if (yt c kS R d).2=0 then zbh (yt c m R d).1 (yt c kS R d).1
  else(false, [],(yt c kS R d).2)
 else(false, [],(yt c m R d).2)
theorem find_range {p:Nat->Bool} :∀ {n i:Nat},(∀j,j<i->p j=false)->p i=true->i<n->(List.range n).find? p=some i:=by
 intro n
 induction n with
 |zero=>intro i _ _ h;omega
 |succ n ih=>
 intro i h1 h2 h3
 rw [List.range_succ,List.find?_append]
 rcases Nat.lt_or_ge i n with h|h
 ·rw [ih h1 h2 h];rfl
 obtain rfl:i=n:=by omega
 rw [List.find?_eq_none.2 (λx hx=>by rw [h1 x (List.mem_range.1 hx)];simp)]
 simp [h2]
theorem zvY {l T:List zi} {i:Nat} (h1:∀j,j<i->zbm T (l.getD j default)=false) (h2:zbm T (l.getD i default)=true) (h3:i<l.length):zfW l T=some i:=find_range h1 h2 h3
theorem zmR {l T:List zi} (h1:∀j,j<l.length->zbm T (l.getD j default)=false):zfW l T=none:=by
 unfold zfW
 rw [List.find?_eq_none]
 intro x hx
 rw [h1 x (List.mem_range.1 hx)];simp
theorem z2e {l T:List zi} {i:Nat} (h:zfW l T=some i):i<l.length/\wR (l.getD i default)=true/\qL (l.getD i default) ∉ T.map qL:=by
 unfold zfW at h
 have h1:=List.find?_some h
 have h2:=List.mem_of_find?_eq_some h
 unfold zbm zf9 at h1
 rw [Bool.and_eq_true,Bool.not_eq_true',decide_eq_false_iff_not] at h1
 exact⟨List.mem_range.1 h2,h1.1,h1.2⟩
theorem zys {l T:List zi} (h:∀s∈l,wR s=true->qL s∈T.map qL):zfW l T=none:=zmR λj hj=>by
 unfold zbm zf9
 have hm:l.getD j default∈l:=xS hj
 cases hc:wR (l.getD j default)
 ·rfl
 rw [decide_eq_true (h _ hm hc)];rfl
theorem zbP {c:zD} {m:zy} {d:Nat} {R:Int} (h:(yt c m R d).2=0):qA c m=true/\1<=R/\R<=100000:=by
 unfold yt at h
 split at h
 ·cases h
 rename_i hr
 refine⟨?_, ?_, ?_⟩
 ·cases e:qA c m
  ·exact absurd (.inl e) hr
  rfl
 ·exact Int.not_lt.1 λe=>hr (.inr (.inl e))
 exact Int.not_lt.1 λe=>hr (.inr (.inr e))
theorem zgU {c:zD} {m:zy} {d:Nat} {R:Int} (hm:qA c m=true) (h1:1<=R) (h2:R<=100000):(yt c m R d).2=0\/(yt c m R d).2=40:=by
 rcases pW (d:=d) hm h1 h2 with⟨h, -⟩|h
 ·exact .inl h
 exact .inr h
theorem z2f {c:zD} {m:zy} (h:qA c m=true):qA c kS=true:=by
 unfold qA at h ⊢
 simp only [Bool.and_eq_true,decide_eq_true_eq,kS] at h ⊢
 obtain⟨⟨⟨⟨h1, -⟩, -⟩, -⟩, -⟩:=h
 exact⟨⟨⟨⟨h1,by decide⟩,by decide⟩,by decide⟩,by decide⟩
theorem zvZ {c:zD} {m m':zy} {s:zi} {t:zx} {x:zS} {d:Nat} (h:m.model=0) (h':m'.model=0) (hb:t.buf= []):stepT c m s t x d=stepT c m' s t x d:=by
 by_cases h2:x.op=2
 ·rw [jW h2 h,jW h2 h']
 exact zny h2 hb
theorem zwa {c:zD} {m m':zy} {s:zi} {i d:Nat} (h:m.model=0) (h':m'.model=0) (hb:Bare s) (hi:i<s.threads.length):jl c m s i d=jl c m' s i d:=by
 unfold jl
 rw [zvZ h h' (hb i hi)]
theorem zyt {c:zD} {m m':zy} {d:Nat} {T:yH} (hm:qA c m'=true) (h0:m.model=0) (h0':m'.model=0) (h:Closed c m' d T) {s:zi} (hs:s∈T.states) (hb:Bare s) {x:zq} (hx:x∈xH c m s d):(qB c m s x d).1∈T.states/\Bare (qB c m s x d).1:=by
 have hfs:=(zfp hx).1
 have hf:=zs5 hm hb hfs
 obtain⟨i,hi,hx2⟩:=zhm hx
 rcases hx2 with⟨rfl,t,ht,he⟩|⟨v,rfl,hv, -⟩
 ·rw [he]
  have hst:=ht
  rw [zwa h0 h0' hb hi] at hst
  obtain⟨g1,g2⟩:=zpV (d:=d) hf hi hst
  have:=h.step hs g1
  rw [g2] at this
  refine⟨this, ?_⟩
  unfold jl at ht
  split at ht
  ·obtain⟨r,hr,rfl⟩:=Option.map_eq_some_iff.1 ht
   exact zvr hb (zpU hr h0 (hb i hi))
  cases ht
 rw [hb i hi] at hv
 simp [yK,h0] at hv
theorem zq0 (c:zD):Bare (xY c):=by
 intro i hi
 have:=zeo c
 have h:(xY c).threads=List.replicate c.threads.length default\/True:= .inr trivial
 unfold xY at hi ⊢
 split at hi
 ·rename_i hc
  rw [if_pos hc] at*
  simp only [List.length_replicate] at hi
  rw [List.getD_eq_getElem?_getD,List.getElem?_replicate,if_pos hi];rfl
 rename_i hc
 simp at hi
theorem z2g {c:zD} {m:zy} {d R:Nat} {T:yH} (hm:qA c kS=true) (h0:m.model=0) (h:Closed c kS d T):∀s∈(yt c m R d).1.states,s∈T.states:=by
 have h2:∀s∈(yt c m R d).1.states,s∈T.states/\Bare s:=(zfq (P:=λs=>s∈T.states/\Bare s) (λs hs x hx=>zyt hm h0 rfl h hs.1 hs.2 hx) ⟨by rw [<-h.first];exact xS h.pos,zq0 c⟩).1
 exact λs hs=>(h2 s hs).1
theorem zjI {c:zD} {m:zy} {d R:Nat} (h0:m.model=0) (h:(xC c m R d).2.2=0):xC c m R d=(true, [],0):=by
 unfold xC at h ⊢
 split at h
 ·rename_i e1
  rw [if_pos e1]
  split at h
  ·rename_i e2
   rw [if_pos e2]
   obtain⟨m1,r1,r2⟩:=zbP e2
   rcases pW (d:=d) m1 r1 r2 with⟨-,hc⟩|h40
   ·unfold zbh
    rw [zys λs hs _=>List.mem_map.2 ⟨s,z2g m1 h0 hc s hs,rfl⟩]
   rw [h40] at e2;cases e2
  exact absurd h ‹_›
 exact absurd h ‹_›
theorem zcy {c:zD} {m:zy} {d R:Nat} (h:(xC c m R d).2.2=0):
  ∃S T:yH,yt c m R d=(S,0)/\yt c kS R d=(T,0)/\qA c m=true/\((xC c m R d)=(true, [],0)\/∃i,i<S.states.length/\xC c m R d=(false,(qJ S i (i:Int)).reverse,0)/\zbi c m (qJ S i (i:Int)).reverse d=(S.states.getD i default,0)/\wR (S.states.getD i default)=true/\∀u∈T.states,S.states.getD i default≠⟨u.threads,u.mem,(S.states.getD i default).bad⟩):=by
 unfold xC at h ⊢
 split at h
 ·rename_i e1
  rw [if_pos e1]
  split at h
  ·rename_i e2
   rw [if_pos e2]
   obtain⟨m1,r1,r2⟩:=zbP e1
   have h1:yt c m R d=((yt c m R d).1,0):=by rw [<-e1]
   have h2:yt c kS R d=((yt c kS R d).1,0):=by rw [<-e2]
   refine⟨_,_,h1,h2,m1, ?_⟩
   rcases pW (d:=d) m1 r1 r2 with⟨-,hc⟩|h40
   ·obtain⟨L,hb,hn⟩:=znz h1
    unfold zbh
    cases ho:zfW (yt c m R d).1.states (yt c kS R d).1.states with
    |none=>exact .inl rfl
    |some i=>
    obtain⟨o1,o2,o3⟩:=z2e ho
    refine .inr ⟨i,o1,rfl, ?_,o2,λu hu e=>o3 (List.mem_map.2 ⟨u,hu, ?_⟩)⟩
    ·unfold zbi
     rw [m1,if_pos rfl]
     exact zmQ hc hb hn i o1
    rw [e];rfl
   rw [h40] at e1;cases e1
  exact absurd h ‹_›
 exact absurd h ‹_›
theorem zph {c:zD} {m:zy} {d R:Nat} (hm:qA c m=true) (h1:1<=R) (h2:R<=100000):(xC c m R d).2.2=0\/(xC c m R d)=(false, [],40):=by
 unfold xC
 rcases zgU (d:=d) hm (Int.ofNat_le.2 h1) (Int.ofNat_le.2 h2) with h|h
 ·rw [if_pos h]
  rcases zgU (d:=d) (z2f hm) (Int.ofNat_le.2 h1) (Int.ofNat_le.2 h2) with h'|h'
  ·rw [if_pos h']
   refine .inl ?_
   unfold zbh
   split<;>rfl
  rw [if_neg (by rw [h'];decide),h'];exact .inr rfl
 rw [if_neg (by rw [h];decide),h];exact .inr rfl
theorem zX.plain {w:World} {s:zi} {tv mv:Value} (h:zX w s tv mv):zX w (qL s) tv mv:=⟨h.threads,h.mem⟩
theorem zkk (w:World) (s:zi) (a b:Option Addr) (n c k f:Nat) (bd:Bool) (hs:zX w s (.slice a n c) (.slice b k f)) (hl:(bM (qL s)).length<=1000000):Calls Tryz.prog 20 #[.agg #[.slice a n c, .slice b k f, .bool bd]] w (zsB w (keyOf (qL s))):=by
 obtain⟨W,hW⟩:∃W,W=w.alloc (.cells #[.slice a n c, .slice b k f, .bool bd] 42):=⟨_,rfl⟩
 have h1:W.heap[w.heap.size]? =some (.cells #[.slice a n c, .slice b k f, .bool bd] 42 (0,0)):=by rw [hW];exact yj _ _
 have hB0:Below w.heap.size w W:=by rw [hW];exact(Below.refl _ _).alloc (Nat.le_refl _) _
 have hs1:Since (λk=>k=w.heap.size) W (W.setCell ⟨w.heap.size,2,none⟩ (.bool false)):=Since.setCell (F:=λk=>k=w.heap.size) (p:=⟨w.heap.size,2,none⟩) (Since.refl _ _) (.inl rfl) _
 have hx:(W.setCell ⟨w.heap.size,2,none⟩ (.bool false)).heap[w.heap.size]? =some (.cells #[.slice a n c, .slice b k f, .bool false] 42 (0,0)):=by have:=zu h1 2 (.bool false);simpa using this
 have hB:=hB0.trans (hs1.below hB0.size (λk hk=>Nat.le_of_eq hk.symm))
 have hk:=zju (W.setCell ⟨w.heap.size,2,none⟩ (.bool false)) (qL s) _ _ ((hs.below hB).plain) hl
 unfold yA at hk
 have e:(qL s).bad=false:=rfl
 rw [e] at hk
 have y2:=ze h1 2
 have f2:=zA h1 2
 have HK:=qh hk
 have HB:=qh hB
 have HW:=qh hW
 have HX:=qh hx
 clear hk hB hB0 hs1 h1 hx e hs hl hW
 go_enter Tryz.func20,Tryz.ntmps20
 go_upto_region 1 with fail
 rw [<-HW.out]
 clear HW
 go_upto_region 2 with fail
 clear y2 f2
 generalize World.setCell W _ _=X at HX HB HK ⊢
 have z0:=ze HX.out 0
 have z1:=ze HX.out 1
 have z2:=ze HX.out 2
 go_wp2_with(go_at_call 38;go_must(refine(HK.out).mono ?_);rintro e Y ⟨rfl,hb⟩;(have HY:=qh hb);clear hb)
 go_ret
 exact⟨rfl,HB.out.trans (HY.out.mono HB.out.size)⟩
end Go.Proofs.YtnhahkiojbanfaaGreatDoor
namespace Go.Proofs.YtnhahkiojbanfaaGreatDoor
open Go.RowKit Go.Sort
set_option maxRecDepth 100000
set_option maxHeartbeats 16000000
def znH:Go.Shelf.Ren:=⟨λ|35=>44|n=>n,λ|0=>0|3=>3|4=>4|22=>32|23=>70|n=>n,λn=>n⟩
theorem zoL:Go.Proofs.SlLaysE0.n35 Tryz.prog znH:= {
 mixed:=by kernel_rfl,
 f35:=⟨Tryz.f44.name,by decide,Tryz.func44.trans (congrArg some (by kernel_rfl))⟩,
 t0:=Tryz.underlying0,
 a0:=Tryz.isAgg0,
 z0:=Tryz.sizeOf0,
 v0:=Tryz.zeroValue0,
 t3:=Tryz.underlying3,
 a3:=Tryz.isAgg3,
 z3:=Tryz.sizeOf3,
 v3:=Tryz.zeroValue3,
 t4:=Tryz.underlying4,
 a4:=Tryz.isAgg4,
 z4:=Tryz.sizeOf4,
 v4:=Tryz.zeroValue4,
 t22:=Tryz.underlying32,
 a22:=Tryz.isAgg32,
 z22:=Tryz.sizeOf32,
 v22:=Tryz.zeroValue32 }
theorem zyu {w:World} {B g n cap:Nat} {e:TypeId} {size:Nat} {xs:List Value} (h:w.ownsRow B e size (.slice (some ⟨g,0,none⟩) n cap) n xs):B<=g/\∃cur,w.heap[g]? =some (.cells cur e (0,0))/\cur.size=cap*size/\∀j,j<n*size->cur[j]? =xs[j]? :=by
 rcases h.2 with⟨h1, -⟩|⟨g',cap',cur,h1,h2,h3, -, -,h6,h7⟩
 ·cases h1
 cases h1
 refine⟨h2,cur,h3,h6,λj hj=> ?_⟩
 rw [<-h7,List.getElem?_take_of_lt hj]
 simp
theorem zq1 {w:World} {g n:Nat} {dk:Array zq} {cur:Array Value} {t:TypeId} (hb:w.heap[g]? =some (.cells cur t (0,0))):
  (putRowK zq.cells 3 (Go.Sort.ahead w n) g 0 dk).heap[g]? =some (.cells (putCells id 0 (flatK zq.cells 3 dk) cur) t (0,0)):=by
 unfold putRowK putRow mapBlock Go.Sort.ahead
 simp only []
 rw [Array.getElem?_modify,if_pos rfl,hb]
 rfl
theorem zq2 (w:World) (g n:Nat) (dk:Array zq):Since (λi=>i=g) w (putRowK zq.cells 3 (Go.Sort.ahead w n) g 0 dk):=by
 refine⟨rfl,rfl,rfl, ?_,λi hi hne=> ?_⟩
 ·unfold putRowK putRow mapBlock Go.Sort.ahead
  simp
 unfold putRowK putRow mapBlock Go.Sort.ahead
 simp only []
 rw [Array.getElem?_modify,if_neg (λe=>hne e.symm)]
theorem zgV (l:List zq) (d:Array zq) (hd:d.toList=l) (t:Nat) (ht:t<l.length*3):(zo zq.cells l)[t]? =some ((flatK zq.cells 3 d)[t]!):=by
 have hds:d.size=l.length:=by rw [<-hd];simp
 have hq:t / 3<l.length:=by omega
 have h1:=zay (f:=zq.cells) (size:=3) bR (l:=l) (j:=t / 3) (i:=t % 3) hq (by omega)
 rw [show t / 3*3+t % 3=t by omega] at h1
 rw [h1,get_flatK zq.cells 3 d t (by rw [hds];exact ht)]
 have hg:d[t / 3]! =l.getD (t / 3) default:=by
  rw [getElem!_pos d _ (by rw [hds];exact hq)]
  subst hd
  simp [List.getD_eq_getElem?_getD,Array.getElem?_eq_getElem (show t / 3<d.size by rw [hds];exact hq)]
 rw [hg,List.getElem?_eq_getElem (by rw [bR];omega),List.getElem!_eq_getElem?_getD,List.getElem?_eq_getElem (by rw [bR];omega)]
 rfl
def z2h (w:World) (B:Nat) (v:Value) (l:List zq) (e:Ending) (w':World):Prop:=e= .returned (.tuple #[])/\w'.ownsRow B 70 3 v l.length (zo zq.cells l.reverse)/\Since (λk=>v.ownBlock=some k) w w'
theorem znI (w:World) (B:Nat) (v:Value) (l:List zq) (hrow:w.ownsRow B 70 3 v l.length (zo zq.cells l)) (hn:l.length<=1000000):
  Calls Tryz.prog 44 #[v] w (z2h w B v l):=by
 rcases Nat.eq_zero_or_pos l.length with h0|h0
 ·have hP:l= [] :=List.eq_nil_of_length_eq_zero h0
  subst hP
  obtain⟨a,cap,rfl, -, -⟩:=xu hrow
  refine Calls.mono (Go.Proofs.AnyQ.slices_Reverse_empty zoL a cap w) λe w' ⟨he,hw⟩=> ?_
  subst hw
  exact⟨he,hrow,Since.refl _ _⟩
 obtain⟨g,cap,rfl,hcap,hcm⟩:=uz hrow h0
 obtain⟨hbg,cur,hcb,hcs,hcur⟩:=zyu hrow
 have hH:HoldsK zq.cells 3 w g 0 l.toArray:=by
  intro t ht
  rw [size_flatK,List.size_toArray] at ht
  refine⟨?_,zA hcb _⟩
  rw [Nat.zero_add,ze hcb,hcur t ht,zgV l l.toArray (by simp) t ht]
  rfl
 have hc:=Go.Proofs.AnyQ.slices_Reverse zoL 3 Tryz.isAgg70 Tryz.sizeOf70 zq.cells bR (λx u hu=>by
  simp only [zq.cells,List.mem_cons,List.not_mem_nil,or_false] at hu
  rcases hu with rfl|rfl|rfl<;>rfl) g 0 cap l.toArray w hH (by rw [List.size_toArray];omega)
 rw [List.size_toArray] at hc
 refine Calls.mono hc λe w' ⟨he,n,hw⟩=> ?_
 have hblk:=zq1 (n:=n) (dk:=l.toArray.reverse) hcb
 rw [<-hw] at hblk
 refine⟨he,⟨by rw [jB bR,List.length_reverse], .inr ⟨g,cap,_,rfl,hbg,hblk,hcap,hcm,by simp [putCells,hcs], ?_⟩⟩, ?_⟩
 ·apply List.ext_getElem?
  intro t
  rw [List.getElem?_take]
  split
  ·rename_i ht
   have h1:=zgV l.reverse l.toArray.reverse (by simp) t (by rw [List.length_reverse];exact ht)
   rw [h1,Array.getElem?_toList]
   unfold putCells
   rw [Array.getElem?_mapIdx,Array.getElem?_eq_getElem (by rw [hcs];have:=Nat.mul_le_mul_right 3 hcap;omega)]
   simp only [Option.map_some]
   rw [if_pos ⟨Nat.zero_le _,by rw [size_flatK];simp;omega⟩,Nat.sub_zero]
   rfl
  rename_i ht
  rw [List.getElem?_eq_none (by rw [jB bR,List.length_reverse];omega)]
 rw [hw]
 exact(zq2 w g n _).mono (λk _ hk=>by rw [hk];rfl)
end Go.Proofs.YtnhahkiojbanfaaGreatDoor
namespace Go.Proofs.YtnhahkiojbanfaaGreatDoor
open Go.RowKit
set_option maxRecDepth 100000
set_option maxHeartbeats 16000000
theorem znJ (w:World) (S:yH) (t:Int) (z y b:Nat) (ml:List (Int × Value)) (ht:t<=1000000) (hz:Boxed w z 3 (.int .i64 t)) (hy:Boxed w y 128 (.map (some b))) (hm:xL w b ml) (hh:jK ml (yY S S.next.length)):
  Calls Tryz.prog 42 #[.func (.func 67) #[] #[.pointer (some ⟨z,0,none⟩), .pointer (some ⟨y,0,none⟩)]] w (zmy w z (qJ S t.toNat t)):=by
 go_enter Tryz.func42,Tryz.ntmps42
 go_wp2_with(go_at_call 65;go_must(refine(zkA w S t z y b ml ht hz hy hm hh).mono ?_);rintro e w2 ⟨sv,rfl,h1,h2⟩;(have H1:=qh h1);(have H2:=qh h2);clear h1 h2)
 go_ret
 exact⟨sv,rfl,H1.out,H2.out⟩
def zma (w:World) (l:List zq) (e:Ending) (w':World):Prop:=∃sv,e= .returned sv/\w'.ownsRow w.heap.size 70 3 sv l.length (zo zq.cells l)/\Below w.heap.size w w'
theorem zpF (w:World) (S:yH) (sv mv nv:Value) (h:wM w S sv mv nv) (hm:S.moves.length=S.states.length) (hn:S.next.length=S.states.length) (i:Nat) (hi:i<S.states.length) (hb:S.states.length<=1000000):
  Calls Tryz.prog 22 #[zdU sv mv nv, .int .i64 (i:Int)] w (zma w (qJ S i (i:Int)).reverse):=by
 obtain⟨a1,c1,rfl, -⟩:=zh.slice h.1
 obtain⟨a2,c2,rfl, -⟩:=zh.slice h.2.1
 obtain⟨a3,c3,rfl, -⟩:=zh.slice h.2.2
 have HM:=qh (hm.trans hn.symm)
 have HXL:Hid ((qJ S i (i:Int)).length<=1000000):=by have:=zkv S i (i:Int);rw [Hid];omega
 obtain⟨n,hnn⟩:∃n,n=S.states.length:=⟨_,rfl⟩
 rw [hm,hn, <-hnn] at h ⊢
 rw [<-hnn] at hi hb
 have hi2:(i:Int)<(n:Int):=by omega
 have h02:(0:Int)<=(i:Int):=by omega
 have hi1:(i:Int)<=1000000:=by omega
 have HI1:=qh hi1
 have hB:Below w.heap.size w (w.alloc (.cells #[.slice a1 n c1, .slice a2 n c2, .slice a3 n c3] 49)):=(Below.refl _ w).alloc (Nat.le_refl _) _
 have HS:=qh (h.below hB)
 have HH1:=qh (yj w (.cells #[.slice a1 n c1, .slice a2 n c2, .slice a3 n c3] 49))
 have HB:=qh hB
 clear h hB hm hn hb hnn hi hi1
 unfold zdU
 go_enter Tryz.func22,Tryz.ntmps22
 go_upto_region 1 with fail
 generalize World.alloc w _=W at HS HH1 HB ⊢
 obtain⟨g,hg⟩:∃g,g=w.heap.size:=⟨_,rfl⟩
 rw [<-hg] at HH1 ⊢
 have c0:W.cell? ⟨g,0,none⟩=some (.slice a1 n c1):=ze HH1.out 0
 have c1':W.cell? ⟨g,1,none⟩=some (.slice a2 n c2):=ze HH1.out 1
 have c2':W.cell? ⟨g,2,none⟩=some (.slice a3 n c3):=ze HH1.out 2
 have HG:=qh hg
 clear hg
 go_wp2_with(first
  |(go_at_call 43;go_must(refine(zvt W S _ _ _ HS.out HM.out (i:Int)).mono ?_);rintro e w2 ⟨z,y,b,ml,rfl,q1,q2,q3,q4,q5,q6⟩;(have Q1:=qh q1);(have Q2:=qh q2);(have Q3:=qh q3);(have Q4:=qh q4);(have Q5:=qh q5);(have Q6:=qh q6);clear q1 q2 q3 q4 q5 q6)
  |(go_at_call 42;go_must(refine(znJ _ S (i:Int) _ _ _ _ HI1.out Q2.out Q3.out Q4.out Q5.out).mono ?_);rintro e w3 ⟨rv,rfl,r1,r2⟩;simp only [Int.toNat_natCast] at r1;(have R1:=qh r1);(have R2:=qh r2);clear r1 r2)
  |(go_at_call 44;go_must(refine(znI _ _ _ _ R1.out HXL.out).mono ?_);rintro e w4 ⟨rfl,s1,s2⟩;(have S1:=qh s1);(have S2:=qh s2);clear s1 s2))
 go_ret
 have hs1:=HB.out.size
 have hs2:=Q6.out.size
 have hs3:=R2.out.size
 have hq1:=Q1.out
 refine⟨rv,rfl,xq (C:=w.heap.size) (by rw [List.length_reverse];exact S1.out) (by omega), ?_⟩
 refine((HB.out.trans (Q6.out.mono hs1)).trans (R2.out.below (by omega) (λk hk=>by omega))).trans (S2.out.below (by omega) (λk hk=> ?_))
 have:=(R1.out.lt k hk).1
 omega
def zpE (S:yH) (er:Int) (n1 n2 n3:Nat) (w:World) (e:Ending) (w':World):Prop:=(∃(a1 a2 a3:Option Addr) (c1 c2 c3:Nat),e= .returned (.tuple #[.agg #[.slice a1 n1 c1, .slice a2 n2 c2, .slice a3 n3 c3], .int .i64 er])/\wM w' S (.slice a1 n1 c1) (.slice a2 n2 c2) (.slice a3 n3 c3))/\Below w.heap.size w w'
theorem zlZ {w w':World} {r:yH × Int} {S:yH} {er:Int} {n1 n2 n3:Nat} {e:Ending} (hr:r=(S,er)) (h1:n1=S.states.length) (h2:n2=S.moves.length) (h3:n3=S.next.length) (h:zcu w r e w'):zpE S er n1 n2 n3 w e w':=by
 subst hr h1 h2 h3
 obtain⟨⟨sv,mv,nv,rfl,hs, -, -⟩,hb⟩:=h
 obtain⟨a1,c1,rfl, -⟩:=zh.slice hs.1
 obtain⟨a2,c2,rfl, -⟩:=zh.slice hs.2.1
 obtain⟨a3,c3,rfl, -⟩:=zh.slice hs.2.2
 exact⟨⟨a1,a2,a3,c1,c2,c3,rfl,hs⟩,hb⟩
def z2i (X:World) (sb o:Nat) (s:zi) (bd:Bool):Prop:=∃(a b:Option Addr) (n c k f:Nat),∀y,Below X.heap.size X y->y.cell? ⟨sb,o,none⟩=some (.slice a n c)/\y.cell? ⟨sb,o+1,none⟩=some (.slice b k f)/\y.cell? ⟨sb,o+2,none⟩=some (.bool bd)/\zX y s (.slice a n c) (.slice b k f)
theorem zo1 {X:World} {a:Option Addr} {n cap:Nat} {l:List zi} (h:kH X (.slice a n cap) l) (hp:0<l.length):∃sb so,a=some ⟨sb,so,none⟩/\∀i,i<l.length->z2i X sb (so+i*3) (l.getD i default) (l.getD i default).bad:=by
 obtain⟨sb,so, -, -,rfl, -⟩:=kH.part h 0 hp
 refine⟨sb,so,rfl,λi hi=> ?_⟩
 obtain⟨b2,o2,tv,mv,e, -,x0,x1,x2,hs⟩:=kH.part h i hi
 cases e
 obtain⟨ta,tc,rfl, -⟩:=zh.slice hs.threads
 obtain⟨ma,mc,rfl, -⟩:=zh.slice hs.mem
 exact⟨ta,ma,_,tc,_,mc,λy hy=>⟨zk hy _ _ x0,zk hy _ _ x1,zk hy _ _ x2,hs.below hy⟩⟩
structure zlY (c:zD) (m:zy) (S:yH):Prop where
 pos:0<S.states.length
 mvs:S.moves.length=S.states.length
 nxt:S.next.length=S.states.length
 lens:∀i,i<S.states.length->(S.next.getD i []).length=(S.moves.getD i []).length
 few:S.states.length<=100000
 fits:∀s∈S.states,yB c m s=true
theorem zwN {c:zD} {m:zy} {d:Nat} {R:Int} {S:yH} (h:yt c m R d=(S,0)):zlY c m S:=by
 have h0:(yt c m R d).2=0:=by rw [h]
 obtain⟨h1,h2,h3⟩:=zbP h0
 obtain⟨k,rfl⟩:∃k:Nat,R=k:=⟨R.toNat,by omega⟩
 have hi:=zfq (c:=c) (m:=m) (d:=d) (R:=k) (P:=λs=>yB c m s=true) (λ_ _ _ hx=>zog hx) (zif h1)
 rw [h] at hi
 rcases pW (d:=d) h1 h2 h3 with⟨-,hc⟩|h40
 ·rw [h] at hc
  exact⟨hc.pos,hc.moves,hc.next,λi hi=>(hc.lead i hi).2.len,by have:=hi.2;simp only [] at this;omega,hi.1⟩
 rw [h40] at h0;cases h0
def zlh (w:World) (r:Bool × List zq × Int) (e:Ending) (w':World):Prop:=(∃(a:Option Addr) (n c:Nat),e= .returned (.tuple #[.bool r.1, .slice a n c, .int .i64 r.2.2])/\j6 w' (.slice a n c) r.2.1)/\Below w.heap.size w w'
theorem zey {w w':World} {r:Bool × List zq × Int} {b:Bool} {k:Int} (h:r=(b, [],k)) (hb:Below w.heap.size w w'):zlh w r (.returned (.tuple #[.bool b, .slice none 0 0, .int .i64 k])) w':=by
 subst h;exact⟨⟨none,0,0,rfl,zh.nil _⟩,hb⟩
structure z6Y (R:Bool × List zq × Int) (S T:yH) (e1 e2:Int):Prop where
 one:e1≠0->R=(false, [],e1)
 two:e1=0->e2≠0->R=(false, [],e2)
 odd:e1=0->e2=0->∀i,i<S.states.length->(∀j,j<i->zbm T.states (S.states.getD j default)=false)->zbm T.states (S.states.getD i default)=true->R=(false,(qJ S i (i:Int)).reverse,0)
 none:e1=0->e2=0->(∀j,j<S.states.length->zbm T.states (S.states.getD j default)=false)->R=(true, [],0)
theorem z2R (c:zD) (m:zy) (R:Int) (d:Nat):z6Y (xC c m R d) (yt c m R d).1 (yt c kS R d).1 (yt c m R d).2 (yt c kS R d).2:=by
 refine⟨λh=> ?_,λh h2=> ?_,λh h2 i hi h3 h4=> ?_,λh h2 h3=> ?_⟩<;>unfold xC
 ·rw [if_neg h]
 ·rw [if_pos h,if_neg h2]
 ·rw [if_pos h,if_pos h2];unfold zbh;rw [zvY h3 h4 hi]
 rw [if_pos h,if_pos h2];unfold zbh;rw [zmR h3]
theorem zaF.plain {s:zi} (h:zaF s):zaF (qL s):=by
 obtain⟨ts,mem,bad⟩:=s
 exact⟨h.1,h.2⟩
theorem zq3 {s:zi} :(bM (qL s)).length=(bM s).length:=by
 obtain⟨ts,mem,bad⟩:=s
 simp [bM,qL]
theorem zgL {c:zD} {m:zy} {s:zi} (hf:yB c m s=true) (hr:vX s):(bM (qL s)).length<=1000000:=by
 rw [zq3];exact zdb hf hr
theorem zrY {c:zD} {m m':zy} {s t:zi} (hs:yB c m s=true) (ht:yB c m' t=true) (rs:vX s) (rt:vX t) (h:keyOf (qL s)=keyOf (qL t)):qL s=qL t:=by
 have h1:=zaK hs
 have h2:=zaK ht
 exact key_inj (zaF.plain (zaL hs rs)) (zaF.plain (zaL ht rt)) (by show s.mem.length=t.mem.length;omega) (by show s.threads.length=t.threads.length;omega) h
