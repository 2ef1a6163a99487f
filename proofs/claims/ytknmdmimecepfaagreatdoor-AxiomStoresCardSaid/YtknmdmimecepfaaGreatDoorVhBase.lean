/- Steps. -/
import Derived.Deep.LoopGhost
import Derived.OpenShut
import Derived.ProofKit
import Derived.ShutString
import Derived.WalkLawsBesides
import Derived.WalkSpells
import Derived.Test.YtknmdmimecepfaaGreatDoorTie
import Derived.Test.YtknmdmimecepfaaGreatDoorVhShort
set_option linter.all false
namespace Go.Proofs.YtknmdmimecepfaaGreatDoor
open Go.RowKit
set_option maxRecDepth 100000
set_option maxHeartbeats 16000000
structure Since (F:Nat->Prop) (w w':World):Prop where
 os:w'.os=w.os
 tape:w'.tape=w.tape
 output:w'.output=w.output
 size:w.heap.size<=w'.heap.size
 block:∀k,k<w.heap.size->¬F k->w'.heap[k]? =w.heap[k]?
theorem Since.refl (F:Nat->Prop) (w:World):Since F w w:=⟨rfl,rfl,rfl,Nat.le_refl _,λ_ _ _=>rfl⟩
theorem Since.trans {F G:Nat->Prop} {a b c:World} (h:Since F a b) (k:Since G b c) (hG:∀i,G i->F i\/a.heap.size<=i):Since F a c:=
 ⟨k.os.trans h.os,k.tape.trans h.tape,k.output.trans h.output,Nat.le_trans h.size k.size,λi hi hf=>
  (k.block i (Nat.lt_of_lt_of_le hi h.size) (λhg=>(hG i hg).elim hf (λh=>absurd hi (Nat.not_lt.2 h)))).trans (h.block i hi hf)⟩
theorem Since.mono {F G:Nat->Prop} {w w':World} (h:Since F w w') (hG:∀k,k<w.heap.size->F k->G k):Since G w w':=
 ⟨h.os,h.tape,h.output,h.size,λk hk hg=>h.block k hk λhf=>hg (hG k hk hf)⟩
theorem Since.below {F:Nat->Prop} {w w':World} (h:Since F w w') {B:Nat} (hB:B<=w.heap.size) (hF:∀k,F k->B<=k):Below B w w':=
 ⟨h.os,h.tape,h.output,h.size,λk hk=>h.block k (Nat.lt_of_lt_of_le hk hB) λhf=>absurd hk (Nat.not_lt.2 (hF k hf))⟩
theorem Since.of_below {w w':World} {B:Nat} (h:Below B w w'):Since (λk=>B<=k) w w':=
 ⟨h.os,h.tape,h.output,h.size,λk _ hf=>h.block k (Nat.lt_of_not_le hf)⟩
theorem Since.drew (F:Nat->Prop) {a w:World} (h:Since F a w):Since F a w.drew:=⟨h.os,h.tape,h.output,h.size,h.block⟩
theorem Since.drewN (F:Nat->Prop) {a w:World} (n:Nat) (h:Since F a w):Since F a (w.drewN n):=⟨h.os,h.tape,h.output,h.size,h.block⟩
theorem Since.alloc {F:Nat->Prop} {a w:World} (h:Since F a w) (o:Obj):Since F a (w.alloc o):=
 h.trans (G:=λ_=>False) ⟨rfl,rfl,rfl,by simp,λk hk _=>Below.heap_alloc _ _ _ hk⟩ (λ_ h=>h.elim)
theorem Since.setCell {F:Nat->Prop} {a w:World} (h:Since F a w) {p:Addr} (hp:F p.block\/a.heap.size<=p.block) (u:Value):Since F a (w.setCell p u):=
 h.trans (G:=λk=>k=p.block) ⟨rfl,rfl,rfl,by simp [World.setCell],λk _ hk=>Below.heap_setCell _ _ _ _ hk⟩ (λ_ h=>h ▸ hp)
theorem Since.grown {F:Nat->Prop} {a w w':World} {row:Option Nat} (h:Since F a w) (hg:w.grownBy w' row) (hr:∀k,row=some k->F k\/a.heap.size<=k):Since F a w':=
 h.trans (G:=λk=>row=some k) ⟨hg.os,hg.tape,hg.output,hg.size,λk hk hne=>hg.block k hk λe=>hne e.symm⟩ hr
theorem Since.cell {F:Nat->Prop} {w w':World} (h:Since F w w') {p:Addr} (hp:p.block<w.heap.size) (hf:¬F p.block):w'.cell? p=w.cell? p:=World.cell?_of_block (h.block p.block hp hf)
theorem Since.row {F:Nat->Prop} {w w':World} (h:Since F w w') {base:Nat} {e:TypeId} {size:Nat} {v:Value} {n:Nat} {xs:List Value} (ho:w.ownsRow base e size v n xs) (hf:∀k,v.ownBlock=some k->¬F k):w'.ownsRow base e size v n xs:=by
 refine⟨ho.1, ?_⟩
 rcases ho.2 with hn|⟨g,cap,cur,rfl,hb,hgg,rest⟩
 ·exact .inl hn
 exact .inr ⟨g,cap,cur,rfl,hb,by rw [h.block g (Array.getElem?_eq_some_iff.1 hgg).1 (hf g (by simp [Value.ownBlock]))];exact hgg,rest⟩
theorem ze {w:World} {b:Nat} {c:Array Value} {e:TypeId} {f:Nat × Nat} (h:w.heap[b]? =some (.cells c e f)) (j:Nat):w.cell? ⟨b,j,none⟩=c[j]? :=by simp [World.cell?,h]
theorem yD {w:World} {b:Nat} {c:Array Value} {e:TypeId} (h:w.heap[b]? =some (.cells c e (0,0))) (j:Nat):w.frozen? ⟨b,j,none⟩=false:=by simp [World.frozen?,h]
theorem zq {w:World} {b:Nat} {c:Array Value} {e:TypeId} {f:Nat × Nat} (h:w.heap[b]? =some (.cells c e f)) (j:Nat) (u:Value):(w.setCell ⟨b,j,none⟩ u).heap[b]? =some (.cells (c.setIfInBounds j u) e f):=by
 simp [World.setCell,Array.getElem?_modify,h]
theorem zI {w:World} {b:Nat} {o:Obj} (h:w.heap[b]? =some o):b<w.heap.size:=(Array.getElem?_eq_some_iff.1 h).1
theorem zcw {w:World} {B:Nat} {e:TypeId} {size:Nat} {v:Value} {n:Nat} {xs:List Value} (h:w.ownsRow B e size v n xs) (hn:0<n):
  ∃g cap,v= .slice (some ⟨g,0,none⟩) n cap/\n<=cap/\cap<=maxLen:=by
 rcases h.2 with⟨_,rfl⟩|⟨g,cap,cur,rfl,_,_,h1,h2,_⟩
 ·omega
 exact⟨g,cap,rfl,h1,h2⟩
theorem xP {w:World} {B:Nat} {e:TypeId} {size:Nat} {v:Value} {n:Nat} {xs:List Value} (h:w.ownsRow B e size v n xs):
  ∃a cap,v= .slice a n cap/\n<=cap/\cap<=maxLen:=by
 rcases h.2 with⟨rfl,rfl⟩|⟨g,cap,cur,rfl,_,_,h1,h2,_⟩
 ·exact⟨none,0,rfl,Nat.le_refl _,Nat.zero_le _⟩
 exact⟨_,cap,rfl,h1,h2⟩
theorem uL {P:Program} {w:World} {base:Nat} {t ty e:TypeId} {i:TypeInfo} {z:Value} {size bytes:Nat} (ht:P.underlying t=some (.slice e)) (hi:P.info? e=some i) (hz:i.zero=some z)
  (hsize:i.size=size) (hby:i.bytes=bytes) {v:Value} {n:Nat} {xs:List Value} (hown:w.ownsRow base e size v n xs)
  {a:Addr} {m c:Nat} {news:List Value} (hl:news.length=m*size) (hnews:∀j u,news[j]? =some u->w.cell? (a.add j)=some u) (h1:∀u∈news,u.oneCell'=true)
  (h63:n+m<=maxLen) (hbytes:(n+m)*bytes<=140737488355328) {v':Value} {w':World}
  (hr:(Builtin.append_ #[t,t] ty #[v, .slice (some a) m c]).run P w= .ok v' w'):v'.ownBlock=v.ownBlock\/v'.ownBlock=some w.heap.size:=by
 subst hsize
 subst hby
 have hsmall:n+m<=9223372036854775807:=by simp only [maxLen] at h63;omega
 rcases hown.2 with⟨rfl,rfl⟩|⟨g,cap,cur,rfl,hbg,hg,hnc,hcm,hcs,htake⟩
 ·by_cases hm:m=0
  ·subst hm
   have hn:news= [] :=List.eq_nil_of_length_eq_zero (by simpa using hl)
   subst hn
   have:(Builtin.append_ #[t,t] ty #[.slice none 0 0, .slice (some a) 0 c]).run P w= .ok (.slice none 0 0) w:=by
    simp [Builtin.append_,run_underlying ht,sizeOf,typeInfo,hi,Builtin.lenOf,Builtin.firstCells,loadCells,loadCellsFrom]
   rw [this] at hr
   cases hr
   exact .inl rfl
  have:=run_append_nil (P:=P) w t ty e i z ht hi hz a m c news hl hnews (by omega) (by omega) (by have hb:=hbytes;simp only [Nat.zero_add] at hb;omega)
  rw [this] at hr
  cases hr
  exact .inr rfl
 by_cases hroom:n+m<=cap
 ·have hfit:n*i.size+news.length<=cur.size:=by rw [hl,hcs, <-Nat.add_mul];exact Nat.mul_le_mul_right _ hroom
  have:=run_append_room (P:=P) w t ty e i ht hi g n cap cur hg a m c news hl hnews h1 hroom hfit
  rw [this] at hr
  cases hr
  exact .inl rfl
 have holds:∀j u,xs[j]? =some u->w.cell? ((⟨g,0,none⟩:Addr).add j)=some u:=hown.cells (g:=g) rfl
 have:=run_append_grow (P:=P) w t ty e i z ht hi hz ⟨g,0,none⟩ n cap xs hown.1 holds a m c news hl hnews (by omega) (by omega) (growslice_fits (by omega) hbytes)
 rw [this] at hr
 cases hr
 exact .inr rfl
theorem qO {P:Program} (w:World) {ops:Array Oper} {rest:List Oper} {o:Oper} {a:Act} {Q:Exit->Act->World->Prop} (hgd:o.guard=none) (s x:Operand) (t:TypeId)
  (ho:o.op= .call { callee:= .builtin .append,args:= #[s,x],argTypes:= #[t,t] })
  (e:TypeId) (z:Value) (size bytes:Nat) (ht:P.underlying t=some (.slice e)) (hinfo:(P.info? e).map (λi=>(i.zero,i.size,i.bytes))=some (some z,size,bytes)) (hzs:z.cells.size=size) (hsz:0<size)
  (base:Nat) (v:Value) (n:Nat) (xs:List Value) (hs:a.eval s=v) (hown:w.ownsRow base e size v n xs)
  (ad:Addr) (m c:Nat) (news:List Value) (hx:a.eval x= .slice (some ad) m c) (hl:news.length=m*size) (hnews:∀j u,news[j]? =some u->w.cell? (ad.add j)=some u) (h1:∀u∈news,u.oneCell'=true)
  (h63:n+m<=maxLen) (hbytes:(n+m)*bytes<=140737488355328) (hbase:base<=w.heap.size)
  (h:∀a' cap' w',w'.ownsRow base e size (.slice a' (n+m) cap') (n+m) (xs++news)->cap'<=9223372036854775807->n+m<=cap'->Since (λk=>v.ownBlock=some k) w w'->
   (∀k,(Value.slice a' (n+m) cap').ownBlock=some k->v.ownBlock=some k\/k=w.heap.size)->(a'=none↔n+m=0/\v= .slice none 0 0)->
   wpList P ops Q rest (a.put o.dst (.slice a' (n+m) cap')) w'):wpList P ops Q (o::rest) a w:=by
 obtain⟨i,hi,hz,hsize,hby⟩:=info_parts hinfo
 obtain⟨v',w',hr,h2,h3,h4⟩:=run_append_own (P:=P) w base t o.type e i z size bytes ht hi hz hsize hby hzs hsz v n xs hown ad m c news hl hnews h1 h63 hbytes hbase
 have hw:=uL ht hi hz hsize hby hown hl hnews h1 h63 hbytes hr
 obtain⟨a',cap',rfl,hc1,hc2⟩:=xP h2
 refine wpList_plain hgd λ_ hK=> ?_
 unfold Oper.wp execOp
 simp only [ho,resolve,invoke,builtin,Sem.run_bind,Sem.run_pure,Result.andThen_ok,List.map_toArray,List.map_cons,List.map_nil,hs,hx,hr]
 refine hK _ _ (h a' cap' w' h2 (by unfold maxLen at hc2;omega) hc1 ((Since.refl _ _).grown h3 (λk hk=> .inl hk)) (λk hk=> ?_) ?_)
 ·rw [hk] at hw
  rcases hw with hw|hw
  ·exact .inl hw.symm
  exact .inr (by simpa using hw)
 constructor
 ·rintro rfl
  rcases h2.2 with⟨he,hn⟩|⟨g,cap,cur,he,_⟩
  ·exact⟨hn,(h4.1 he).1⟩
  cases he
 rintro⟨hn,hv⟩
 exact(Value.slice.inj (h4.2 ⟨hv,by omega⟩)).1
theorem yV {w w':World} {B:Nat} {e:TypeId} {size:Nat} {v:Value} {n:Nat} {xs:List Value} (h:w.ownsRow B e size v n xs) (hb:Below w.heap.size w w'):w'.ownsRow B e size v n xs:=
 (Since.of_below hb).row h (λk hk=>by have:=(h.lt k hk).2;omega)
theorem zcm {w:World} {B C:Nat} {e:TypeId} {size:Nat} {v:Value} {n:Nat} {xs:List Value} (h:w.ownsRow B e size v n xs) (hC:C<=B):w.ownsRow C e size v n xs:=by
 refine⟨h.1, ?_⟩
 rcases h.2 with hn|⟨g,cap,cur,rfl,hb,rest⟩
 ·exact .inl hn
 exact .inr ⟨g,cap,cur,rfl,Nat.le_trans hC hb,rest⟩
theorem bL {B:Nat} {a w:World} (h:Below B a w) (n:Nat):Below B a (w.drewN n):=h.trans ⟨rfl,rfl,rfl,Nat.le_refl _,λ_ _=>rfl⟩
theorem zfl {w:World} {B:Nat} {e e':TypeId} {size:Nat} {v:Value} {n:Nat} {xs:List Value} (h:w.ownsRow B e size v n xs) {k:Nat} (hk:v.ownBlock=some k) {c:Array Value} {f:Nat × Nat} (hb:w.heap[k]? =some (.cells c e' f)) (hne:e≠e'):False:=by
 rcases h.2 with⟨rfl,_⟩|⟨g,cap,cur,rfl,_,hg,_⟩
 ·simp [Value.ownBlock] at hk
 simp [Value.ownBlock] at hk
 subst hk
 rw [hg] at hb
 cases hb
 exact hne rfl
theorem zA (F:Nat->Prop) {w w':World} (h:Below w.heap.size w w'):Since F w w':=⟨h.os,h.tape,h.output,h.size,λk hk _=>h.block k hk⟩
end Go.Proofs.YtknmdmimecepfaaGreatDoor
namespace Go.Proofs.YtknmdmimecepfaaGreatDoor
open Go.RowKit Go.ChangeShapes Go.WideShapes Go.ChangeAt
set_option maxRecDepth 100000
set_option maxHeartbeats 16000000
def zrT (w:World) (sv:Value) (l:List ByteArray):Prop:=
 ∃a cap,sv= .slice a l.length cap/\l.length<=9223372036854775807/\(∀s∈l,s.size<=maxLen)/\
  ∀j,j<l.length->∃b off,a=some ⟨b,off,none⟩/\b<w.heap.size/\w.cell? ⟨b,off+j,none⟩=some (.string (l.getD j ByteArray.empty))
def wS (w:World) (k:IntKind) (sv:Value) (l:List Int):Prop:=
 ∃a cap,sv= .slice a l.length cap/\l.length<=9223372036854775807/\(∀n∈l,(Lit.int k n).wf=true)/\
  ∀j,j<l.length->∃b off,a=some ⟨b,off,none⟩/\b<w.heap.size/\w.cell? ⟨b,off+j,none⟩=some (.int k (l.getD j 0))
theorem wS.below {w w':World} {k:IntKind} {sv:Value} {l:List Int} (h:wS w k sv l) (hb:Below w.heap.size w w'):wS w' k sv l:=by
 obtain⟨a,cap,h1,h2,h3,h4⟩:=h
 refine⟨a,cap,h1,h2,h3,λj hj=> ?_⟩
 obtain⟨b,off,h5,h6,h7⟩:=h4 j hj
 exact⟨b,off,h5,Nat.lt_of_lt_of_le h6 hb.size,(hb.cell (p:=⟨b,off+j,none⟩) h6).trans h7⟩
theorem zhE {w:World} {a:Addr} {v:Value} (h:w.cell? (a.add 0)=some v):∃b off,a=⟨b,off,none⟩:=by
 obtain⟨b,off,spot⟩:=a
 have hspot:spot=none:=by simpa [Addr.add] using World.cell?_spot h
 subst hspot
 exact⟨b,off,rfl⟩
theorem zfW {H:Type} {enc:TypeId × Value->H} {P:Program} {w:World} {t e:TypeId} {k:IntKind} {a:Option Addr} {len cap:Nat} {d:DataW H} {p:List MemPlace} (ht:P.underlying t=some (.slice e)) (he:P.underlying e=some (.int k)) (hc:P.cellsOf e=1)
  (h:DataW.Trod enc P w 0 (λ_=>true) true t (.slice a len cap) d p):∃l,wS w k (.slice a len cap) l:=by
 obtain⟨fuel,hf⟩:=h
 rcases open_ints ht he hc hf with⟨hcs,_⟩|⟨x,l,c,zs,hcs,_,hl,hm,hz,_,hcell,hws⟩
 ·simp [Value.cells] at hcs
  obtain⟨rfl,rfl,rfl⟩:=hcs
  exact⟨[],none,0,rfl,by simp,by simp,by simp⟩
 simp [Value.cells] at hcs
 obtain⟨rfl,rfl,rfl⟩:=hcs
 have hzl:zs.length=cap:=by simpa using hz
 have hlen:(zs.take len).length=len:=by rw [List.length_take,hzl];omega
 refine⟨zs.take len,some x,cap,by rw [hlen],by rw [hlen];unfold maxLen at hm;omega,λs hs=>hws s (List.mem_of_mem_take hs), ?_⟩
 intro j hj
 rw [hlen] at hj
 obtain⟨b,off,rfl⟩:=zhE (hcell 0 (by omega))
 have hcj:=hcell j (by omega)
 rw [add_plain] at hcj
 refine⟨b,off,rfl,World.block_lt_of_cell? w _ hcj, ?_⟩
 rw [hcj]
 simp [List.getD_eq_getElem?_getD,hj]
end Go.Proofs.YtknmdmimecepfaaGreatDoor
namespace Go.Proofs.YtknmdmimecepfaaGreatDoor
open Go.RowKit
set_option maxRecDepth 100000
set_option maxHeartbeats 16000000
theorem zqF:ownKnob Tryz.prog.godebug=none:=by kernel_rfl
theorem zko:laidOutB Tryz.prog=true:=by kernel_rfl
def zqQ:DataW Unit->Value
 | .lit (.int k n)=> .int k n
 |_=>undef
def cellsD:DataW Unit->Array Value
 | .agg l=>(l.map zqQ).toArray
 |_=> #[]
def zkC (d:DataW Unit):Obj->Obj
 | .cells _ t f=> .cells (cellsD d) t f
 |o=>o
noncomputable def zcD (os:Os):World:=
 let w0:=World.holding Tryz.prog os ⟨#[], #[], []⟩
 { w0 with heap:=((w0.heap.modify 0 (zkC Rows.laid_internal_strconv_uint64pow10)).modify 1 (zkC Rows.laid_math_bits_deBruijn32tab)).modify 2 (zkC Rows.laid_math_bits_deBruijn64tab) }
theorem ziD (os:Os) (args:Array Value):laidMet Tryz.prog [("math/bits.deBruijn32tab",Rows.laid_math_bits_deBruijn32tab),("math/bits.deBruijn64tab",Rows.laid_math_bits_deBruijn64tab),("internal/strconv.uint64pow10",Rows.laid_internal_strconv_uint64pow10)] ((zcD os).forCall (λ_ _=>0) ⟨#[],args, []⟩).memory:=
 laidMet_of_run' 8 (by kernel_rfl) (by kernel_rfl)
theorem zhr {P:Program} {fn:Func} (h:(fn.params.toList.all λt=> !P.wantsStandIn t)=true) (j:Nat) (t:TypeId) (ht:fn.params[j]? =some t):P.wantsStandIn t=false:=by
 have hm:=List.all_eq_true.1 h t (List.mem_of_getElem? (by rw [Array.getElem?_toList];exact ht))
 simpa using hm
