/- Steps. -/
import Derived.Deep.LoopGhost
import Derived.OpenShut
import Derived.ProofKit
import Derived.ShutString
import Derived.WalkLawsBesides
import Derived.WalkSpells
import Derived.Test.YtliajkheeniljaaGreatDoorTie
import Derived.Test.YtliajkheeniljaaGreatDoorZmShort
set_option linter.all false
namespace Go.Proofs.YtliajkheeniljaaGreatDoor
open Go.RowKit
set_option maxRecDepth 100000
set_option maxHeartbeats 16000000
structure Since (F:Nat->Prop) (w w':World):Prop where
 os:w'.os=w.os
 tape:w'.tape=w.tape
 output:w'.output=w.output
 size:w.heap.size<=w'.heap.size
 block:∀k,k<w.heap.size->¬F k->w'.heap[k]? =w.heap[k]?
theorem Since.refl (F:Nat->Prop) (w:World):Since F w w:=⟨rfl,rfl,rfl,Nat.le_refl _,λ_ _ _=>rfl⟩
theorem Since.trans {F G:Nat->Prop} {a b c:World} (h:Since F a b) (k:Since G b c) (hG:∀i,G i->F i\/a.heap.size<=i):Since F a c:=
 ⟨k.os.trans h.os,k.tape.trans h.tape,k.output.trans h.output,Nat.le_trans h.size k.size,λi hi hf=>
  (k.block i (Nat.lt_of_lt_of_le hi h.size) (λhg=>(hG i hg).elim hf (λh=>absurd hi (Nat.not_lt.2 h)))).trans (h.block i hi hf)⟩
theorem Since.mono {F G:Nat->Prop} {w w':World} (h:Since F w w') (hG:∀k,k<w.heap.size->F k->G k):Since G w w':=
 ⟨h.os,h.tape,h.output,h.size,λk hk hg=>h.block k hk λhf=>hg (hG k hk hf)⟩
theorem Since.below {F:Nat->Prop} {w w':World} (h:Since F w w') {B:Nat} (hB:B<=w.heap.size) (hF:∀k,F k->B<=k):Below B w w':=
 ⟨h.os,h.tape,h.output,h.size,λk hk=>h.block k (Nat.lt_of_lt_of_le hk hB) λhf=>absurd hk (Nat.not_lt.2 (hF k hf))⟩
theorem Since.of_below {w w':World} {B:Nat} (h:Below B w w'):Since (λk=>B<=k) w w':=
 ⟨h.os,h.tape,h.output,h.size,λk _ hf=>h.block k (Nat.lt_of_not_le hf)⟩
theorem Since.drew (F:Nat->Prop) {a w:World} (h:Since F a w):Since F a w.drew:=⟨h.os,h.tape,h.output,h.size,h.block⟩
theorem Since.drewN (F:Nat->Prop) {a w:World} (n:Nat) (h:Since F a w):Since F a (w.drewN n):=⟨h.os,h.tape,h.output,h.size,h.block⟩
theorem Since.alloc {F:Nat->Prop} {a w:World} (h:Since F a w) (o:Obj):Since F a (w.alloc o):=
 h.trans (G:=λ_=>False) ⟨rfl,rfl,rfl,by simp,λk hk _=>Below.heap_alloc _ _ _ hk⟩ (λ_ h=>h.elim)
theorem Since.setCell {F:Nat->Prop} {a w:World} (h:Since F a w) {p:Addr} (hp:F p.block\/a.heap.size<=p.block) (u:Value):Since F a (w.setCell p u):=
 h.trans (G:=λk=>k=p.block) ⟨rfl,rfl,rfl,by simp [World.setCell],λk _ hk=>Below.heap_setCell _ _ _ _ hk⟩ (λ_ h=>h ▸ hp)
theorem Since.grown {F:Nat->Prop} {a w w':World} {row:Option Nat} (h:Since F a w) (hg:w.grownBy w' row) (hr:∀k,row=some k->F k\/a.heap.size<=k):Since F a w':=
 h.trans (G:=λk=>row=some k) ⟨hg.os,hg.tape,hg.output,hg.size,λk hk hne=>hg.block k hk λe=>hne e.symm⟩ hr
theorem Since.cell {F:Nat->Prop} {w w':World} (h:Since F w w') {p:Addr} (hp:p.block<w.heap.size) (hf:¬F p.block):w'.cell? p=w.cell? p:=World.cell?_of_block (h.block p.block hp hf)
theorem Since.row {F:Nat->Prop} {w w':World} (h:Since F w w') {base:Nat} {e:TypeId} {size:Nat} {v:Value} {n:Nat} {xs:List Value} (ho:w.ownsRow base e size v n xs) (hf:∀k,v.ownBlock=some k->¬F k):w'.ownsRow base e size v n xs:=by
 refine⟨ho.1, ?_⟩
 rcases ho.2 with hn|⟨g,cap,cur,rfl,hb,hgg,rest⟩
 ·exact .inl hn
 exact .inr ⟨g,cap,cur,rfl,hb,by rw [h.block g (Array.getElem?_eq_some_iff.1 hgg).1 (hf g (by simp [Value.ownBlock]))];exact hgg,rest⟩
theorem ze {w:World} {b:Nat} {c:Array Value} {e:TypeId} {f:Nat × Nat} (h:w.heap[b]? =some (.cells c e f)) (j:Nat):w.cell? ⟨b,j,none⟩=c[j]? :=by simp [World.cell?,h]
theorem zB {w:World} {b:Nat} {c:Array Value} {e:TypeId} (h:w.heap[b]? =some (.cells c e (0,0))) (j:Nat):w.frozen? ⟨b,j,none⟩=false:=by simp [World.frozen?,h]
theorem zu {w:World} {b:Nat} {c:Array Value} {e:TypeId} {f:Nat × Nat} (h:w.heap[b]? =some (.cells c e f)) (j:Nat) (u:Value):(w.setCell ⟨b,j,none⟩ u).heap[b]? =some (.cells (c.setIfInBounds j u) e f):=by
 simp [World.setCell,Array.getElem?_modify,h]
theorem zw {w:World} {b:Nat} {o:Obj} (h:w.heap[b]? =some o):b<w.heap.size:=(Array.getElem?_eq_some_iff.1 h).1
theorem zgZ {a b:ByteArray} (h:a.toList=b.toList):a=b:=by
 rw [ByteArray.toList_eq,ByteArray.toList_eq] at h
 exact ByteArray.ext (Array.toList_inj.1 h)
theorem ztV {a b:ByteArray} (h:a≠b):(a.toList==b.toList)=false:=by
 rw [beq_eq_false_iff_ne];exact λe=>h (zgZ e)
theorem wY {w:World} {B:Nat} {e:TypeId} {size:Nat} {v:Value} {n:Nat} {xs:List Value} (h:w.ownsRow B e size v n xs) (hn:0<n):
  ∃g cap,v= .slice (some ⟨g,0,none⟩) n cap/\n<=cap/\cap<=maxLen:=by
 rcases h.2 with⟨_,rfl⟩|⟨g,cap,cur,rfl,_,_,h1,h2,_⟩
 ·omega
 exact⟨g,cap,rfl,h1,h2⟩
theorem xC {w:World} {B:Nat} {e:TypeId} {size:Nat} {v:Value} {n:Nat} {xs:List Value} (h:w.ownsRow B e size v n xs):
  ∃a cap,v= .slice a n cap/\n<=cap/\cap<=maxLen:=by
 rcases h.2 with⟨rfl,rfl⟩|⟨g,cap,cur,rfl,_,_,h1,h2,_⟩
 ·exact⟨none,0,rfl,Nat.le_refl _,Nat.zero_le _⟩
 exact⟨_,cap,rfl,h1,h2⟩
theorem zcw {P:Program} {w:World} {base:Nat} {t ty e:TypeId} {i:TypeInfo} {z:Value} {size bytes:Nat} (ht:P.underlying t=some (.slice e)) (hi:P.info? e=some i) (hz:i.zero=some z)
  (hsize:i.size=size) (hby:i.bytes=bytes) {v:Value} {n:Nat} {xs:List Value} (hown:w.ownsRow base e size v n xs)
  {a:Addr} {m c:Nat} {news:List Value} (hl:news.length=m*size) (hnews:∀j u,news[j]? =some u->w.cell? (a.add j)=some u) (h1:∀u∈news,u.oneCell'=true)
  (h63:n+m<=maxLen) (hbytes:(n+m)*bytes<=140737488355328) {v':Value} {w':World}
  (hr:(Builtin.append_ #[t,t] ty #[v, .slice (some a) m c]).run P w= .ok v' w'):v'.ownBlock=v.ownBlock\/v'.ownBlock=some w.heap.size:=by
 subst hsize
 subst hby
 have hsmall:n+m<=9223372036854775807:=by simp only [maxLen] at h63;omega
 rcases hown.2 with⟨rfl,rfl⟩|⟨g,cap,cur,rfl,hbg,hg,hnc,hcm,hcs,htake⟩
 ·by_cases hm:m=0
  ·subst hm
   have hn:news= [] :=List.eq_nil_of_length_eq_zero (by simpa using hl)
   subst hn
   have:(Builtin.append_ #[t,t] ty #[.slice none 0 0, .slice (some a) 0 c]).run P w= .ok (.slice none 0 0) w:=by
    simp [Builtin.append_,run_underlying ht,sizeOf,typeInfo,hi,Builtin.lenOf,Builtin.firstCells,loadCells,loadCellsFrom]
   rw [this] at hr
   cases hr
   exact .inl rfl
  have:=run_append_nil (P:=P) w t ty e i z ht hi hz a m c news hl hnews (by omega) (by omega) (by have hb:=hbytes;simp only [Nat.zero_add] at hb;omega)
  rw [this] at hr
  cases hr
  exact .inr rfl
 by_cases hroom:n+m<=cap
 ·have hfit:n*i.size+news.length<=cur.size:=by rw [hl,hcs, <-Nat.add_mul];exact Nat.mul_le_mul_right _ hroom
  have:=run_append_room (P:=P) w t ty e i ht hi g n cap cur hg a m c news hl hnews h1 hroom hfit
  rw [this] at hr
  cases hr
  exact .inl rfl
 have holds:∀j u,xs[j]? =some u->w.cell? ((⟨g,0,none⟩:Addr).add j)=some u:=hown.cells (g:=g) rfl
 have:=run_append_grow (P:=P) w t ty e i z ht hi hz ⟨g,0,none⟩ n cap xs hown.1 holds a m c news hl hnews (by omega) (by omega) (growslice_fits (by omega) hbytes)
 rw [this] at hr
 cases hr
 exact .inr rfl
theorem zJ {P:Program} (w:World) {ops:Array Oper} {rest:List Oper} {o:Oper} {a:Act} {Q:Exit->Act->World->Prop} (hgd:o.guard=none) (s x:Operand) (t:TypeId)
  (ho:o.op= .call { callee:= .builtin .append,args:= #[s,x],argTypes:= #[t,t] })
  (e:TypeId) (z:Value) (size bytes:Nat) (ht:P.underlying t=some (.slice e)) (hinfo:(P.info? e).map (λi=>(i.zero,i.size,i.bytes))=some (some z,size,bytes)) (hzs:z.cells.size=size) (hsz:0<size)
  (base:Nat) (v:Value) (n:Nat) (xs:List Value) (hs:a.eval s=v) (hown:w.ownsRow base e size v n xs)
  (ad:Addr) (m c:Nat) (news:List Value) (hx:a.eval x= .slice (some ad) m c) (hl:news.length=m*size) (hnews:∀j u,news[j]? =some u->w.cell? (ad.add j)=some u) (h1:∀u∈news,u.oneCell'=true)
  (h63:n+m<=maxLen) (hbytes:(n+m)*bytes<=140737488355328) (hbase:base<=w.heap.size)
  (h:∀a' cap' w',w'.ownsRow base e size (.slice a' (n+m) cap') (n+m) (xs++news)->cap'<=9223372036854775807->n+m<=cap'->Since (λk=>v.ownBlock=some k) w w'->
   (∀k,(Value.slice a' (n+m) cap').ownBlock=some k->v.ownBlock=some k\/k=w.heap.size)->(a'=none↔n+m=0/\v= .slice none 0 0)->
   wpList P ops Q rest (a.put o.dst (.slice a' (n+m) cap')) w'):wpList P ops Q (o::rest) a w:=by
 obtain⟨i,hi,hz,hsize,hby⟩:=info_parts hinfo
 obtain⟨v',w',hr,h2,h3,h4⟩:=run_append_own (P:=P) w base t o.type e i z size bytes ht hi hz hsize hby hzs hsz v n xs hown ad m c news hl hnews h1 h63 hbytes hbase
 have hw:=zcw ht hi hz hsize hby hown hl hnews h1 h63 hbytes hr
 obtain⟨a',cap',rfl,hc1,hc2⟩:=xC h2
 refine wpList_plain hgd λ_ hK=> ?_
 unfold Oper.wp execOp
 simp only [ho,resolve,invoke,builtin,Sem.run_bind,Sem.run_pure,Result.andThen_ok,List.map_toArray,List.map_cons,List.map_nil,hs,hx,hr]
 refine hK _ _ (h a' cap' w' h2 (by unfold maxLen at hc2;omega) hc1 ((Since.refl _ _).grown h3 (λk hk=> .inl hk)) (λk hk=> ?_) ?_)
 ·rw [hk] at hw
  rcases hw with hw|hw
  ·exact .inl hw.symm
  exact .inr (by simpa using hw)
 constructor
 ·rintro rfl
  rcases h2.2 with⟨he,hn⟩|⟨g,cap,cur,he,_⟩
  ·exact⟨hn,(h4.1 he).1⟩
  cases he
 rintro⟨hn,hv⟩
 exact(Value.slice.inj (h4.2 ⟨hv,by omega⟩)).1
theorem xX {w w':World} {B:Nat} {e:TypeId} {size:Nat} {v:Value} {n:Nat} {xs:List Value} (h:w.ownsRow B e size v n xs) (hb:Below w.heap.size w w'):w'.ownsRow B e size v n xs:=
 (Since.of_below hb).row h (λk hk=>by have:=(h.lt k hk).2;omega)
theorem zlB {w:World} {B C:Nat} {e:TypeId} {size:Nat} {v:Value} {n:Nat} {xs:List Value} (h:w.ownsRow B e size v n xs) (hC:C<=B):w.ownsRow C e size v n xs:=by
 refine⟨h.1, ?_⟩
 rcases h.2 with hn|⟨g,cap,cur,rfl,hb,rest⟩
 ·exact .inl hn
 exact .inr ⟨g,cap,cur,rfl,Nat.le_trans hC hb,rest⟩
theorem yg {B:Nat} {a w:World} (h:Below B a w) (n:Nat):Below B a (w.drewN n):=h.trans ⟨rfl,rfl,rfl,Nat.le_refl _,λ_ _=>rfl⟩
theorem uo {w:World} {B:Nat} {e e':TypeId} {size:Nat} {v:Value} {n:Nat} {xs:List Value} (h:w.ownsRow B e size v n xs) {k:Nat} (hk:v.ownBlock=some k) {c:Array Value} {f:Nat × Nat} (hb:w.heap[k]? =some (.cells c e' f)) (hne:e≠e'):False:=by
 rcases h.2 with⟨rfl,_⟩|⟨g,cap,cur,rfl,_,hg,_⟩
 ·simp [Value.ownBlock] at hk
 simp [Value.ownBlock] at hk
 subst hk
 rw [hg] at hb
 cases hb
 exact hne rfl
theorem xW (F:Nat->Prop) {w w':World} (h:Below w.heap.size w w'):Since F w w':=⟨h.os,h.tape,h.output,h.size,λk hk _=>h.block k hk⟩
end Go.Proofs.YtliajkheeniljaaGreatDoor
namespace Go.Proofs.YtliajkheeniljaaGreatDoor
open Go.RowKit Go.ChangeShapes Go.WideShapes Go.ChangeAt
set_option maxRecDepth 100000
set_option maxHeartbeats 16000000
def z7m (w:World) (sv:Value) (l:List ByteArray):Prop:=
 ∃a cap,sv= .slice a l.length cap/\l.length<=9223372036854775807/\(∀s∈l,s.size<=maxLen)/\
  ∀j,j<l.length->∃b off,a=some ⟨b,off,none⟩/\b<w.heap.size/\w.cell? ⟨b,off+j,none⟩=some (.string (l.getD j ByteArray.empty))
def jG (w:World) (k:IntKind) (sv:Value) (l:List Int):Prop:=
 ∃a cap,sv= .slice a l.length cap/\l.length<=9223372036854775807/\(∀n∈l,(Lit.int k n).wf=true)/\
  ∀j,j<l.length->∃b off,a=some ⟨b,off,none⟩/\b<w.heap.size/\w.cell? ⟨b,off+j,none⟩=some (.int k (l.getD j 0))
theorem jG.below {w w':World} {k:IntKind} {sv:Value} {l:List Int} (h:jG w k sv l) (hb:Below w.heap.size w w'):jG w' k sv l:=by
 obtain⟨a,cap,h1,h2,h3,h4⟩:=h
 refine⟨a,cap,h1,h2,h3,λj hj=> ?_⟩
 obtain⟨b,off,h5,h6,h7⟩:=h4 j hj
 exact⟨b,off,h5,Nat.lt_of_lt_of_le h6 hb.size,(hb.cell (p:=⟨b,off+j,none⟩) h6).trans h7⟩
theorem zpg {w:World} {a:Addr} {v:Value} (h:w.cell? (a.add 0)=some v):∃b off,a=⟨b,off,none⟩:=by
 obtain⟨b,off,spot⟩:=a
 have hspot:spot=none:=by simpa [Addr.add] using World.cell?_spot h
 subst hspot
 exact⟨b,off,rfl⟩
theorem zmI {H:Type} {enc:TypeId × Value->H} {P:Program} {w:World} {t e:TypeId} {k:IntKind} {a:Option Addr} {len cap:Nat} {d:DataW H} {p:List MemPlace} (ht:P.underlying t=some (.slice e)) (he:P.underlying e=some (.int k)) (hc:P.cellsOf e=1)
  (h:DataW.Trod enc P w 0 (λ_=>true) true t (.slice a len cap) d p):∃l,jG w k (.slice a len cap) l:=by
 obtain⟨fuel,hf⟩:=h
 rcases open_ints ht he hc hf with⟨hcs,_⟩|⟨x,l,c,zs,hcs,_,hl,hm,hz,_,hcell,hws⟩
 ·simp [Value.cells] at hcs
  obtain⟨rfl,rfl,rfl⟩:=hcs
  exact⟨[],none,0,rfl,by simp,by simp,by simp⟩
 simp [Value.cells] at hcs
 obtain⟨rfl,rfl,rfl⟩:=hcs
 have hzl:zs.length=cap:=by simpa using hz
 have hlen:(zs.take len).length=len:=by rw [List.length_take,hzl];omega
 refine⟨zs.take len,some x,cap,by rw [hlen],by rw [hlen];unfold maxLen at hm;omega,λs hs=>hws s (List.mem_of_mem_take hs), ?_⟩
 intro j hj
 rw [hlen] at hj
 obtain⟨b,off,rfl⟩:=zpg (hcell 0 (by omega))
 have hcj:=hcell j (by omega)
 rw [add_plain] at hcj
 refine⟨b,off,rfl,World.block_lt_of_cell? w _ hcj, ?_⟩
 rw [hcj]
 simp [List.getD_eq_getElem?_getD,hj]
end Go.Proofs.YtliajkheeniljaaGreatDoor
namespace Go.Proofs.YtliajkheeniljaaGreatDoor
open Go.RowKit
set_option maxRecDepth 100000
set_option maxHeartbeats 16000000
theorem z5b:ownKnob Tryz.prog.godebug=none:=by kernel_rfl
theorem ztW:laidOutB Tryz.prog=true:=by kernel_rfl
def z5c:DataW Unit->Value
 | .lit (.int k n)=> .int k n
 |_=>undef
def cellsD:DataW Unit->Array Value
 | .agg l=>(l.map z5c).toArray
 |_=> #[]
def ztX (d:DataW Unit):Obj->Obj
 | .cells _ t f=> .cells (cellsD d) t f
 |o=>o
noncomputable def zim (os:Os):World:=
 let w0:=World.holding Tryz.prog os ⟨#[], #[], []⟩
 { w0 with heap:=((w0.heap.modify 0 (ztX Rows.laid_internal_strconv_uint64pow10)).modify 1 (ztX Rows.laid_math_bits_deBruijn32tab)).modify 2 (ztX Rows.laid_math_bits_deBruijn64tab) }
theorem zrv (os:Os) (args:Array Value):laidMet Tryz.prog [("math/bits.deBruijn32tab",Rows.laid_math_bits_deBruijn32tab),("math/bits.deBruijn64tab",Rows.laid_math_bits_deBruijn64tab),("internal/strconv.uint64pow10",Rows.laid_internal_strconv_uint64pow10)] ((zim os).forCall (λ_ _=>0) ⟨#[],args, []⟩).memory:=
 laidMet_of_run' 8 (by kernel_rfl) (by kernel_rfl)
theorem zph {P:Program} {fn:Func} (h:(fn.params.toList.all λt=> !P.wantsStandIn t)=true) (j:Nat) (t:TypeId) (ht:fn.params[j]? =some t):P.wantsStandIn t=false:=by
 have hm:=List.all_eq_true.1 h t (List.mem_of_getElem? (by rw [Array.getElem?_toList];exact ht))
 simpa using hm
end Go.Proofs.YtliajkheeniljaaGreatDoor
namespace Go.Proofs.YtliajkheeniljaaGreatDoor
open Go.RowKit
set_option maxRecDepth 100000
set_option maxHeartbeats 16000000
section
variable {P:Program} {ops:Array Oper} {Q:Exit->Act->World->Prop} {md:Region.Mode} {S:World->Prop} {n0:Nat}
def qo (P:Program) (md:Region.Mode) (ops:Array Oper) (Q:Exit->Act->World->Prop) (S:World->Prop) (n0:Nat):Nat->Array Bool->Act->World->Prop
 |0,listed,a,w=>Region.ready md ops listed= [] /\Q .normal a w
 |fuel+1,listed,a,w=>
 (Region.ready md ops listed= [] ->Q .normal a w)/\
 ∀i∈Region.ready md ops listed,wpOp P ops Q i (λa' w'=>(i≠n0->listed.getD n0 true=false->S w')/\qo P md ops Q S n0 fuel (listed.setIfInBounds i true) a' w') a w
theorem zeO:∀(fuel:Nat) (listed:Array Bool) (a:Act) (w:World),qo P md ops Q S n0 fuel listed a w->wpAny P md ops Q fuel listed a w
 |0,_,_,_,h=>h
 |fuel+1,_,_,_,h=>⟨h.1,λi hi=>wpOp_mono (λa' w' h'=>zeO fuel _ a' w' h'.2) (h.2 i hi)⟩
def zin (md:Region.Mode) (ops:Array Oper) (n0 i:Nat):Bool:=match ops[n0]? with|some o=>o.after.any (λe=>Region.binds md e && e.on==i)|none=>false
theorem zjF {listed:Array Bool} {i:Nat} (hw:zin md ops n0 i=true) (hi:listed.getD i true=false):n0 ∉ Region.ready md ops listed:=by
 intro hr
 obtain⟨-,o,ho,hall⟩:=mem_ready.1 hr
 unfold zin at hw
 rw [ho] at hw
 simp only [] at hw
 rw [Array.any_eq_true] at hw
 obtain⟨k,hk,he⟩:=hw
 simp only [Bool.and_eq_true,beq_iff_eq] at he
 have h2:=hall _ (Array.getElem_mem hk) he.1
 rw [he.2] at h2
 rcases Nat.lt_or_ge i listed.size with h'|h'
 ·simp [h'] at hi h2;rw [hi] at h2;cases h2
 simp [Array.getElem?_eq_none h'] at h2
def zfP (md:Region.Mode) (ops:Array Oper) (Wt:List Nat) (i:Nat):Bool:=Wt.all (λx=>zin md ops x i||Wt.any (λy=>zin md ops x y))
theorem ztY {Wt:List Nat} {i:Nat} {listed:Array Bool} (hc:zfP md ops Wt i=true) (hi:listed.getD i true=false) (hl:∀x∈Wt,listed.getD x true=false) {x:Nat} (hx:x∈Wt):x ∉ Region.ready md ops listed:=by
 unfold zfP at hc
 rw [List.all_eq_true] at hc
 have h:=hc x hx
 rw [Bool.or_eq_true,List.any_eq_true] at h
 rcases h with h|⟨y,hy,h⟩
 ·exact zjF h hi
 exact zjF h (hl y hy)
theorem zf0 {S1:World->Prop} {i:Nat} {oi:Oper} {v:Value} (Wt:List Nat) (hi:ops[i]? =some oi) (hsel:∀(j:Nat) (o:Oper) cs b,ops[j]? =some o->o.op≠ .select cs b)
  (hQ:∀c a w,Q (.panic c) (a.put oi.dst v) w->Q (.panic c) a w) (hin:i≠n0) (hc:zfP md ops Wt i=true) (hiW:i ∉ Wt) (hn:(n0∈Wt/\∀w,S w->S1 w)\/∀w,S1 w):
  ∀(fuel:Nat) (listed:Array Bool) (a:Act) (w:World),(∀x∈Wt,listed.getD x true=false)->
   (∀j oj,ops[j]? =some oj->j≠i->listed.getD j true=false->(∀e∈oj.after,Region.binds md e=true->e.on≠i)->oi.apart ops oj=true)->
   i∈Region.ready md ops listed->YieldsIf P ops S1 oi v a->(listed.getD n0 true=false->S w)->
   qo P md ops Q S n0 fuel (listed.setIfInBounds i true) (a.put oi.dst v) w->qo P md ops Q S n0 (fuel+1) listed a w:=by
 intro fuel
 induction fuel with
 |zero=>
  intro listed a w hl _ hr hy hS H
  have hS1:S1 w:=hn.elim (λh=>h.2 w (hS (hl n0 h.1))) (λh=>h w)
  refine⟨λh=>(by rw [h] at hr;cases hr),λj hj=> ?_⟩
  by_cases hji:j=i
  ·subst hji;exact hy.wpOp hi hS1 ⟨λ_ h=>hS h,H⟩
  have:=ready_mono hj hji
  rw [H.1] at this
  cases this
 |succ fuel ih=>
 intro listed a w hl hfree hr hy hS H
 have hS1:S1 w:=hn.elim (λh=>h.2 w (hS (hl n0 h.1))) (λh=>h w)
 refine⟨λh=>(by rw [h] at hr;cases hr),λj hj=> ?_⟩
 by_cases hji:j=i
 ·subst hji;exact hy.wpOp hi hS1 ⟨λ_ h=>hS h,H⟩
 have h1:=H.2 j (ready_mono hj hji)
 obtain⟨hjun,oj,hoj,hall⟩:=mem_ready.1 hj
 have hnot:∀e∈oj.after,Region.binds md e=true->e.on≠i:=λe he hb heq=>by
  have h1:=hall e he hb
  have h0:=(mem_ready.1 hr).1
  rw [heq] at h1
  rcases Nat.lt_or_ge i listed.size with h'|h'
  ·simp [h'] at h0 h1;rw [h0] at h1;cases h1
  simp [Array.getElem?_eq_none h'] at h1
 have h2:=wpOp_putIf hoj (hfree j oj hoj hji hjun hnot) (λcs b=>hsel i oi cs b hi) (λcs b=>hsel j oj cs b hoj) hQ hy h1
 have hfree':∀k ok,ops[k]? =some ok->k≠i->(listed.setIfInBounds j true).getD k true=false->
   (∀e∈ok.after,Region.binds md e=true->e.on≠i)->oi.apart ops ok=true:=λk ok hk hki hun hno=>by
  refine hfree k ok hk hki ?_ hno
  by_cases hjk:j=k
  ·subst hjk;exact hjun
  rw [getD_set_ne true hjk] at hun;exact hun
 refine wpOp_mono (λa' w' h3=> ?_) h2
 have hjW:j ∉ Wt:=λhm=>ztY hc (mem_ready.1 hr).1 hl hm hj
 have hset:∀x,j≠x->(listed.setIfInBounds j true).getD x true=listed.getD x true:=λx hjx=>getD_set_ne true hjx
 have hl1:(listed.setIfInBounds i true).getD n0 true=listed.getD n0 true:=getD_set_ne true hin
 have hS':j≠n0->listed.getD n0 true=false->S w':=λhjn h=>h3.2.1 hjn (hl1.trans h)
 refine⟨hS',ih (listed.setIfInBounds j true) a' w' (λx hx=>(hset x (λe=>hjW (e ▸ hx))).trans (hl x hx)) hfree' (ready_mono hr (Ne.symm hji)) h3.1 (λh=> ?_) ?_⟩
 ·by_cases hjn:j=n0
  ·subst hjn
   rcases Nat.lt_or_ge j listed.size with h'|h'
   ·simp [h'] at h
   have:=(mem_ready.1 hj).1
   simp [Array.getElem?_eq_none h'] at this
  exact hS' hjn ((hset n0 hjn).symm.trans h)
 rw [Array.setIfInBounds_comm _ _ hji]
 exact h3.2.2
def zdE (listed:Array Bool) (Wt:List Nat):Bool:=Wt.all (λx=>listed.getD x true==false)
theorem zlC {listed:Array Bool} {Wt:List Nat} (h:zdE listed Wt=true):∀x∈Wt,listed.getD x true=false:=λx hx=>by
 unfold zdE at h
 rw [List.all_eq_true] at h
 exact eq_of_beq (h x hx)
theorem zmJ (Wt:List Nat) {i:Nat} {oi:Oper} {v:Value} {fuel:Nat} {listed:Array Bool} {a:Act} {w:World} (hi:ops[i]? =some oi)
  (hs:Region.noSelect ops=true) (hf:Region.free md ops listed i=true) (hr:(Region.ready md ops listed).contains i=true) (hin:i≠n0) (hl:zdE listed Wt=true) (hc:zfP md ops Wt i=true) (hiW:Wt.contains i=false) (hnW:Wt.contains n0=true)
  (hQ:∀c a w,Q (.panic c) (a.put oi.dst v) w->Q (.panic c) a w) (hy:YieldsIf P ops S oi v a) (hS:S w)
  (h:qo P md ops Q S n0 fuel (listed.setIfInBounds i true) (a.put oi.dst v) w):qo P md ops Q S n0 (fuel+1) listed a w:=
 zf0 Wt hi (Region.noSelect_spec hs) hQ hin hc (by simpa using hiW) (.inl ⟨by simpa using hnW,λ_ h=>h⟩) fuel listed a w (zlC hl) (Region.free_spec hi hf) (by simpa using hr) hy (λ_=>hS) h
theorem zmK {i:Nat} {oi:Oper} {v:Value} {fuel:Nat} {listed:Array Bool} {a:Act} {w:World} (hi:ops[i]? =some oi)
  (hs:Region.noSelect ops=true) (hf:Region.free md ops listed i=true) (hr:(Region.ready md ops listed).contains i=true) (hin:i≠n0)
  (hQ:∀c a w,Q (.panic c) (a.put oi.dst v) w->Q (.panic c) a w) (hy:YieldsIf P ops (λ_=>True) oi v a) (hS:listed.getD n0 true=false->S w)
  (h:qo P md ops Q S n0 fuel (listed.setIfInBounds i true) (a.put oi.dst v) w):qo P md ops Q S n0 (fuel+1) listed a w:=
 zf0 [] hi (Region.noSelect_spec hs) hQ hin rfl (by simp) (.inr λ_=>trivial) fuel listed a w (by simp) (Region.free_spec hi hf) (by simpa using hr) hy hS h
def zaC (P:Program) (md:Region.Mode) (ops:Array Oper) (Q:Exit->Act->World->Prop) (S:World->Prop) (n0 fuel:Nat) (listed:Array Bool) (a:Act) (w:World) (rs:List Nat):Prop:=
 ∀i∈rs,wpOp P ops Q i (λa' w'=>(i≠n0->listed.getD n0 true=false->S w')/\qo P md ops Q S n0 fuel (listed.setIfInBounds i true) a' w') a w
theorem zaC.nil {fuel:Nat} {listed:Array Bool} {a:Act} {w:World} :zaC P md ops Q S n0 fuel listed a w [] :=λ_ h=>by cases h
theorem zaC.cons {fuel:Nat} {listed:Array Bool} {a:Act} {w:World} {i:Nat} {o:Oper} {rs:List Nat} (ho:ops[i]? =some o)
  (h:∀K':Act->World->Prop,Hid (∀a w,(i≠n0->listed.getD n0 true=false->S w)->qo P md ops Q S n0 fuel (listed.setIfInBounds i true) a w->K' a w)->if Region.wanted o (yielded ops a.tmps)=true then Oper.wp P o a w K' Q else K' (a.put o.dst undef) w)
  (hs:zaC P md ops Q S n0 fuel listed a w rs):zaC P md ops Q S n0 fuel listed a w (i::rs):=λj hj=>by
 rcases List.mem_cons.1 hj with rfl|hj
 ·exact wpOp_step ho (λK' hK=>h K' (λa w hS hW=>hK a w ⟨hS,hW⟩))
 exact hs j hj
theorem zcm {rs:List Nat} {fuel:Nat} {listed:Array Bool} {a:Act} {w:World} (hr:Region.ready md ops listed=rs) (hne:rs≠ [])
  (h:zaC P md ops Q S n0 fuel listed a w rs):qo P md ops Q S n0 (fuel+1) listed a w:=⟨λh0=>absurd (hr ▸ h0) hne,hr ▸ h⟩
theorem xG {listed:Array Bool} {a:Act} {w:World} (hr:Region.ready md ops listed= []) (h:Q .normal a w):∀fuel,qo P md ops Q S n0 fuel listed a w
 |0=>⟨hr,h⟩
 |_+1=>⟨λ_=>h,by rw [hr];simp⟩
theorem yU {id:Nat} {a:Act} {w:World} (hm:P.follows .mixedOrders=true) (hS:S w.drew)
  (h:S w.drew->qo P .any ops Q S n0 ops.size (Array.replicate ops.size false) a w.drew):(Code.region id ops true).wp P Q a w:=
 wp_region_any hm (zeO _ _ _ _ (h hS))
end
theorem qtF {P:Program} {md:Region.Mode} {ops:Array Oper} {Q:Exit->Act->World->Prop} {S:World->Prop} {n0:Nat} (i d:Nat) (v:Value) {oi:Oper} {fuel:Nat} {listed:Array Bool} {a:Act} {w:World} (hi:ops[i]? =some oi) (hy:∀w,True->(execOp a.eval oi).run P w= .ok (.value v) w) (hS:listed.getD n0 true=false->S w)
 (h:qo P md ops Q S n0 fuel (listed.setIfInBounds i true) ⟨a.tmps.setIfInBounds d v,a.defers⟩ w) (hd:oi.dst=some d:=by rfl) (hw:Region.wanted oi (yielded ops a.tmps)=true:=by rfl) (hs:Region.noSelect ops=true:=by kernel_rfl) (hf:Region.free md ops listed i=true:=by kernel_rfl) (hr:(Region.ready md ops listed).contains i=true:=by kernel_rfl) (hin:i≠n0:=by decide)
 (hQ:∀c a w,Q (.panic c) (a.put oi.dst v) w->Q (.panic c) a w:=by exact λ_ _ _ h=>h):qo P md ops Q S n0 (fuel+1) listed a w:=
 zmK hi hs hf hr hin hQ (Or.inl ⟨hw,hy⟩) hS (by rw [hd];exact h)
theorem qtT {P:Program} {md:Region.Mode} {ops:Array Oper} {Q:Exit->Act->World->Prop} {S:World->Prop} {n0:Nat} (Wt:List Nat) (i d:Nat) (v:Value) {oi:Oper} {fuel:Nat} {listed:Array Bool} {a:Act} {w:World} (hi:ops[i]? =some oi) (hy:∀w,S w->(execOp a.eval oi).run P w= .ok (.value v) w) (hS:S w)
 (h:qo P md ops Q S n0 fuel (listed.setIfInBounds i true) ⟨a.tmps.setIfInBounds d v,a.defers⟩ w) (hd:oi.dst=some d:=by rfl) (hw:Region.wanted oi (yielded ops a.tmps)=true:=by rfl) (hs:Region.noSelect ops=true:=by kernel_rfl) (hf:Region.free md ops listed i=true:=by kernel_rfl) (hr:(Region.ready md ops listed).contains i=true:=by kernel_rfl) (hin:i≠n0:=by decide)
 (hl:zdE listed Wt=true:=by kernel_rfl) (hc:zfP md ops Wt i=true:=by kernel_rfl) (hiW:Wt.contains i=false:=by rfl) (hnW:Wt.contains n0=true:=by rfl) (hQ:∀c a w,Q (.panic c) (a.put oi.dst v) w->Q (.panic c) a w:=by exact λ_ _ _ h=>h):qo P md ops Q S n0 (fuel+1) listed a w:=
 zmJ Wt hi hs hf hr hin hl hc hiW hnW hQ (Or.inl ⟨hw,hy⟩) hS (by rw [hd];exact h)
theorem zU {P:Program} {md:Region.Mode} {ops:Array Oper} {Q:Exit->Act->World->Prop} {S:World->Prop} {n0:Nat} (i:Nat) {d:Nat} {v:Value} {oi:Oper} {fuel:Nat} {listed:Array Bool} {a a2:Act} {w:World} (hS:listed.getD n0 true=false->S w)
 (h:qo P md ops Q S n0 fuel (listed.setIfInBounds i true) a2 w) (hi:ops[i]? =some oi:=by rfl) (hy:∀w,True->(execOp a.eval oi).run P w= .ok (.value v) w:=by intro _ _;go_simp<;>rfl) (hd:oi.dst=some d:=by rfl) (hE:(⟨a.tmps.setIfInBounds d v,a.defers⟩:Act)=a2:=by simp only [Act.put,kG,kH,kI];exact rfl) (hw:Region.wanted oi (yielded ops a.tmps)=true:=by rfl) (hs:Region.noSelect ops=true:=by kernel_rfl) (hf:Region.free md ops listed i=true:=by kernel_rfl) (hr:(Region.ready md ops listed).contains i=true:=by kernel_rfl) (hin:i≠n0:=by decide)
 (hQ:∀c a w,Q (.panic c) (a.put oi.dst v) w->Q (.panic c) a w:=by exact λ_ _ _ h=>h):qo P md ops Q S n0 (fuel+1) listed a w:=
 qtF i d v hi hy hS (by rw [hE];exact h) hd hw hs hf hr hin hQ
theorem jh {P:Program} {md:Region.Mode} {ops:Array Oper} {Q:Exit->Act->World->Prop} {S X:World->Prop} {n0:Nat} (Wt:List Nat) (i:Nat) (c:∀w,S w->X w) {d:Nat} {v:Value} {oi:Oper} {fuel:Nat} {listed:Array Bool} {a a2:Act} {w:World} (hS:S w)
 (h:qo P md ops Q S n0 fuel (listed.setIfInBounds i true) a2 w) (hi:ops[i]? =some oi:=by rfl) (hy:∀w,S w->X w->(execOp a.eval oi).run P w= .ok (.value v) w:=by intro _ _ _;go_simp<;>rfl) (hd:oi.dst=some d:=by rfl) (hE:(⟨a.tmps.setIfInBounds d v,a.defers⟩:Act)=a2:=by simp only [Act.put,kG,kH,kI];exact rfl) (hw:Region.wanted oi (yielded ops a.tmps)=true:=by rfl) (hs:Region.noSelect ops=true:=by kernel_rfl) (hf:Region.free md ops listed i=true:=by kernel_rfl) (hr:(Region.ready md ops listed).contains i=true:=by kernel_rfl) (hin:i≠n0:=by decide)
 (hl:zdE listed Wt=true:=by kernel_rfl) (hc:zfP md ops Wt i=true:=by kernel_rfl) (hiW:Wt.contains i=false:=by rfl) (hnW:Wt.contains n0=true:=by rfl) (hQ:∀c a w,Q (.panic c) (a.put oi.dst v) w->Q (.panic c) a w:=by exact λ_ _ _ h=>h):qo P md ops Q S n0 (fuel+1) listed a w:=
 qtT Wt i d v hi (λw s=>hy w s (c w s)) hS (by rw [hE];exact h) hd hw hs hf hr hin hl hc hiW hnW hQ
theorem vG {P:Program} {md:Region.Mode} {ops:Array Oper} {Q:Exit->Act->World->Prop} {S:World->Prop} {n0:Nat} (i:Nat) {fuel:Nat} {listed:Array Bool} {a:Act} {w:World} {o:Oper} (ho:ops[i]? =some o)
 (h:∀K':Act->World->Prop,Hid (∀a w,(i≠n0->listed.getD n0 true=false->S w)->qo P md ops Q S n0 fuel (listed.setIfInBounds i true) a w->K' a w)->if Region.wanted o (yielded ops a.tmps)=true then Oper.wp P o a w K' Q else K' (a.put o.dst undef) w) (hr:Region.ready md ops listed= [i] :=by kernel_rfl):qo P md ops Q S n0 (fuel+1) listed a w:=
 zcm hr (by simp) (zaC.cons ho h zaC.nil)
