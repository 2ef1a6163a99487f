/- Steps. -/
import Derived.BigQuiet
import Derived.Deep.AppendLies
import Derived.Deep.CutBlock
import Derived.Deep.DeepCutAuto
import Derived.OpenShut
import Derived.ProofKit
import Derived.ShutString
import Derived.StillTailTactics
import Derived.WalkLawsBesides
import Derived.WalkSpells
import Derived.Test.YtnhahkiojbanfaaGreatDoorTie
import Derived.Test.YtnhahkiojbanfaaGreatDoorRyShort
set_option linter.all false
namespace Go.Proofs.YtnhahkiojbanfaaGreatDoor
open Go.RowKit
set_option maxRecDepth 100000
set_option maxHeartbeats 16000000
structure Since (F:Nat->Prop) (w w':World):Prop where
 os:w'.os=w.os
 tape:w'.tape=w.tape
 output:w'.output=w.output
 size:w.heap.size<=w'.heap.size
 block:∀k,k<w.heap.size->¬F k->w'.heap[k]? =w.heap[k]?
theorem Since.refl (F:Nat->Prop) (w:World):Since F w w:=⟨rfl,rfl,rfl,Nat.le_refl _,λ_ _ _=>rfl⟩
theorem Since.trans {F G:Nat->Prop} {a b c:World} (h:Since F a b) (k:Since G b c) (hG:∀i,G i->F i\/a.heap.size<=i):Since F a c:=
 ⟨k.os.trans h.os,k.tape.trans h.tape,k.output.trans h.output,Nat.le_trans h.size k.size,λi hi hf=>
  (k.block i (Nat.lt_of_lt_of_le hi h.size) (λhg=>(hG i hg).elim hf (λh=>absurd hi (Nat.not_lt.2 h)))).trans (h.block i hi hf)⟩
theorem Since.mono {F G:Nat->Prop} {w w':World} (h:Since F w w') (hG:∀k,k<w.heap.size->F k->G k):Since G w w':=
 ⟨h.os,h.tape,h.output,h.size,λk hk hg=>h.block k hk λhf=>hg (hG k hk hf)⟩
theorem Since.below {F:Nat->Prop} {w w':World} (h:Since F w w') {B:Nat} (hB:B<=w.heap.size) (hF:∀k,F k->B<=k):Below B w w':=
 ⟨h.os,h.tape,h.output,h.size,λk hk=>h.block k (Nat.lt_of_lt_of_le hk hB) λhf=>absurd hk (Nat.not_lt.2 (hF k hf))⟩
theorem Since.of_below {w w':World} {B:Nat} (h:Below B w w'):Since (λk=>B<=k) w w':=
 ⟨h.os,h.tape,h.output,h.size,λk _ hf=>h.block k (Nat.lt_of_not_le hf)⟩
theorem Since.drew (F:Nat->Prop) {a w:World} (h:Since F a w):Since F a w.drew:=⟨h.os,h.tape,h.output,h.size,h.block⟩
theorem Since.drewN (F:Nat->Prop) {a w:World} (n:Nat) (h:Since F a w):Since F a (w.drewN n):=⟨h.os,h.tape,h.output,h.size,h.block⟩
theorem Since.alloc {F:Nat->Prop} {a w:World} (h:Since F a w) (o:Obj):Since F a (w.alloc o):=
 h.trans (G:=λ_=>False) ⟨rfl,rfl,rfl,by simp,λk hk _=>Below.heap_alloc _ _ _ hk⟩ (λ_ h=>h.elim)
theorem Since.setCell {F:Nat->Prop} {a w:World} (h:Since F a w) {p:Addr} (hp:F p.block\/a.heap.size<=p.block) (u:Value):Since F a (w.setCell p u):=
 h.trans (G:=λk=>k=p.block) ⟨rfl,rfl,rfl,by simp [World.setCell],λk _ hk=>Below.heap_setCell _ _ _ _ hk⟩ (λ_ h=>h ▸ hp)
theorem Since.grown {F:Nat->Prop} {a w w':World} {row:Option Nat} (h:Since F a w) (hg:w.grownBy w' row) (hr:∀k,row=some k->F k\/a.heap.size<=k):Since F a w':=
 h.trans (G:=λk=>row=some k) ⟨hg.os,hg.tape,hg.output,hg.size,λk hk hne=>hg.block k hk λe=>hne e.symm⟩ hr
theorem Since.cell {F:Nat->Prop} {w w':World} (h:Since F w w') {p:Addr} (hp:p.block<w.heap.size) (hf:¬F p.block):w'.cell? p=w.cell? p:=World.cell?_of_block (h.block p.block hp hf)
theorem Since.row {F:Nat->Prop} {w w':World} (h:Since F w w') {base:Nat} {e:TypeId} {size:Nat} {v:Value} {n:Nat} {xs:List Value} (ho:w.ownsRow base e size v n xs) (hf:∀k,v.ownBlock=some k->¬F k):w'.ownsRow base e size v n xs:=by
 refine⟨ho.1, ?_⟩
 rcases ho.2 with hn|⟨g,cap,cur,rfl,hb,hgg,rest⟩
 ·exact .inl hn
 exact .inr ⟨g,cap,cur,rfl,hb,by rw [h.block g (Array.getElem?_eq_some_iff.1 hgg).1 (hf g (by simp [Value.ownBlock]))];exact hgg,rest⟩
theorem ze {w:World} {b:Nat} {c:Array Value} {e:TypeId} {f:Nat × Nat} (h:w.heap[b]? =some (.cells c e f)) (j:Nat):w.cell? ⟨b,j,none⟩=c[j]? :=by simp [World.cell?,h]
theorem zA {w:World} {b:Nat} {c:Array Value} {e:TypeId} (h:w.heap[b]? =some (.cells c e (0,0))) (j:Nat):w.frozen? ⟨b,j,none⟩=false:=by simp [World.frozen?,h]
theorem zu {w:World} {b:Nat} {c:Array Value} {e:TypeId} {f:Nat × Nat} (h:w.heap[b]? =some (.cells c e f)) (j:Nat) (u:Value):(w.setCell ⟨b,j,none⟩ u).heap[b]? =some (.cells (c.setIfInBounds j u) e f):=by
 simp [World.setCell,Array.getElem?_modify,h]
theorem zx {w:World} {b:Nat} {o:Obj} (h:w.heap[b]? =some o):b<w.heap.size:=(Array.getElem?_eq_some_iff.1 h).1
theorem zht {a b:ByteArray} (h:a.toList=b.toList):a=b:=by
 rw [ByteArray.toList_eq,ByteArray.toList_eq] at h
 exact ByteArray.ext (Array.toList_inj.1 h)
theorem zu1 {a b:ByteArray} (h:a≠b):(a.toList==b.toList)=false:=by
 rw [beq_eq_false_iff_ne];exact λe=>h (zht e)
theorem uE {w:World} {B:Nat} {e:TypeId} {size:Nat} {v:Value} {n:Nat} {xs:List Value} (h:w.ownsRow B e size v n xs) (hn:0<n):
  ∃g cap,v= .slice (some ⟨g,0,none⟩) n cap/\n<=cap/\cap<=maxLen:=by
 rcases h.2 with⟨_,rfl⟩|⟨g,cap,cur,rfl,_,_,h1,h2,_⟩
 ·omega
 exact⟨g,cap,rfl,h1,h2⟩
theorem xu {w:World} {B:Nat} {e:TypeId} {size:Nat} {v:Value} {n:Nat} {xs:List Value} (h:w.ownsRow B e size v n xs):
  ∃a cap,v= .slice a n cap/\n<=cap/\cap<=maxLen:=by
 rcases h.2 with⟨rfl,rfl⟩|⟨g,cap,cur,rfl,_,_,h1,h2,_⟩
 ·exact⟨none,0,rfl,Nat.le_refl _,Nat.zero_le _⟩
 exact⟨_,cap,rfl,h1,h2⟩
theorem zcr {P:Program} {w:World} {base:Nat} {t ty e:TypeId} {i:TypeInfo} {z:Value} {size bytes:Nat} (ht:P.underlying t=some (.slice e)) (hi:P.info? e=some i) (hz:i.zero=some z)
  (hsize:i.size=size) (hby:i.bytes=bytes) {v:Value} {n:Nat} {xs:List Value} (hown:w.ownsRow base e size v n xs)
  {a:Addr} {m c:Nat} {news:List Value} (hl:news.length=m*size) (hnews:∀j u,news[j]? =some u->w.cell? (a.add j)=some u) (h1:∀u∈news,u.oneCell'=true)
  (h63:n+m<=maxLen) (hbytes:(n+m)*bytes<=140737488355328) {v':Value} {w':World}
  (hr:(Builtin.append_ #[t,t] ty #[v, .slice (some a) m c]).run P w= .ok v' w'):v'.ownBlock=v.ownBlock\/v'.ownBlock=some w.heap.size:=by
 subst hsize
 subst hby
 have hsmall:n+m<=9223372036854775807:=by simp only [maxLen] at h63;omega
 rcases hown.2 with⟨rfl,rfl⟩|⟨g,cap,cur,rfl,hbg,hg,hnc,hcm,hcs,htake⟩
 ·by_cases hm:m=0
  ·subst hm
   have hn:news= [] :=List.eq_nil_of_length_eq_zero (by simpa using hl)
   subst hn
   have:(Builtin.append_ #[t,t] ty #[.slice none 0 0, .slice (some a) 0 c]).run P w= .ok (.slice none 0 0) w:=by
    simp [Builtin.append_,run_underlying ht,sizeOf,typeInfo,hi,Builtin.lenOf,Builtin.firstCells,loadCells,loadCellsFrom]
   rw [this] at hr
   cases hr
   exact .inl rfl
  have:=run_append_nil (P:=P) w t ty e i z ht hi hz a m c news hl hnews (by omega) (by omega) (by have hb:=hbytes;simp only [Nat.zero_add] at hb;omega)
  rw [this] at hr
  cases hr
  exact .inr rfl
 by_cases hroom:n+m<=cap
 ·have hfit:n*i.size+news.length<=cur.size:=by rw [hl,hcs, <-Nat.add_mul];exact Nat.mul_le_mul_right _ hroom
  have:=run_append_room (P:=P) w t ty e i ht hi g n cap cur hg a m c news hl hnews h1 hroom hfit
  rw [this] at hr
  cases hr
  exact .inl rfl
 have holds:∀j u,xs[j]? =some u->w.cell? ((⟨g,0,none⟩:Addr).add j)=some u:=hown.cells (g:=g) rfl
 have:=run_append_grow (P:=P) w t ty e i z ht hi hz ⟨g,0,none⟩ n cap xs hown.1 holds a m c news hl hnews (by omega) (by omega) (growslice_fits (by omega) hbytes)
 rw [this] at hr
 cases hr
 exact .inr rfl
theorem zK {P:Program} (w:World) {ops:Array Oper} {rest:List Oper} {o:Oper} {a:Act} {Q:Exit->Act->World->Prop} (hgd:o.guard=none) (s x:Operand) (t:TypeId)
  (ho:o.op= .call { callee:= .builtin .append,args:= #[s,x],argTypes:= #[t,t] })
  (e:TypeId) (z:Value) (size bytes:Nat) (ht:P.underlying t=some (.slice e)) (hinfo:(P.info? e).map (λi=>(i.zero,i.size,i.bytes))=some (some z,size,bytes)) (hzs:z.cells.size=size) (hsz:0<size)
  (base:Nat) (v:Value) (n:Nat) (xs:List Value) (hs:a.eval s=v) (hown:w.ownsRow base e size v n xs)
  (ad:Addr) (m c:Nat) (news:List Value) (hx:a.eval x= .slice (some ad) m c) (hl:news.length=m*size) (hnews:∀j u,news[j]? =some u->w.cell? (ad.add j)=some u) (h1:∀u∈news,u.oneCell'=true)
  (h63:n+m<=maxLen) (hbytes:(n+m)*bytes<=140737488355328) (hbase:base<=w.heap.size)
  (h:∀a' cap' w',w'.ownsRow base e size (.slice a' (n+m) cap') (n+m) (xs++news)->cap'<=9223372036854775807->n+m<=cap'->Since (λk=>v.ownBlock=some k) w w'->
   (∀k,(Value.slice a' (n+m) cap').ownBlock=some k->v.ownBlock=some k\/k=w.heap.size)->(a'=none↔n+m=0/\v= .slice none 0 0)->
   wpList P ops Q rest (a.put o.dst (.slice a' (n+m) cap')) w'):wpList P ops Q (o::rest) a w:=by
 obtain⟨i,hi,hz,hsize,hby⟩:=info_parts hinfo
 obtain⟨v',w',hr,h2,h3,h4⟩:=run_append_own (P:=P) w base t o.type e i z size bytes ht hi hz hsize hby hzs hsz v n xs hown ad m c news hl hnews h1 h63 hbytes hbase
 have hw:=zcr ht hi hz hsize hby hown hl hnews h1 h63 hbytes hr
 obtain⟨a',cap',rfl,hc1,hc2⟩:=xu h2
 refine wpList_plain hgd λ_ hK=> ?_
 unfold Oper.wp execOp
 simp only [ho,resolve,invoke,builtin,Sem.run_bind,Sem.run_pure,Result.andThen_ok,List.map_toArray,List.map_cons,List.map_nil,hs,hx,hr]
 refine hK _ _ (h a' cap' w' h2 (by unfold maxLen at hc2;omega) hc1 ((Since.refl _ _).grown h3 (λk hk=> .inl hk)) (λk hk=> ?_) ?_)
 ·rw [hk] at hw
  rcases hw with hw|hw
  ·exact .inl hw.symm
  exact .inr (by simpa using hw)
 constructor
 ·rintro rfl
  rcases h2.2 with⟨he,hn⟩|⟨g,cap,cur,he,_⟩
  ·exact⟨hn,(h4.1 he).1⟩
  cases he
 rintro⟨hn,hv⟩
 exact(Value.slice.inj (h4.2 ⟨hv,by omega⟩)).1
theorem xS {w w':World} {B:Nat} {e:TypeId} {size:Nat} {v:Value} {n:Nat} {xs:List Value} (h:w.ownsRow B e size v n xs) (hb:Below w.heap.size w w'):w'.ownsRow B e size v n xs:=
 (Since.of_below hb).row h (λk hk=>by have:=(h.lt k hk).2;omega)
theorem zlF {w:World} {B C:Nat} {e:TypeId} {size:Nat} {v:Value} {n:Nat} {xs:List Value} (h:w.ownsRow B e size v n xs) (hC:C<=B):w.ownsRow C e size v n xs:=by
 refine⟨h.1, ?_⟩
 rcases h.2 with hn|⟨g,cap,cur,rfl,hb,rest⟩
 ·exact .inl hn
 exact .inr ⟨g,cap,cur,rfl,Nat.le_trans hC hb,rest⟩
theorem zZ {B:Nat} {a w:World} (h:Below B a w) (n:Nat):Below B a (w.drewN n):=h.trans ⟨rfl,rfl,rfl,Nat.le_refl _,λ_ _=>rfl⟩
theorem uo {w:World} {B:Nat} {e e':TypeId} {size:Nat} {v:Value} {n:Nat} {xs:List Value} (h:w.ownsRow B e size v n xs) {k:Nat} (hk:v.ownBlock=some k) {c:Array Value} {f:Nat × Nat} (hb:w.heap[k]? =some (.cells c e' f)) (hne:e≠e'):False:=by
 rcases h.2 with⟨rfl,_⟩|⟨g,cap,cur,rfl,_,hg,_⟩
 ·simp [Value.ownBlock] at hk
 simp [Value.ownBlock] at hk
 subst hk
 rw [hg] at hb
 cases hb
 exact hne rfl
theorem qF (F:Nat->Prop) {w w':World} (h:Below w.heap.size w w'):Since F w w':=⟨h.os,h.tape,h.output,h.size,λk hk _=>h.block k hk⟩
end Go.Proofs.YtnhahkiojbanfaaGreatDoor
namespace Go.Proofs.YtnhahkiojbanfaaGreatDoor
open Go.RowKit Go.ChangeShapes Go.WideShapes Go.ChangeAt
set_option maxRecDepth 100000
set_option maxHeartbeats 16000000
def z8r (w:World) (sv:Value) (l:List ByteArray):Prop:=
 ∃a cap,sv= .slice a l.length cap/\l.length<=9223372036854775807/\(∀s∈l,s.size<=maxLen)/\
  ∀j,j<l.length->∃b off,a=some ⟨b,off,none⟩/\b<w.heap.size/\w.cell? ⟨b,off+j,none⟩=some (.string (l.getD j ByteArray.empty))
def jv (w:World) (k:IntKind) (sv:Value) (l:List Int):Prop:=
 ∃a cap,sv= .slice a l.length cap/\l.length<=9223372036854775807/\(∀n∈l,(Lit.int k n).wf=true)/\
  ∀j,j<l.length->∃b off,a=some ⟨b,off,none⟩/\b<w.heap.size/\w.cell? ⟨b,off+j,none⟩=some (.int k (l.getD j 0))
theorem jv.below {w w':World} {k:IntKind} {sv:Value} {l:List Int} (h:jv w k sv l) (hb:Below w.heap.size w w'):jv w' k sv l:=by
 obtain⟨a,cap,h1,h2,h3,h4⟩:=h
 refine⟨a,cap,h1,h2,h3,λj hj=> ?_⟩
 obtain⟨b,off,h5,h6,h7⟩:=h4 j hj
 exact⟨b,off,h5,Nat.lt_of_lt_of_le h6 hb.size,(hb.cell (p:=⟨b,off+j,none⟩) h6).trans h7⟩
theorem zqe {w:World} {a:Addr} {v:Value} (h:w.cell? (a.add 0)=some v):∃b off,a=⟨b,off,none⟩:=by
 obtain⟨b,off,spot⟩:=a
 have hspot:spot=none:=by simpa [Addr.add] using World.cell?_spot h
 subst hspot
 exact⟨b,off,rfl⟩
theorem zg4 {H:Type} {enc:TypeId × Value->H} {P:Program} {w:World} {t e:TypeId} {k:IntKind} {a:Option Addr} {len cap:Nat} {d:DataW H} {p:List MemPlace} (ht:P.underlying t=some (.slice e)) (he:P.underlying e=some (.int k)) (hc:P.cellsOf e=1)
  (h:DataW.Trod enc P w 0 (λ_=>true) true t (.slice a len cap) d p):∃l,jv w k (.slice a len cap) l:=by
 obtain⟨fuel,hf⟩:=h
 rcases open_ints ht he hc hf with⟨hcs,_⟩|⟨x,l,c,zs,hcs,_,hl,hm,hz,_,hcell,hws⟩
 ·simp [Value.cells] at hcs
  obtain⟨rfl,rfl,rfl⟩:=hcs
  exact⟨[],none,0,rfl,by simp,by simp,by simp⟩
 simp [Value.cells] at hcs
 obtain⟨rfl,rfl,rfl⟩:=hcs
 have hzl:zs.length=cap:=by simpa using hz
 have hlen:(zs.take len).length=len:=by rw [List.length_take,hzl];omega
 refine⟨zs.take len,some x,cap,by rw [hlen],by rw [hlen];unfold maxLen at hm;omega,λs hs=>hws s (List.mem_of_mem_take hs), ?_⟩
 intro j hj
 rw [hlen] at hj
 obtain⟨b,off,rfl⟩:=zqe (hcell 0 (by omega))
 have hcj:=hcell j (by omega)
 rw [add_plain] at hcj
 refine⟨b,off,rfl,World.block_lt_of_cell? w _ hcj, ?_⟩
 rw [hcj]
 simp [List.getD_eq_getElem?_getD,hj]
end Go.Proofs.YtnhahkiojbanfaaGreatDoor
namespace Go.Proofs.YtnhahkiojbanfaaGreatDoor
open Go.RowKit
set_option maxRecDepth 100000
set_option maxHeartbeats 16000000
theorem zzC:ownKnob Tryz.prog.godebug=none:=by kernel_rfl
theorem zhe:laidOutB Tryz.prog=true:=by kernel_rfl
def z6p:DataW Unit->Value
 | .lit (.int k n)=> .int k n
 |_=>undef
def cellsD:DataW Unit->Array Value
 | .agg l=>(l.map z6p).toArray
 |_=> #[]
def zvy (d:DataW Unit):Obj->Obj
 | .cells _ t f=> .cells (cellsD d) t f
 |o=>o
noncomputable def zeo (os:Os):World:=
 let w0:=World.holding Tryz.prog os ⟨#[], #[], []⟩
 { w0 with heap:=((w0.heap.modify 0 (zvy Rows.laid_internal_strconv_uint64pow10)).modify 1 (zvy Rows.laid_math_bits_deBruijn32tab)).modify 2 (zvy Rows.laid_math_bits_deBruijn64tab) }
theorem zjV (os:Os) (args:Array Value):laidMet Tryz.prog [("math/bits.deBruijn32tab",Rows.laid_math_bits_deBruijn32tab),("math/bits.deBruijn64tab",Rows.laid_math_bits_deBruijn64tab),("internal/strconv.uint64pow10",Rows.laid_internal_strconv_uint64pow10)] ((zeo os).forCall (λ_ _=>0) ⟨#[],args, []⟩).memory:=
 laidMet_of_run' 8 (by kernel_rfl) (by kernel_rfl)
theorem zii {P:Program} {fn:Func} (h:(fn.params.toList.all λt=> !P.wantsStandIn t)=true) (j:Nat) (t:TypeId) (ht:fn.params[j]? =some t):P.wantsStandIn t=false:=by
 have hm:=List.all_eq_true.1 h t (List.mem_of_getElem? (by rw [Array.getElem?_toList];exact ht))
 simpa using hm
theorem zD {a b c:World} (h:Below a.heap.size a b) (k:Below b.heap.size b c):Below a.heap.size a c:=h.trans (k.mono h.size)
theorem zi {w w':World} (h:Below w.heap.size w w'):∀a v,w.cell? a=some v->w'.cell? a=some v:=λ_ _ hc=>(h.cell (World.block_lt_of_cell? w _ hc)).trans hc
def zh {α:Type} [Inhabited α] (R:World->α->List Value->Prop) (size:Nat) (w:World) (sv:Value) (l:List α):Prop:=
 ∃a cap,sv= .slice a l.length cap/\(l.length<=cap/\cap<=9223372036854775807)/\∀j,j<l.length->∃b off cs,a=some ⟨b,off,none⟩/\b<w.heap.size/\
  cs.length=size/\(∀i,i<size->w.cell? ⟨b,off+j*size+i,none⟩=cs[i]?)/\R w (l.getD j default) cs
def kR {α:Type} (R:World->α->List Value->Prop):Prop:=∀w w' x cs,R w x cs->Below w.heap.size w w'->R w' x cs
theorem zh.below {α:Type} [Inhabited α] {R:World->α->List Value->Prop} (hR:kR R) {size:Nat} {w w':World} {sv:Value} {l:List α} (h:zh R size w sv l) (hb:Below w.heap.size w w'):zh R size w' sv l:=by
 obtain⟨a,cap,h1,h2,h4⟩:=h
 refine⟨a,cap,h1,h2,λj hj=> ?_⟩
 obtain⟨b,off,cs,h5,h6,h7,h8,h9⟩:=h4 j hj
 exact⟨b,off,cs,h5,Nat.lt_of_lt_of_le h6 hb.size,h7,λi hi=>(hb.cell (p:=⟨b,off+j*size+i,none⟩) h6).trans (h8 i hi),hR _ _ _ _ h9 hb⟩
theorem zh.slice {α:Type} [Inhabited α] {R:World->α->List Value->Prop} {size:Nat} {w:World} {sv:Value} {l:List α} (h:zh R size w sv l):∃a cap,sv= .slice a l.length cap/\l.length<=9223372036854775807:=by
 obtain⟨a,cap,h1,h2, -⟩:=h;exact⟨a,cap,h1,Nat.le_trans h2.1 h2.2⟩
theorem zh.room {α:Type} [Inhabited α] {R:World->α->List Value->Prop} {size:Nat} {w:World} {a:Option Addr} {n cap:Nat} {l:List α} (h:zh R size w (.slice a n cap) l):l.length<=cap/\cap<=9223372036854775807:=by
 obtain⟨a',cap',he,h2, -⟩:=h;cases he;exact h2
theorem zh.part {α:Type} [Inhabited α] {R:World->α->List Value->Prop} {size:Nat} {w:World} {a:Option Addr} {n cap:Nat} {l:List α} (h:zh R size w (.slice a n cap) l) (j:Nat) (hj:j<l.length):
  ∃b off cs,a=some ⟨b,off,none⟩/\b<w.heap.size/\cs.length=size/\(∀i,i<size->w.cell? ⟨b,off+j*size+i,none⟩=cs[i]?)/\R w (l.getD j default) cs:=by
 obtain⟨a',cap',he, -,hc⟩:=h
 cases he
 exact hc j hj
theorem zh.zco {α:Type} [Inhabited α] {R:World->α->List Value->Prop} {size:Nat} {w:World} {B:Nat} {e:TypeId} {sv:Value} {l:List α} {xs:List Value} (h:w.ownsRow B e size sv l.length xs)
  (hx:∀j,j<l.length->∃cs:List Value,cs.length=size/\(∀i,i<size->xs[j*size+i]? =cs[i]?)/\R w (l.getD j default) cs):zh R size w sv l:=by
 obtain⟨a,cap,rfl,h1,h2⟩:=xu h
 unfold maxLen at h2
 refine⟨a,cap,rfl,⟨h1,by omega⟩,λj hj=> ?_⟩
 obtain⟨g,cap',he, -, -⟩:=uE h (by omega)
 cases he
 obtain⟨cs,c1,c2,c3⟩:=hx j hj
 refine⟨g,0,cs,rfl,(h.lt g rfl).2,c1,λi hi=> ?_,c3⟩
 rw [Nat.zero_add,h.cellAt _ (by have:=Nat.mul_le_mul_right size (show j+1<=l.length by omega);rw [Nat.add_mul] at this;omega)]
 exact c2 i hi
def zo {α:Type} (f:α->List Value) (l:List α):List Value:=l.flatMap f
theorem jC {α:Type} {f:α->List Value} {size:Nat} (hf:∀x,(f x).length=size) (l:List α):(zo f l).length=l.length*size:=by
 induction l with
 |nil=>simp [zo]
 |cons p l ih=>simp only [zo,List.flatMap_cons,List.length_append,List.length_cons] at ih ⊢;rw [ih,hf,Nat.add_mul];omega
theorem wC {α:Type} (f:α->List Value) (l r:List α):zo f (l++r)=zo f l++zo f r:=by simp [zo]
theorem za0 {α:Type} [Inhabited α] {f:α->List Value} {size:Nat} (hf:∀x,(f x).length=size):∀ {l:List α} {j i:Nat},j<l.length->i<size->(zo f l)[j*size+i]? =(f (l.getD j default))[i]? :=by
 intro l
 induction l with
 |nil=>intro j i hj;simp at hj
 |cons p l ih=>
 intro j i hj hi
 simp only [zo,List.flatMap_cons] at ih ⊢
 cases j with
 |zero=>rw [Nat.zero_mul,Nat.zero_add,List.getElem?_append_left (by rw [hf];exact hi)];rfl
 |succ j=>
 rw [List.getElem?_append_right (by rw [hf,Nat.add_mul];omega),hf,show(j+1)*size+i - size=j*size+i by rw [Nat.add_mul];omega]
 rw [ih (by simpa using hj) hi];rfl
structure zl where
 var:Int
 n:Int
 deriving DecidableEq
instance:Inhabited zl:=⟨⟨0,0⟩⟩
def zl.cells (e:zl):List Value:= [.int .i64 e.var, .int .i64 e.n]
def zl.val (e:zl):Value:= .agg #[.int .i64 e.var, .int .i64 e.n]
def zas (_:World) (e:zl) (cs:List Value):Prop:=cs=e.cells
theorem zas.stays:kR zas:=λ_ _ _ _ h _=>h
abbrev zY:=zh zas 2
theorem zY.below {w w':World} {sv:Value} {l:List zl} (h:zY w sv l) (hb:Below w.heap.size w w'):zY w' sv l:=zh.below zas.stays h hb
theorem zY.part {w:World} {a:Option Addr} {n cap:Nat} {l:List zl} (h:zY w (.slice a n cap) l) (j:Nat) (hj:j<l.length):∃b off,a=some ⟨b,off,none⟩/\b<w.heap.size/\
  w.cell? ⟨b,off+j*2,none⟩=some (.int .i64 (l.getD j default).var)/\w.cell? ⟨b,off+j*2+1,none⟩=some (.int .i64 (l.getD j default).n):=by
 obtain⟨b,off,cs,h1,h2,h3,h4,h5⟩:=zh.part h j hj
 have h5:cs=zl.cells _:=h5
 subst h5
 exact⟨b,off,h1,h2,h4 0 (by omega),h4 1 (by omega)⟩
structure zq where
 kind:Int
 thread:Int
 var:Int
 deriving DecidableEq
instance:Inhabited zq:=⟨⟨0,0,0⟩⟩
def zq.cells (e:zq):List Value:= [.int .i64 e.kind, .int .i64 e.thread, .int .i64 e.var]
def zbo (_:World) (e:zq) (cs:List Value):Prop:=cs=e.cells
theorem zbo.stays:kR zbo:=λ_ _ _ _ h _=>h
abbrev vZ:=zh zbo 3
theorem vZ.part {w:World} {a:Option Addr} {n cap:Nat} {l:List zq} (h:vZ w (.slice a n cap) l) (j:Nat) (hj:j<l.length):∃b off,a=some ⟨b,off,none⟩/\b<w.heap.size/\
  w.cell? ⟨b,off+j*3,none⟩=some (.int .i64 (l.getD j default).kind)/\w.cell? ⟨b,off+j*3+1,none⟩=some (.int .i64 (l.getD j default).thread)/\w.cell? ⟨b,off+j*3+2,none⟩=some (.int .i64 (l.getD j default).var):=by
 obtain⟨b,off,cs,h1,h2,h3,h4,h5⟩:=zh.part h j hj
 have h5:cs=zq.cells _:=h5
 subst h5
 exact⟨b,off,h1,h2,h4 0 (by omega),h4 1 (by omega),h4 2 (by omega)⟩
def bD (_:World) (x:Int) (cs:List Value):Prop:=cs= [.int .i64 x]
theorem bD.stays:kR bD:=λ_ _ _ _ h _=>h
abbrev xU:=zh bD 1
theorem xU.part {w:World} {a:Option Addr} {n cap:Nat} {l:List Int} (h:xU w (.slice a n cap) l) (j:Nat) (hj:j<l.length):∃b off,a=some ⟨b,off,none⟩/\b<w.heap.size/\w.cell? ⟨b,off+j,none⟩=some (.int .i64 (l.getD j 0)):=by
 obtain⟨b,off,cs,h1,h2,h3,h4,h5⟩:=zh.part h j hj
 have h5:cs= [.int .i64 (l.getD j default)] :=h5
 subst h5
 have:=h4 0 (by omega)
 rw [Nat.mul_one,Nat.add_zero] at this
 exact⟨b,off,h1,h2,this⟩
structure zy where
 pc:Int
 regs:List Int
 buf:List zl
 deriving DecidableEq
instance:Inhabited zy:=⟨⟨0, [0,0,0,0], []⟩⟩
def zy.cells (t:zy) (bv:Value):List Value:= [.int .i64 t.pc, .int .i64 (t.regs.getD 0 0), .int .i64 (t.regs.getD 1 0), .int .i64 (t.regs.getD 2 0), .int .i64 (t.regs.getD 3 0),bv]
def wN (w:World) (t:zy) (cs:List Value):Prop:=t.regs.length=4/\∃bv,cs=t.cells bv/\zY w bv t.buf
theorem wN.stays:kR wN:=λ_ _ _ _ ⟨h0,bv,h,h2⟩ hb=>⟨h0,bv,h,zY.below h2 hb⟩
abbrev qB:=zh wN 6
theorem qB.part {w:World} {a:Option Addr} {n cap:Nat} {l:List zy} (h:qB w (.slice a n cap) l) (j:Nat) (hj:j<l.length):∃b off ba bc,a=some ⟨b,off,none⟩/\b<w.heap.size/\(l.getD j default).regs.length=4/\
  w.cell? ⟨b,off+j*6,none⟩=some (.int .i64 (l.getD j default).pc)/\w.cell? ⟨b,off+j*6+1,none⟩=some (.int .i64 ((l.getD j default).regs.getD 0 0))/\w.cell? ⟨b,off+j*6+2,none⟩=some (.int .i64 ((l.getD j default).regs.getD 1 0))/\w.cell? ⟨b,off+j*6+3,none⟩=some (.int .i64 ((l.getD j default).regs.getD 2 0))/\w.cell? ⟨b,off+j*6+4,none⟩=some (.int .i64 ((l.getD j default).regs.getD 3 0))/\
  w.cell? ⟨b,off+j*6+5,none⟩=some (.slice ba (l.getD j default).buf.length bc)/\zY w (.slice ba (l.getD j default).buf.length bc) (l.getD j default).buf:=by
 obtain⟨b,off,cs,h1,h2,h3,h4,h0,bv,h5,h6⟩:=zh.part h j hj
 subst h5
 obtain⟨ba,bc,rfl, -⟩:=zh.slice h6
 exact⟨b,off,ba,bc,h1,h2,h0,h4 0 (by omega),h4 1 (by omega),h4 2 (by omega),h4 3 (by omega),h4 4 (by omega),h4 5 (by omega),h6⟩
structure zk where
 threads:List zy
 mem:List Int
 bad:Bool
 deriving DecidableEq
instance:Inhabited zk:=⟨⟨[], [],false⟩⟩
def yE (s:zk) (tv mv:Value):Value:= .agg #[tv,mv, .bool s.bad]
structure yw (w:World) (s:zk) (tv mv:Value):Prop where
 threads:qB w tv s.threads
 mem:xU w mv s.mem
theorem yw.below {w w':World} {s:zk} {tv mv:Value} (h:yw w s tv mv) (hb:Below w.heap.size w w'):yw w' s tv mv:=⟨zh.below wN.stays h.threads hb,zh.below bD.stays h.mem hb⟩
def xV (w:World) (s:zk) (cs:List Value):Prop:=∃tv mv,cs= [tv,mv, .bool s.bad] /\yw w s tv mv
theorem xV.stays:kR xV:=λ_ _ _ _ ⟨tv,mv,h,h2⟩ hb=>⟨tv,mv,h,h2.below hb⟩
abbrev j6:=zh xV 3
theorem j6.part {w:World} {a:Option Addr} {n cap:Nat} {l:List zk} (h:j6 w (.slice a n cap) l) (j:Nat) (hj:j<l.length):∃b off tv mv,a=some ⟨b,off,none⟩/\b<w.heap.size/\
  w.cell? ⟨b,off+j*3,none⟩=some tv/\w.cell? ⟨b,off+j*3+1,none⟩=some mv/\w.cell? ⟨b,off+j*3+2,none⟩=some (.bool (l.getD j default).bad)/\yw w (l.getD j default) tv mv:=by
 obtain⟨b,off,cs,h1,h2,h3,h4,tv,mv,h5,h6⟩:=zh.part h j hj
 subst h5
 exact⟨b,off,tv,mv,h1,h2,h4 0 (by omega),h4 1 (by omega),h4 2 (by omega),h6⟩
inductive zN where
 |mk (kind n op:Int) (kids:List zN)
def zN.kind:zN->Int| .mk k _ _ _=>k
def zN.n:zN->Int| .mk _ n _ _=>n
def zN.op:zN->Int| .mk _ _ o _=>o
def zN.kids:zN->List zN| .mk _ _ _ l=>l
instance:Inhabited zN:=⟨.mk 0 0 0 []⟩
def zN.cells (x:zN) (kv:Value):List Value:= [.int .i64 x.kind, .int .i64 x.n, .int .u8 x.op,kv]
def qg (x:zN) (kv:Value):Value:= .agg #[.int .i64 x.kind, .int .i64 x.n, .int .u8 x.op,kv]
def zF:Nat->World->zN->Value->Prop
 |0,_,_,_=>False
 |d+1,w,x,kv=>zh (λw y cs=>∃kv',cs=y.cells kv'/\zF d w y kv') 4 w kv x.kids
theorem zF.below {d:Nat} {w w':World} {x:zN} {kv:Value} (h:zF d w x kv) (hb:Below w.heap.size w w'):zF d w' x kv:=by
 induction d generalizing w w' x kv with
 |zero=>exact h.elim
 |succ d ih=>exact zh.below (λ_ _ _ _ ⟨kv',e,h'⟩ hb'=>⟨kv',e,ih h' hb'⟩) h hb
theorem zF.slice {d:Nat} {w:World} {x:zN} {kv:Value} (h:zF d w x kv):∃a cap,kv= .slice a x.kids.length cap/\x.kids.length<=9223372036854775807:=by
 cases d with
 |zero=>exact h.elim
 |succ d=>exact zh.slice h
theorem zF.part {d:Nat} {w:World} {x:zN} {a:Option Addr} {n cap:Nat} (h:zF (d+1) w x (.slice a n cap)) (j:Nat) (hj:j<x.kids.length):∃b off ka kc,a=some ⟨b,off,none⟩/\b<w.heap.size/\
  w.cell? ⟨b,off+j*4,none⟩=some (.int .i64 (x.kids.getD j default).kind)/\w.cell? ⟨b,off+j*4+1,none⟩=some (.int .i64 (x.kids.getD j default).n)/\w.cell? ⟨b,off+j*4+2,none⟩=some (.int .u8 (x.kids.getD j default).op)/\w.cell? ⟨b,off+j*4+3,none⟩=some (.slice ka (x.kids.getD j default).kids.length kc)/\
  zF d w (x.kids.getD j default) (.slice ka (x.kids.getD j default).kids.length kc):=by
 obtain⟨b,off,cs,h1,h2,h3,h4,kv,h5,h6⟩:=zh.part h j hj
 subst h5
 obtain⟨ka,kc,rfl, -⟩:=h6.slice
 exact⟨b,off,ka,kc,h1,h2,h4 0 (by omega),h4 1 (by omega),h4 2 (by omega),h4 3 (by omega),h6⟩
structure zV where
 op:Int
 reg:Int
 var:Int
 a:zN
 b:zN
 dest:Int
instance:Inhabited zV:=⟨⟨0,0,0,default,default,0⟩⟩
def zV.cells (x:zV) (ka kb:Value):List Value:= [.int .i64 x.op, .int .i64 x.reg, .int .i64 x.var, .int .i64 x.a.kind, .int .i64 x.a.n, .int .u8 x.a.op,ka, .int .i64 x.b.kind, .int .i64 x.b.n, .int .u8 x.b.op,kb, .int .i64 x.dest]
def vG (d:Nat) (w:World) (x:zV) (cs:List Value):Prop:=∃ka kb,cs=x.cells ka kb/\zF d w x.a ka/\zF d w x.b kb
theorem vG.stays (d:Nat):kR (vG d):=λ_ _ _ _ ⟨ka,kb,h,h1,h2⟩ hb=>⟨ka,kb,h,h1.below hb,h2.below hb⟩
abbrev wZ (d:Nat):=zh (vG d) 12
theorem wZ.part {d:Nat} {w:World} {a:Option Addr} {n cap:Nat} {l:List zV} (h:wZ d w (.slice a n cap) l) (j:Nat) (hj:j<l.length):∃b off aa ac ba bc,a=some ⟨b,off,none⟩/\b<w.heap.size/\
  (w.cell? ⟨b,off+j*12,none⟩=some (.int .i64 (l.getD j default).op)/\w.cell? ⟨b,off+j*12+1,none⟩=some (.int .i64 (l.getD j default).reg)/\w.cell? ⟨b,off+j*12+2,none⟩=some (.int .i64 (l.getD j default).var))/\
  (w.cell? ⟨b,off+j*12+3,none⟩=some (.int .i64 (l.getD j default).a.kind)/\w.cell? ⟨b,off+j*12+4,none⟩=some (.int .i64 (l.getD j default).a.n)/\w.cell? ⟨b,off+j*12+5,none⟩=some (.int .u8 (l.getD j default).a.op)/\w.cell? ⟨b,off+j*12+6,none⟩=some (.slice aa (l.getD j default).a.kids.length ac))/\
  (w.cell? ⟨b,off+j*12+7,none⟩=some (.int .i64 (l.getD j default).b.kind)/\w.cell? ⟨b,off+j*12+8,none⟩=some (.int .i64 (l.getD j default).b.n)/\w.cell? ⟨b,off+j*12+9,none⟩=some (.int .u8 (l.getD j default).b.op)/\w.cell? ⟨b,off+j*12+10,none⟩=some (.slice ba (l.getD j default).b.kids.length bc))/\
  w.cell? ⟨b,off+j*12+11,none⟩=some (.int .i64 (l.getD j default).dest)/\
  zF d w (l.getD j default).a (.slice aa (l.getD j default).a.kids.length ac)/\zF d w (l.getD j default).b (.slice ba (l.getD j default).b.kids.length bc):=by
 obtain⟨b,off,cs,h1,h2,h3,h4,ka,kb,h5,h6,h7⟩:=zh.part h j hj
 subst h5
 obtain⟨aa,ac,rfl, -⟩:=h6.slice
 obtain⟨ba,bc,rfl, -⟩:=h7.slice
 exact⟨b,off,aa,ac,ba,bc,h1,h2,⟨h4 0 (by omega),h4 1 (by omega),h4 2 (by omega)⟩,⟨h4 3 (by omega),h4 4 (by omega),h4 5 (by omega),h4 6 (by omega)⟩,⟨h4 7 (by omega),h4 8 (by omega),h4 9 (by omega),h4 10 (by omega)⟩,h4 11 (by omega),h6,h7⟩
def qo (d:Nat) (w:World) (l:List zV) (cs:List Value):Prop:=∃v,cs= [v] /\wZ d w v l
theorem qo.stays (d:Nat):kR (qo d):=λ_ _ _ _ ⟨v,h,h1⟩ hb=>⟨v,h,zh.below (vG.stays d) h1 hb⟩
abbrev yJ (d:Nat):=zh (qo d) 1
theorem yJ.part {d:Nat} {w:World} {a:Option Addr} {n cap:Nat} {l:List (List zV)} (h:yJ d w (.slice a n cap) l) (j:Nat) (hj:j<l.length):∃b off ka kc,a=some ⟨b,off,none⟩/\b<w.heap.size/\w.cell? ⟨b,off+j,none⟩=some (.slice ka (l.getD j []).length kc)/\wZ d w (.slice ka (l.getD j []).length kc) (l.getD j []):=by
 obtain⟨b,off,cs,h1,h2,h3,h4,v,h5,h6⟩:=zh.part h j hj
 subst h5
 obtain⟨ka,kc,rfl, -⟩:=zh.slice h6
 have:=h4 0 (by omega)
 rw [Nat.mul_one,Nat.add_zero] at this
 exact⟨b,off,ka,kc,h1,h2,this,h6⟩
structure zI where
 vars:Int
 domain:Int
 threads:List (List zV)
def yO (c:zI) (tv:Value):Value:= .agg #[.int .i64 c.vars, .int .i64 c.domain,tv]
structure zG where
 model:Int
 bound:Int
 deriving DecidableEq
def xO (m:zG):Value:= .agg #[.int .i64 m.model, .int .i64 m.bound]
end Go.Proofs.YtnhahkiojbanfaaGreatDoor
namespace Go.Proofs.YtnhahkiojbanfaaGreatDoor
open Go.RowKit
set_option maxRecDepth 100000
set_option maxHeartbeats 16000000
theorem zJ {P:Program} (w:World) {ops:Array Oper} {o:Oper} {a:Act} {K:Act->World->Prop} {Q:Exit->Act->World->Prop} {E:Prop} (hw:Region.wanted o (yielded ops a.tmps)=true) (s x:Operand) (t:TypeId)
  (ho:o.op= .call { callee:= .builtin .append,args:= #[s,x],argTypes:= #[t,t] })
  (e:TypeId) (z:Value) (size bytes:Nat) (ht:P.underlying t=some (.slice e)) (hinfo:(P.info? e).map (λi=>(i.zero,i.size,i.bytes))=some (some z,size,bytes)) (hzs:z.cells.size=size) (hsz:0<size)
  (base:Nat) (v:Value) (n:Nat) (xs:List Value) (hs:a.eval s=v) (hown:w.ownsRow base e size v n xs)
  (ad:Addr) (m c:Nat) (news:List Value) (hx:a.eval x= .slice (some ad) m c) (hl:news.length=m*size) (hnews:∀j u,news[j]? =some u->w.cell? (ad.add j)=some u) (h1:∀u∈news,u.oneCell'=true)
  (h63:n+m<=maxLen) (hbytes:(n+m)*bytes<=140737488355328) (hbase:base<=w.heap.size)
  (h:∀a' cap' w',w'.ownsRow base e size (.slice a' (n+m) cap') (n+m) (xs++news)->cap'<=9223372036854775807->n+m<=cap'->Since (λk=>v.ownBlock=some k) w w'->
   (∀k,(Value.slice a' (n+m) cap').ownBlock=some k->v.ownBlock=some k\/k=w.heap.size)->
   K (a.put o.dst (.slice a' (n+m) cap')) w'):if Region.wanted o (yielded ops a.tmps)=true then Oper.wp P o a w K Q else E:=by
 rw [if_pos hw]
 obtain⟨i,hi,hz,hsize,hby⟩:=info_parts hinfo
 obtain⟨v',w',hr,h2,h3,h4⟩:=run_append_own (P:=P) w base t o.type e i z size bytes ht hi hz hsize hby hzs hsz v n xs hown ad m c news hl hnews h1 h63 hbytes hbase
 have hwh:=zcr ht hi hz hsize hby hown hl hnews h1 h63 hbytes hr
 obtain⟨a',cap',rfl,hc1,hc2⟩:=xu h2
 unfold Oper.wp execOp
 simp only [ho,resolve,invoke,builtin,Sem.run_bind,Sem.run_pure,Result.andThen_ok,List.map_toArray,List.map_cons,List.map_nil,hs,hx,hr]
 refine h a' cap' w' h2 (by unfold maxLen at hc2;omega) hc1 ((Since.refl _ _).grown h3 (λk hk=> .inl hk)) (λk hk=> ?_)
 rw [hk] at hwh
 rcases hwh with hwh|hwh
 ·exact .inl hwh.symm
 exact .inr (by simpa using hwh)
theorem zdc {P:Program} (w:World) (t ty e:TypeId) (i:TypeInfo) (ht:P.underlying t=some (.slice e)) (hi:P.info? e=some i) (a:Option Addr) (c:Nat):
  (Builtin.append_ #[t,t] ty #[.slice none 0 0, .slice a 0 c]).run P w= .ok (.slice none 0 0) w:=by
 cases a<;>simp [Builtin.append_,run_underlying ht,sizeOf,typeInfo,hi,Builtin.lenOf,Builtin.firstCells,loadCells,loadCellsFrom]
theorem zft {P:Program} (w:World) {ops:Array Oper} {rest:List Oper} {o:Oper} {a:Act} {Q:Exit->Act->World->Prop} (hgd:o.guard=none) (s x:Operand) (t:TypeId)
  (ho:o.op= .call { callee:= .builtin .append,args:= #[s,x],argTypes:= #[t,t] }) (e:TypeId) (i:TypeInfo) (ht:P.underlying t=some (.slice e)) (hi:P.info? e=some i)
  (hs:a.eval s= .slice none 0 0) (ad:Option Addr) (c:Nat) (hx:a.eval x= .slice ad 0 c) (h:wpList P ops Q rest (a.put o.dst (.slice none 0 0)) w):wpList P ops Q (o::rest) a w:=by
 refine wpList_plain hgd λ_ hK=> ?_
 unfold Oper.wp execOp
 simp only [ho,resolve,invoke,builtin,Sem.run_bind,Sem.run_pure,Result.andThen_ok,List.map_toArray,List.map_cons,List.map_nil,hs,hx,zdc w t o.type e i ht hi ad c]
 exact hK _ _ h
theorem jL {P:Program} (w:World) {ops:Array Oper} {o:Oper} {a:Act} {K:Act->World->Prop} {Q:Exit->Act->World->Prop} {E:Prop} (hw:Region.wanted o (yielded ops a.tmps)=true) (s x:Operand) (t:TypeId)
  (ho:o.op= .call { callee:= .builtin .append,args:= #[s,x],argTypes:= #[t,t] }) (e:TypeId) (i:TypeInfo) (ht:P.underlying t=some (.slice e)) (hi:P.info? e=some i)
  (hs:a.eval s= .slice none 0 0) (ad:Option Addr) (c:Nat) (hx:a.eval x= .slice ad 0 c) (h:K (a.put o.dst (.slice none 0 0)) w):if Region.wanted o (yielded ops a.tmps)=true then Oper.wp P o a w K Q else E:=by
 rw [if_pos hw]
 unfold Oper.wp execOp
 simp only [ho,resolve,invoke,builtin,Sem.run_bind,Sem.run_pure,Result.andThen_ok,List.map_toArray,List.map_cons,List.map_nil,hs,hx,zdc w t o.type e i ht hi ad c]
 exact h
theorem zh.news {α:Type} [Inhabited α] {R:World->α->List Value->Prop} {size:Nat} {f:α->List Value} (hs:0<size) (hf:∀x,(f x).length=size) (hR:∀w x cs,R w x cs->cs=f x) {w:World} {b o n c:Nat} {l:List α} (h:zh R size w (.slice (some ⟨b,o,none⟩) n c) l):
  ∀j u,(zo f l)[j]? =some u->w.cell? ((⟨b,o,none⟩:Addr).add j)=some u:=by
 intro j u hu
 have hj:j<l.length*size:=by
  rcases Nat.lt_or_ge j (l.length*size) with e|e
  ·exact e
  rw [List.getElem?_eq_none (by rw [jC hf];exact e)] at hu;cases hu
 obtain⟨q,r,hq,hr,rfl⟩:∃q r,q<l.length/\r<size/\j=q*size+r:=
  ⟨j / size,j % size,Nat.div_lt_of_lt_mul (by rw [Nat.mul_comm];exact hj),Nat.mod_lt _ hs,by rw [Nat.mul_comm];exact(Nat.div_add_mod j size).symm⟩
 rw [za0 hf hq hr] at hu
 obtain⟨b',o',cs,he, -, -,h4,h5⟩:=h.part q hq
 cases he
 have h6:=h4 r hr
 rw [hR _ _ _ h5,hu] at h6
 rw [show(⟨b,o,none⟩:Addr).add (q*size+r)=⟨b,o+q*size+r,none⟩ by
  simp only [Addr.add]
  split
  ·rename_i h;rw [show o+q*size+r=o by omega]
  rw [Nat.add_assoc]]
 exact h6
theorem zh.of_flat {α:Type} [Inhabited α] {R:World->α->List Value->Prop} {size:Nat} {f:α->List Value} (hf:∀x,(f x).length=size) (hR:∀w x,R w x (f x)) {w:World} {B:Nat} {e:TypeId} {sv:Value} {l:List α} (h:w.ownsRow B e size sv l.length (zo f l)):zh R size w sv l:=
 zh.zco h λj hj=>⟨f (l.getD j default),hf _,λ_ hi=>za0 hf hj hi,hR _ _⟩
theorem zh.nil {α:Type} [Inhabited α] {R:World->α->List Value->Prop} {size:Nat} (w:World):zh R size w (.slice none 0 0) ([] :List α):=⟨none,0,rfl,by simp,λj hj=>by simp at hj⟩
theorem yU {X:World} {B C:Nat} {e:TypeId} {size:Nat} {v:Value} {n:Nat} {xs:List Value} (h:X.ownsRow B e size v n xs) (hC:C<=B):X.ownsRow C e size v n xs:=by
 refine⟨h.1, ?_⟩
 rcases h.2 with hn|⟨g,cap,cur,rfl,hb,rest⟩
 ·exact .inl hn
 exact .inr ⟨g,cap,cur,rfl,Nat.le_trans hC hb,rest⟩
structure App (e:TypeId) (size:Nat) (V X:World) (v:Value) (n:Nat) (xs:List Value) (bs:List (Nat × List Value)):Prop where
 below:Below V.heap.size V X
 row:X.ownsRow V.heap.size e size v n xs
 news:∀p∈bs,X.heap[p.1]? =some (.cells p.2.toArray e (0,0))/\v.ownBlock≠some p.1/\V.heap.size<=p.1
section
variable {e:TypeId} {size:Nat} {V X:World} {v:Value} {n:Nat} {xs:List Value} {bs:List (Nat × List Value)}
theorem App.start (e:TypeId) (size:Nat) (V:World):App e size V V (.slice none 0 0) 0 [] [] :=⟨Below.refl _ _,World.ownsRow_nil _ _ _ _,by simp⟩
theorem App.drew (h:App e size V X v n xs bs):App e size V X.drew v n xs bs:=⟨h.below.drew,(Since.refl (λ_=>False) X).drew.row h.row (λ_ _ h=>h),h.news⟩
theorem App.alloc (h:App e size V X v n xs bs) (cs:List Value):App e size V (X.alloc (.cells cs.toArray e)) v n xs ((X.heap.size,cs)::bs):=by
 refine⟨h.below.alloc h.below.size _,h.row.alloc _, ?_⟩
 intro p hp
 rcases List.mem_cons.1 hp with rfl|hp
 ·exact⟨yh X _,λe=>by have:=(h.row.lt _ e).2;simp at this,h.below.size⟩
 obtain⟨a,b,c⟩:=h.news p hp
 exact⟨(Below.heap_alloc _ _ _ (zx a)).trans a,b,c⟩
theorem App.app (h:App e size V X v n xs bs) {X':World} {v':Value} {m:Nat} {xs':List Value} (ho:X'.ownsRow V.heap.size e size v' m xs') (hs:Since (λk=>v.ownBlock=some k) X X') (hl:∀k,v'.ownBlock=some k->v.ownBlock=some k\/k=X.heap.size):App e size V X' v' m xs' bs:=by
 refine⟨h.below.trans (hs.below h.below.size (λk hk=>(h.row.lt k hk).1)),ho,λp hp=> ?_⟩
 obtain⟨a,b,c⟩:=h.news p hp
 refine⟨(hs.block _ (zx a) b).trans a,λe=> ?_,c⟩
 rcases hl _ e with e'|e'
 ·exact b e'
 have:=zx a;omega
theorem App.cell (h:App e size V X v n xs bs) {b:Nat} {cs:List Value} (hb:(b,cs)∈bs):∀j x,cs[j]? =some x->X.cell? ((⟨b,0,none⟩:Addr).add j)=some x:=by
 intro j x hj
 have:=ze (h.news _ hb).1 j
 rw [show(⟨b,0,none⟩:Addr).add j=⟨b,j,none⟩ by simp only [Addr.add];split<;>simp_all,this]
 simpa using hj
end
