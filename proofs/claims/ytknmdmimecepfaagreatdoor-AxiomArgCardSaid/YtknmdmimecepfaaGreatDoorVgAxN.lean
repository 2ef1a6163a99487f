/- Steps. -/
import Derived.Test.YtknmdmimecepfaaGreatDoorVgAxR
set_option linter.all false
namespace Go.Proofs.YtknmdmimecepfaaGreatDoor
open Go.RowKit
set_option maxRecDepth 100000
set_option maxHeartbeats 16000000
set_option maxRecDepth 100000
theorem zpv {A B:ze} (hA:A.wf) (hB:B.wf) (h:A≠B) (w:World):(binOp .neq 67 (.agg A.cells.toArray) (.agg B.cells.toArray)).run Tryz.prog w= .ok (.bool true) w:=by
 rw [run_neq_struct]
 obtain⟨r,hr,hi⟩:=run_equal_deep (P:=Tryz.prog) w (m:=6) (by omega) (k:=67) (by kernel_rfl) (by rw [Tryz.underlying67]) (x:=A.val) (y:=B.val) (jy hA) (jy hB)
 have hr:(Op.equalIn 10000 67 (.agg A.cells.toArray) (.agg B.cells.toArray)).run Tryz.prog w= .ok r w:=hr
 have hf:r=false:=by
  cases e:r with
  |false=>rfl
  |true=>exact absurd (zhr hA hB (hi.1 e)) h
 rw [hr,hf];rfl
theorem zeT {x:Int} (h0:0<=x) (h1:x<=1000):wfI x:=by
 have e1:IntKind.i64.min= -9223372036854775808:=by decide
 have e2:IntKind.i64.max=9223372036854775807:=by decide
 show(decide (IntKind.i64.min<=x) && decide (x<=IntKind.i64.max))=true
 rw [e1,e2,decide_eq_true (by omega),decide_eq_true (by omega)];rfl
theorem jd.wf {c:zo} {model:Int} {A:ze} (h:jd c model A) (hd:c.domain<=16) (hl:∀i,i<c.threads.length->(c.threads.getD i []).length<=600):A.wf:=by
 have hi:∀x:Int,0<=x/\x<c.domain->wfI x:=λx hx=>zeT hx.1 (by omega)
 refine⟨h.v.ok,λx hx=>hi x (h.v.mem x hx),λt ht=> ?_⟩
 have hto:=h.v.zO t ht
 obtain⟨j,hj,e⟩:=List.getElem_of_mem ht
 have hj4:j<4:=by rw [<-h.v.ok.zO];exact hj
 have hth:A.th j=t:=by unfold ze.th;rw [List.getD_eq_getElem?_getD,List.getElem?_eq_getElem hj,e];rfl
 have hat:t.at_<=600:=by
  rw [<-hth]
  by_cases hjc:j<c.threads.length
  ·have:=h.le j hjc;have:=hl j hjc;omega
  rw [h.rest j (by omega) hj4];omega
 have zjC:=hto.ok.many
 refine⟨hto.ok,zeT (by omega) (by omega),λx hx=>hi x (hto.regs x hx),λe he=>⟨?_,hi _ (hto.evs e he).n⟩,zeT (by omega) (by omega)⟩
 have:=(hto.evs e he).v
 exact zeT this.1 (by omega)
theorem yE.zos {V w:World} {mb sm n:Nat} {c:zo} {cv:Value} {d:Nat} {model:Int} {ov:Value} {s:yY} {css:List (List Value)} (h:yE V w mb sm n c cv d model ov s css):¬vg w sm:=by
 rintro⟨cs,t,h1, -⟩
 obtain⟨D,⟨es,clock,h2, -⟩, -⟩:=h.set
 rw [h2] at h1;simp at h1
theorem yE.seen {V w w':World} {mb sm n m:Nat} {c:zo} {cv:Value} {d:Nat} {model:Int} {ov:Value} {s:yY} {css:List (List Value)} {l:List ze} (h:yE V w mb sm n c cv d model ov s css) (hs:Since (λk=>k=sm) w w') (hset:gI w' sm m l):yE V w' mb sm m c cv d model ov ⟨l,s.out,s.fails⟩ css:=by
 have hni:∀k,k=sm->k<w.heap.size->¬vg w k:=λk hk _=>by rw [hk];exact h.zos
 refine⟨h.base.trans (hs.below h.base.size (λk hk=>by have hk:k=sm:=hk;rw [hk];exact h.lo.2)),h.code,(hs.block _ (zB h.blk) h.zbm).trans h.blk,h.lo,hset, ?_⟩
 exact h.outs.step hs (λk hk e=>h.zhA (by have e:k=sm:=e;rw [<-e];exact hk)) (λk hk=>by
  rcases Nat.lt_or_ge k w.heap.size with hl|hl
  ·exact .inl (hni k hk hl)
  exact .inr hl) (zb6 hs hni)
theorem zc3 {α:Type} {f:α->List Value} {p:Value->Prop} :∀ {l:List α},(∀x∈l,∀v∈f x,p v)->∀v∈zD f l,p v:=by
 intro l
 induction l with
 |nil=>intro _ v hv;simp [zD] at hv
 |cons a l ih=>
 intro h v hv
 have hv:v∈f a++zD f l:=hv
 rcases List.mem_append.1 hv with hv|hv
 ·exact h a (by simp) v hv
 exact ih (λx hx=>h x (by simp [hx])) v hv
theorem ze.cells_one (W:ze):∀v∈W.cells,v.oneCell'=true:=by
 have hi:∀(l:List Int),∀v∈zD yG l,v.oneCell'=true:=λl=>zc3 (p:=λv=>v.oneCell'=true) (λx _ v hv=>by
  have hv:v∈ [Value.int .i64 x] :=hv
  obtain rfl:=List.mem_singleton.1 hv;rfl)
 intro v hv
 unfold ze.cells at hv
 rcases List.mem_append.1 hv with hv|hv
 ·refine zc3 (p:=λv=>v.oneCell'=true) (λt _ v hv=> ?_) v hv
  unfold zR.cells at hv
  rcases List.mem_cons.1 hv with rfl|hv
  ·rfl
  rcases List.mem_append.1 hv with hv|hv
  ·exact hi _ v hv
  rcases List.mem_append.1 hv with hv|hv
  ·refine zc3 (p:=λv=>v.oneCell'=true) (λe _ v hv=> ?_) v hv
   simp only [yg.cells,List.mem_cons,List.not_mem_nil,or_false] at hv
   rcases hv with rfl|rfl|rfl|rfl|rfl|rfl<;>rfl
  obtain rfl:=List.mem_singleton.1 hv;rfl
 rcases List.mem_append.1 hv with hv|hv
 ·exact hi _ v hv
 obtain rfl:=List.mem_singleton.1 hv;rfl
theorem zgr {g:Nat} {t:TypeId} {f:Nat × Nat} (l:List Value):∀(X:World) (pre post:List Value),post.length=l.length->X.heap[g]? =some (.cells (pre++post).toArray t f)->(X.setCells g pre.length l).heap[g]? =some (.cells (pre++l).toArray t f):=by
 induction l with
 |nil=>
  intro X pre post hl h
  obtain rfl:post= [] :=List.eq_nil_of_length_eq_zero hl
  exact h
 |cons u l ih=>
 intro X pre post hl h
 cases post with
 |nil=>simp at hl
 |cons v post=>
 have h2:=zw h pre.length u
 have h3:((pre++v::post).toArray).setIfInBounds pre.length u=((pre++ [u])++post).toArray:=by
  rw [List.setIfInBounds_toArray,List.set_append_right _ _ (Nat.le_refl _)]
  simp
 rw [h3] at h2
 have:=ih _ (pre++ [u]) post (by simpa using hl) h2
 have e:(pre++ [u]).length=pre.length+1:=by simp
 rw [e] at this
 rw [List.append_cons]
 exact this
theorem zfs {w:World} {A:ze} {cs:List Value} {z:Array Value} (hcs:cs=A.cells) (hA:A.ok) (hz:z.size=cs.length):
  zC ((w.alloc (.cells z 67)).setCells w.heap.size 0 cs) w.heap.size A/\Below w.heap.size w ((w.alloc (.cells z 67)).setCells w.heap.size 0 cs):=by
 have h1:=zT w (.cells z 67)
 have hs:=pU (g:=w.heap.size) cs (w.alloc (.cells z 67)) 0
 refine⟨⟨?_,hA⟩,(zK w (.cells z 67)).trans (hs.below (zK w (.cells z 67)).size (λk hk=>Nat.le_of_eq (Eq.symm hk)))⟩
 have:=zgr (g:=w.heap.size) (t:=67) (f:=(0,0)) cs (w.alloc (.cells z 67)) [] z.toList (by simpa using hz) (by simpa using h1)
 rw [<-hcs]
 simpa using this
theorem zft {w:World} {cs:List Value} {z:Array Value} (hz:z.size=cs.length):(w.alloc (.cells z 67)).there w.heap.size 0 cs.toArray.size:=by
 have h1:=zT w (.cells z 67)
 intro j hj
 have hj:j<cs.length:=by simpa using hj
 have e:=za h1 (0+j)
 have hlt:j<z.size:=by omega
 refine⟨?_, ?_⟩
 ·rw [e,Nat.zero_add]
  simp [hlt]
 exact zF h1 _
theorem jY:(Tryz.zeroCells67).size=221:=by kernel_rfl
end Go.Proofs.YtknmdmimecepfaaGreatDoor
namespace Go.Proofs.YtknmdmimecepfaaGreatDoor
open Go.RowKit
set_option maxRecDepth 100000
set_option maxHeartbeats 16000000
section
variable {c:zo} {model:Int} {d n:Nat} {A:ze}
theorem jd.ev (h:jd c model A) {i k:Nat} (hi:i<4) (hk:k<8):0<=((A.th i).evs.getD k default).v/\((A.th i).evs.getD k default).v<4:=
 ((h.v.th hi).evs _ (jm (by rw [(h.v.th hi).ok.evs];exact hk))).v
theorem zjw (m:Nat):m*nb (m - 1)+1<=nb m:=by
 cases m with
 |zero=>simp [nb]
 |succ k=>show(k+1)*nb k+1<=1+(k+1)*nb k;omega
theorem zgb (hc:codeOk c=true) (hf:yF c=true) (h:jd c model A) {i:Nat} (hi:i<c.threads.length) (hr:qR model c.domain d (c.threads.getD i []) A i=true):Adds (zI c model d n) (nb (yK c model A - 1)) (qU model c.domain d (c.threads.getD i []) A i):=λs=>by
 obtain⟨g1,g2⟩:=uY (d:=d) hc hf h hi (uz hr)
 obtain⟨k1,k2⟩:=zcb hc hf (d:=d) n _ g1 s
 exact⟨Nat.le_trans k1 (Nat.add_le_add_left (wB (by omega)) _),k2⟩
theorem zeU (hc:codeOk c=true) (hf:yF c=true) (h:jd c model A) {i k:Nat} (hi:i<c.threads.length) (hk:k<(A.th i).many) (hw:qB model A i k=true):Adds (zI c model d n) (nb (yK c model A - 1)) (yj A i k):=λs=>by
 obtain⟨g1,g2⟩:=wR hc h hi hk hw
 obtain⟨k1,k2⟩:=zcb hc hf (d:=d) n _ g1 s
 exact⟨Nat.le_trans k1 (Nat.add_le_add_left (wB (by omega)) _),k2⟩
theorem zeV (hc:codeOk c=true) (hf:yF c=true) (h:jd c model A) {i:Nat} (hi:i<=c.threads.length) (s:yY) (hs:s.out.length<=s.seen.length):
  (zU (zI c model d n) c model d A i s).seen.length<=s.seen.length+jr c model d A i*nb (yK c model A - 1)/\(zU (zI c model d n) c model d A i s).out.length<=(zU (zI c model d n) c model d A i s).seen.length:=by
 obtain⟨h1,h2⟩:=zey (c:=c) (model:=model) (d:=d) (A:=A) (f:=zI c model d n) (b:=nb (yK c model A - 1)) (λi hi hr=>zgb hc hf h hi hr) (λi k hi hk hw=>zeU hc hf h hi hk hw) i hi s
 exact⟨h1,h2 hs⟩
theorem zkZ (hc:codeOk c=true) (hf:yF c=true) (h:jd c model A) {i:Nat} (hi:i<c.threads.length) (hr:qR model c.domain d (c.threads.getD i []) A i=true) (s:yY) (hs:s.out.length<=s.seen.length) {M:Nat} (hM:s.seen.length+nb (yK c model A)<=M+1):
  jd c model (qU model c.domain d (c.threads.getD i []) A i)/\yK c model (qU model c.domain d (c.threads.getD i []) A i)+1<=yK c model A/\
  (zU (zI c model d n) c model d A i s).seen.length+nb (yK c model (qU model c.domain d (c.threads.getD i []) A i))<=M/\(zU (zI c model d n) c model d A i s).out.length<=(zU (zI c model d n) c model d A i s).seen.length:=by
 obtain⟨g1,g2⟩:=uY (d:=d) hc hf h hi (uz hr)
 obtain⟨k1,k2⟩:=zeV (n:=n) (d:=d) hc hf h (Nat.le_of_lt hi) s hs
 refine⟨g1,g2, ?_,k2⟩
 have hb:=wB (show yK c model (qU model c.domain d (c.threads.getD i []) A i)<=yK c model A - 1 by omega)
 have h1:jr c model d A (i+1)<=yK c model A:=Nat.le_trans (zfG hi) (zfw h _ (Nat.le_refl _))
 have h2:jr c model d A i+1<=jr c model d A (i+1):=by
  show _<=jr c model d A i+chR c model d A i+_
  unfold chR;rw [if_pos hr];omega
 have hmul:=Nat.mul_le_mul_right (nb (yK c model A - 1)) (Nat.le_trans h2 h1)
 rw [Nat.add_mul] at hmul
 have:=zjw (yK c model A)
 omega
theorem zeo (hc:codeOk c=true) (hf:yF c=true) (h:jd c model A) {i k:Nat} (hi:i<c.threads.length) (hk:k<(A.th i).many) (hw:qB model A i k=true) (s:yY) (hs:s.out.length<=s.seen.length) {M:Nat} (hM:s.seen.length+nb (yK c model A)<=M+1):
  jd c model (yj A i k)/\yK c model (yj A i k)+1<=yK c model A/\
  (yQ (zI c model d n) model A i k (xK (zI c model d n) c model d A i (zU (zI c model d n) c model d A i s))).seen.length+nb (yK c model (yj A i k))<=M/\
  (yQ (zI c model d n) model A i k (xK (zI c model d n) c model d A i (zU (zI c model d n) c model d A i s))).out.length<=(yQ (zI c model d n) model A i k (xK (zI c model d n) c model d A i (zU (zI c model d n) c model d A i s))).seen.length:=by
 obtain⟨g1,g2⟩:=wR hc h hi hk hw
 obtain⟨k1,k2⟩:=zeV (n:=n) (d:=d) hc hf h (Nat.le_of_lt hi) s hs
 obtain⟨k3,k4⟩:=zfH (c:=c) (model:=model) (d:=d) (A:=A) (f:=zI c model d n) (b:=nb (yK c model A - 1)) (i:=i) (λhr=>zgb hc hf h hi hr) (zU (zI c model d n) c model d A i s)
 obtain⟨k5,k6⟩:=zex (model:=model) (A:=A) (f:=zI c model d n) (b:=nb (yK c model A - 1)) (i:=i) (λk hk hw=>zeU hc hf h hi hk hw) k (Nat.le_of_lt hk) (xK (zI c model d n) c model d A i (zU (zI c model d n) c model d A i s))
 refine⟨g1,g2, ?_,k6 (k4 k2)⟩
 have hb:=wB (show yK c model (yj A i k)<=yK c model A - 1 by omega)
 have h1:jr c model d A (i+1)<=yK c model A:=Nat.le_trans (zfG hi) (zfw h _ (Nat.le_refl _))
 have h0:jq model A i k+1<=jq model A i (A.th i).many:=by
  refine Nat.le_trans ?_ (zlt (m:=k+1) hk)
  show _<=jq model A i k+if _ then 1 else 0
  rw [if_pos hw];exact Nat.le_refl _
 have h2:jr c model d A i+chR c model d A i+(jq model A i k+1)<=jr c model d A (i+1):=by
  show _<=jr c model d A i+chR c model d A i+_
  omega
 have hmul:=Nat.mul_le_mul_right (nb (yK c model A - 1)) (Nat.le_trans h2 h1)
 rw [Nat.add_mul,Nat.add_mul,Nat.add_mul] at hmul
 have:=zjw (yK c model A)
 omega
end
