/- Steps. -/
import Derived.Test.YtknmdmimecepfaaGreatDoorVhAxR
set_option linter.all false
namespace Go.Proofs.YtknmdmimecepfaaGreatDoor
open Go.RowKit
set_option maxRecDepth 100000
set_option maxHeartbeats 16000000
set_option maxRecDepth 100000
theorem zl4 {A B:za} (hA:A.wf) (hB:B.wf) (h:A≠B) (w:World):(binOp .neq 67 (.agg A.cells.toArray) (.agg B.cells.toArray)).run Tryz.prog w= .ok (.bool true) w:=by
 rw [run_neq_struct]
 obtain⟨r,hr,hi⟩:=run_equal_deep (P:=Tryz.prog) w (m:=6) (by omega) (k:=67) (by kernel_rfl) (by rw [Tryz.underlying67]) (x:=A.val) (y:=B.val) (vk hA) (vk hB)
 have hr:(Op.equalIn 10000 67 (.agg A.cells.toArray) (.agg B.cells.toArray)).run Tryz.prog w= .ok r w:=hr
 have hf:r=false:=by
  cases e:r with
  |false=>rfl
  |true=>exact absurd (zeQ hA hB (hi.1 e)) h
 rw [hr,hf];rfl
theorem zcJ {x:Int} (h0:0<=x) (h1:x<=1000):wfI x:=by
 have e1:IntKind.i64.min= -9223372036854775808:=by decide
 have e2:IntKind.i64.max=9223372036854775807:=by decide
 show(decide (IntKind.i64.min<=x) && decide (x<=IntKind.i64.max))=true
 rw [e1,e2,decide_eq_true (by omega),decide_eq_true (by omega)];rfl
theorem qF.wf {c:zl} {model:Int} {A:za} (h:qF c model A) (hd:c.domain<=16) (hl:∀i,i<c.threads.length->(c.threads.getD i []).length<=600):A.wf:=by
 have hi:∀x:Int,0<=x/\x<c.domain->wfI x:=λx hx=>zcJ hx.1 (by omega)
 refine⟨h.v.ok,λx hx=>hi x (h.v.mem x hx),λt ht=> ?_⟩
 have hto:=h.v.zD t ht
 obtain⟨j,hj,e⟩:=List.getElem_of_mem ht
 have hj4:j<4:=by rw [<-h.v.ok.zD];exact hj
 have hth:A.th j=t:=by unfold za.th;rw [List.getD_eq_getElem?_getD,List.getElem?_eq_getElem hj,e];rfl
 have hat:t.at_<=600:=by
  rw [<-hth]
  by_cases hjc:j<c.threads.length
  ·have:=h.le j hjc;have:=hl j hjc;omega
  rw [h.rest j (by omega) hj4];omega
 have zhx:=hto.ok.many
 refine⟨hto.ok,zcJ (by omega) (by omega),λx hx=>hi x (hto.regs x hx),λe he=>⟨?_,hi _ (hto.evs e he).n⟩,zcJ (by omega) (by omega)⟩
 have:=(hto.evs e he).v
 exact zcJ this.1 (by omega)
theorem zX.zkv {V w:World} {mb sm n:Nat} {c:zl} {cv:Value} {d:Nat} {model:Int} {ov:Value} {s:yH} {css:List (List Value)} (h:zX V w mb sm n c cv d model ov s css):¬qd w sm:=by
 rintro⟨cs,t,h1, -⟩
 obtain⟨D,⟨es,clock,h2, -⟩, -⟩:=h.set
 rw [h2] at h1;simp at h1
theorem zX.seen {V w w':World} {mb sm n m:Nat} {c:zl} {cv:Value} {d:Nat} {model:Int} {ov:Value} {s:yH} {css:List (List Value)} {l:List za} (h:zX V w mb sm n c cv d model ov s css) (hs:Since (λk=>k=sm) w w') (hset:kD w' sm m l):zX V w' mb sm m c cv d model ov ⟨l,s.out,s.fails⟩ css:=by
 have hni:∀k,k=sm->k<w.heap.size->¬qd w k:=λk hk _=>by rw [hk];exact h.zkv
 refine⟨h.base.trans (hs.below h.base.size (λk hk=>by have hk:k=sm:=hk;rw [hk];exact h.lo.2)),h.code,(hs.block _ (zI h.blk) h.zan).trans h.blk,h.lo,hset, ?_⟩
 exact h.outs.step hs (λk hk e=>h.zeS (by have e:k=sm:=e;rw [<-e];exact hk)) (λk hk=>by
  rcases Nat.lt_or_ge k w.heap.size with hl|hl
  ·exact .inl (hni k hk hl)
  exact .inr hl) (zao hs hni)
theorem zbc {α:Type} {f:α->List Value} {p:Value->Prop} :∀ {l:List α},(∀x∈l,∀v∈f x,p v)->∀v∈zm f l,p v:=by
 intro l
 induction l with
 |nil=>intro _ v hv;simp [zm] at hv
 |cons a l ih=>
 intro h v hv
 have hv:v∈f a++zm f l:=hv
 rcases List.mem_append.1 hv with hv|hv
 ·exact h a (by simp) v hv
 exact ih (λx hx=>h x (by simp [hx])) v hv
theorem za.cells_one (W:za):∀v∈W.cells,v.oneCell'=true:=by
 have hi:∀(l:List Int),∀v∈zm zR l,v.oneCell'=true:=λl=>zbc (p:=λv=>v.oneCell'=true) (λx _ v hv=>by
  have hv:v∈ [Value.int .i64 x] :=hv
  obtain rfl:=List.mem_singleton.1 hv;rfl)
 intro v hv
 unfold za.cells at hv
 rcases List.mem_append.1 hv with hv|hv
 ·refine zbc (p:=λv=>v.oneCell'=true) (λt _ v hv=> ?_) v hv
  unfold zH.cells at hv
  rcases List.mem_cons.1 hv with rfl|hv
  ·rfl
  rcases List.mem_append.1 hv with hv|hv
  ·exact hi _ v hv
  rcases List.mem_append.1 hv with hv|hv
  ·refine zbc (p:=λv=>v.oneCell'=true) (λe _ v hv=> ?_) v hv
   simp only [zP.cells,List.mem_cons,List.not_mem_nil,or_false] at hv
   rcases hv with rfl|rfl|rfl|rfl|rfl|rfl<;>rfl
  obtain rfl:=List.mem_singleton.1 hv;rfl
 rcases List.mem_append.1 hv with hv|hv
 ·exact hi _ v hv
 obtain rfl:=List.mem_singleton.1 hv;rfl
theorem zek {g:Nat} {t:TypeId} {f:Nat × Nat} (l:List Value):∀(X:World) (pre post:List Value),post.length=l.length->X.heap[g]? =some (.cells (pre++post).toArray t f)->(X.setCells g pre.length l).heap[g]? =some (.cells (pre++l).toArray t f):=by
 induction l with
 |nil=>
  intro X pre post hl h
  obtain rfl:post= [] :=List.eq_nil_of_length_eq_zero hl
  exact h
 |cons u l ih=>
 intro X pre post hl h
 cases post with
 |nil=>simp at hl
 |cons v post=>
 have h2:=zq h pre.length u
 have h3:((pre++v::post).toArray).setIfInBounds pre.length u=((pre++ [u])++post).toArray:=by
  rw [List.setIfInBounds_toArray,List.set_append_right _ _ (Nat.le_refl _)]
  simp
 rw [h3] at h2
 have:=ih _ (pre++ [u]) post (by simpa using hl) h2
 have e:(pre++ [u]).length=pre.length+1:=by simp
 rw [e] at this
 rw [List.append_cons]
 exact this
theorem zd2 {w:World} {A:za} {cs:List Value} {z:Array Value} (hcs:cs=A.cells) (hA:A.ok) (hz:z.size=cs.length):
  zo ((w.alloc (.cells z 67)).setCells w.heap.size 0 cs) w.heap.size A/\Below w.heap.size w ((w.alloc (.cells z 67)).setCells w.heap.size 0 cs):=by
 have h1:=yG w (.cells z 67)
 have hs:=uh (g:=w.heap.size) cs (w.alloc (.cells z 67)) 0
 refine⟨⟨?_,hA⟩,(zw w (.cells z 67)).trans (hs.below (zw w (.cells z 67)).size (λk hk=>Nat.le_of_eq (Eq.symm hk)))⟩
 have:=zek (g:=w.heap.size) (t:=67) (f:=(0,0)) cs (w.alloc (.cells z 67)) [] z.toList (by simpa using hz) (by simpa using h1)
 rw [<-hcs]
 simpa using this
theorem zd3 {w:World} {cs:List Value} {z:Array Value} (hz:z.size=cs.length):(w.alloc (.cells z 67)).there w.heap.size 0 cs.toArray.size:=by
 have h1:=yG w (.cells z 67)
 intro j hj
 have hj:j<cs.length:=by simpa using hj
 have e:=ze h1 (0+j)
 have hlt:j<z.size:=by omega
 refine⟨?_, ?_⟩
 ·rw [e,Nat.zero_add]
  simp [hlt]
 exact yD h1 _
theorem jd:(Tryz.zeroCells67).size=221:=by kernel_rfl
end Go.Proofs.YtknmdmimecepfaaGreatDoor
namespace Go.Proofs.YtknmdmimecepfaaGreatDoor
open Go.RowKit
set_option maxRecDepth 100000
set_option maxHeartbeats 16000000
section
variable {c:zl} {model:Int} {d n:Nat} {A:za}
theorem qF.ev (h:qF c model A) {i k:Nat} (hi:i<4) (hk:k<8):0<=((A.th i).evs.getD k default).v/\((A.th i).evs.getD k default).v<4:=
 ((h.v.th hi).evs _ (qX (by rw [(h.v.th hi).ok.evs];exact hk))).v
theorem zgy (m:Nat):m*nb (m - 1)+1<=nb m:=by
 cases m with
 |zero=>simp [nb]
 |succ k=>show(k+1)*nb k+1<=1+(k+1)*nb k;omega
theorem zdM (hc:codeOk c=true) (hf:yw c=true) (h:qF c model A) {i:Nat} (hi:i<c.threads.length) (hr:xD model c.domain d (c.threads.getD i []) A i=true):Adds (zx c model d n) (nb (yg c model A - 1)) (xS model c.domain d (c.threads.getD i []) A i):=λs=>by
 obtain⟨g1,g2⟩:=wJ (d:=d) hc hf h hi (kV hr)
 obtain⟨k1,k2⟩:=zbd hc hf (d:=d) n _ g1 s
 exact⟨Nat.le_trans k1 (Nat.add_le_add_left (jM (by omega)) _),k2⟩
theorem zcK (hc:codeOk c=true) (hf:yw c=true) (h:qF c model A) {i k:Nat} (hi:i<c.threads.length) (hk:k<(A.th i).many) (hw:yJ model A i k=true):Adds (zx c model d n) (nb (yg c model A - 1)) (zF A i k):=λs=>by
 obtain⟨g1,g2⟩:=vX hc h hi hk hw
 obtain⟨k1,k2⟩:=zbd hc hf (d:=d) n _ g1 s
 exact⟨Nat.le_trans k1 (Nat.add_le_add_left (jM (by omega)) _),k2⟩
theorem zcL (hc:codeOk c=true) (hf:yw c=true) (h:qF c model A) {i:Nat} (hi:i<=c.threads.length) (s:yH) (hs:s.out.length<=s.seen.length):
  (zJ (zx c model d n) c model d A i s).seen.length<=s.seen.length+vo c model d A i*nb (yg c model A - 1)/\(zJ (zx c model d n) c model d A i s).out.length<=(zJ (zx c model d n) c model d A i s).seen.length:=by
 obtain⟨h1,h2⟩:=zcM (c:=c) (model:=model) (d:=d) (A:=A) (f:=zx c model d n) (b:=nb (yg c model A - 1)) (λi hi hr=>zdM hc hf h hi hr) (λi k hi hk hw=>zcK hc hf h hi hk hw) i hi s
 exact⟨h1,h2 hs⟩
theorem ziQ (hc:codeOk c=true) (hf:yw c=true) (h:qF c model A) {i:Nat} (hi:i<c.threads.length) (hr:xD model c.domain d (c.threads.getD i []) A i=true) (s:yH) (hs:s.out.length<=s.seen.length) {M:Nat} (hM:s.seen.length+nb (yg c model A)<=M+1):
  qF c model (xS model c.domain d (c.threads.getD i []) A i)/\yg c model (xS model c.domain d (c.threads.getD i []) A i)+1<=yg c model A/\
  (zJ (zx c model d n) c model d A i s).seen.length+nb (yg c model (xS model c.domain d (c.threads.getD i []) A i))<=M/\(zJ (zx c model d n) c model d A i s).out.length<=(zJ (zx c model d n) c model d A i s).seen.length:=by
 obtain⟨g1,g2⟩:=wJ (d:=d) hc hf h hi (kV hr)
 obtain⟨k1,k2⟩:=zcL (n:=n) (d:=d) hc hf h (Nat.le_of_lt hi) s hs
 refine⟨g1,g2, ?_,k2⟩
 have hb:=jM (show yg c model (xS model c.domain d (c.threads.getD i []) A i)<=yg c model A - 1 by omega)
 have h1:vo c model d A (i+1)<=yg c model A:=Nat.le_trans (zdN hi) (zd4 h _ (Nat.le_refl _))
 have h2:vo c model d A i+1<=vo c model d A (i+1):=by
  show _<=vo c model d A i+chR c model d A i+_
  unfold chR;rw [if_pos hr];omega
 have hmul:=Nat.mul_le_mul_right (nb (yg c model A - 1)) (Nat.le_trans h2 h1)
 rw [Nat.add_mul] at hmul
 have:=zgy (yg c model A)
 omega
theorem zcN (hc:codeOk c=true) (hf:yw c=true) (h:qF c model A) {i k:Nat} (hi:i<c.threads.length) (hk:k<(A.th i).many) (hw:yJ model A i k=true) (s:yH) (hs:s.out.length<=s.seen.length) {M:Nat} (hM:s.seen.length+nb (yg c model A)<=M+1):
  qF c model (zF A i k)/\yg c model (zF A i k)+1<=yg c model A/\
  (yA (zx c model d n) model A i k (yN (zx c model d n) c model d A i (zJ (zx c model d n) c model d A i s))).seen.length+nb (yg c model (zF A i k))<=M/\
  (yA (zx c model d n) model A i k (yN (zx c model d n) c model d A i (zJ (zx c model d n) c model d A i s))).out.length<=(yA (zx c model d n) model A i k (yN (zx c model d n) c model d A i (zJ (zx c model d n) c model d A i s))).seen.length:=by
 obtain⟨g1,g2⟩:=vX hc h hi hk hw
 obtain⟨k1,k2⟩:=zcL (n:=n) (d:=d) hc hf h (Nat.le_of_lt hi) s hs
 obtain⟨k3,k4⟩:=zdO (c:=c) (model:=model) (d:=d) (A:=A) (f:=zx c model d n) (b:=nb (yg c model A - 1)) (i:=i) (λhr=>zdM hc hf h hi hr) (zJ (zx c model d n) c model d A i s)
 obtain⟨k5,k6⟩:=zcO (model:=model) (A:=A) (f:=zx c model d n) (b:=nb (yg c model A - 1)) (i:=i) (λk hk hw=>zcK hc hf h hi hk hw) k (Nat.le_of_lt hk) (yN (zx c model d n) c model d A i (zJ (zx c model d n) c model d A i s))
 refine⟨g1,g2, ?_,k6 (k4 k2)⟩
 have hb:=jM (show yg c model (zF A i k)<=yg c model A - 1 by omega)
 have h1:vo c model d A (i+1)<=yg c model A:=Nat.le_trans (zdN hi) (zd4 h _ (Nat.le_refl _))
 have h0:vw model A i k+1<=vw model A i (A.th i).many:=by
  refine Nat.le_trans ?_ (ziR (m:=k+1) hk)
  show _<=vw model A i k+if _ then 1 else 0
  rw [if_pos hw];exact Nat.le_refl _
 have h2:vo c model d A i+chR c model d A i+(vw model A i k+1)<=vo c model d A (i+1):=by
  show _<=vo c model d A i+chR c model d A i+_
  omega
 have hmul:=Nat.mul_le_mul_right (nb (yg c model A - 1)) (Nat.le_trans h2 h1)
 rw [Nat.add_mul,Nat.add_mul,Nat.add_mul] at hmul
 have:=zgy (yg c model A)
 omega
end
