/- A drawn region whose loads are stable up to its first store: a condition on the world that holds until that store comes. A drawn region whose loads are stable up to its first store: a condition on the world that holds until that store comes. Programs by numbers: what lies in memory while one is made. Programs by numbers: the walk. A program that may be as code: the document's answer: the walk. Code by numbers: the walks. Code by numbers, of few statements: the walk. Code by numbers, of few statements: the walk. A machine by a number. What is so of all states that are come to: plain Lean. States that lie elsewhere than in a box of nothing. The numbers that came in: as many as there is room for. A state that is come to by moves, by numbers: the walk. What moves turn and what they leave: plain Lean. -/
import Derived.Deep.RegionHeld3
import Derived.Deep.RegionLaw
import Derived.IntWalk
import Derived.Lib.Hide
import Derived.Test.YtliajkheeniljaaGreatDoorZaBase
import Derived.Test.YtliajkheeniljaaGreatDoorZaData
import Derived.Test.YtliajkheeniljaaGreatDoorZaExpQ
import Derived.Test.YtliajkheeniljaaGreatDoorZaMakerL
import Derived.Test.YtliajkheeniljaaGreatDoorZaMoves
import Derived.Test.YtliajkheeniljaaGreatDoorZaShort
set_option linter.all false
namespace Go.Proofs.YtliajkheeniljaaGreatDoor
open Go.RowKit
set_option maxRecDepth 100000
set_option maxHeartbeats 16000000
section
variable {P:Program} {ops:Array Oper} {Q:Exit->Act->World->Prop} {md:Region.Mode} {S:World->Prop} {n0:Nat}
def qM (P:Program) (md:Region.Mode) (ops:Array Oper) (Q:Exit->Act->World->Prop) (S:World->Prop) (n0:Nat):Nat->Array Bool->Act->World->Prop
 |0,listed,a,w=>Region.ready md ops listed= [] /\Q .normal a w
 |fuel+1,listed,a,w=>
  (Region.ready md ops listed= [] ->Q .normal a w)/\
  ∀i∈Region.ready md ops listed,wpOp P ops Q i (fun a' w'=>(i≠n0->listed.getD n0 true=false->S w')/\qM P md ops Q S n0 fuel (listed.setIfInBounds i true) a' w') a w
theorem zbz:∀(fuel:Nat) (listed:Array Bool) (a:Act) (w:World),qM P md ops Q S n0 fuel listed a w->wpAny P md ops Q fuel listed a w
 |0,_,_,_,h=>h
 |fuel+1,_,_,_,h=>⟨h.1,fun i hi=>wpOp_mono (fun a' w' h'=>zbz fuel _ a' w' h'.2) (h.2 i hi)⟩
def zd3 (md:Region.Mode) (ops:Array Oper) (n0 i:Nat):Bool:=match ops[n0]? with|some o=>o.after.any (fun e=>Region.binds md e && e.on==i)|none=>false
theorem zeO {listed:Array Bool} {i:Nat} (hw:zd3 md ops n0 i=true) (hi:listed.getD i true=false):n0 ∉ Region.ready md ops listed:=by
 intro hr
 obtain⟨-,o,ho,hall⟩:=mem_ready.1 hr
 unfold zd3 at hw
 rw [ho] at hw
 simp only [] at hw
 rw [Array.any_eq_true] at hw
 obtain⟨k,hk,he⟩:=hw
 simp only [Bool.and_eq_true,beq_iff_eq] at he
 have h2:=hall _ (Array.getElem_mem hk) he.1
 rw [he.2] at h2
 rcases Nat.lt_or_ge i listed.size with h'|h'
 ·simp [h'] at hi h2;rw [hi] at h2;cases h2
 ·simp [Array.getElem?_eq_none h'] at h2
def zd4 (md:Region.Mode) (ops:Array Oper) (Wt:List Nat) (i:Nat):Bool:=Wt.all (fun x=>zd3 md ops x i||Wt.any (fun y=>zd3 md ops x y))
theorem znG {Wt:List Nat} {i:Nat} {listed:Array Bool} (hc:zd4 md ops Wt i=true) (hi:listed.getD i true=false) (hl:∀x∈Wt,listed.getD x true=false) {x:Nat} (hx:x∈Wt):x ∉ Region.ready md ops listed:=by
 unfold zd4 at hc
 rw [List.all_eq_true] at hc
 have h:=hc x hx
 rw [Bool.or_eq_true,List.any_eq_true] at h
 rcases h with h|⟨y,hy,h⟩
 ·exact zeO h hi
 ·exact zeO h (hl y hy)
theorem zbP {S1:World->Prop} {i:Nat} {oi:Oper} {v:Value} (Wt:List Nat) (hi:ops[i]? =some oi) (hsel:∀(j:Nat) (o:Oper) cs b,ops[j]? =some o->o.op≠ .select cs b)
  (hQ:∀c a w,Q (.panic c) (a.put oi.dst v) w->Q (.panic c) a w) (hin:i≠n0) (hc:zd4 md ops Wt i=true) (hiW:i ∉ Wt) (hn:(n0∈Wt/\∀w,S w->S1 w)\/∀w,S1 w):
  ∀(fuel:Nat) (listed:Array Bool) (a:Act) (w:World),(∀x∈Wt,listed.getD x true=false)->
   (∀j oj,ops[j]? =some oj->j≠i->listed.getD j true=false->(∀e∈oj.after,Region.binds md e=true->e.on≠i)->oi.apart ops oj=true)->
   i∈Region.ready md ops listed->YieldsIf P ops S1 oi v a->(listed.getD n0 true=false->S w)->
   qM P md ops Q S n0 fuel (listed.setIfInBounds i true) (a.put oi.dst v) w->qM P md ops Q S n0 (fuel+1) listed a w:=by
 intro fuel
 induction fuel with
 |zero=>
  intro listed a w hl _ hr hy hS H
  have hS1:S1 w:=hn.elim (fun h=>h.2 w (hS (hl n0 h.1))) (fun h=>h w)
  refine⟨fun h=>(by rw [h] at hr;cases hr),fun j hj=> ?_⟩
  by_cases hji:j=i
  ·subst hji;exact hy.wpOp hi hS1 ⟨fun _ h=>hS h,H⟩
  ·have:=ready_mono hj hji
   rw [H.1] at this
   cases this
 |succ fuel ih=>
  intro listed a w hl hfree hr hy hS H
  have hS1:S1 w:=hn.elim (fun h=>h.2 w (hS (hl n0 h.1))) (fun h=>h w)
  refine⟨fun h=>(by rw [h] at hr;cases hr),fun j hj=> ?_⟩
  by_cases hji:j=i
  ·subst hji;exact hy.wpOp hi hS1 ⟨fun _ h=>hS h,H⟩
  have h1:=H.2 j (ready_mono hj hji)
  obtain⟨hjun,oj,hoj,hall⟩:=mem_ready.1 hj
  have hnot:∀e∈oj.after,Region.binds md e=true->e.on≠i:=fun e he hb heq=>by
   have h1:=hall e he hb
   have h0:=(mem_ready.1 hr).1
   rw [heq] at h1
   rcases Nat.lt_or_ge i listed.size with h'|h'
   ·simp [h'] at h0 h1;rw [h0] at h1;cases h1
   ·simp [Array.getElem?_eq_none h'] at h1
  have h2:=wpOp_putIf hoj (hfree j oj hoj hji hjun hnot) (fun cs b=>hsel i oi cs b hi) (fun cs b=>hsel j oj cs b hoj) hQ hy h1
  have hfree':∀k ok,ops[k]? =some ok->k≠i->(listed.setIfInBounds j true).getD k true=false->
    (∀e∈ok.after,Region.binds md e=true->e.on≠i)->oi.apart ops ok=true:=fun k ok hk hki hun hno=>by
   refine hfree k ok hk hki ?_ hno
   by_cases hjk:j=k
   ·subst hjk;exact hjun
   ·rw [getD_set_ne true hjk] at hun;exact hun
  refine wpOp_mono (fun a' w' h3=> ?_) h2
  have hjW:j ∉ Wt:=fun hm=>znG hc (mem_ready.1 hr).1 hl hm hj
  have hset:∀x,j≠x->(listed.setIfInBounds j true).getD x true=listed.getD x true:=fun x hjx=>getD_set_ne true hjx
  have hl1:(listed.setIfInBounds i true).getD n0 true=listed.getD n0 true:=getD_set_ne true hin
  have hS':j≠n0->listed.getD n0 true=false->S w':=fun hjn h=>h3.2.1 hjn (hl1.trans h)
  refine⟨hS',ih (listed.setIfInBounds j true) a' w' (fun x hx=>(hset x (fun e=>hjW (e ▸ hx))).trans (hl x hx)) hfree' (ready_mono hr (Ne.symm hji)) h3.1 (fun h=> ?_) ?_⟩
  ·by_cases hjn:j=n0
   ·subst hjn
    rcases Nat.lt_or_ge j listed.size with h'|h'
    ·simp [h'] at h
    ·have:=(mem_ready.1 hj).1
     simp [Array.getElem?_eq_none h'] at this
   ·exact hS' hjn ((hset n0 hjn).symm.trans h)
  ·rw [Array.setIfInBounds_comm _ _ hji]
   exact h3.2.2
def zcx (listed:Array Bool) (Wt:List Nat):Bool:=Wt.all (fun x=>listed.getD x true==false)
theorem zfU {listed:Array Bool} {Wt:List Nat} (h:zcx listed Wt=true):∀x∈Wt,listed.getD x true=false:=fun x hx=>by
 unfold zcx at h
 rw [List.all_eq_true] at h
 exact eq_of_beq (h x hx)
theorem zhn (Wt:List Nat) {i:Nat} {oi:Oper} {v:Value} {fuel:Nat} {listed:Array Bool} {a:Act} {w:World} (hi:ops[i]? =some oi)
  (hs:Region.noSelect ops=true) (hf:Region.free md ops listed i=true) (hr:(Region.ready md ops listed).contains i=true) (hin:i≠n0) (hl:zcx listed Wt=true) (hc:zd4 md ops Wt i=true) (hiW:Wt.contains i=false) (hnW:Wt.contains n0=true)
  (hQ:∀c a w,Q (.panic c) (a.put oi.dst v) w->Q (.panic c) a w) (hy:YieldsIf P ops S oi v a) (hS:S w)
  (h:qM P md ops Q S n0 fuel (listed.setIfInBounds i true) (a.put oi.dst v) w):qM P md ops Q S n0 (fuel+1) listed a w:=
 zbP Wt hi (Region.noSelect_spec hs) hQ hin hc (by simpa using hiW) (.inl ⟨by simpa using hnW,fun _ h=>h⟩) fuel listed a w (zfU hl) (Region.free_spec hi hf) (by simpa using hr) hy (fun _=>hS) h
theorem zho {i:Nat} {oi:Oper} {v:Value} {fuel:Nat} {listed:Array Bool} {a:Act} {w:World} (hi:ops[i]? =some oi)
  (hs:Region.noSelect ops=true) (hf:Region.free md ops listed i=true) (hr:(Region.ready md ops listed).contains i=true) (hin:i≠n0)
  (hQ:∀c a w,Q (.panic c) (a.put oi.dst v) w->Q (.panic c) a w) (hy:YieldsIf P ops (fun _=>True) oi v a) (hS:listed.getD n0 true=false->S w)
  (h:qM P md ops Q S n0 fuel (listed.setIfInBounds i true) (a.put oi.dst v) w):qM P md ops Q S n0 (fuel+1) listed a w:=
 zbP [] hi (Region.noSelect_spec hs) hQ hin rfl (by simp) (.inr fun _=>trivial) fuel listed a w (by simp) (Region.free_spec hi hf) (by simpa using hr) hy hS h
def zbQ (P:Program) (md:Region.Mode) (ops:Array Oper) (Q:Exit->Act->World->Prop) (S:World->Prop) (n0 fuel:Nat) (listed:Array Bool) (a:Act) (w:World) (rs:List Nat):Prop:=
 ∀i∈rs,wpOp P ops Q i (fun a' w'=>(i≠n0->listed.getD n0 true=false->S w')/\qM P md ops Q S n0 fuel (listed.setIfInBounds i true) a' w') a w
theorem zbQ.nil {fuel:Nat} {listed:Array Bool} {a:Act} {w:World} :zbQ P md ops Q S n0 fuel listed a w [] :=fun _ h=>by cases h
theorem zbQ.cons {fuel:Nat} {listed:Array Bool} {a:Act} {w:World} {i:Nat} {o:Oper} {rs:List Nat} (ho:ops[i]? =some o)
  (h:∀K':Act->World->Prop,Hid (∀a w,(i≠n0->listed.getD n0 true=false->S w)->qM P md ops Q S n0 fuel (listed.setIfInBounds i true) a w->K' a w)->if Region.wanted o (yielded ops a.tmps)=true then Oper.wp P o a w K' Q else K' (a.put o.dst undef) w)
  (hs:zbQ P md ops Q S n0 fuel listed a w rs):zbQ P md ops Q S n0 fuel listed a w (i::rs):=fun j hj=>by
 rcases List.mem_cons.1 hj with rfl|hj
 ·exact wpOp_step ho (fun K' hK=>h K' (fun a w hS hW=>hK a w ⟨hS,hW⟩))
 ·exact hs j hj
theorem zfV {rs:List Nat} {fuel:Nat} {listed:Array Bool} {a:Act} {w:World} (hr:Region.ready md ops listed=rs) (hne:rs≠ [])
  (h:zbQ P md ops Q S n0 fuel listed a w rs):qM P md ops Q S n0 (fuel+1) listed a w:=⟨fun h0=>absurd (hr ▸ h0) hne,hr ▸ h⟩
theorem xE {listed:Array Bool} {a:Act} {w:World} (hr:Region.ready md ops listed= []) (h:Q .normal a w):∀fuel,qM P md ops Q S n0 fuel listed a w
 |0=>⟨hr,h⟩
 |_+1=>⟨fun _=>h,by rw [hr];simp⟩
theorem yP {id:Nat} {a:Act} {w:World} (hm:P.follows .mixedOrders=true) (hS:S w.drew)
  (h:S w.drew->qM P .any ops Q S n0 ops.size (Array.replicate ops.size false) a w.drew):(Code.region id ops true).wp P Q a w:=
 wp_region_any hm (zbz _ _ _ _ (h hS))
end
theorem zO {P:Program} {md:Region.Mode} {ops:Array Oper} {Q:Exit->Act->World->Prop} {S:World->Prop} {n0:Nat} (i d:Nat) (v:Value) {oi:Oper} {fuel:Nat} {listed:Array Bool} {a:Act} {w:World} (hi:ops[i]? =some oi) (hy:∀w,True->(execOp a.eval oi).run P w= .ok (.value v) w) (hS:listed.getD n0 true=false->S w)
 (h:qM P md ops Q S n0 fuel (listed.setIfInBounds i true) ⟨a.tmps.setIfInBounds d v,a.defers⟩ w) (hd:oi.dst=some d:=by rfl) (hw:Region.wanted oi (yielded ops a.tmps)=true:=by rfl) (hs:Region.noSelect ops=true:=by kernel_rfl) (hf:Region.free md ops listed i=true:=by kernel_rfl) (hr:(Region.ready md ops listed).contains i=true:=by kernel_rfl) (hin:i≠n0:=by decide)
 (hQ:∀c a w,Q (.panic c) (a.put oi.dst v) w->Q (.panic c) a w:=by exact fun _ _ _ h=>h):qM P md ops Q S n0 (fuel+1) listed a w:=
 zho hi hs hf hr hin hQ (Or.inl ⟨hw,hy⟩) hS (by rw [hd];exact h)
theorem qZ {P:Program} {md:Region.Mode} {ops:Array Oper} {Q:Exit->Act->World->Prop} {S:World->Prop} {n0:Nat} (Wt:List Nat) (i d:Nat) (v:Value) {oi:Oper} {fuel:Nat} {listed:Array Bool} {a:Act} {w:World} (hi:ops[i]? =some oi) (hy:∀w,S w->(execOp a.eval oi).run P w= .ok (.value v) w) (hS:S w)
 (h:qM P md ops Q S n0 fuel (listed.setIfInBounds i true) ⟨a.tmps.setIfInBounds d v,a.defers⟩ w) (hd:oi.dst=some d:=by rfl) (hw:Region.wanted oi (yielded ops a.tmps)=true:=by rfl) (hs:Region.noSelect ops=true:=by kernel_rfl) (hf:Region.free md ops listed i=true:=by kernel_rfl) (hr:(Region.ready md ops listed).contains i=true:=by kernel_rfl) (hin:i≠n0:=by decide)
 (hl:zcx listed Wt=true:=by kernel_rfl) (hc:zd4 md ops Wt i=true:=by kernel_rfl) (hiW:Wt.contains i=false:=by rfl) (hnW:Wt.contains n0=true:=by rfl) (hQ:∀c a w,Q (.panic c) (a.put oi.dst v) w->Q (.panic c) a w:=by exact fun _ _ _ h=>h):qM P md ops Q S n0 (fuel+1) listed a w:=
 zhn Wt hi hs hf hr hin hl hc hiW hnW hQ (Or.inl ⟨hw,hy⟩) hS (by rw [hd];exact h)
theorem jV {P:Program} {md:Region.Mode} {ops:Array Oper} {Q:Exit->Act->World->Prop} {S:World->Prop} {n0:Nat} (i:Nat) {fuel:Nat} {listed:Array Bool} {a:Act} {w:World} {o:Oper} (ho:ops[i]? =some o)
 (h:∀K':Act->World->Prop,Hid (∀a w,(i≠n0->listed.getD n0 true=false->S w)->qM P md ops Q S n0 fuel (listed.setIfInBounds i true) a w->K' a w)->if Region.wanted o (yielded ops a.tmps)=true then Oper.wp P o a w K' Q else K' (a.put o.dst undef) w) (hr:Region.ready md ops listed= [i] :=by kernel_rfl):qM P md ops Q S n0 (fuel+1) listed a w:=
 zfV hr (by simp) (zbQ.cons ho h zbQ.nil)
end Go.Proofs.YtliajkheeniljaaGreatDoor
namespace Go.Proofs.YtliajkheeniljaaGreatDoor
open Go.RowKit
set_option maxRecDepth 100000
set_option maxHeartbeats 16000000
def zkX:List Value:= [.string ⟨#[120]⟩, .string ⟨#[121]⟩, .string ⟨#[122]⟩]
def PF (va:Value) (g gp gr:Nat) (k:Nat):Prop:=va.ownBlock=some k\/k=g\/k=gp\/k=gr
structure z9T (w X:World) (g gv gp gr:Nat) (sv:Value) (n dm i:Nat) (va:Value) (T:List (List xG)) (css:List (List Value)):Prop where
 mkr:∃a',ziG w X g sv a'/\a'<=10+i*5000
 box:X.heap[gp]? =some (.cells #[.slice (some ⟨gv,0,none⟩) n 3, .int .i64 dm,va] 92 (0,0))
 vars:X.heap[gv]? =some (.cells zkX.toArray 9 (0,0))
 res:X.heap[gr]? =some (.cells #[.slice none 0 0, .int .i64 0, .slice none 0 0] 92 (0,0))
 lo:w.heap.size<=g/\w.heap.size<=gv/\w.heap.size<=gp/\w.heap.size<=gr/\g≠gp/\g≠gr/\gp≠gr/\gv≠g/\gv≠gp/\gv≠gr
 len:T.length=i
 ok:∀l∈T,bW n dm l 20=true/\za9 l<=52
 row:qG (PF va g gp gr) X (ztc 3 4) 1 w.heap.size 129 va T css
section
variable {w X Y:World} {g gv gp gr:Nat} {sv:Value} {n dm i:Nat} {va:Value} {T:List (List xG)} {css:List (List Value)}
end
end Go.Proofs.YtliajkheeniljaaGreatDoor
namespace Go.Proofs.YtliajkheeniljaaGreatDoor
open Go.RowKit
set_option maxRecDepth 100000
set_option maxHeartbeats 16000000
structure R2 (w X:World) (g gr:Nat) (sv:Value) (a:Nat) (mv mp:Option Nat):Prop where
 mkr:ziG w X g sv a
 res:X.heap[gr]? =some (.cells #[.slice none 0 0, .int .i64 0, .slice none 0 0] 92 (0,0))
 lo:w.heap.size<=gr/\g≠gr
 vars:∀b,mv=some b->X.heap[b]? =some (.cells zkX.toArray 9 (0,0))/\w.heap.size<=b/\b≠g/\b≠gr
 prog:∀b,mp=some b->X.heap[b]? =some (.cells #[.slice none 0 0, .int .i64 0, .slice none 0 0] 92 (0,0))/\w.heap.size<=b/\b≠g/\b≠gr
 ne:∀b c,mv=some b->mp=some c->b≠c
section
variable {w X Y:World} {g gr a b:Nat} {sv:Value} {mv mp:Option Nat}
end
end Go.Proofs.YtliajkheeniljaaGreatDoor
namespace Go.Proofs.YtliajkheeniljaaGreatDoor
open Go.RowKit
set_option maxRecDepth 100000
set_option maxHeartbeats 16000000
def CF (va:Value) (gb gr:Nat) (k:Nat):Prop:=va.ownBlock=some k\/k=gb\/k=gr
structure z9U (e:Nat) (w X:World) (gb gr:Nat) (vn dom:Int) (va:Value) (cl:List (List yB)) (css:List (List Value)):Prop where
 below:Below w.heap.size w X
 box:X.heap[gb]? =some (.cells #[.int .i64 vn, .int .i64 dom,va] 24 (0,0))
 res:X.heap[gr]? =some (.cells #[.int .i64 0, .int .i64 0, .slice none 0 0] 24 (0,0))
 lo:w.heap.size<=gb/\w.heap.size<=gr/\gr≠gb
 row:qG (CF va gb gr) X (xu e) 1 w.heap.size 59 va cl css
end Go.Proofs.YtliajkheeniljaaGreatDoor
namespace Go.Proofs.YtliajkheeniljaaGreatDoor
open Go.RowKit
set_option maxRecDepth 100000
set_option maxHeartbeats 16000000
end Go.Proofs.YtliajkheeniljaaGreatDoor
namespace Go.Proofs.YtliajkheeniljaaGreatDoor
open Go.RowKit
set_option maxRecDepth 100000
set_option maxHeartbeats 16000000
def z9V (vars:Int):List yB:= [⟨2,0,0, .mk 1 1 0 [],default,0⟩,⟨1,0,vars - 1,default,default,0⟩,⟨9,0,0, .mk 2 0 0 [],default,0⟩]
def z9W (vars:Int):List Value:= [.int .i64 2, .int .i64 0, .int .i64 0, .int .i64 1, .int .i64 1, .int .u8 0, .slice none 0 0, .int .i64 0, .int .i64 0, .int .u8 0, .slice none 0 0, .int .i64 0,
 .int .i64 1, .int .i64 0, .int .i64 (vars - 1), .int .i64 0, .int .i64 0, .int .u8 0, .slice none 0 0, .int .i64 0, .int .i64 0, .int .u8 0, .slice none 0 0, .int .i64 0,
 .int .i64 9, .int .i64 0, .int .i64 0, .int .i64 2, .int .i64 0, .int .u8 0, .slice none 0 0, .int .i64 0, .int .i64 0, .int .u8 0, .slice none 0 0, .int .i64 0]
structure z6n (w X:World) (gc gr g:Nat) (vars dom:Int) (n cap:Nat) (cl:List (List yB)):Prop where
 below:Below w.heap.size w X
 box:X.heap[gc]? =some (.cells #[.int .i64 vars, .int .i64 dom, .slice (some ⟨g,0,none⟩) n cap] 24 (0,0))
 res:X.heap[gr]? =some (.cells #[.int .i64 0, .int .i64 0, .slice none 0 0] 24 (0,0))
 lo:w.heap.size<=gc/\w.heap.size<=gr/\w.heap.size<=g/\gc≠gr/\g≠gc/\g≠gr
 row:∃cur:Array Value,X.heap[g]? =some (.cells cur 59 (0,0))/\n<=cur.size/\∀j,j<n->∃a c,cur[j]? =some (.slice a (cl.getD j []).length c)/\vB (fun k=>k=g) X (fun y=>xu 3 y (cl.getD j []) [.slice a (cl.getD j []).length c])
 len:cl.length=n
 ok:∀j,j<n->rowOk vars dom (cl.getD j [])=true
 room:n<=cap/\cap<=9223372036854775807
section
variable {w X:World} {gc gr g n cap:Nat} {vars dom:Int} {cl:List (List yB)}
end
end Go.Proofs.YtliajkheeniljaaGreatDoor
namespace Go.Proofs.YtliajkheeniljaaGreatDoor
open Go.RowKit
set_option maxRecDepth 100000
set_option maxHeartbeats 16000000
end Go.Proofs.YtliajkheeniljaaGreatDoor
namespace Go.Proofs.YtliajkheeniljaaGreatDoor
open Go.RowKit
set_option maxRecDepth 100000
set_option maxHeartbeats 16000000
end Go.Proofs.YtliajkheeniljaaGreatDoor
namespace Go.Proofs.YtliajkheeniljaaGreatDoor
open Go.RowKit
set_option maxRecDepth 100000
set_option maxHeartbeats 16000000
theorem zkY {c:zS} {m:zM} {s:zu} {d:Nat} {x:zG} (h:x∈qL c m s d):xX c m s=true/\∃i,i<s.threads.length/\((x=⟨1,i,0⟩/\∃t,vW c m s i d=some t)\/∃v,x=⟨2,i,v⟩/\v∈yh (s.threads.getD i default).buf m.model):=by
 unfold qL at h
 split at h
 ·rename_i hf
  refine⟨hf, ?_⟩
  obtain⟨i,hi,hx⟩:=List.mem_flatMap.1 h
  refine⟨i,List.mem_range.1 hi, ?_⟩
  unfold jN at hx
  rcases List.mem_append.1 hx with hx|hx
  ·split at hx
   ·rename_i hs
    rw [List.mem_singleton] at hx
    exact .inl ⟨hx,Option.isSome_iff_exists.1 hs⟩
   ·simp at hx
  ·obtain⟨v,hv,rfl⟩:=List.mem_map.1 hx
   exact .inr ⟨v,rfl,hv⟩
 ·simp at h
theorem znH {c:zS} {m:zM} {s:zu} {d:Nat} {x:zG} (h:x∈qL c m s d):∃i,i<s.threads.length/\((x=⟨1,i,0⟩/\∃t,vW c m s i d=some t/\vg c m s x d=(t,0))\/∃v,x=⟨2,i,v⟩/\v∈yh (s.threads.getD i default).buf m.model/\vg c m s x d=(wC s i v,0)):=by
 obtain⟨hf,i,hi,hx⟩:=zkY h
 refine⟨i,hi, ?_⟩
 rcases hx with⟨rfl,t,ht⟩|⟨v,rfl,hv⟩
 ·refine .inl ⟨rfl,t,ht, ?_⟩
  unfold vg
  rw [if_pos hf,if_pos ⟨by show(0:Int)<=(i:Int);omega,by show(i:Int)<_;omega⟩,if_pos ⟨rfl,rfl⟩]
  rw [show(⟨1,(i:Int),0⟩:zG).thread.toNat=i from Int.toNat_natCast i,ht]
 ·refine .inr ⟨v,rfl,hv, ?_⟩
  unfold vg
  rw [if_pos hf,if_pos ⟨by show(0:Int)<=(i:Int);omega,by show(i:Int)<_;omega⟩,if_neg (by rintro⟨h, -⟩;exact absurd (show(2:Int)=1 from h) (by decide))]
  rw [show(⟨2,(i:Int),v⟩:zG).thread.toNat=i from Int.toNat_natCast i,if_pos ⟨rfl,hv⟩]
section
variable {c:zS} {m:zM} {d R:Nat} {P:zu->Prop}
end
end Go.Proofs.YtliajkheeniljaaGreatDoor
namespace Go.Proofs.YtliajkheeniljaaGreatDoor
open Go.RowKit Go.ChangeShapes Go.WideShapes Go.ChangeAt
set_option maxRecDepth 100000
set_option maxHeartbeats 16000000
section
variable {X Z:World} {g:Nat}
end
structure Sp (V X:World) (mb:Option Nat):Prop where
 below:Below V.heap.size V X
 box:∀b,mb=some b->X.heap[b]? =some (.cells #[.slice none 0 0, .slice none 0 0, .slice none 0 0] 71 (0,0))/\V.heap.size<=b
section
variable {V X Y:World} {mb:Option Nat}
end
end Go.Proofs.YtliajkheeniljaaGreatDoor
namespace Go.Proofs.YtliajkheeniljaaGreatDoor
open Go.RowKit
set_option maxRecDepth 100000
set_option maxHeartbeats 16000000
inductive zfW (c:zS) (m:zM) (d:Nat):zu->Prop
 |start:zfW c m d (kI c)
 |step {s:zu} {x:zG} :zfW c m d s->x∈qL c m s d->zfW c m d (vg c m s x d).1
def z5w (w:World) (c:zS) (m:zM) (d:Nat) (en:Ending) (w':World):Prop:=(∃s tv mv bs,en= .returned (zW s tv mv)/\zfW c m d s/\OwnAt w.heap.size w' tv mv s.threads s.mem bs)/\Below w.heap.size w w'
def WF (w:World) (gs gr k:Nat):Prop:=k<w.heap.size\/k=gs\/k=gr
structure z9X (w V X:World) (gs gr:Nat) (c:zS) (m:zM) (d:Nat) (s:zu) (tv mv:Value):Prop where
 since:Since (fun k=>k=gs) V X
 below:Below w.heap.size w V
 lo:w.heap.size<=gs/\w.heap.size<=gr/\gs≠gr
 box:X.heap[gs]? =some (.cells #[tv,mv, .bool s.bad] 30 (0,0))
 res:V.heap[gr]? =some (.cells #[.slice none 0 0, .slice none 0 0, .bool false] 30 (0,0))
 own:∃bs,OwnAt w.heap.size X tv mv s.threads s.mem bs/\∀k,k=gs\/k=gr->tv.ownBlock≠some k/\mv.ownBlock≠some k/\∀j,j<s.threads.length->(bs.getD j (.slice none 0 0)).ownBlock≠some k
 come:zfW c m d s
section
variable {w V X Y:World} {gs gr d:Nat} {c:zS} {m:zM} {s:zu} {tv mv:Value}
end
end Go.Proofs.YtliajkheeniljaaGreatDoor
namespace Go.Proofs.YtliajkheeniljaaGreatDoor
open Go.RowKit
set_option maxRecDepth 100000
set_option maxHeartbeats 16000000
theorem znI {c:zS} {m:zM} {s:zu} {d:Nat} {x:zG} (h:x∈qL c m s d):(vg c m s x d).2=0:=by
 obtain⟨i, -,⟨rfl,t, -,e⟩|⟨v,rfl, -,e⟩⟩:=znH h<;>rw [e]
end Go.Proofs.YtliajkheeniljaaGreatDoor
