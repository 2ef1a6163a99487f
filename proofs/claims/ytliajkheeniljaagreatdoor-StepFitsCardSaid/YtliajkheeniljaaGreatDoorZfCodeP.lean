/- May code be: the document's answer, as plain Lean. What moves do: the document's answer, as plain Lean. A state in memory of its own: how it lies. What is so whatever happens to some blocks. May a machine run code: the document's answer: the walk. Does a state fit: the document's answer: the walk. The first state: the document's answer: the walk. Stores into a state in memory of its own. -/
import Derived.Deep.CutBlock
import Derived.Test.YtliajkheeniljaaGreatDoorZfApp
import Derived.Test.YtliajkheeniljaaGreatDoorZfBase
import Derived.Test.YtliajkheeniljaaGreatDoorZfPart
import Derived.Test.YtliajkheeniljaaGreatDoorZfShort
set_option linter.all false
namespace Go.Proofs.YtliajkheeniljaaGreatDoor
open Go.RowKit
set_option maxRecDepth 100000
set_option maxHeartbeats 16000000
def fitsI (vars dom kind to_ : Int) (x : InstrD) : Bool := decide (1 ≤ kind) && decide (kind ≤ 9) && decide (0 ≤ x.dest) && decide (x.dest ≤ to_) && partOk kind x.reg x.var x.a x.b vars dom
def instrOk (vars dom : Int) (many : Nat) (x : InstrD) : Bool :=
 if x.op = 12 then fitsI vars dom 9 many x else if x.op = 13 then fitsI vars dom 4 many x else if x.op = 10 ∨ x.op = 11 then false else fitsI vars dom x.op 0 x
def rowOk (vars dom : Int) (l : List InstrD) : Bool := decide (l.length ≤ 600) && l.all (instrOk vars dom l.length)
def codeOk (c : CodeD) : Bool := decide (1 ≤ c.vars) && decide (c.vars ≤ 4) && decide (2 ≤ c.domain) && decide (c.domain ≤ 16) && decide (1 ≤ c.threads.length) && decide (c.threads.length ≤ 4) && c.threads.all (rowOk c.vars c.domain)
theorem all_yes_of {α : Type} [Inhabited α] (l : List α) (d : α) (p : α → Bool) (h : ∀ j, j < l.length → p (l.getD j d) = true) : l.all p = true := by
 rw [List.all_eq_true]
 intro x hx
 obtain ⟨j, hj, rfl⟩ := List.getElem_of_mem hx
 have := h j hj
 rwa [List.getD_eq_getElem?_getD, List.getElem?_eq_getElem hj] at this
theorem all_no_of {α : Type} [Inhabited α] (l : List α) (d : α) (p : α → Bool) (j : Nat) (hj : j < l.length) (h : p (l.getD j d) = false) : l.all p = false := by
 rw [List.all_eq_false]
 rw [List.getD_eq_getElem?_getD, List.getElem?_eq_getElem hj] at h
 exact ⟨l[j], List.getElem_mem hj, by simpa using h⟩
end Go.Proofs.YtliajkheeniljaaGreatDoor
namespace Go.Proofs.YtliajkheeniljaaGreatDoor
open Go.RowKit
set_option maxRecDepth 100000
set_option maxHeartbeats 16000000
def mayOk (c : CodeD) (m : MachD) : Bool := codeOk c && decide (0 ≤ m.model) && decide (m.model ≤ 2) && decide (1 ≤ m.bound) && decide (m.bound ≤ 8)
def startS (c : CodeD) : StateD := if codeOk c then ⟨List.replicate c.threads.length default, List.replicate c.vars.toNat 0, false⟩ else ⟨[], [], false⟩
def waitOk (c : CodeD) (m : MachD) (l : List EntryD) (k : Nat) : Bool :=
 putOk (l.take k) m (l.getD k default) && decide (0 ≤ (l.getD k default).var) && decide ((l.getD k default).var < c.vars) && decide (0 ≤ (l.getD k default).n) && decide ((l.getD k default).n < c.domain)
def inDom (dom n : Int) : Bool := decide (0 ≤ n) && decide (n < dom)
def threadOk (c : CodeD) (m : MachD) (s : StateD) (i : Nat) : Bool :=
 decide (0 ≤ (s.threads.getD i default).pc) && decide ((s.threads.getD i default).pc ≤ ((c.threads.getD i []).length : Int)) &&
 (List.range 4).all (fun k => inDom c.domain ((s.threads.getD i default).regs.getD k 0)) && (List.range (s.threads.getD i default).buf.length).all (waitOk c m (s.threads.getD i default).buf)
def fitsOk (c : CodeD) (m : MachD) (s : StateD) : Bool :=
 mayOk c m && decide (s.threads.length = c.threads.length) && decide ((s.mem.length : Int) = c.vars) && (List.range s.mem.length).all (fun k => inDom c.domain (s.mem.getD k 0)) && (List.range s.threads.length).all (threadOk c m s)
def stepT (c : CodeD) (m : MachD) (s : StateD) (t : ThreadD) (x : InstrD) (d : Nat) : Option (ThreadD × List Int × Bool) :=
 let a := evalN t.regs c.domain d x.a
 let b := evalN t.regs c.domain d x.b
 let t1 : ThreadD := ⟨t.pc + 1, t.regs, t.buf⟩
 let empty := decide (t.buf.length = 0)
 let v := x.var.toNat
 let at_ := s.mem.getD v 0
 let set_ := fun n : Int => (⟨t.pc + 1, t.regs.set x.reg.toNat n, t.buf⟩ : ThreadD)
 if x.op = 1 then some (set_ ((lookB t.buf x.var).getD at_), s.mem, s.bad)
 else if x.op = 2 then (if m.model = 0 then some (t1, s.mem.set v a, s.bad) else if putOk t.buf m ⟨x.var, a⟩ then some (⟨t.pc + 1, t.regs, putB t.buf m ⟨x.var, a⟩⟩, s.mem, s.bad) else none)
 else if x.op = 3 then some (set_ a, s.mem, s.bad)
 else if x.op = 4 then (if empty then some (t1, s.mem, s.bad) else none)
 else if x.op = 5 then (if empty || !decide (m.model = 2) then some (t1, s.mem, s.bad) else none)
 else if x.op = 6 then (if empty then (if at_ = a then some (set_ 1, s.mem.set v b, s.bad) else some (set_ 0, s.mem, s.bad)) else none)
 else if x.op = 7 then (if empty && decide (at_ = 0) then some (t1, s.mem.set v 1, s.bad) else none)
 else if x.op = 8 then (if empty then some (t1, s.mem.set v 0, s.bad) else none)
 else if x.op = 9 then some (t1, s.mem, s.bad || decide (a = 0))
 else if x.op = 12 then some (if a = 0 then ⟨x.dest, t.regs, t.buf⟩ else t1, s.mem, s.bad)
 else if x.op = 13 then some (⟨x.dest, t.regs, t.buf⟩, s.mem, s.bad)
 else some (t1, s.mem, s.bad)
def stepS (c : CodeD) (m : MachD) (s : StateD) (i : Nat) (d : Nat) : Option StateD :=
 if (s.threads.getD i default).pc < ((c.threads.getD i []).length : Int) then
  (stepT c m s (s.threads.getD i default) ((c.threads.getD i []).getD (s.threads.getD i default).pc.toNat default) d).map fun r => ⟨s.threads.set i r.1, r.2.1, r.2.2⟩
 else none
def flushS (s : StateD) (i : Nat) (v : Int) : StateD :=
 ⟨s.threads.set i ⟨(s.threads.getD i default).pc, (s.threads.getD i default).regs, (takeB (s.threads.getD i default).buf v).2⟩, s.mem.set ((takeB (s.threads.getD i default).buf v).1.getD default).var.toNat ((takeB (s.threads.getD i default).buf v).1.getD default).n, s.bad⟩
def emptyS : StateD := ⟨[], [], false⟩
def doS (c : CodeD) (m : MachD) (s : StateD) (x : MoveD) (d : Nat) : StateD × Int :=
 if fitsOk c m s then
  if 0 ≤ x.thread ∧ x.thread < (s.threads.length : Int) then
   if x.kind = 1 ∧ x.var = 0 then
    match stepS c m s x.thread.toNat d with
    | some t => (t, 0)
    | none => (emptyS, 50)
   else if x.kind = 2 ∧ x.var ∈ headsB (s.threads.getD x.thread.toNat default).buf m.model then (flushS s x.thread.toNat x.var, 0)
   else (emptyS, 50)
  else (emptyS, 50)
 else (emptyS, 1)
def movesT (c : CodeD) (m : MachD) (s : StateD) (d : Nat) (i : Nat) : List MoveD :=
 (if (stepS c m s i d).isSome then [⟨1, i, 0⟩] else []) ++ (headsB (s.threads.getD i default).buf m.model).map fun v => ⟨2, i, v⟩
def movesS (c : CodeD) (m : MachD) (s : StateD) (d : Nat) : List MoveD :=
 if fitsOk c m s then (List.range s.threads.length).flatMap (movesT c m s d) else []
instance : Inhabited CodeD := ⟨⟨0, 0, []⟩⟩
theorem codeOk_bounds {c : CodeD} (h : codeOk c = true) : 1 ≤ c.vars ∧ c.vars ≤ 4 ∧ 2 ≤ c.domain ∧ c.domain ≤ 16 ∧ 1 ≤ c.threads.length ∧ c.threads.length ≤ 4 := by
 unfold codeOk at h
 simp only [Bool.and_eq_true, decide_eq_true_eq] at h
 exact ⟨h.1.1.1.1.1.1, h.1.1.1.1.1.2, h.1.1.1.1.2, h.1.1.1.2, h.1.1.2, h.1.2⟩
end Go.Proofs.YtliajkheeniljaaGreatDoor
namespace Go.Proofs.YtliajkheeniljaaGreatDoor
open Go.RowKit
set_option maxRecDepth 100000
set_option maxHeartbeats 16000000
def threadsC : List ThreadD → List Value → List Value
 | [], _ => []
 | t :: l, bs => t.cells (bs.getD 0 (.slice none 0 0)) ++ threadsC l (bs.drop 1)
theorem thread_len (t : ThreadD) (b : Value) : (t.cells b).length = 6 := rfl
theorem threadsC_len (l : List ThreadD) : ∀ bs, (threadsC l bs).length = l.length * 6 := by
 induction l with
 | nil => intro bs; rfl
 | cons t l ih => intro bs; simp only [threadsC, List.length_append, thread_len, List.length_cons]; rw [ih]; omega
theorem threadsC_at : ∀ {l : List ThreadD} {bs : List Value} {j i : Nat}, j < l.length → i < 6 → (threadsC l bs)[j * 6 + i]? = ((l.getD j default).cells (bs.getD j (.slice none 0 0)))[i]? := by
 intro l
 induction l with
 | nil => intro bs j i hj; simp at hj
 | cons t l ih =>
  intro bs j i hj hi
  unfold threadsC
  cases j with
  | zero => rw [Nat.zero_mul, Nat.zero_add, List.getElem?_append_left (by rw [thread_len]; exact hi)]; rfl
  | succ j =>
   rw [List.getElem?_append_right (by rw [thread_len, Nat.add_mul]; omega), thread_len, show (j + 1) * 6 + i - 6 = j * 6 + i by rw [Nat.add_mul]; omega]
   rw [ih (by simpa using hj) hi]
   simp [List.getD_eq_getElem?_getD]
structure OwnAt (B : Nat) (X : World) (tv mv : Value) (ts : List ThreadD) (mem : List Int) (bs : List Value) : Prop where
 row : X.ownsRow B 48 6 tv ts.length (threadsC ts bs)
 mem : X.ownsRow B 3 1 mv mem.length (flatC intC mem)
 regs : ∀ j, j < ts.length → (ts.getD j default).regs.length = 4
 len : bs.length = ts.length
 buf : ∀ j, j < ts.length → X.ownsRow B 50 2 (bs.getD j (.slice none 0 0)) (ts.getD j default).buf.length (flatC EntryD.cells (ts.getD j default).buf)
 ne : ∀ j, j < ts.length → ∀ k, (bs.getD j (.slice none 0 0)).ownBlock = some k → tv.ownBlock ≠ some k ∧ mv.ownBlock ≠ some k
 dis : ∀ k, tv.ownBlock = some k → mv.ownBlock ≠ some k
theorem thread_one {t : ThreadD} {b : Value} (hb : b.oneCell' = true) : ∀ u ∈ t.cells b, u.oneCell' = true := by
 intro u hu
 simp only [ThreadD.cells, List.mem_cons, List.not_mem_nil, or_false] at hu
 rcases hu with rfl | rfl | rfl | rfl | rfl | rfl <;> first | rfl | exact hb
structure OwnL (W X : World) (gb : Nat) (tv mv : Value) (bad : Bool) (ts : List ThreadD) (mem : List Int) (bs : List Value) : Prop where
 own : OwnAt W.heap.size X tv mv ts mem bs
 box : X.heap[gb]? = some (.cells #[tv, mv, .bool bad] 30 (0, 0))
 below : Below W.heap.size W X
 lo : W.heap.size ≤ gb
 n1 : tv.ownBlock ≠ some gb
 n2 : mv.ownBlock ≠ some gb
 n3 : ∀ j, j < ts.length → (bs.getD j (.slice none 0 0)).ownBlock ≠ some gb
theorem getD_snoc {α : Type} {l : List α} {x d : α} {j : Nat} (hj : j < l.length + 1) : (l ++ [x]).getD j d = if j = l.length then x else l.getD j d := by
 simp only [List.getD_eq_getElem?_getD]
 by_cases h : j = l.length
 ·subst h; simp
 ·rw [if_neg h, List.getElem?_append_left (by omega)]
theorem boxes3_below (w : World) (o1 o2 o3 : Obj) : Below w.heap.size w (((w.alloc o1).alloc o2).alloc o3) := (boxes_below w o1 o2).alloc (by simp; omega) o3
theorem boxes3_first (w : World) (o1 o2 o3 : Obj) : (((w.alloc o1).alloc o2).alloc o3).heap[w.heap.size]? = some o1 := (Below.heap_alloc _ _ _ (by simp; omega)).trans (boxes_first w o1 o2)
theorem boxes3_second (w : World) (o1 o2 o3 : Obj) : (((w.alloc o1).alloc o2).alloc o3).heap[w.heap.size + 1]? = some o2 := (Below.heap_alloc _ _ _ (by simp)).trans (boxes_second w o1 o2)
theorem boxes3_third (w : World) (o1 o2 o3 : Obj) : (((w.alloc o1).alloc o2).alloc o3).heap[w.heap.size + 2]? = some o3 := by
 have := qhn ((w.alloc o1).alloc o2) o3
 simpa using this
theorem four_of {l : List Int} (h : l.length = 4) : ∃ a b c d, l = [a, b, c, d] := by
 match l, h with
 | [a, b, c, d], _ => exact ⟨a, b, c, d, rfl⟩
theorem take_more {α : Type} [Inhabited α] {l : List α} {i : Nat} {t : α} (hi : i < l.length) (ht : t = l.getD i default) : l.take (i + 1) = l.take i ++ [t] := by
 rw [List.take_add_one, ht, List.getElem?_eq_getElem hi, List.getD_eq_getElem?_getD, List.getElem?_eq_getElem hi]; rfl
structure AppT (e : TypeId) (size : Nat) (t : TypeId) (V X : World) (v : Value) (n : Nat) (xs : List Value) (bs : List (Nat × List Value)) : Prop where
 below : Below V.heap.size V X
 row : X.ownsRow V.heap.size e size v n xs
 news : ∀ p ∈ bs, X.heap[p.1]? = some (.cells p.2.toArray t (0, 0)) ∧ v.ownBlock ≠ some p.1 ∧ V.heap.size ≤ p.1
section
variable {e t : TypeId} {size : Nat} {V X : World} {v : Value} {n : Nat} {xs : List Value} {bs : List (Nat × List Value)}
end
theorem row_new (w : World) (l : List Value) (t : TypeId) : ∀ j u, l[j]? = some u → (w.alloc (.cells l.toArray t)).cell? ((⟨w.heap.size, 0, none⟩ : Addr).add j) = some u := by
 intro j u hj
 have := qcb (qhn w (.cells l.toArray t)) j
 rw [show (⟨w.heap.size, 0, none⟩ : Addr).add j = ⟨w.heap.size, j, none⟩ by simp only [Addr.add]; split <;> simp_all, this]
 simpa using hj
theorem state_size : (Tryz.prog.info? 30).map (·.size) = some 3 := by kernel_rfl
theorem state_info : (Tryz.prog.info? 30).map (fun i => (i.zero, i.size, i.bytes)) = some (some (.agg #[.slice none 0 0, .slice none 0 0, .bool false]), 3, 56) := by kernel_rfl
theorem thread_info : (Tryz.prog.info? 48).map (fun i => (i.zero, i.size, i.bytes)) = some (some (.agg #[.int .i64 0, .int .i64 0, .int .i64 0, .int .i64 0, .int .i64 0, .slice none 0 0]), 6, 64) := by kernel_rfl
end Go.Proofs.YtliajkheeniljaaGreatDoor
namespace Go.Proofs.YtliajkheeniljaaGreatDoor
open Go.RowKit
set_option maxRecDepth 100000
set_option maxHeartbeats 16000000
def Away (F : Nat → Prop) (X : World) (P : World → Prop) : Prop := ∀ X', Since F X X' → P X'
section
variable {F F' G : Nat → Prop} {X X' : World} {P : World → Prop}
theorem Away.now (h : Away F X P) : P X := h X (Since.refl _ _)
theorem Away.step (h : Away F X P) (hs : Since G X X') (hG : ∀ k, G k → F k ∨ X.heap.size ≤ k) (hF : ∀ k, F' k → F k ∨ X.heap.size ≤ k) : Away F' X' P := fun X'' h2 =>
 h X'' ((hs.mono (G := F) (fun k hk hg => (hG k hg).elim id (fun h => absurd hk (Nat.not_lt.2 h)))).trans h2 hF)
end
end Go.Proofs.YtliajkheeniljaaGreatDoor
namespace Go.Proofs.YtliajkheeniljaaGreatDoor
open Go.RowKit
set_option maxRecDepth 100000
set_option maxHeartbeats 16000000
end Go.Proofs.YtliajkheeniljaaGreatDoor
namespace Go.Proofs.YtliajkheeniljaaGreatDoor
open Go.RowKit
set_option maxRecDepth 100000
set_option maxHeartbeats 16000000
end Go.Proofs.YtliajkheeniljaaGreatDoor
namespace Go.Proofs.YtliajkheeniljaaGreatDoor
open Go.RowKit
set_option maxRecDepth 100000
set_option maxHeartbeats 16000000
def zeroC : List Value := [.int .i64 0, .int .i64 0, .int .i64 0, .int .i64 0, .int .i64 0, .slice none 0 0]
theorem start_mem (i : Nat) : flatC intC (List.replicate (i + 1) 0) = flatC intC (List.replicate i 0) ++ [.int .i64 0] := by
 rw [List.replicate_succ', flatC_append]; rfl
structure StartL (W X : World) (gb : Nat) (ta : Option Addr) (i tc : Nat) (ma : Option Addr) (k mc : Nat) : Prop where
 row : X.ownsRow W.heap.size 48 6 (.slice ta i tc) i (threadsC (List.replicate i default) (List.replicate i (.slice none 0 0)))
 mem : X.ownsRow W.heap.size 3 1 (.slice ma k mc) k (flatC intC (List.replicate k 0))
 box : X.heap[gb]? = some (.cells #[.slice ta i tc, .slice ma k mc, .bool false] 30 (0, 0))
 since : Since (fun x => x = gb) W X
 lo : gb < W.heap.size
 dis : ∀ x, (Value.slice ta i tc).ownBlock = some x → (Value.slice ma k mc).ownBlock ≠ some x
theorem start_state {X : World} {B i tc k mc : Nat} {ta ma : Option Addr} (hrow : X.ownsRow B 48 6 (.slice ta i tc) i (threadsC (List.replicate i default) (List.replicate i (.slice none 0 0)))) (hmem : X.ownsRow B 3 1 (.slice ma k mc) k (flatC intC (List.replicate k 0))) : StateAt X ⟨List.replicate i default, List.replicate k 0, false⟩ (.slice ta i tc) (.slice ma k mc) := by
 refine ⟨SliceR.of_row (B := B) (e := 48) (xs := threadsC (List.replicate i default) (List.replicate i (.slice none 0 0))) (by simpa using hrow) fun j hj => ?_, ints_of (B := B) (by simpa using hmem)⟩
 have hd : (List.replicate i (default : ThreadD)).getD j default = default := by simp [List.getD_eq_getElem?_getD, List.getElem?_replicate]; split <;> rfl
 have hv : (List.replicate i (Value.slice none 0 0)).getD j (.slice none 0 0) = .slice none 0 0 := by simp [List.getD_eq_getElem?_getD, List.getElem?_replicate]; split <;> rfl
 refine ⟨(default : ThreadD).cells (.slice none 0 0), rfl, fun m hm => ?_, ?_⟩
 ·rw [threadsC_at hj hm, hd, hv]
 ·rw [hd]; exact ⟨rfl, _, rfl, SliceR.nil _⟩
end Go.Proofs.YtliajkheeniljaaGreatDoor
namespace Go.Proofs.YtliajkheeniljaaGreatDoor
open Go.RowKit
set_option maxRecDepth 100000
set_option maxHeartbeats 16000000
theorem own_set {w : World} {B g n cap j size : Nat} {e : TypeId} {xs : List Value} (h : w.ownsRow B e size (.slice (some ⟨g, 0, none⟩) n cap) n xs) (u : Value) : (w.setCell ⟨g, j, none⟩ u).ownsRow B e size (.slice (some ⟨g, 0, none⟩) n cap) n (xs.set j u) := by
 refine ⟨by rw [List.length_set]; exact h.1, ?_⟩
 rcases h.2 with ⟨h1, -⟩ | ⟨g', cap', cur, h1, h2, h3, h4, h5, h6, h7⟩
 ·cases h1
 ·cases h1
  refine .inr ⟨g, cap, cur.setIfInBounds j u, rfl, h2, set_of_block h3 j u, h4, h5, by rw [Array.size_setIfInBounds]; exact h6, ?_⟩
  rw [Array.toList_setIfInBounds, List.take_set, h7]
theorem row_ptr {w : World} {B : Nat} {e : TypeId} {size : Nat} {v : Value} {n : Nat} {xs : List Value} (h : w.ownsRow B e size v n xs) {j : Nat} {u : Value} (hj : xs[j]? = some u) : ∃ g cap, v = .slice (some ⟨g, 0, none⟩) n cap ∧ B ≤ g ∧ w.cell? ⟨g, j, none⟩ = some u ∧ w.frozen? ⟨g, j, none⟩ = false := by
 have hlt : j < xs.length := by
  rcases Nat.lt_or_ge j xs.length with h' | h'
  ·exact h'
  ·rw [List.getElem?_eq_none h'] at hj; cases hj
 rcases h.2 with ⟨h1, h2⟩ | ⟨g, cap, cur, h1, h2, h3, h4, h5, h6, h7⟩
 ·have := h.1; rw [h2] at this; omega
 ·refine ⟨g, cap, h1, h2, ?_, qfb h3 j⟩
  rw [qcb h3, ← hj, ← h7, List.getElem?_take_of_lt (by rw [h.1] at hlt; exact hlt)]
  simp
theorem threadsC_set : ∀ {l : List ThreadD} {bs : List Value} {i k : Nat} {t : ThreadD} {b u : Value}, i < l.length → bs.length = l.length → k < 6 → t.cells b = ((l.getD i default).cells (bs.getD i (.slice none 0 0))).set k u →
  threadsC (l.set i t) (bs.set i b) = (threadsC l bs).set (i * 6 + k) u := by
 intro l
 induction l with
 | nil => intro bs i k t b u hi; simp at hi
 | cons x l ih =>
  intro bs i k t b u hi hb hk hc
  cases bs with
  | nil => simp at hb
  | cons y bs =>
   cases i with
   | zero =>
    simp only [List.getD_cons_zero] at hc
    simp only [List.set_cons_zero, threadsC, List.getD_cons_zero, List.drop_one, List.tail_cons, Nat.zero_mul, Nat.zero_add, hc]
    rw [List.set_append_left _ _ (by rw [thread_len]; exact hk)]
   | succ i =>
    simp only [List.getD_cons_succ] at hc
    simp only [List.set_cons_succ, threadsC, List.getD_cons_zero, List.drop_one, List.tail_cons]
    rw [ih (by simpa using hi) (by simpa using hb) hk hc, List.set_append_right _ _ (by rw [thread_len, Nat.add_mul]; omega), thread_len, show (i + 1) * 6 + k - 6 = i * 6 + k by rw [Nat.add_mul]; omega]
theorem getD_set {α : Type} {l : List α} {i j : Nat} {x d : α} (hj : j < l.length) : (l.set i x).getD j d = if j = i then x else l.getD j d := by
 simp only [List.getD_eq_getElem?_getD]
 by_cases h : j = i
 ·subst h; rw [if_pos rfl, List.getElem?_set_self (by exact hj)]; rfl
 ·rw [if_neg h, List.getElem?_set_ne (Ne.symm h)]
theorem flat_set {l : List Int} {j : Nat} {x : Int} : flatC intC (l.set j x) = (flatC intC l).set j (.int .i64 x) := by
 have h : ∀ l : List Int, flatC intC l = l.map (Value.int .i64) := fun l => by
  induction l with
  | nil => rfl
  | cons y l ih => simp only [flatC, List.flatMap_cons, intC, List.map_cons] at ih ⊢; rw [ih]; rfl
 rw [h, h, List.map_set]
theorem flat_at {l : List Int} {j : Nat} (hj : j < l.length) : (flatC intC l)[j]? = some (.int .i64 (l.getD j 0)) := by
 have := flatC_at (f := intC) (size := 1) int_len (l := l) (j := j) (i := 0) hj (by omega)
 rw [Nat.mul_one, Nat.add_zero] at this
 exact this
end Go.Proofs.YtliajkheeniljaaGreatDoor
