/- A thread's step: the document's answer: what is so of it, as plain Lean. Blocks of a call's own that are known whole, whichever order they came in. A flush: what is so of it, as plain Lean. What is there in the end: the document's answer, as plain Lean; finals that are sorted, each once, are those that are put in one by one. -/
import Derived.Test.YtliajkheeniljaaGreatDoorQHeads
import Derived.Test.YtliajkheeniljaaGreatDoorQOwnP
import Derived.Test.YtliajkheeniljaaGreatDoorQShort
set_option linter.all false
namespace Go.Proofs.YtliajkheeniljaaGreatDoor
open Go.RowKit
set_option maxRecDepth 100000
set_option maxHeartbeats 16000000
section
variable {c : CodeD} {m : MachD} {s : StateD} {t : ThreadD} {x : InstrD} {d : Nat}
theorem stepT_load (h : x.op = 1) : stepT c m s t x d = some (⟨t.pc + 1, t.regs.set x.reg.toNat ((lookB t.buf x.var).getD (s.mem.getD x.var.toNat 0)), t.buf⟩, s.mem, s.bad) := by simp [stepT, h]
theorem stepT_store0 (h : x.op = 2) (hm : m.model = 0) : stepT c m s t x d = some (⟨t.pc + 1, t.regs, t.buf⟩, s.mem.set x.var.toNat (evalN t.regs c.domain d x.a), s.bad) := by simp [stepT, h, hm]
theorem stepT_storeY (h : x.op = 2) (hm : ¬ m.model = 0) (hp : putOk t.buf m ⟨x.var, evalN t.regs c.domain d x.a⟩ = true) : stepT c m s t x d = some (⟨t.pc + 1, t.regs, putB t.buf m ⟨x.var, evalN t.regs c.domain d x.a⟩⟩, s.mem, s.bad) := by simp [stepT, h, hm, hp]
theorem stepT_storeN (h : x.op = 2) (hm : ¬ m.model = 0) (hp : putOk t.buf m ⟨x.var, evalN t.regs c.domain d x.a⟩ = false) : stepT c m s t x d = none := by simp [stepT, h, hm, hp]
theorem stepT_set (h : x.op = 3) : stepT c m s t x d = some (⟨t.pc + 1, t.regs.set x.reg.toNat (evalN t.regs c.domain d x.a), t.buf⟩, s.mem, s.bad) := by simp [stepT, h]
theorem stepT_fence (h : x.op = 4) : stepT c m s t x d = if t.buf.length = 0 then some (⟨t.pc + 1, t.regs, t.buf⟩, s.mem, s.bad) else none := by simp [stepT, h]
theorem stepT_weak (h : x.op = 5) : stepT c m s t x d = if t.buf.length = 0 ∨ ¬ m.model = 2 then some (⟨t.pc + 1, t.regs, t.buf⟩, s.mem, s.bad) else none := by simp [stepT, h]
theorem stepT_casY (h : x.op = 6) (hv : s.mem.getD x.var.toNat 0 = evalN t.regs c.domain d x.a) : stepT c m s t x d = if t.buf.length = 0 then some (⟨t.pc + 1, t.regs.set x.reg.toNat 1, t.buf⟩, s.mem.set x.var.toNat (evalN t.regs c.domain d x.b), s.bad) else none := by
 unfold stepT
 simp only [h, hv]
 simp
theorem stepT_casN (h : x.op = 6) (hv : ¬ s.mem.getD x.var.toNat 0 = evalN t.regs c.domain d x.a) : stepT c m s t x d = if t.buf.length = 0 then some (⟨t.pc + 1, t.regs.set x.reg.toNat 0, t.buf⟩, s.mem, s.bad) else none := by
 unfold stepT
 simp only [h]
 simp only [if_neg hv]
 simp
theorem stepT_lock (h : x.op = 7) : stepT c m s t x d = if t.buf.length = 0 ∧ s.mem.getD x.var.toNat 0 = 0 then some (⟨t.pc + 1, t.regs, t.buf⟩, s.mem.set x.var.toNat 1, s.bad) else none := by simp [stepT, h]
theorem stepT_unlock (h : x.op = 8) : stepT c m s t x d = if t.buf.length = 0 then some (⟨t.pc + 1, t.regs, t.buf⟩, s.mem.set x.var.toNat 0, s.bad) else none := by simp [stepT, h]
theorem stepT_assert (h : x.op = 9) : stepT c m s t x d = some (⟨t.pc + 1, t.regs, t.buf⟩, s.mem, s.bad || decide (evalN t.regs c.domain d x.a = 0)) := by simp [stepT, h]
theorem stepT_branch (h : x.op = 12) : stepT c m s t x d = some (if evalN t.regs c.domain d x.a = 0 then ⟨x.dest, t.regs, t.buf⟩ else ⟨t.pc + 1, t.regs, t.buf⟩, s.mem, s.bad) := by simp [stepT, h]
theorem stepT_other (h1 : ¬ x.op = 1) (h2 : ¬ x.op = 2) (h3 : ¬ x.op = 3) (h4 : ¬ x.op = 4) (h5 : ¬ x.op = 5) (h6 : ¬ x.op = 6) (h7 : ¬ x.op = 7) (h8 : ¬ x.op = 8) (h9 : ¬ x.op = 9) (h12 : ¬ x.op = 12) (h13 : ¬ x.op = 13) : stepT c m s t x d = some (⟨t.pc + 1, t.regs, t.buf⟩, s.mem, s.bad) := by simp [stepT, h1, h2, h3, h4, h5, h6, h7, h8, h9, h12, h13]
theorem stepT_jump (h : x.op = 13) : stepT c m s t x d = some (⟨x.dest, t.regs, t.buf⟩, s.mem, s.bad) := by simp [stepT, h]
end
theorem fits_facts {c : CodeD} {m : MachD} {s : StateD} (h : fitsOk c m s = true) : codeOk c = true ∧ mayOk c m = true ∧ s.threads.length = c.threads.length ∧ (s.mem.length : Int) = c.vars ∧
  ∀ i, i < s.threads.length → 0 ≤ (s.threads.getD i default).pc ∧ (s.threads.getD i default).pc ≤ ((c.threads.getD i []).length : Int) := by
 unfold fitsOk at h
 simp only [Bool.and_eq_true, decide_eq_true_eq] at h
 obtain ⟨⟨⟨⟨h1, h2⟩, h3⟩, -⟩, h5⟩ := h
 have h6 := h1
 unfold mayOk at h6
 simp only [Bool.and_eq_true, decide_eq_true_eq] at h6
 refine ⟨h6.1.1.1.1, h1, h2, h3, fun i hi => ?_⟩
 rw [List.all_eq_true] at h5
 have := h5 i (List.mem_range.2 hi)
 unfold threadOk at this
 simp only [Bool.and_eq_true, decide_eq_true_eq] at this
 exact this.1.1
theorem getD_mem {α : Type} {l : List α} {k : Nat} {x : α} (hk : k < l.length) : l.getD k x ∈ l := by
 rw [List.getD_eq_getElem?_getD, List.getElem?_eq_getElem hk]; exact List.getElem_mem hk
theorem code_instr {c : CodeD} (h : codeOk c = true) {i k : Nat} (hi : i < c.threads.length) (hk : k < (c.threads.getD i []).length) :
  (c.threads.getD i []).length ≤ 600 ∧ 0 ≤ ((c.threads.getD i []).getD k default).reg ∧ ((c.threads.getD i []).getD k default).reg < 4 ∧ 0 ≤ ((c.threads.getD i []).getD k default).var ∧ ((c.threads.getD i []).getD k default).var < c.vars := by
 have hb := codeOk_bounds h
 unfold codeOk at h
 simp only [Bool.and_eq_true, decide_eq_true_eq] at h
 have h1 := h.2
 rw [List.all_eq_true] at h1
 have h2 := h1 (c.threads.getD i []) (getD_mem hi)
 unfold rowOk at h2
 simp only [Bool.and_eq_true, decide_eq_true_eq] at h2
 obtain ⟨h3, h4⟩ := h2
 rw [List.all_eq_true] at h4
 have h5 := h4 ((c.threads.getD i []).getD k default) (getD_mem hk)
 obtain ⟨y, hy⟩ : ∃ y, y = (c.threads.getD i []).getD k default := ⟨_, rfl⟩
 rw [← hy] at h5 ⊢
 have key : ∀ kind to_, fitsI c.vars c.domain kind to_ y = true → 0 ≤ y.reg ∧ y.reg < 4 ∧ 0 ≤ y.var ∧ y.var < c.vars := by
  intro kind to_ h
  unfold fitsI partOk partR partV at h
  simp only [Bool.and_eq_true] at h
  obtain ⟨-, ⟨⟨h6, h7⟩, -⟩, -⟩ := h
  constructor
  ·split at h6
   ·simp only [Bool.and_eq_true, decide_eq_true_eq] at h6; exact h6.1
   ·simp only [decide_eq_true_eq] at h6; omega
  constructor
  ·split at h6
   ·simp only [Bool.and_eq_true, decide_eq_true_eq] at h6; exact h6.2
   ·simp only [decide_eq_true_eq] at h6; omega
  ·split at h7
   ·simp only [Bool.and_eq_true, decide_eq_true_eq] at h7; exact h7
   ·simp only [decide_eq_true_eq] at h7; omega
 unfold instrOk at h5
 refine ⟨h3, ?_⟩
 split at h5
 ·exact key _ _ h5
 ·split at h5
  ·exact key _ _ h5
  ·split at h5
   ·cases h5
   ·exact key _ _ h5
theorem boxes4_below (w : World) (o1 o2 o3 o4 : Obj) : Below w.heap.size w ((((w.alloc o1).alloc o2).alloc o3).alloc o4) ∧ ((((w.alloc o1).alloc o2).alloc o3).alloc o4).heap[w.heap.size]? = some o1 ∧ ((((w.alloc o1).alloc o2).alloc o3).alloc o4).heap[w.heap.size + 1]? = some o2 ∧
  ((((w.alloc o1).alloc o2).alloc o3).alloc o4).heap[w.heap.size + 2]? = some o3 ∧ ((((w.alloc o1).alloc o2).alloc o3).alloc o4).heap[w.heap.size + 3]? = some o4 ∧ ((((w.alloc o1).alloc o2).alloc o3).alloc o4).heap.size = w.heap.size + 4 := by
 refine ⟨(boxes3_below w o1 o2 o3).alloc (by simp; omega) o4, (Below.heap_alloc _ _ _ (by simp; omega)).trans (boxes3_first w o1 o2 o3), (Below.heap_alloc _ _ _ (by simp; try omega)).trans (boxes3_second w o1 o2 o3), (Below.heap_alloc _ _ _ (by simp; try omega)).trans (boxes3_third w o1 o2 o3), ?_, by simp⟩
 have := qhn (((w.alloc o1).alloc o2).alloc o3) o4
 simpa using this
def setAll (X : World) (g : Nat) : Nat → List Value → World
 | _, [] => X
 | j, u :: l => setAll (X.setCell ⟨g, j, none⟩ u) g (j + 1) l
theorem setAll_since {g : Nat} (l : List Value) : ∀ (X : World) (j : Nat), Since (fun k => k = g) X (setAll X g j l) := by
 induction l with
 | nil => intro X j; exact Since.refl _ _
 | cons u l ih =>
  intro X j
  exact (Since.setCell (F := fun k => k = g) (p := ⟨g, j, none⟩) (Since.refl _ X) (.inl rfl) u).trans (ih _ _) (fun _ h => .inl h)
theorem setAll_block {g : Nat} {t : TypeId} {f : Nat × Nat} (l : List Value) : ∀ (X : World) (pre post : List Value), post.length = l.length → X.heap[g]? = some (.cells (pre ++ post).toArray t f) → (setAll X g pre.length l).heap[g]? = some (.cells (pre ++ l).toArray t f) := by
 induction l with
 | nil =>
  intro X pre post hl h
  obtain rfl : post = [] := List.eq_nil_of_length_eq_zero hl
  exact h
 | cons u l ih =>
  intro X pre post hl h
  cases post with
  | nil => simp at hl
  | cons v post =>
   have h2 := set_of_block h pre.length u
   have h3 : ((pre ++ v :: post).toArray).setIfInBounds pre.length u = ((pre ++ [u]) ++ post).toArray := by
    rw [List.setIfInBounds_toArray, List.set_append_right _ _ (Nat.le_refl _)]
    simp
   rw [h3] at h2
   have := ih _ (pre ++ [u]) post (by simpa using hl) h2
   simpa [setAll] using this
theorem setAll_new {g : Nat} {t : TypeId} {f : Nat × Nat} {X : World} {cs : List Value} (l : List Value) (hl : cs.length = l.length) (h : X.heap[g]? = some (.cells cs.toArray t f)) : (setAll X g 0 l).heap[g]? = some (.cells l.toArray t f) := setAll_block l X [] cs hl h
end Go.Proofs.YtliajkheeniljaaGreatDoor
namespace Go.Proofs.YtliajkheeniljaaGreatDoor
open Go.RowKit
set_option maxRecDepth 100000
set_option maxHeartbeats 16000000
structure Loc (V X : World) (bs : List (Nat × TypeId × List Value)) : Prop where
 below : Below V.heap.size V X
 news : ∀ p ∈ bs, X.heap[p.1]? = some (.cells p.2.2.toArray p.2.1 (0, 0)) ∧ V.heap.size ≤ p.1
 apart : (bs.map (·.1)).Nodup
def upd (g : Nat) (l : List Value) (bs : List (Nat × TypeId × List Value)) : List (Nat × TypeId × List Value) := bs.map fun p => if p.1 = g then (p.1, p.2.1, l) else p
section
variable {V X : World} {bs : List (Nat × TypeId × List Value)}
theorem Loc.start (V : World) : Loc V V [] := ⟨Below.refl _ _, by simp, by simp⟩
theorem Loc.drew (h : Loc V X bs) : Loc V X.drew bs := ⟨h.below.drew, h.news, h.apart⟩
theorem Loc.later (h : Loc V X bs) {X' : World} (hb : Below X.heap.size X X') : Loc V X' bs := ⟨qbt h.below hb, fun p hp => ⟨(hb.block _ (qlb (h.news p hp).1)).trans (h.news p hp).1, (h.news p hp).2⟩, h.apart⟩
theorem Loc.alloc (h : Loc V X bs) (t : TypeId) (cs : List Value) : Loc V (X.alloc (.cells cs.toArray t)) ((X.heap.size, t, cs) :: bs) := by
 refine ⟨h.below.alloc h.below.size _, ?_, ?_⟩
 ·intro p hp
  rcases List.mem_cons.1 hp with rfl | hp
  ·exact ⟨qhn X _, h.below.size⟩
  ·exact ⟨(Below.heap_alloc _ _ _ (qlb (h.news p hp).1)).trans (h.news p hp).1, (h.news p hp).2⟩
 ·simp only [List.map_cons, List.nodup_cons]
  refine ⟨?_, h.apart⟩
  intro hm
  obtain ⟨p, hp, e⟩ := List.mem_map.1 hm
  have := qlb (h.news p hp).1
  omega
theorem Loc.store (h : Loc V X bs) {g : Nat} {t : TypeId} {cs : List Value} (hg : (g, t, cs) ∈ bs) (l : List Value) (hl : cs.length = l.length) : Loc V (setAll X g 0 l) (upd g l bs) := by
 have hS := setAll_since (g := g) l X 0
 refine ⟨h.below.trans (hS.below h.below.size (fun k e => by rw [e]; exact (h.news _ hg).2)), ?_, ?_⟩
 ·intro p hp
  obtain ⟨q, hq, rfl⟩ := List.mem_map.1 hp
  by_cases e : q.1 = g
  ·simp only [if_pos e]
   have hqe : q = (g, t, cs) := by
    have h1 := h.news q hq
    have h2 := h.news _ hg
    rw [e] at h1
    obtain ⟨a, b, c⟩ := q
    simp only [] at e h1 h2
    subst e
    have h3 := h1.1.symm.trans h2.1
    simp only [Option.some.injEq, Obj.cells.injEq] at h3
    obtain ⟨h4, h5, -⟩ := h3
    have h6 : c = cs := by simpa using h4
    rw [h5, h6]
   subst hqe
   exact ⟨setAll_new l hl (h.news _ hg).1, (h.news _ hg).2⟩
  ·rw [if_neg e]
   exact ⟨(hS.block _ (qlb (h.news q hq).1) e).trans (h.news q hq).1, (h.news q hq).2⟩
 ·have : (upd g l bs).map (·.1) = bs.map (·.1) := by
   unfold upd
   rw [List.map_map]
   refine List.map_congr_left (fun p _ => ?_)
   simp only [Function.comp]
   split <;> rfl
  rw [this]; exact h.apart
theorem upd_mem {g : Nat} {t : TypeId} {cs l : List Value} (h : (g, t, cs) ∈ bs) : (g, t, l) ∈ upd g l bs := List.mem_map.2 ⟨_, h, by simp⟩
theorem mem_upd {g : Nat} {l : List Value} {p : Nat × TypeId × List Value} (h : p ∈ bs) (hne : p.1 ≠ g) : p ∈ upd g l bs := List.mem_map.2 ⟨p, h, by simp [hne]⟩
theorem Loc.ne_new (h : Loc V X bs) {p : Nat × TypeId × List Value} (hp : p ∈ bs) : p.1 ≠ X.heap.size := Nat.ne_of_lt (qlb (h.news p hp).1)
end
end Go.Proofs.YtliajkheeniljaaGreatDoor
namespace Go.Proofs.YtliajkheeniljaaGreatDoor
open Go.RowKit
set_option maxRecDepth 100000
set_option maxHeartbeats 16000000
theorem insV_mem {x v : Int} {l : List Int} (h : v ∈ insV x l) : v = x ∨ v ∈ l := by
 induction l with
 | nil => simp only [insV, List.mem_singleton] at h; exact .inl h
 | cons y l ih =>
  unfold insV at h
  split at h
  ·rcases List.mem_cons.1 h with rfl | h
   ·exact .inl rfl
   ·exact .inr h
  ·rcases List.mem_cons.1 h with rfl | h
   ·exact .inr (List.mem_cons_self ..)
   ·exact (ih h).imp id (fun h => List.mem_cons_of_mem _ h)
theorem headsTo_mem {l : List EntryD} {v : Int} {i : Nat} (h : v ∈ headsTo l i) : ∃ j, j < i ∧ (l.getD j default).var = v := by
 induction i with
 | zero => simp [headsTo] at h
 | succ i ih =>
  unfold headsTo at h
  split at h
  ·rcases insV_mem h with rfl | h
   ·exact ⟨i, by omega, rfl⟩
   ·obtain ⟨j, hj, e⟩ := ih h; exact ⟨j, by omega, e⟩
  ·obtain ⟨j, hj, e⟩ := ih h; exact ⟨j, by omega, e⟩
theorem heads_mem {l : List EntryD} {v model : Int} (h : v ∈ headsB l model) : ∃ j, j < l.length ∧ (l.getD j default).var = v := by
 unfold headsB at h
 split at h
 ·exact headsTo_mem h
 ·split at h
  ·cases l with
   | nil => cases h
   | cons x r =>
    simp only [List.mem_singleton] at h
    exact ⟨0, by simp, by rw [h]; rfl⟩
  ·cases h
theorem take_found {l : List EntryD} {v : Int} {i : Nat} (h : ∃ j, j < i ∧ (l.getD j default).var = v) : ∃ n, (takeTo l v i).1 = some ⟨v, n⟩ := by
 induction i with
 | zero => obtain ⟨j, hj, -⟩ := h; omega
 | succ i ih =>
  unfold takeTo
  by_cases hs : (takeTo l v i).1.isNone
  ·by_cases hv : (l.getD i default).var = v
   ·rw [if_pos (by simp only [hs, Bool.true_and]; exact decide_eq_true hv)]
    exact ⟨(l.getD i default).n, by rw [← hv]⟩
   ·obtain ⟨j, hj, e⟩ := h
    have hj2 : j < i := by
     rcases Nat.lt_or_ge j i with h1 | h1
     ·exact h1
     ·obtain rfl : j = i := by omega
      exact absurd e hv
    obtain ⟨n, hn⟩ := ih ⟨j, hj2, e⟩
    rw [hn] at hs; cases hs
  rw [if_neg (by simp only [Bool.and_eq_true]; exact fun h => hs h.1)]
  have : ∃ y, (takeTo l v i).1 = some y := by
   cases h3 : (takeTo l v i).1 with
   | none => rw [h3] at hs; exact absurd rfl hs
   | some y => exact ⟨y, rfl⟩
  obtain ⟨y, hy⟩ := this
  have hyv : ∀ k y, (takeTo l v k).1 = some y → y.var = v := by
   intro k
   induction k with
   | zero => intro y h; cases h
   | succ k ihk =>
    intro y h
    unfold takeTo at h
    split at h
    ·rename_i h4
     simp only [Bool.and_eq_true, decide_eq_true_eq] at h4
     cases h
     exact h4.2
    ·exact ihk y h
  have hv := hyv i y hy
  exact ⟨y.n, by rw [hy, ← hv]⟩
theorem fits_heads {c : CodeD} {m : MachD} {s : StateD} (h : fitsOk c m s = true) {i : Nat} (hi : i < s.threads.length) {v : Int} (hv : v ∈ headsB (s.threads.getD i default).buf m.model) :
  0 ≤ v ∧ v < c.vars ∧ ∃ n, takeB (s.threads.getD i default).buf v = (some ⟨v, n⟩, (takeB (s.threads.getD i default).buf v).2) := by
 obtain ⟨j, hj, e⟩ := heads_mem hv
 unfold fitsOk at h
 simp only [Bool.and_eq_true] at h
 have h5 := h.2
 rw [List.all_eq_true] at h5
 have h6 := h5 i (List.mem_range.2 hi)
 unfold threadOk at h6
 simp only [Bool.and_eq_true] at h6
 have h7 := h6.2
 rw [List.all_eq_true] at h7
 have h8 := h7 j (List.mem_range.2 hj)
 unfold waitOk at h8
 simp only [Bool.and_eq_true, decide_eq_true_eq] at h8
 rw [e] at h8
 obtain ⟨n, hn⟩ := take_found (l := (s.threads.getD i default).buf) ⟨j, hj, e⟩
 exact ⟨h8.1.1.1.2, h8.1.1.2, n, Prod.ext hn rfl⟩
end Go.Proofs.YtliajkheeniljaaGreatDoor
namespace Go.Proofs.YtliajkheeniljaaGreatDoor
open Go.RowKit
set_option maxRecDepth 100000
set_option maxHeartbeats 16000000
structure FinalD where
 mem : List Int
 regs : List (List Int)
 deriving DecidableEq
instance : Inhabited FinalD := ⟨⟨[], []⟩⟩
end Go.Proofs.YtliajkheeniljaaGreatDoor
