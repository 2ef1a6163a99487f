/- A thread's step: the document's answer: what is so of it, as plain Lean. -/
import Derived.Test.YtnlkbboghcdpnaaOwnS
namespace Go.Proofs.Ytnlkbboghcdpnaa
open Go.RowKit

section
variable {c : CodeD} {m : MachD} {s : StateD} {t : ThreadD} {x : InstrD} {d : Nat}
theorem stepT_load (h : x.op = 1) : stepT c m s t x d = some (⟨t.pc + 1, t.regs.set x.reg.toNat ((lookB t.buf x.var).getD (s.mem.getD x.var.toNat 0)), t.buf⟩, s.mem, s.bad) := by simp [stepT, h]
theorem stepT_store0 (h : x.op = 2) (hm : m.model = 0) : stepT c m s t x d = some (⟨t.pc + 1, t.regs, t.buf⟩, s.mem.set x.var.toNat (evalN t.regs c.domain d x.a), s.bad) := by simp [stepT, h, hm]
theorem stepT_storeY (h : x.op = 2) (hm : ¬ m.model = 0) (hp : putOk t.buf m ⟨x.var, evalN t.regs c.domain d x.a⟩ = true) : stepT c m s t x d = some (⟨t.pc + 1, t.regs, putB t.buf m ⟨x.var, evalN t.regs c.domain d x.a⟩⟩, s.mem, s.bad) := by simp [stepT, h, hm, hp]
theorem stepT_storeN (h : x.op = 2) (hm : ¬ m.model = 0) (hp : putOk t.buf m ⟨x.var, evalN t.regs c.domain d x.a⟩ = false) : stepT c m s t x d = none := by simp [stepT, h, hm, hp]
theorem stepT_set (h : x.op = 3) : stepT c m s t x d = some (⟨t.pc + 1, t.regs.set x.reg.toNat (evalN t.regs c.domain d x.a), t.buf⟩, s.mem, s.bad) := by simp [stepT, h]
theorem stepT_fence (h : x.op = 4) : stepT c m s t x d = if t.buf.length = 0 then some (⟨t.pc + 1, t.regs, t.buf⟩, s.mem, s.bad) else none := by simp [stepT, h]
theorem stepT_weak (h : x.op = 5) : stepT c m s t x d = if t.buf.length = 0 ∨ ¬ m.model = 2 then some (⟨t.pc + 1, t.regs, t.buf⟩, s.mem, s.bad) else none := by simp [stepT, h]
theorem stepT_casY (h : x.op = 6) (hv : s.mem.getD x.var.toNat 0 = evalN t.regs c.domain d x.a) : stepT c m s t x d = if t.buf.length = 0 then some (⟨t.pc + 1, t.regs.set x.reg.toNat 1, t.buf⟩, s.mem.set x.var.toNat (evalN t.regs c.domain d x.b), s.bad) else none := by
  unfold stepT
  simp only [h, hv]
  simp
theorem stepT_casN (h : x.op = 6) (hv : ¬ s.mem.getD x.var.toNat 0 = evalN t.regs c.domain d x.a) : stepT c m s t x d = if t.buf.length = 0 then some (⟨t.pc + 1, t.regs.set x.reg.toNat 0, t.buf⟩, s.mem, s.bad) else none := by
  unfold stepT
  simp only [h]
  simp only [if_neg hv]
  simp
theorem stepT_lock (h : x.op = 7) : stepT c m s t x d = if t.buf.length = 0 ∧ s.mem.getD x.var.toNat 0 = 0 then some (⟨t.pc + 1, t.regs, t.buf⟩, s.mem.set x.var.toNat 1, s.bad) else none := by simp [stepT, h]
theorem stepT_unlock (h : x.op = 8) : stepT c m s t x d = if t.buf.length = 0 then some (⟨t.pc + 1, t.regs, t.buf⟩, s.mem.set x.var.toNat 0, s.bad) else none := by simp [stepT, h]
theorem stepT_assert (h : x.op = 9) : stepT c m s t x d = some (⟨t.pc + 1, t.regs, t.buf⟩, s.mem, s.bad || decide (evalN t.regs c.domain d x.a = 0)) := by simp [stepT, h]
theorem stepT_branch (h : x.op = 12) : stepT c m s t x d = some (if evalN t.regs c.domain d x.a = 0 then ⟨x.dest, t.regs, t.buf⟩ else ⟨t.pc + 1, t.regs, t.buf⟩, s.mem, s.bad) := by simp [stepT, h]
theorem stepT_other (h1 : ¬ x.op = 1) (h2 : ¬ x.op = 2) (h3 : ¬ x.op = 3) (h4 : ¬ x.op = 4) (h5 : ¬ x.op = 5) (h6 : ¬ x.op = 6) (h7 : ¬ x.op = 7) (h8 : ¬ x.op = 8) (h9 : ¬ x.op = 9) (h12 : ¬ x.op = 12) (h13 : ¬ x.op = 13) : stepT c m s t x d = some (⟨t.pc + 1, t.regs, t.buf⟩, s.mem, s.bad) := by simp [stepT, h1, h2, h3, h4, h5, h6, h7, h8, h9, h12, h13]
theorem stepT_jump (h : x.op = 13) : stepT c m s t x d = some (⟨x.dest, t.regs, t.buf⟩, s.mem, s.bad) := by simp [stepT, h]
end
/-- What is so of a state that fits. -/
theorem fits_facts {c : CodeD} {m : MachD} {s : StateD} (h : fitsOk c m s = true) : codeOk c = true ∧ mayOk c m = true ∧ s.threads.length = c.threads.length ∧ (s.mem.length : Int) = c.vars ∧
    ∀ i, i < s.threads.length → 0 ≤ (s.threads.getD i default).pc ∧ (s.threads.getD i default).pc ≤ ((c.threads.getD i []).length : Int) := by
  unfold fitsOk at h
  simp only [Bool.and_eq_true, decide_eq_true_eq] at h
  obtain ⟨⟨⟨⟨h1, h2⟩, h3⟩, -⟩, h5⟩ := h
  have h6 := h1
  unfold mayOk at h6
  simp only [Bool.and_eq_true, decide_eq_true_eq] at h6
  refine ⟨h6.1.1.1.1, h1, h2, h3, fun i hi => ?_⟩
  rw [List.all_eq_true] at h5
  have := h5 i (List.mem_range.2 hi)
  unfold threadOk at this
  simp only [Bool.and_eq_true, decide_eq_true_eq] at this
  exact this.1.1
theorem getD_mem {α : Type} {l : List α} {k : Nat} {x : α} (hk : k < l.length) : l.getD k x ∈ l := by
  rw [List.getD_eq_getElem?_getD, List.getElem?_eq_getElem hk]; exact List.getElem_mem hk
theorem code_instr {c : CodeD} (h : codeOk c = true) {i k : Nat} (hi : i < c.threads.length) (hk : k < (c.threads.getD i []).length) :
    (c.threads.getD i []).length ≤ 600 ∧ 0 ≤ ((c.threads.getD i []).getD k default).reg ∧ ((c.threads.getD i []).getD k default).reg < 4 ∧ 0 ≤ ((c.threads.getD i []).getD k default).var ∧ ((c.threads.getD i []).getD k default).var < c.vars := by
  have hb := codeOk_bounds h
  unfold codeOk at h
  simp only [Bool.and_eq_true, decide_eq_true_eq] at h
  have h1 := h.2
  rw [List.all_eq_true] at h1
  have h2 := h1 (c.threads.getD i []) (getD_mem hi)
  unfold rowOk at h2
  simp only [Bool.and_eq_true, decide_eq_true_eq] at h2
  obtain ⟨h3, h4⟩ := h2
  rw [List.all_eq_true] at h4
  have h5 := h4 ((c.threads.getD i []).getD k default) (getD_mem hk)
  obtain ⟨y, hy⟩ : ∃ y, y = (c.threads.getD i []).getD k default := ⟨_, rfl⟩
  rw [← hy] at h5 ⊢
  have key : ∀ kind to_, fitsI c.vars c.domain kind to_ y = true → 0 ≤ y.reg ∧ y.reg < 4 ∧ 0 ≤ y.var ∧ y.var < c.vars := by
    intro kind to_ h
    unfold fitsI partOk partR partV at h
    simp only [Bool.and_eq_true] at h
    obtain ⟨-, ⟨⟨h6, h7⟩, -⟩, -⟩ := h
    constructor
    · split at h6
      · simp only [Bool.and_eq_true, decide_eq_true_eq] at h6; exact h6.1
      · simp only [decide_eq_true_eq] at h6; omega
    constructor
    · split at h6
      · simp only [Bool.and_eq_true, decide_eq_true_eq] at h6; exact h6.2
      · simp only [decide_eq_true_eq] at h6; omega
    · split at h7
      · simp only [Bool.and_eq_true, decide_eq_true_eq] at h7; exact h7
      · simp only [decide_eq_true_eq] at h7; omega
  unfold instrOk at h5
  refine ⟨h3, ?_⟩
  split at h5
  · exact key _ _ h5
  · split at h5
    · exact key _ _ h5
    · split at h5
      · cases h5
      · exact key _ _ h5
theorem boxes4_below (w : World) (o1 o2 o3 o4 : Obj) : Below w.heap.size w ((((w.alloc o1).alloc o2).alloc o3).alloc o4) ∧ ((((w.alloc o1).alloc o2).alloc o3).alloc o4).heap[w.heap.size]? = some o1 ∧ ((((w.alloc o1).alloc o2).alloc o3).alloc o4).heap[w.heap.size + 1]? = some o2 ∧
    ((((w.alloc o1).alloc o2).alloc o3).alloc o4).heap[w.heap.size + 2]? = some o3 ∧ ((((w.alloc o1).alloc o2).alloc o3).alloc o4).heap[w.heap.size + 3]? = some o4 ∧ ((((w.alloc o1).alloc o2).alloc o3).alloc o4).heap.size = w.heap.size + 4 := by
  refine ⟨(boxes3_below w o1 o2 o3).alloc (by simp; omega) o4, (Below.heap_alloc _ _ _ (by simp; omega)).trans (boxes3_first w o1 o2 o3), (Below.heap_alloc _ _ _ (by simp; try omega)).trans (boxes3_second w o1 o2 o3), (Below.heap_alloc _ _ _ (by simp; try omega)).trans (boxes3_third w o1 o2 o3), ?_, by simp⟩
  have := heap_alloc_new (((w.alloc o1).alloc o2).alloc o3) o4
  simpa using this
/-- Cells that are written one behind the other. -/
def setAll (X : World) (g : Nat) : Nat → List Value → World
  | _, [] => X
  | j, u :: l => setAll (X.setCell ⟨g, j, none⟩ u) g (j + 1) l
theorem setAll_since {g : Nat} (l : List Value) : ∀ (X : World) (j : Nat), Since (fun k => k = g) X (setAll X g j l) := by
  induction l with
  | nil => intro X j; exact Since.refl _ _
  | cons u l ih =>
    intro X j
    exact (Since.setCell (F := fun k => k = g) (p := ⟨g, j, none⟩) (Since.refl _ X) (.inl rfl) u).trans (ih _ _) (fun _ h => .inl h)
theorem setAll_block {g : Nat} {t : TypeId} {f : Nat × Nat} (l : List Value) : ∀ (X : World) (pre post : List Value), post.length = l.length → X.heap[g]? = some (.cells (pre ++ post).toArray t f) → (setAll X g pre.length l).heap[g]? = some (.cells (pre ++ l).toArray t f) := by
  induction l with
  | nil =>
    intro X pre post hl h
    obtain rfl : post = [] := List.eq_nil_of_length_eq_zero hl
    exact h
  | cons u l ih =>
    intro X pre post hl h
    cases post with
    | nil => simp at hl
    | cons v post =>
      have h2 := set_of_block h pre.length u
      have h3 : ((pre ++ v :: post).toArray).setIfInBounds pre.length u = ((pre ++ [u]) ++ post).toArray := by
        rw [List.setIfInBounds_toArray, List.set_append_right _ _ (Nat.le_refl _)]
        simp
      rw [h3] at h2
      have := ih _ (pre ++ [u]) post (by simpa using hl) h2
      simpa [setAll] using this
theorem setAll_new {g : Nat} {t : TypeId} {f : Nat × Nat} {X : World} {cs : List Value} (l : List Value) (hl : cs.length = l.length) (h : X.heap[g]? = some (.cells cs.toArray t f)) : (setAll X g 0 l).heap[g]? = some (.cells l.toArray t f) := setAll_block l X [] cs hl h
end Go.Proofs.Ytnlkbboghcdpnaa
