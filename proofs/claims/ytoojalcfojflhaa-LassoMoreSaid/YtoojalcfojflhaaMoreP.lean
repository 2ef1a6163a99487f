/- With an edge, or a node of Initial, more; appends of nothing; a row that grows beside a graph that is made: plain laws. -/
import Derived.Test.YtoojalcfojflhaaTold
import Derived.Test.YtoojalcfojflhaaMadeL
import Derived.Test.YtoojalcfojflhaaTwo
namespace Go.Proofs.Ytoojalcfojflhaa
open Go.RowKit

theorem Reach.mono_ {s1 s2 : Nat → List Nat} (h : ∀ a, ∀ k ∈ s1 a, k ∈ s2 a) {a b : Nat} (hr : Reach s1 a b) : Reach s2 a b :=
  hr.stays (C := fun v => Reach s2 a v) (fun v hv k hk => hv.trans (.edge (h v k hk))) (.refl a)
/-- More edges, more nodes to begin with, fewer marks. -/
theorem HasL.more {g h : GraphD} (hi : ∀ x ∈ g.initial, x ∈ h.initial) (he : ∀ a k, g.has a k → h.has a k ∧ h.toOf a k = g.toOf a k ∧ h.markOf a k = g.markOf a k) (hm : h.marks.toNat ≤ g.marks.toNat) (hl : HasL g) : HasL h := by
  have hs : ∀ a, ∀ k ∈ g.succ a, k ∈ h.succ a := fun a k hk => by
    obtain ⟨q, hq, rfl⟩ := g.succ_has hk
    obtain ⟨h1, h2, -⟩ := he a q hq
    rw [← h2]; exact h.has_succ h1
  have hc : ∀ i a k, Circ g i a k → Circ h i a k := fun i a k ⟨h1, h2, h3, h4, h5⟩ => by
    obtain ⟨e1, e2, -⟩ := he a k h1
    exact ⟨e1, Reach.mono_ hs h2, Reach.mono_ hs h3, by rw [e2]; exact Reach.mono_ hs h4, by rw [e2]; exact Reach.mono_ hs h5⟩
  obtain ⟨i, x0, h1, h2, ⟨a, k, h3⟩, h4⟩ := hl
  refine ⟨i, x0, hi _ h1, Reach.mono_ hs h2, ⟨a, k, hc i a k h3⟩, fun b hb => ?_⟩
  obtain ⟨a', k', h5, h6⟩ := h4 b (by omega)
  exact ⟨a', k', hc i a' k' h5, by rw [(he a' k' h5.1).2.2]; exact h6⟩
/-- The edges of a node with one more at one node. -/
def moreE (g : GraphD) (a : Nat) (e : EdgeD) (j : Nat) : List EdgeD := if j = a then g.edges.getD j [] ++ [e] else g.edges.getD j []
/-- A graph with an edge and a node of Initial more. -/
def moreG (g : GraphD) (a t : Nat) (e : EdgeD) : GraphD := ⟨(List.range g.edges.length).map (moreE g a e), g.initial ++ [(t : Int)], g.marks⟩
theorem moreG_at (g : GraphD) (a t : Nat) (e : EdgeD) (j : Nat) (hj : j < g.edges.length) : (moreG g a t e).edges.getD j [] = moreE g a e j := by
  simp [moreG, List.getD_eq_getElem?_getD, hj]
theorem moreG_len (g : GraphD) (a t : Nat) (e : EdgeD) : (moreG g a t e).edges.length = g.edges.length := by simp [moreG]
theorem moreG_old {g : GraphD} {a t : Nat} {e : EdgeD} (j k : Nat) (h : g.has j k) : (moreG g a t e).has j k ∧ (moreG g a t e).toOf j k = g.toOf j k ∧ (moreG g a t e).markOf j k = g.markOf j k := by
  have hj := g.has_lt h
  unfold GraphD.has at h
  have hk : ∀ r : List EdgeD, (g.edges.getD j [] ++ r).getD k default = (g.edges.getD j []).getD k default := fun r => by
    rw [List.getD_eq_getElem?_getD (l := g.edges.getD j [] ++ r), List.getElem?_append_left h, ← List.getD_eq_getElem?_getD]
  unfold GraphD.has GraphD.toOf GraphD.markOf
  rw [moreG_at g a t e j hj]
  unfold moreE
  split
  · rw [hk]; exact ⟨by simp only [List.length_append]; omega, rfl, rfl⟩
  · exact ⟨h, rfl, rfl⟩
theorem moreG_hasL {g : GraphD} {a t : Nat} {e : EdgeD} (h : HasL g) : HasL (moreG g a t e) :=
  h.more (fun _ hx => List.mem_append_left _ hx) (fun j k hk => moreG_old j k hk) (Nat.le_refl _)
theorem moreE_in {g : GraphD} (hm : MadeG g) {a : Nat} {e : EdgeD} (he : 0 ≤ e.to ∧ e.to < (g.edges.length : Int) ∧ 0 ≤ e.marks ∧ e.marks ≤ 255) (j : Nat) : ∀ x ∈ moreE g a e j, 0 ≤ x.to ∧ x.to < (g.edges.length : Int) ∧ 0 ≤ x.marks ∧ x.marks ≤ 255 := by
  intro x hx
  have h0 : ∀ x ∈ g.edges.getD j [], 0 ≤ x.to ∧ x.to < (g.edges.length : Int) ∧ 0 ≤ x.marks ∧ x.marks ≤ 255 := fun x hx => by have := hm.ends j x hx; omega
  unfold moreE at hx
  split at hx
  · rcases List.mem_append.1 hx with h | h
    · exact h0 x h
    · simp at h; subst h; exact he
  · exact h0 x hx
theorem moreG_right {g : GraphD} (hm : MadeG g) {a t : Nat} (ht : t < g.edges.length) {e : EdgeD} (he : 0 ≤ e.to ∧ e.to < (g.edges.length : Int) ∧ 0 ≤ e.marks ∧ e.marks ≤ 255) : (moreG g a t e).right = true := by
  unfold GraphD.right GraphD.node
  rw [moreG_len]
  have h1 : (moreG g a t e).edges.all (fun l => l.all (fun e => decide (0 ≤ e.to ∧ e.to < (g.edges.length : Int)))) = true := by
    rw [List.all_eq_true]
    intro l hl
    obtain ⟨j, hj, rfl⟩ := List.mem_map.1 hl
    rw [List.all_eq_true]
    intro x hx
    have := moreE_in hm he j x hx
    simp; omega
  have h2 : (moreG g a t e).initial.all (fun i => decide (0 ≤ i ∧ i < (g.edges.length : Int))) = true := by
    rw [List.all_eq_true]
    intro x hx
    rcases List.mem_append.1 hx with h | h
    · simpa using hm.initial x h
    · simp at h; subst h; simp; omega
  have h3 := hm.few
  have h4 := hm.marks
  rw [h1, h2]
  show (decide _ && decide (0 ≤ g.marks) && decide (g.marks ≤ 40) && true && true) = true
  simp; omega
theorem moreG_fits {g : GraphD} (hm : MadeG g) {a t : Nat} {e : EdgeD} (he : 0 ≤ e.to ∧ e.to < (g.edges.length : Int) ∧ 0 ≤ e.marks ∧ e.marks ≤ 255) : (moreG g a t e).fits := by
  intro j k hk
  have hj := GraphD.has_lt hk
  rw [moreG_len] at hj
  unfold GraphD.has at hk
  unfold GraphD.markOf
  rw [moreG_at g a t e j hj] at hk ⊢
  have := moreE_in hm he j ((moreE g a e j).getD k default) (by rw [List.getD_eq_getElem?_getD, List.getElem?_eq_getElem hk]; exact List.getElem_mem hk)
  omega
/-- A graph with a mark more. -/
def markG (g : GraphD) : GraphD := ⟨g.edges, g.initial, g.marks + 1⟩
theorem markG_hasL {g : GraphD} (hm : 0 ≤ g.marks) (h : HasL (markG g)) : HasL g :=
  HasL.more (g := markG g) (h := g) (fun _ hx => hx) (fun _ _ hk => ⟨hk, rfl, rfl⟩) (by show g.marks.toNat ≤ (g.marks + 1).toNat; omega) h
theorem markG_right {g : GraphD} (hm : MadeG g) : (markG g).right = true := by
  have h1 := hm.right
  have h4 := hm.marks
  unfold GraphD.right at h1 ⊢
  unfold GraphD.node at h1 ⊢
  show (decide _ && decide (0 ≤ g.marks + 1) && decide (g.marks + 1 ≤ 40) && g.edges.all _ && g.initial.all _) = true
  simp only [Bool.and_eq_true, decide_eq_true_eq] at h1 ⊢
  exact ⟨⟨⟨⟨h1.1.1.1.1, by omega⟩, by omega⟩, h1.1.2⟩, h1.2⟩
/-- What Find tells of a right graph. -/
theorem FindTold.of {g : GraphD} (hr : g.right = true) {w : World} {e : Ending} {w' : World} (h : FindTold g w e w') :
    ∃ (na fa : Option Addr) (nl nc fl fc : Nat) (bk : Int) (b : Bool), e = .returned (.tuple #[.agg #[.slice na nl nc, .slice fa fl fc, .int .i64 bk], .bool b, .int .i64 0]) ∧ (b = true ↔ HasL g) ∧ Below w.heap.size w w' := by
  obtain ⟨hb, ⟨h1, -⟩ | ⟨-, h2, rfl⟩ | ⟨-, h2, L, nv, fv, rfl, hL, -⟩⟩ := h
  · rw [hr] at h1; cases h1
  · exact ⟨none, none, 0, 0, 0, 0, 0, false, rfl, ⟨fun h => (by cases h), fun h => absurd h h2⟩, hb⟩
  · obtain ⟨na, nc, rfl, -⟩ := hL.nodes.slice
    obtain ⟨fa, fc, rfl, -⟩ := hL.edges.slice
    exact ⟨na, fa, _, nc, _, fc, L.back, true, rfl, ⟨fun _ => h2, fun _ => rfl⟩, hb⟩
/-- Append nothing to nothing. -/
theorem run_append_none {P : Program} (w : World) (t ty e : TypeId) (i : TypeInfo) (ht : P.underlying t = some (.slice e)) (hi : P.info? e = some i) (a : Option Addr) (c : Nat) :
    (Builtin.append_ #[t, t] ty #[.slice none 0 0, .slice a 0 c]).run P w = .ok (.slice none 0 0) w := by
  cases a <;> simp [Builtin.append_, run_underlying ht, sizeOf, typeInfo, hi, Builtin.lenOf, Builtin.firstCells, loadCells, loadCellsFrom]
theorem wpList_append_none {P : Program} (w : World) {ops : Array Oper} {rest : List Oper} {o : Oper} {a : Act} {Q : Exit → Act → World → Prop} (hgd : o.guard = none) (s x : Operand) (t : TypeId)
    (ho : o.op = .call { callee := .builtin .append, args := #[s, x], argTypes := #[t, t] }) (e : TypeId) (i : TypeInfo) (ht : P.underlying t = some (.slice e)) (hi : P.info? e = some i)
    (hs : a.eval s = .slice none 0 0) (ad : Option Addr) (c : Nat) (hx : a.eval x = .slice ad 0 c) (h : wpList P ops Q rest (a.put o.dst (.slice none 0 0)) w) : wpList P ops Q (o :: rest) a w := by
  refine wpList_plain hgd fun _ hK => ?_
  unfold Oper.wp execOp
  simp only [ho, resolve, invoke, builtin, Sem.run_bind, Sem.run_pure, Result.andThen_ok, List.map_toArray, List.map_cons, List.map_nil, hs, hx, run_append_none w t o.type e i ht hi ad c]
  exact hK _ _ h
theorem step_append_none {P : Program} (w : World) {ops : Array Oper} {o : Oper} {a : Act} {K : Act → World → Prop} {Q : Exit → Act → World → Prop} {E : Prop} (hw : Region.wanted o (yielded ops a.tmps) = true) (s x : Operand) (t : TypeId)
    (ho : o.op = .call { callee := .builtin .append, args := #[s, x], argTypes := #[t, t] }) (e : TypeId) (i : TypeInfo) (ht : P.underlying t = some (.slice e)) (hi : P.info? e = some i)
    (hs : a.eval s = .slice none 0 0) (ad : Option Addr) (c : Nat) (hx : a.eval x = .slice ad 0 c) (h : K (a.put o.dst (.slice none 0 0)) w) : if Region.wanted o (yielded ops a.tmps) = true then Oper.wp P o a w K Q else E := by
  rw [if_pos hw]
  unfold Oper.wp execOp
  simp only [ho, resolve, invoke, builtin, Sem.run_bind, Sem.run_pure, Result.andThen_ok, List.map_toArray, List.map_cons, List.map_nil, hs, hx, run_append_none w t o.type e i ht hi ad c]
  exact h
/-- A row of numbers of the statement's own that grows, things of one number, graphs that are made. -/
structure AppG (V X : World) (v : Value) (n : Nat) (xs : List Value) (bs : List (Nat × Value)) (gs : List Nat) : Prop where
  below : Below V.heap.size V X
  row : X.ownsRow V.heap.size 3 1 v n xs
  news : ∀ p ∈ bs, X.heap[p.1]? = some (.cells #[p.2] 3 (0, 0)) ∧ v.ownBlock ≠ some p.1 ∧ V.heap.size ≤ p.1
  made : ∀ b ∈ gs, X.heap[b]? = some (.cells #[.slice none 0 0, .slice none 0 0, .int .i64 0] 25 (0, 0)) ∧ v.ownBlock ≠ some b ∧ V.heap.size ≤ b
section
variable {V X : World} {v : Value} {n : Nat} {xs : List Value} {bs : List (Nat × Value)} {gs : List Nat}
theorem AppG.start (V : World) : AppG V V.drew (.slice none 0 0) 0 [] [] [] := ⟨(Below.refl _ _).drew, World.ownsRow_nil _ _ _ _, by simp, by simp⟩
theorem AppG.alloc (h : AppG V X v n xs bs gs) (u : Value) : AppG V (X.alloc (.cells #[u] 3)) v n xs ((X.heap.size, u) :: bs) gs := by
  refine ⟨h.below.alloc h.below.size _, h.row.alloc _, ?_, fun b hb => ?_⟩
  · intro p hp
    rcases List.mem_cons.1 hp with rfl | hp
    · exact ⟨heap_alloc_new X _, fun e => by have := (h.row.lt _ e).2; simp at this, h.below.size⟩
    · obtain ⟨a, b, c⟩ := h.news p hp
      exact ⟨(Below.heap_alloc _ _ _ (lt_of_block a)).trans a, b, c⟩
  · obtain ⟨a, b', c⟩ := h.made b hb
    exact ⟨(Below.heap_alloc _ _ _ (lt_of_block a)).trans a, b', c⟩
theorem AppG.allocG (h : AppG V X v n xs bs gs) : AppG V (X.alloc (.cells #[.slice none 0 0, .slice none 0 0, .int .i64 0] 25)) v n xs bs (X.heap.size :: gs) := by
  refine ⟨h.below.alloc h.below.size _, h.row.alloc _, fun p hp => ?_, ?_⟩
  · obtain ⟨a, b, c⟩ := h.news p hp
    exact ⟨(Below.heap_alloc _ _ _ (lt_of_block a)).trans a, b, c⟩
  · intro b hb
    rcases List.mem_cons.1 hb with rfl | hb
    · exact ⟨heap_alloc_new X _, fun e => by have := (h.row.lt _ e).2; simp at this, h.below.size⟩
    · obtain ⟨a, b', c⟩ := h.made b hb
      exact ⟨(Below.heap_alloc _ _ _ (lt_of_block a)).trans a, b', c⟩
theorem AppG.app (h : AppG V X v n xs bs gs) {X' : World} {v' : Value} {m : Nat} {xs' : List Value} (ho : X'.ownsRow V.heap.size 3 1 v' m xs') (hs : Since (fun k => v.ownBlock = some k) X X') (hl : ∀ k, v'.ownBlock = some k → v.ownBlock = some k ∨ k = X.heap.size) : AppG V X' v' m xs' bs gs := by
  refine ⟨h.below.trans (hs.below h.below.size (fun k hk => (h.row.lt k hk).1)), ho, fun p hp => ?_, fun b hb => ?_⟩
  · obtain ⟨a, b, c⟩ := h.news p hp
    refine ⟨(hs.block _ (lt_of_block a) b).trans a, fun e => ?_, c⟩
    rcases hl _ e with e' | e'
    · exact b e'
    · have := lt_of_block a; omega
  · obtain ⟨a, b', c⟩ := h.made b hb
    refine ⟨(hs.block _ (lt_of_block a) b').trans a, fun e => ?_, c⟩
    rcases hl _ e with e' | e'
    · exact b' e'
    · have := lt_of_block a; omega
theorem AppG.cell (h : AppG V X v n xs bs gs) {b : Nat} {u : Value} (hb : (b, u) ∈ bs) : ∀ j x, [u][j]? = some x → X.cell? ((⟨b, 0, none⟩ : Addr).add j) = some x := by
  intro j x hj
  cases j with
  | zero =>
    simp only [List.getElem?_cons_zero, Option.some.injEq] at hj
    subst hj
    have := cell_of_block (h.news _ hb).1 0
    simpa [Addr.add] using this
  | succ j => simp at hj
end
end Go.Proofs.Ytoojalcfojflhaa
