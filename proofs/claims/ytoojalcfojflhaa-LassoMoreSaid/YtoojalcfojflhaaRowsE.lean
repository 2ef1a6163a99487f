/- Edges that are built, node by node: how they lie in memory. -/
import Derived.Test.YtoojalcfojflhaaAwakeL
namespace Go.Proofs.Ytoojalcfojflhaa
open Go.RowKit

def edgesV (l : List EdgeD) : List Value := l.flatMap EdgeD.cells
theorem edgesV_len (l : List EdgeD) : (edgesV l).length = l.length * 2 := by
  induction l with
  | nil => rfl
  | cons p l ih => simp only [edgesV, List.flatMap_cons, List.length_append, List.length_cons] at ih ⊢; rw [ih]; simp [EdgeD.cells]; omega
theorem edgesV_append (l r : List EdgeD) : edgesV (l ++ r) = edgesV l ++ edgesV r := by simp [edgesV]
theorem edgesV_at {l : List EdgeD} : ∀ {j i : Nat}, j < l.length → i < 2 → (edgesV l)[j * 2 + i]? = (l.getD j default).cells[i]? := by
  induction l with
  | nil => intro j i hj; simp at hj
  | cons p l ih =>
    intro j i hj hi
    cases j with
    | zero =>
      match i, hi with
      | 0, _ => rfl
      | 1, _ => rfl
      | i + 2, h => exact absurd h (by omega)
    | succ j =>
      have := ih (j := j) (i := i) (by simpa using hj) hi
      rw [show (j + 1) * 2 + i = (j * 2 + i) + 1 + 1 by omega]
      simp only [edgesV, List.flatMap_cons, EdgeD.cells, List.cons_append, List.nil_append, List.getElem?_cons_succ, List.getD_cons_succ] at this ⊢
      exact this
theorem edge_info : (Try.prog.info? 37).map (fun i => (i.zero, i.size, i.bytes)) = some (some (.agg #[.int .i64 0, .int .i64 0]), 2, 16) := by kernel_rfl
theorem edges_of_row {w : World} {B : Nat} {v : Value} {l : List EdgeD} (h : w.ownsRow B 37 2 v l.length (edgesV l)) : EdgeLAt w v l := by
  obtain ⟨a, cap, rfl, h1, h2⟩ := row_slice h
  unfold maxLen at h2
  refine ⟨a, cap, rfl, by omega, fun j hj => ?_⟩
  obtain ⟨g, cap', he, -, -⟩ := row_some h (by omega)
  cases he
  refine ⟨g, 0, rfl, (h.lt g rfl).2, fun i hi => ?_⟩
  rw [show 0 + j * 2 + i = j * 2 + i by omega]
  have := World.ownsRow.cellAt h (j * 2 + i) (by omega)
  rw [this, edgesV_at hj hi]
structure RowsAt (w : World) (B eb n : Nat) (cs : Nat → Value) (f : Nat → List EdgeD) : Prop where
  block : w.heap[eb]? = some (.cells ((List.range n).map cs).toArray 29 (0, 0))
  row : ∀ j, j < n → w.ownsRow B 37 2 (cs j) (f j).length (edgesV (f j))
  ne : ∀ j, j < n → ∀ y, (cs j).ownBlock = some y → y ≠ eb
  dis : ∀ j k, j < n → k < n → j ≠ k → ∀ y, (cs j).ownBlock = some y → (cs k).ownBlock ≠ some y
  base_le : B ≤ w.heap.size
theorem RowsAt.cell {w : World} {B eb n : Nat} {cs : Nat → Value} {f : Nat → List EdgeD} (h : RowsAt w B eb n cs f) {j : Nat} (hj : j < n) : w.cell? ⟨eb, j, none⟩ = some (cs j) := by
  rw [cell_of_block h.block]; simp [hj]
theorem RowsAt.since {F : Nat → Prop} {w w' : World} {B eb n : Nat} {cs : Nat → Value} {f : Nat → List EdgeD} (h : RowsAt w B eb n cs f) (hs : Since F w w') (h1 : ¬ F eb) (h2 : ∀ j, j < n → ∀ y, (cs j).ownBlock = some y → ¬ F y) : RowsAt w' B eb n cs f :=
  ⟨(hs.block _ (lt_of_block h.block) h1).trans h.block, fun j hj => hs.row (h.row j hj) (h2 j hj), h.ne, h.dis, Nat.le_trans h.base_le hs.size⟩
theorem RowsAt.below {w w' : World} {B eb n : Nat} {cs : Nat → Value} {f : Nat → List EdgeD} (h : RowsAt w B eb n cs f) (hb : Below w.heap.size w w') : RowsAt w' B eb n cs f :=
  ⟨(hb.block _ (lt_of_block h.block)).trans h.block, fun j hj => row_below (h.row j hj) hb, h.ne, h.dis, Nat.le_trans h.base_le hb.size⟩
theorem range_set {n i : Nat} {cs : Nat → Value} {v : Value} : (((List.range n).map cs).toArray).setIfInBounds i v = ((List.range n).map (upd cs i v)).toArray := by
  apply Array.ext_getElem?
  intro j
  rw [Array.getElem?_setIfInBounds]
  by_cases e : i = j
  · subst e
    by_cases h : i < n
    · simp [h, upd]
    · simp [h]
  · rw [if_neg e]
    by_cases h : j < n
    · have e2 : ¬ j = i := fun e' => e e'.symm
      simp [h, upd, e2]
    · simp [h]
/-- A node's list is another. -/
theorem RowsAt.set {w w' : World} {B eb n i : Nat} {cs : Nat → Value} {f : Nat → List EdgeD} (h : RowsAt w B eb n cs f) (hi : i < n) {v : Value} {l : List EdgeD} (hs : Since (fun y => (cs i).ownBlock = some y) w w') (hv : w'.ownsRow B 37 2 v l.length (edgesV l))
    (hl : ∀ y, v.ownBlock = some y → (cs i).ownBlock = some y ∨ w.heap.size ≤ y) : RowsAt (w'.setCell ⟨eb, i, none⟩ v) B eb n (upd cs i v) (upd f i l) := by
  have hS : Since (fun y => y = eb) w' (w'.setCell ⟨eb, i, none⟩ v) := Since.setCell (F := fun y => y = eb) (p := ⟨eb, i, none⟩) (Since.refl _ w') (.inl rfl) v
  have hbl := (hs.block eb (lt_of_block h.block) (fun e => h.ne i hi eb e rfl)).trans h.block
  have hvn : ∀ y, v.ownBlock = some y → y ≠ eb := fun y hy e => by
    rcases hl y hy with e' | e'
    · exact h.ne i hi y e' e
    · have := lt_of_block h.block; omega
  have hvd : ∀ j, j < n → j ≠ i → ∀ y, v.ownBlock = some y → (cs j).ownBlock ≠ some y := fun j hj hji y hy e => by
    rcases hl y hy with e' | e'
    · exact h.dis i j hi hj (fun e => hji e.symm) y e' e
    · have := ((h.row j hj).lt y e).2; omega
  refine ⟨?_, fun j hj => ?_, fun j hj y hy => ?_, fun j k hj hk hjk y hy => ?_, Nat.le_trans h.base_le (Nat.le_trans hs.size hS.size)⟩
  · rw [set_of_block hbl, range_set]
  · by_cases e : j = i
    · subst e
      rw [upd_same, upd_same]
      exact hS.row hv (fun y hy => hvn y hy)
    · rw [upd_other _ _ _ _ e, upd_other _ _ _ _ e]
      exact hS.row (hs.row (h.row j hj) (fun y hy e' => h.dis j i hj hi e y hy e')) (fun y hy => h.ne j hj y hy)
  · by_cases e : j = i
    · subst e; rw [upd_same] at hy; exact hvn y hy
    · rw [upd_other _ _ _ _ e] at hy; exact h.ne j hj y hy
  · by_cases e : j = i
    · subst e
      rw [upd_same] at hy
      rw [upd_other _ _ _ _ (fun e => hjk e.symm)]
      exact hvd k hk (fun e => hjk e.symm) y hy
    · rw [upd_other _ _ _ _ e] at hy
      by_cases e2 : k = i
      · subst e2
        rw [upd_same]
        exact fun e3 => hvd j hj e y e3 hy
      · rw [upd_other _ _ _ _ e2]; exact h.dis j k hj hk hjk y hy
theorem RowsAt.edges {w : World} {B eb n : Nat} {cs : Nat → Value} {f : Nat → List EdgeD} (h : RowsAt w B eb n cs f) (hn : n ≤ 9223372036854775807) : EdgesAt w (.slice (some ⟨eb, 0, none⟩) n n) ((List.range n).map f) := by
  refine ⟨some ⟨eb, 0, none⟩, n, by simp, by simpa using hn, fun j hj => ?_⟩
  have hj' : j < n := by simpa using hj
  refine ⟨eb, 0, cs j, rfl, lt_of_block h.block, by rw [Nat.zero_add]; exact h.cell hj', ?_⟩
  rw [show ((List.range n).map f).getD j [] = f j by simp [List.getD_eq_getElem?_getD, hj']]
  exact edges_of_row (h.row j hj')
/-- A new list of one edge. -/
theorem one_edge {w : World} {B : Nat} (hB : B ≤ w.heap.size) (e : EdgeD) : (w.alloc (.cells #[.int .i64 e.to, .int .i64 e.marks] 37)).ownsRow B 37 2 (.slice (some ⟨w.heap.size, 0, none⟩) 1 1) 1 (edgesV [e]) :=
  ⟨rfl, .inr ⟨w.heap.size, 1, _, rfl, hB, heap_alloc_new w _, Nat.le_refl _, by decide, rfl, rfl⟩⟩
end Go.Proofs.Ytoojalcfojflhaa
