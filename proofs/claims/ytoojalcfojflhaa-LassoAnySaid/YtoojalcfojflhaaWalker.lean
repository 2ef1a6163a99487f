/- The walker in memory. -/
import Derived.Test.YtoojalcfojflhaaWays
import Derived.Test.YtoojalcfojflhaaGRight
namespace Go.Proofs.Ytoojalcfojflhaa
open Go.RowKit

def intsA (n : Nat) (f : Nat → Int) : Array Value := ((List.range n).map (fun i => Value.int .i64 (f i))).toArray
theorem intsA_get {n : Nat} {f : Nat → Int} {i : Nat} (h : i < n) : (intsA n f)[i]? = some (.int .i64 (f i)) := by simp [intsA, h]
theorem intsA_set {n : Nat} {f : Nat → Int} {i : Nat} {v : Int} : (intsA n f).setIfInBounds i (.int .i64 v) = intsA n (upd f i v) := by
  apply Array.ext_getElem?
  intro j
  rw [Array.getElem?_setIfInBounds]
  by_cases e : i = j
  · subst e
    by_cases h : i < n
    · simp [intsA, h, upd]
    · simp [intsA, h]
  · rw [if_neg e]
    by_cases h : j < n
    · have e2 : ¬ j = i := fun e' => e e'.symm
      simp [intsA, h, upd, e2]
    · simp [intsA, h]
theorem cast_upd (f : Nat → Nat) (i v : Nat) : (fun j => ((upd f i v j : Nat) : Int)) = upd (fun j => (f j : Int)) i (v : Int) := by
  funext j; unfold upd; split <;> rfl
def natsV (l : List Nat) : List Value := l.map fun n : Nat => Value.int .i64 (n : Int)
theorem natsV_snoc (l : List Nat) (i : Nat) : natsV (l ++ [i]) = natsV l ++ [.int .i64 (i : Int)] := by simp [natsV]
theorem natsV_len (l : List Nat) : (natsV l).length = l.length := by simp [natsV]

/-- The walker's numbers. -/
structure Wk where
  b : Nat
  ob : Nat
  lb : Nat
  gb : Nat
  nb : Nat
  N : Nat
  ea : Option Addr
  ec : Nat
  iv : Value
  m : Int
def Wk.own (k : Wk) : List Nat := [k.b, k.ob, k.lb, k.gb, k.nb]
structure WalkV (w : World) (B : Nat) (k : Wk) (oa : Option Addr) (oc : Nat) (pa : Option Addr) (pc : Nat) (s : TS) : Prop where
  block : w.heap[k.b]? = some (.cells #[.slice k.ea k.N k.ec, k.iv, .int .i64 k.m, .slice (some ⟨k.ob, 0, none⟩) k.N k.N, .slice (some ⟨k.lb, 0, none⟩) k.N k.N, .slice (some ⟨k.gb, 0, none⟩) k.N k.N, .slice oa s.openL.length oc, .slice pa s.path.length pc, .slice (some ⟨k.nb, 0, none⟩) k.N k.N, .int .i64 s.many] 73 (0, 0))
  order : w.heap[k.ob]? = some (.cells (intsA k.N fun i => s.order i) 3 (0, 0))
  low : w.heap[k.lb]? = some (.cells (intsA k.N fun i => s.low i) 3 (0, 0))
  group : w.heap[k.gb]? = some (.cells (intsA k.N s.group) 3 (0, 0))
  next : w.heap[k.nb]? = some (.cells (intsA k.N fun i => s.next i) 3 (0, 0))
  orow : w.ownsRow B 3 1 (.slice oa s.openL.length oc) s.openL.length (natsV s.openL)
  prow : w.ownsRow B 3 1 (.slice pa s.path.length pc) s.path.length (natsV s.path)
  nodup : k.own.Nodup
  base : ∀ x ∈ k.own, B ≤ x
  on : ∀ x, (Value.slice oa s.openL.length oc).ownBlock = some x → x ∉ k.own
  pn : ∀ x, (Value.slice pa s.path.length pc).ownBlock = some x → x ∉ k.own
  op : ∀ x, (Value.slice oa s.openL.length oc).ownBlock = some x → (Value.slice pa s.path.length pc).ownBlock ≠ some x
def WalkAt (w : World) (B : Nat) (k : Wk) (s : TS) : Prop := ∃ oa oc pa pc, WalkV w B k oa oc pa pc s
theorem WalkV.b_lt {w B k oa oc pa pc s} (h : WalkV w B k oa oc pa pc s) : k.b < w.heap.size := lt_of_block h.block
theorem WalkV.ne {w B k oa oc pa pc s} (h : WalkV w B k oa oc pa pc s) : k.b ≠ k.ob ∧ k.b ≠ k.lb ∧ k.b ≠ k.gb ∧ k.b ≠ k.nb ∧ k.ob ≠ k.lb ∧ k.ob ≠ k.gb ∧ k.ob ≠ k.nb ∧ k.lb ≠ k.gb ∧ k.lb ≠ k.nb ∧ k.gb ≠ k.nb := by
  have h1 := h.nodup
  unfold Wk.own at h1
  simp only [List.nodup_cons, List.mem_cons, List.not_mem_nil, not_or, or_false] at h1
  exact ⟨h1.1.1, h1.1.2.1, h1.1.2.2.1, h1.1.2.2.2, h1.2.1.1, h1.2.1.2.1, h1.2.1.2.2, h1.2.2.1.1, h1.2.2.1.2, h1.2.2.2.1⟩
theorem WalkV.own_lt {w B k oa oc pa pc s} (h : WalkV w B k oa oc pa pc s) : ∀ x ∈ k.own, x < w.heap.size := by
  intro x hx
  unfold Wk.own at hx
  simp only [List.mem_cons, List.not_mem_nil, or_false] at hx
  rcases hx with rfl | rfl | rfl | rfl | rfl
  · exact lt_of_block h.block
  · exact lt_of_block h.order
  · exact lt_of_block h.low
  · exact lt_of_block h.group
  · exact lt_of_block h.next
/-- The cells of the walker's own block. -/
theorem WalkV.cells {w B k oa oc pa pc s} (h : WalkV w B k oa oc pa pc s) :
    w.cell? ⟨k.b, 0, none⟩ = some (.slice k.ea k.N k.ec) ∧ w.cell? ⟨k.b, 3, none⟩ = some (.slice (some ⟨k.ob, 0, none⟩) k.N k.N) ∧ w.cell? ⟨k.b, 4, none⟩ = some (.slice (some ⟨k.lb, 0, none⟩) k.N k.N) ∧ w.cell? ⟨k.b, 5, none⟩ = some (.slice (some ⟨k.gb, 0, none⟩) k.N k.N) ∧
      w.cell? ⟨k.b, 6, none⟩ = some (.slice oa s.openL.length oc) ∧ w.cell? ⟨k.b, 7, none⟩ = some (.slice pa s.path.length pc) ∧ w.cell? ⟨k.b, 8, none⟩ = some (.slice (some ⟨k.nb, 0, none⟩) k.N k.N) ∧ w.cell? ⟨k.b, 9, none⟩ = some (.int .i64 s.many) := by
  have c := fun j => cell_of_block h.block j
  exact ⟨c 0, c 3, c 4, c 5, c 6, c 7, c 8, c 9⟩
theorem WalkV.orderAt {w B k oa oc pa pc s} (h : WalkV w B k oa oc pa pc s) {i : Nat} (hi : i < k.N) : w.cell? ⟨k.ob, i, none⟩ = some (.int .i64 (s.order i)) := by rw [cell_of_block h.order, intsA_get hi]
theorem WalkV.lowAt {w B k oa oc pa pc s} (h : WalkV w B k oa oc pa pc s) {i : Nat} (hi : i < k.N) : w.cell? ⟨k.lb, i, none⟩ = some (.int .i64 (s.low i)) := by rw [cell_of_block h.low, intsA_get hi]
theorem WalkV.groupAt {w B k oa oc pa pc s} (h : WalkV w B k oa oc pa pc s) {i : Nat} (hi : i < k.N) : w.cell? ⟨k.gb, i, none⟩ = some (.int .i64 (s.group i)) := by rw [cell_of_block h.group, intsA_get hi]
theorem WalkV.nextAt {w B k oa oc pa pc s} (h : WalkV w B k oa oc pa pc s) {i : Nat} (hi : i < k.N) : w.cell? ⟨k.nb, i, none⟩ = some (.int .i64 (s.next i)) := by rw [cell_of_block h.next, intsA_get hi]
theorem natsV_at {l : List Nat} {j x : Nat} (h : l[j]? = some x) : (natsV l)[j]? = some (.int .i64 (x : Int)) := by simp [natsV, h]
theorem WalkV.openAt {w B k oa oc pa pc s} (h : WalkV w B k oa oc pa pc s) {j x : Nat} (hj : s.openL[j]? = some x) : ∃ g, oa = some ⟨g, 0, none⟩ ∧ w.cell? ⟨g, j, none⟩ = some (.int .i64 (x : Int)) := by
  have hl : j < s.openL.length := (List.getElem?_eq_some_iff.1 hj).1
  obtain ⟨g, cap, he, -, -⟩ := row_some h.orow (by omega)
  cases he
  exact ⟨g, rfl, by rw [h.orow.cellAt j (by omega)]; exact natsV_at hj⟩
theorem WalkV.pathAt {w B k oa oc pa pc s} (h : WalkV w B k oa oc pa pc s) {j x : Nat} (hj : s.path[j]? = some x) : ∃ g, pa = some ⟨g, 0, none⟩ ∧ w.cell? ⟨g, j, none⟩ = some (.int .i64 (x : Int)) := by
  have hl : j < s.path.length := (List.getElem?_eq_some_iff.1 hj).1
  obtain ⟨g, cap, he, -, -⟩ := row_some h.prow (by omega)
  cases he
  exact ⟨g, rfl, by rw [h.prow.cellAt j (by omega)]; exact natsV_at hj⟩
/-- What else is turned makes no difference. -/
theorem WalkV.since {w w' : World} {F : Nat → Prop} {B k oa oc pa pc s} (h : WalkV w B k oa oc pa pc s) (hs : Since F w w') (h1 : ∀ x ∈ k.own, ¬ F x) (h2 : ∀ x, (Value.slice oa s.openL.length oc).ownBlock = some x → ¬ F x) (h3 : ∀ x, (Value.slice pa s.path.length pc).ownBlock = some x → ¬ F x) : WalkV w' B k oa oc pa pc s := by
  have hb : ∀ {x o}, x ∈ k.own → w.heap[x]? = some o → w'.heap[x]? = some o := fun hx ho => (hs.block _ (lt_of_block ho) (h1 _ hx)).trans ho
  exact ⟨hb (by simp [Wk.own]) h.block, hb (by simp [Wk.own]) h.order, hb (by simp [Wk.own]) h.low, hb (by simp [Wk.own]) h.group, hb (by simp [Wk.own]) h.next, hs.row h.orow h2, hs.row h.prow h3, h.nodup, h.base, h.on, h.pn, h.op⟩
theorem WalkV.below {w w' : World} {B k oa oc pa pc s} (h : WalkV w B k oa oc pa pc s) (hb : Below w.heap.size w w') : WalkV w' B k oa oc pa pc s :=
  h.since (Since.of_below hb) (fun x hx => by have := h.own_lt x hx; omega) (fun x hx => by have := (h.orow.lt x hx).2; omega) (fun x hx => by have := (h.prow.lt x hx).2; omega)
/-- One cell of the walker's block, or of its lists, is turned. -/
theorem kept_set {w : World} {p : Addr} {u : Value} : ∀ x o, x ≠ p.block → w.heap[x]? = some o → (w.setCell p u).heap[x]? = some o := fun x _ hn ho => (Below.heap_setCell w p u x hn).trans ho
theorem WalkV.rows {w : World} {B k oa oc pa pc s} (h : WalkV w B k oa oc pa pc s) {p : Addr} {u : Value} (hp : p.block ∈ k.own) :
    (w.setCell p u).ownsRow B 3 1 (.slice oa s.openL.length oc) s.openL.length (natsV s.openL) ∧ (w.setCell p u).ownsRow B 3 1 (.slice pa s.path.length pc) s.path.length (natsV s.path) := by
  have hs : Since (fun x => x = p.block) w (w.setCell p u) := Since.setCell (F := fun x => x = p.block) (Since.refl _ w) (.inl rfl) u
  exact ⟨hs.row h.orow (fun x hx e => h.on x hx (e ▸ hp)), hs.row h.prow (fun x hx e => h.pn x hx (e ▸ hp))⟩
theorem WalkV.setMany {w : World} {B k oa oc pa pc s} (h : WalkV w B k oa oc pa pc s) (v : Nat) : WalkV (w.setCell ⟨k.b, 9, none⟩ (.int .i64 v)) B k oa oc pa pc { s with many := v } := by
  obtain ⟨n1, n2, n3, n4, -⟩ := h.ne
  obtain ⟨r1, r2⟩ := h.rows (p := ⟨k.b, 9, none⟩) (u := .int .i64 v) (by simp [Wk.own])
  have hs := kept_set (w := w) (p := ⟨k.b, 9, none⟩) (u := .int .i64 v)
  exact ⟨by rw [set_of_block h.block]; simp, hs _ _ n1.symm h.order, hs _ _ n2.symm h.low, hs _ _ n3.symm h.group, hs _ _ n4.symm h.next, r1, r2, h.nodup, h.base, h.on, h.pn, h.op⟩
theorem WalkV.setOrder {w : World} {B k oa oc pa pc s} (h : WalkV w B k oa oc pa pc s) (i v : Nat) : WalkV (w.setCell ⟨k.ob, i, none⟩ (.int .i64 v)) B k oa oc pa pc { s with order := upd s.order i v } := by
  obtain ⟨n1, n2, n3, n4, n5, n6, n7, n8, n9, n10⟩ := h.ne
  obtain ⟨r1, r2⟩ := h.rows (p := ⟨k.ob, i, none⟩) (u := .int .i64 v) (by simp [Wk.own])
  have hs := kept_set (w := w) (p := ⟨k.ob, i, none⟩) (u := .int .i64 v)
  exact ⟨hs _ _ n1 h.block, by rw [set_of_block h.order, intsA_set]; simp only [cast_upd], hs _ _ n5.symm h.low, hs _ _ n6.symm h.group, hs _ _ n7.symm h.next, r1, r2, h.nodup, h.base, h.on, h.pn, h.op⟩
theorem WalkV.setLow {w : World} {B k oa oc pa pc s} (h : WalkV w B k oa oc pa pc s) (i v : Nat) : WalkV (w.setCell ⟨k.lb, i, none⟩ (.int .i64 v)) B k oa oc pa pc { s with low := upd s.low i v } := by
  obtain ⟨n1, n2, n3, n4, n5, n6, n7, n8, n9, n10⟩ := h.ne
  obtain ⟨r1, r2⟩ := h.rows (p := ⟨k.lb, i, none⟩) (u := .int .i64 v) (by simp [Wk.own])
  have hs := kept_set (w := w) (p := ⟨k.lb, i, none⟩) (u := .int .i64 v)
  exact ⟨hs _ _ n2 h.block, hs _ _ n5 h.order, by rw [set_of_block h.low, intsA_set]; simp only [cast_upd], hs _ _ n8.symm h.group, hs _ _ n9.symm h.next, r1, r2, h.nodup, h.base, h.on, h.pn, h.op⟩
theorem WalkV.setGroup {w : World} {B k oa oc pa pc s} (h : WalkV w B k oa oc pa pc s) (i : Nat) (v : Int) : WalkV (w.setCell ⟨k.gb, i, none⟩ (.int .i64 v)) B k oa oc pa pc { s with group := upd s.group i v } := by
  obtain ⟨n1, n2, n3, n4, n5, n6, n7, n8, n9, n10⟩ := h.ne
  obtain ⟨r1, r2⟩ := h.rows (p := ⟨k.gb, i, none⟩) (u := .int .i64 v) (by simp [Wk.own])
  have hs := kept_set (w := w) (p := ⟨k.gb, i, none⟩) (u := .int .i64 v)
  exact ⟨hs _ _ n3 h.block, hs _ _ n6 h.order, hs _ _ n8 h.low, by rw [set_of_block h.group, intsA_set], hs _ _ n10.symm h.next, r1, r2, h.nodup, h.base, h.on, h.pn, h.op⟩
theorem WalkV.setNext {w : World} {B k oa oc pa pc s} (h : WalkV w B k oa oc pa pc s) (i v : Nat) : WalkV (w.setCell ⟨k.nb, i, none⟩ (.int .i64 v)) B k oa oc pa pc { s with next := upd s.next i v } := by
  obtain ⟨n1, n2, n3, n4, n5, n6, n7, n8, n9, n10⟩ := h.ne
  obtain ⟨r1, r2⟩ := h.rows (p := ⟨k.nb, i, none⟩) (u := .int .i64 v) (by simp [Wk.own])
  have hs := kept_set (w := w) (p := ⟨k.nb, i, none⟩) (u := .int .i64 v)
  exact ⟨hs _ _ n4 h.block, hs _ _ n7 h.order, hs _ _ n9 h.low, hs _ _ n10 h.group, by rw [set_of_block h.next, intsA_set]; simp only [cast_upd], r1, r2, h.nodup, h.base, h.on, h.pn, h.op⟩
/-- A row told shorter. -/
theorem row_shorter {w : World} {B : Nat} {e : TypeId} {a : Option Addr} {n cap m : Nat} {xs : List Value} (h : w.ownsRow B e 1 (.slice a n cap) n xs) (hm : m ≤ n) (ha : a ≠ none) : w.ownsRow B e 1 (.slice a m cap) m (xs.take m) := by
  rcases h.2 with ⟨hn, _⟩ | ⟨g, cap', cur, he, hb, hg, h1, h2, h3, h4⟩
  · exact absurd (Value.slice.inj hn).1 ha
  · cases he
    refine ⟨by rw [List.length_take, h.1]; simp; omega, .inr ⟨g, cap, cur, rfl, hb, hg, by omega, h2, h3, ?_⟩⟩
    rw [← h4, List.take_take]
    congr 1
    omega
end Go.Proofs.Ytoojalcfojflhaa
