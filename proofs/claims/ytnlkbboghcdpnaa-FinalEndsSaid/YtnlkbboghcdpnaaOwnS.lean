/- Stores into a state in memory of its own. -/
import Derived.Test.YtnlkbboghcdpnaaOwnP
namespace Go.Proofs.Ytnlkbboghcdpnaa
open Go.RowKit

theorem own_set {w : World} {B g n cap j size : Nat} {e : TypeId} {xs : List Value} (h : w.ownsRow B e size (.slice (some ⟨g, 0, none⟩) n cap) n xs) (u : Value) : (w.setCell ⟨g, j, none⟩ u).ownsRow B e size (.slice (some ⟨g, 0, none⟩) n cap) n (xs.set j u) := by
  refine ⟨by rw [List.length_set]; exact h.1, ?_⟩
  rcases h.2 with ⟨h1, -⟩ | ⟨g', cap', cur, h1, h2, h3, h4, h5, h6, h7⟩
  · cases h1
  · cases h1
    refine .inr ⟨g, cap, cur.setIfInBounds j u, rfl, h2, set_of_block h3 j u, h4, h5, by rw [Array.size_setIfInBounds]; exact h6, ?_⟩
    rw [Array.toList_setIfInBounds, List.take_set, h7]
theorem row_ptr {w : World} {B : Nat} {e : TypeId} {size : Nat} {v : Value} {n : Nat} {xs : List Value} (h : w.ownsRow B e size v n xs) {j : Nat} {u : Value} (hj : xs[j]? = some u) : ∃ g cap, v = .slice (some ⟨g, 0, none⟩) n cap ∧ B ≤ g ∧ w.cell? ⟨g, j, none⟩ = some u ∧ w.frozen? ⟨g, j, none⟩ = false := by
  have hlt : j < xs.length := by
    rcases Nat.lt_or_ge j xs.length with h' | h'
    · exact h'
    · rw [List.getElem?_eq_none h'] at hj; cases hj
  rcases h.2 with ⟨h1, h2⟩ | ⟨g, cap, cur, h1, h2, h3, h4, h5, h6, h7⟩
  · have := h.1; rw [h2] at this; omega
  · refine ⟨g, cap, h1, h2, ?_, free_of_block h3 j⟩
    rw [cell_of_block h3, ← hj, ← h7, List.getElem?_take_of_lt (by rw [h.1] at hlt; exact hlt)]
    simp
theorem threadsC_set : ∀ {l : List ThreadD} {bs : List Value} {i k : Nat} {t : ThreadD} {b u : Value}, i < l.length → bs.length = l.length → k < 6 → t.cells b = ((l.getD i default).cells (bs.getD i (.slice none 0 0))).set k u →
    threadsC (l.set i t) (bs.set i b) = (threadsC l bs).set (i * 6 + k) u := by
  intro l
  induction l with
  | nil => intro bs i k t b u hi; simp at hi
  | cons x l ih =>
    intro bs i k t b u hi hb hk hc
    cases bs with
    | nil => simp at hb
    | cons y bs =>
      cases i with
      | zero =>
        simp only [List.getD_cons_zero] at hc
        simp only [List.set_cons_zero, threadsC, List.getD_cons_zero, List.drop_one, List.tail_cons, Nat.zero_mul, Nat.zero_add, hc]
        rw [List.set_append_left _ _ (by rw [thread_len]; exact hk)]
      | succ i =>
        simp only [List.getD_cons_succ] at hc
        simp only [List.set_cons_succ, threadsC, List.getD_cons_zero, List.drop_one, List.tail_cons]
        rw [ih (by simpa using hi) (by simpa using hb) hk hc, List.set_append_right _ _ (by rw [thread_len, Nat.add_mul]; omega), thread_len, show (i + 1) * 6 + k - 6 = i * 6 + k by rw [Nat.add_mul]; omega]
theorem getD_set {α : Type} {l : List α} {i j : Nat} {x d : α} (hj : j < l.length) : (l.set i x).getD j d = if j = i then x else l.getD j d := by
  simp only [List.getD_eq_getElem?_getD]
  by_cases h : j = i
  · subst h; rw [if_pos rfl, List.getElem?_set_self (by exact hj)]; rfl
  · rw [if_neg h, List.getElem?_set_ne (Ne.symm h)]
theorem flat_set {l : List Int} {j : Nat} {x : Int} : flatC intC (l.set j x) = (flatC intC l).set j (.int .i64 x) := by
  have h : ∀ l : List Int, flatC intC l = l.map (Value.int .i64) := fun l => by
    induction l with
    | nil => rfl
    | cons y l ih => simp only [flatC, List.flatMap_cons, intC, List.map_cons] at ih ⊢; rw [ih]; rfl
  rw [h, h, List.map_set]
/-- A cell of a thread is written. -/
theorem OwnL.thread {W X : World} {gb tb n tc : Nat} {mv : Value} {bad : Bool} {ts : List ThreadD} {mem : List Int} {bs : List Value} (h : OwnL W X gb (.slice (some ⟨tb, 0, none⟩) n tc) mv bad ts mem bs) {i k : Nat} (hi : i < ts.length) (hk : k < 6) {t : ThreadD} {b u : Value}
    (hc : t.cells b = ((ts.getD i default).cells (bs.getD i (.slice none 0 0))).set k u) (hr : t.regs.length = 4) (hb : X.ownsRow W.heap.size 113 2 b t.buf.length (flatC EntryD.cells t.buf)) (hn : ∀ k, b.ownBlock = some k → k ≠ tb ∧ mv.ownBlock ≠ some k ∧ k ≠ gb) :
    OwnL W (X.setCell ⟨tb, i * 6 + k, none⟩ u) gb (.slice (some ⟨tb, 0, none⟩) n tc) mv bad (ts.set i t) mem (bs.set i b) := by
  obtain ⟨⟨h1, h2, h3, h4, h5, h6, h7⟩, h8, h9, h10, h11, h12, h13⟩ := h
  have hnn : n = ts.length := by
    rcases h1.2 with ⟨e, -⟩ | ⟨g, cap, cur, e, -⟩
    · cases e
    · cases e; rfl
  subst hnn
  have hS : Since (fun x => x = tb) X (X.setCell ⟨tb, i * 6 + k, none⟩ u) := Since.setCell (F := fun x => x = tb) (p := ⟨tb, i * 6 + k, none⟩) (Since.refl _ _) (.inl rfl) _
  have htb : W.heap.size ≤ tb := (h1.lt tb rfl).1
  have hgb : gb ≠ tb := fun e => h11 (by rw [e]; rfl)
  have hbt : ∀ j, j < ts.length → ∀ k, (bs.getD j (.slice none 0 0)).ownBlock = some k → k ≠ tb := fun j hj k hk e => (h6 j hj k hk).1 (by rw [e]; rfl)
  refine ⟨⟨?_, ?_, ?_, ?_, ?_, ?_, h7⟩, ?_, ?_, h10, h11, h12, ?_⟩
  · rw [List.length_set, threadsC_set hi h4 hk hc]; exact own_set h1 u
  · exact hS.row h2 (fun k hk e => h7 tb rfl (e ▸ hk))
  · intro j hj; rw [List.length_set] at hj; rw [getD_set hj]; split
    · exact hr
    · exact h3 j hj
  · rw [List.length_set, List.length_set]; exact h4
  · intro j hj; rw [List.length_set] at hj; rw [getD_set hj, getD_set (by omega)]; split
    · exact hS.row hb (fun k hk => (hn k hk).1)
    · exact hS.row (h5 j hj) (hbt j hj)
  · intro j hj k hk; rw [List.length_set] at hj; rw [getD_set (by omega)] at hk; split at hk
    · exact ⟨fun e => (hn k hk).1 (by simpa [Value.ownBlock] using e.symm), (hn k hk).2.1⟩
    · exact h6 j hj k hk
  · exact (hS.block _ (lt_of_block h8) hgb).trans h8
  · exact h9.trans (hS.below h9.size (fun x e => by omega))
  · intro j hj; rw [List.length_set] at hj; rw [getD_set (by omega)]; split
    · exact fun e => (hn gb e).2.2 rfl
    · exact h13 j hj
/-- A variable is written. -/
theorem OwnL.mem {W X : World} {gb mb n mc : Nat} {tv : Value} {bad : Bool} {ts : List ThreadD} {mem : List Int} {bs : List Value} (h : OwnL W X gb tv (.slice (some ⟨mb, 0, none⟩) n mc) bad ts mem bs) (j : Nat) (x : Int) :
    OwnL W (X.setCell ⟨mb, j, none⟩ (.int .i64 x)) gb tv (.slice (some ⟨mb, 0, none⟩) n mc) bad ts (mem.set j x) bs := by
  obtain ⟨⟨h1, h2, h3, h4, h5, h6, h7⟩, h8, h9, h10, h11, h12, h13⟩ := h
  have hnn : n = mem.length := by
    rcases h2.2 with ⟨e, -⟩ | ⟨g, cap, cur, e, -⟩
    · cases e
    · cases e; rfl
  subst hnn
  have hS : Since (fun x => x = mb) X (X.setCell ⟨mb, j, none⟩ (.int .i64 x)) := Since.setCell (F := fun x => x = mb) (p := ⟨mb, j, none⟩) (Since.refl _ _) (.inl rfl) _
  have hmb : W.heap.size ≤ mb := (h2.lt mb rfl).1
  have hgb : gb ≠ mb := fun e => h12 (by rw [e]; rfl)
  refine ⟨⟨hS.row h1 (fun k hk e => h7 k hk (by rw [e]; rfl)), ?_, h3, h4, fun k hk => hS.row (h5 k hk) (fun y hy e => (h6 k hk y hy).2 (by rw [e]; rfl)), h6, h7⟩, (hS.block _ (lt_of_block h8) hgb).trans h8, h9.trans (hS.below h9.size (fun x e => by omega)), h10, h11, h12, h13⟩
  rw [List.length_set, flat_set]
  exact own_set h2 _
/-- Whether it is bad is written. -/
theorem OwnL.isBad {W X : World} {gb : Nat} {tv mv : Value} {bad : Bool} {ts : List ThreadD} {mem : List Int} {bs : List Value} (h : OwnL W X gb tv mv bad ts mem bs) (b : Bool) : OwnL W (X.setCell ⟨gb, 2, none⟩ (.bool b)) gb tv mv b ts mem bs := by
  obtain ⟨⟨h1, h2, h3, h4, h5, h6, h7⟩, h8, h9, h10, h11, h12, h13⟩ := h
  have hS : Since (fun x => x = gb) X (X.setCell ⟨gb, 2, none⟩ (.bool b)) := Since.setCell (F := fun x => x = gb) (p := ⟨gb, 2, none⟩) (Since.refl _ _) (.inl rfl) _
  refine ⟨⟨hS.row h1 (fun k hk e => h11 (e ▸ hk)), hS.row h2 (fun k hk e => h12 (e ▸ hk)), h3, h4, fun k hk => hS.row (h5 k hk) (fun y hy e => h13 k hk (e ▸ hy)), h6, h7⟩, ?_, h9.trans (hS.below h9.size (fun x e => by omega)), h10, h11, h12, h13⟩
  have := set_of_block h8 2 (.bool b)
  simpa using this
theorem OwnL.later {W X X' : World} {gb : Nat} {tv mv : Value} {bad : Bool} {ts : List ThreadD} {mem : List Int} {bs : List Value} (h : OwnL W X gb tv mv bad ts mem bs) (hb : Below X.heap.size X X') : OwnL W X' gb tv mv bad ts mem bs :=
  ⟨h.own.below hb, (hb.block _ (lt_of_block h.box)).trans h.box, below_then h.below hb, h.lo, h.n1, h.n2, h.n3⟩
theorem OwnL.of_own {W X : World} {tv mv : Value} {ts : List ThreadD} {mem : List Int} {bs : List Value} (h : OwnAt W.heap.size X tv mv ts mem bs) (hb : Below W.heap.size W X) (bad : Bool) : OwnL W (X.alloc (.cells #[tv, mv, .bool bad] 31)) X.heap.size tv mv bad ts mem bs :=
  ⟨h.below ((Below.refl _ _).alloc (Nat.le_refl _) _), heap_alloc_new X _, hb.alloc hb.size _, hb.size, fun e => by have := (h.row.lt _ e).2; omega, fun e => by have := (h.mem.lt _ e).2; omega, fun j hj e => by have := ((h.buf j hj).lt _ e).2; omega⟩
/-- Its threads' row lies somewhere, and so does its memory. -/
theorem OwnL.threads {W X : World} {gb : Nat} {tv mv : Value} {bad : Bool} {ts : List ThreadD} {mem : List Int} {bs : List Value} (h : OwnL W X gb tv mv bad ts mem bs) {i : Nat} (hi : i < ts.length) : ∃ tb tc, tv = .slice (some ⟨tb, 0, none⟩) ts.length tc ∧ W.heap.size ≤ tb ∧
    ∀ k u, k < 6 → ((ts.getD i default).cells (bs.getD i (.slice none 0 0)))[k]? = some u → X.cell? ⟨tb, i * 6 + k, none⟩ = some u ∧ X.frozen? ⟨tb, i * 6 + k, none⟩ = false := by
  have h0 := threadsC_at (bs := bs) (i := 0) hi (by omega)
  obtain ⟨tb, tc, e1, e2, -, -⟩ := row_ptr h.own.row (j := i * 6 + 0) (u := .int .i64 (ts.getD i default).pc) (by rw [h0]; rfl)
  refine ⟨tb, tc, e1, e2, fun k u hk hu => ?_⟩
  obtain ⟨g, c, e3, -, e4, e5⟩ := row_ptr h.own.row (j := i * 6 + k) (u := u) (by rw [threadsC_at hi hk]; exact hu)
  rw [e1] at e3
  cases e3
  exact ⟨e4, e5⟩
theorem flat_at {l : List Int} {j : Nat} (hj : j < l.length) : (flatC intC l)[j]? = some (.int .i64 (l.getD j 0)) := by
  have := flatC_at (f := intC) (size := 1) int_len (l := l) (j := j) (i := 0) hj (by omega)
  rw [Nat.mul_one, Nat.add_zero] at this
  exact this
theorem OwnL.vars {W X : World} {gb : Nat} {tv mv : Value} {bad : Bool} {ts : List ThreadD} {mem : List Int} {bs : List Value} (h : OwnL W X gb tv mv bad ts mem bs) (hm : 0 < mem.length) : ∃ mb mc, mv = .slice (some ⟨mb, 0, none⟩) mem.length mc ∧ W.heap.size ≤ mb ∧
    ∀ j, j < mem.length → X.cell? ⟨mb, j, none⟩ = some (.int .i64 (mem.getD j 0)) ∧ X.frozen? ⟨mb, j, none⟩ = false := by
  obtain ⟨mb, mc, e1, e2, -, -⟩ := row_ptr h.own.mem (flat_at hm)
  refine ⟨mb, mc, e1, e2, fun j hj => ?_⟩
  obtain ⟨g, c, e3, -, e4, e5⟩ := row_ptr h.own.mem (flat_at hj)
  rw [e1] at e3
  cases e3
  exact ⟨e4, e5⟩
end Go.Proofs.Ytnlkbboghcdpnaa
