/- Formulas that are made of parts. -/
import Derived.Test.YtidnpdkibndpkaaWLaws2
namespace Go.Proofs.Ytidnpdkibndpkaa
open Go.RowKit

/-- A call that tells a formula. -/
def TellsForm (d : Nat) (f : Form) (w : World) (e : Ending) (w' : World) : Prop := ∃ a n c, e = .returned (formV f (.slice a n c)) ∧ FormAt w' d f (.slice a n c) ∧ Below w.heap.size w w'
def badF : Form := .mk 3 ⟨5, 0, 0, 0⟩ []
theorem formAt_leaf (w : World) (k : Int) (p : PropD) : FormAt w 1 (.mk k p []) (.slice none 0 0) := ⟨none, 0, rfl, by simp [Form.kids], fun j hj => by simp [Form.kids] at hj⟩
theorem bad_any (w : World) : Calls Try.prog 19 #[] w (TellsForm 1 badF w) := by
  go_enter Try.func19, Try.ntmps19
  go_wp2
  exact bodyPost_ret (v := .agg #[.int .i64 3, .int .i64 5, .int .i64 0, .int .i64 0, .int .i64 0, .slice none 0 0]) (by simp [results, Try.results19, go_sem]) rfl ⟨none, 0, 0, rfl, formAt_leaf _ _ _, (Below.refl _ _).alloc (Nat.le_refl _) _⟩
/-- One formula in a new block. -/
theorem formsIn_one {w : World} {d : Nat} {g : Form} {gv : Value} {b cap : Nat} {e : TypeId} {k : Int} {p : PropD} (hg : FormAt w d g gv) (hb : w.heap[b]? = some (.cells (formCells g gv).toArray e (0, 0))) : FormAt w (d + 1) (.mk k p [g]) (.slice (some ⟨b, 0, none⟩) 1 cap) := by
  refine ⟨some ⟨b, 0, none⟩, cap, rfl, by simp [Form.kids], fun j hj => ?_⟩
  simp only [Form.kids, List.length_cons, List.length_nil] at hj
  obtain rfl : j = 0 := by omega
  refine ⟨b, 0, gv, rfl, lt_of_block hb, fun i hi => ?_, hg⟩
  rw [show 0 + 0 * 6 + i = i by omega, cell_of_block hb i]
  simp [Form.kids]
theorem formsIn_two {w : World} {d : Nat} {g h : Form} {gv hv : Value} {b cap : Nat} {e : TypeId} {k : Int} {p : PropD} (hg : FormAt w d g gv) (hh : FormAt w d h hv) (hb : w.heap[b]? = some (.cells (formCells g gv ++ formCells h hv).toArray e (0, 0))) : FormAt w (d + 1) (.mk k p [g, h]) (.slice (some ⟨b, 0, none⟩) 2 cap) := by
  refine ⟨some ⟨b, 0, none⟩, cap, rfl, by simp [Form.kids], fun j hj => ?_⟩
  simp only [Form.kids, List.length_cons, List.length_nil] at hj
  have : j = 0 ∨ j = 1 := by omega
  rcases this with rfl | rfl
  · refine ⟨b, 0, gv, rfl, lt_of_block hb, fun i hi => ?_, hg⟩
    rw [show 0 + 0 * 6 + i = i by omega, cell_of_block hb i, List.getElem?_toArray, List.getElem?_append_left (by simp [formCells]; omega)]
    simp [Form.kids]
  · refine ⟨b, 0, hv, rfl, lt_of_block hb, fun i hi => ?_, hh⟩
    rw [show 0 + 1 * 6 + i = 6 + i by omega, cell_of_block hb, List.getElem?_toArray, List.getElem?_append_right (by simp [formCells])]
    simp [Form.kids, formCells]
set_option maxHeartbeats 1000000 in
theorem mkOne_any (w : World) (d : Nat) (k : Int) (g : Form) (gv : Value) (h : FormAt w d g gv) : Calls Try.prog 13 #[.int .i64 k, formV g gv] w (TellsForm (d + 1) (.mk k ⟨0, 0, 0, 0⟩ [g]) w) := by
  obtain ⟨ga, gc, rfl, hgl⟩ := h.slice
  have hall : ∀ W b cap e, Below w.heap.size w W → W.heap[b]? = some (.cells (formCells g (.slice ga g.kids.length gc)).toArray e (0, 0)) → FormAt W (d + 1) (.mk k ⟨0, 0, 0, 0⟩ [g]) (.slice (some ⟨b, 0, none⟩) 1 cap) := fun W b cap e hW hb => formsIn_one (h.below hW) hb
  have HA := Lib.hid hall
  clear hall h
  obtain ⟨gk, ⟨q1, q2, q3, q4⟩, gl⟩ := g
  unfold formV
  simp only [Form.kind, Form.prop, Form.kids, formCells] at hgl HA ⊢
  go_enter Try.func13, Try.ntmps13
  go_wp2
  have hB : Below w.heap.size w (((w.alloc (.cells #[.int .i64 gk, .int .i64 q1, .int .i64 q2, .int .i64 q3, .int .i64 q4, .slice ga gl.length gc] 26)).alloc (.cells #[.int .i64 k, .int .i64 0, .int .i64 0, .int .i64 0, .int .i64 0, .slice (some ⟨w.heap.size + 1 + 1, 0, none⟩) 1 1] 26)).alloc (.cells #[.int .i64 gk, .int .i64 q1, .int .i64 q2, .int .i64 q3, .int .i64 q4, .slice ga gl.length gc] 26)) := (boxes_below w _ _).alloc (by simp; omega) _
  have hb : (((w.alloc (.cells #[.int .i64 gk, .int .i64 q1, .int .i64 q2, .int .i64 q3, .int .i64 q4, .slice ga gl.length gc] 26)).alloc (.cells #[.int .i64 k, .int .i64 0, .int .i64 0, .int .i64 0, .int .i64 0, .slice (some ⟨w.heap.size + 1 + 1, 0, none⟩) 1 1] 26)).alloc (.cells #[.int .i64 gk, .int .i64 q1, .int .i64 q2, .int .i64 q3, .int .i64 q4, .slice ga gl.length gc] 26)).heap[w.heap.size + 1 + 1]? = some (.cells #[.int .i64 gk, .int .i64 q1, .int .i64 q2, .int .i64 q3, .int .i64 q4, .slice ga gl.length gc] 26) := by
    have := heap_alloc_new ((w.alloc (.cells #[.int .i64 gk, .int .i64 q1, .int .i64 q2, .int .i64 q3, .int .i64 q4, .slice ga gl.length gc] 26)).alloc (.cells #[.int .i64 k, .int .i64 0, .int .i64 0, .int .i64 0, .int .i64 0, .slice (some ⟨w.heap.size + 1 + 1, 0, none⟩) 1 1] 26)) (.cells #[.int .i64 gk, .int .i64 q1, .int .i64 q2, .int .i64 q3, .int .i64 q4, .slice ga gl.length gc] 26)
    simp only [World.size_alloc] at this; exact this
  exact bodyPost_ret (v := .agg #[.int .i64 k, .int .i64 0, .int .i64 0, .int .i64 0, .int .i64 0, .slice (some ⟨w.heap.size + 1 + 1, 0, none⟩) 1 1]) (by simp [results, Try.results13, go_sem]) rfl ⟨_, _, _, rfl, HA.out _ _ _ _ hB hb, hB⟩

set_option maxHeartbeats 1000000 in
theorem mkTwo_any (w : World) (d : Nat) (k : Int) (g h : Form) (gv hv : Value) (hg : FormAt w d g gv) (hh : FormAt w d h hv) : Calls Try.prog 14 #[.int .i64 k, formV g gv, formV h hv] w (TellsForm (d + 1) (.mk k ⟨0, 0, 0, 0⟩ [g, h]) w) := by
  obtain ⟨ga, gc, rfl, hgl⟩ := hg.slice
  obtain ⟨ha, hc, rfl, hhl⟩ := hh.slice
  have hall : ∀ W b cap e, Below w.heap.size w W → W.heap[b]? = some (.cells (formCells g (.slice ga g.kids.length gc) ++ formCells h (.slice ha h.kids.length hc)).toArray e (0, 0)) → FormAt W (d + 1) (.mk k ⟨0, 0, 0, 0⟩ [g, h]) (.slice (some ⟨b, 0, none⟩) 2 cap) := fun W b cap e hW hb => formsIn_two (hg.below hW) (hh.below hW) hb
  have HA := Lib.hid hall
  clear hall hg hh
  obtain ⟨gk, ⟨q1, q2, q3, q4⟩, gl⟩ := g
  obtain ⟨hk, ⟨r1, r2, r3, r4⟩, hl⟩ := h
  unfold formV
  simp only [Form.kind, Form.prop, Form.kids, formCells] at hgl hhl HA ⊢
  go_enter Try.func14, Try.ntmps14
  go_wp2
  have hB : Below w.heap.size w ((((w.alloc (.cells #[.int .i64 gk, .int .i64 q1, .int .i64 q2, .int .i64 q3, .int .i64 q4, .slice ga gl.length gc] 26)).alloc (.cells #[.int .i64 hk, .int .i64 r1, .int .i64 r2, .int .i64 r3, .int .i64 r4, .slice ha hl.length hc] 26)).alloc (.cells #[.int .i64 k, .int .i64 0, .int .i64 0, .int .i64 0, .int .i64 0, .slice (some ⟨w.heap.size + 1 + 1 + 1, 0, none⟩) 2 2] 26)).alloc (.cells #[.int .i64 gk, .int .i64 q1, .int .i64 q2, .int .i64 q3, .int .i64 q4, .slice ga gl.length gc, .int .i64 hk, .int .i64 r1, .int .i64 r2, .int .i64 r3, .int .i64 r4, .slice ha hl.length hc] 26)) := ((boxes_below w _ _).alloc (by simp; omega) _).alloc (by simp; omega) _
  have hb : ((((w.alloc (.cells #[.int .i64 gk, .int .i64 q1, .int .i64 q2, .int .i64 q3, .int .i64 q4, .slice ga gl.length gc] 26)).alloc (.cells #[.int .i64 hk, .int .i64 r1, .int .i64 r2, .int .i64 r3, .int .i64 r4, .slice ha hl.length hc] 26)).alloc (.cells #[.int .i64 k, .int .i64 0, .int .i64 0, .int .i64 0, .int .i64 0, .slice (some ⟨w.heap.size + 1 + 1 + 1, 0, none⟩) 2 2] 26)).alloc (.cells #[.int .i64 gk, .int .i64 q1, .int .i64 q2, .int .i64 q3, .int .i64 q4, .slice ga gl.length gc, .int .i64 hk, .int .i64 r1, .int .i64 r2, .int .i64 r3, .int .i64 r4, .slice ha hl.length hc] 26)).heap[w.heap.size + 1 + 1 + 1]? = some (.cells #[.int .i64 gk, .int .i64 q1, .int .i64 q2, .int .i64 q3, .int .i64 q4, .slice ga gl.length gc, .int .i64 hk, .int .i64 r1, .int .i64 r2, .int .i64 r3, .int .i64 r4, .slice ha hl.length hc] 26) := by
    have := heap_alloc_new (((w.alloc (.cells #[.int .i64 gk, .int .i64 q1, .int .i64 q2, .int .i64 q3, .int .i64 q4, .slice ga gl.length gc] 26)).alloc (.cells #[.int .i64 hk, .int .i64 r1, .int .i64 r2, .int .i64 r3, .int .i64 r4, .slice ha hl.length hc] 26)).alloc (.cells #[.int .i64 k, .int .i64 0, .int .i64 0, .int .i64 0, .int .i64 0, .slice (some ⟨w.heap.size + 1 + 1 + 1, 0, none⟩) 2 2] 26)) (.cells #[.int .i64 gk, .int .i64 q1, .int .i64 q2, .int .i64 q3, .int .i64 q4, .slice ga gl.length gc, .int .i64 hk, .int .i64 r1, .int .i64 r2, .int .i64 r3, .int .i64 r4, .slice ha hl.length hc] 26)
    simp only [World.size_alloc] at this; exact this
  exact bodyPost_ret (v := .agg #[.int .i64 k, .int .i64 0, .int .i64 0, .int .i64 0, .int .i64 0, .slice (some ⟨w.heap.size + 1 + 1 + 1, 0, none⟩) 2 2]) (by simp [results, Try.results14, go_sem]) rfl ⟨_, _, _, rfl, HA.out _ _ _ _ hB hb, hB⟩
end Go.Proofs.Ytidnpdkibndpkaa
