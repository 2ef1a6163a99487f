/- Formulas that are made of parts, and in which blocks they lie. -/
import Derived.Test.YtidnpdkibndpkaaMk
import Derived.Test.YtidnpdkibndpkaaMadeC
namespace Go.Proofs.Ytidnpdkibndpkaa
open Go.RowKit

theorem FormAt.toP {w : World} {d : Nat} {f : Form} {kv : Value} (h : FormAt w d f kv) : FormAtP (fun b => b < w.heap.size) w d f kv := by
  induction d generalizing f kv with
  | zero => exact h.elim
  | succ d ih =>
    obtain ⟨a, cap, h1, h2, h4⟩ := h
    refine ⟨a, cap, h1, h2, fun j hj => ?_⟩
    obtain ⟨b, off, kv', h5, h6, h7, h8⟩ := h4 j hj
    exact ⟨b, off, kv', h5, ⟨h6, h6⟩, h7, ih h8⟩
/-- A call that tells a formula: in blocks that were, or are new. -/
def TellsFormP (P : Nat → Prop) (d : Nat) (f : Form) (w : World) (e : Ending) (w' : World) : Prop := ∃ a n c, e = .returned (formV f (.slice a n c)) ∧ FormAtP (fun b => P b ∨ w.heap.size ≤ b) w' d f (.slice a n c) ∧ Below w.heap.size w w'
theorem formsInP_one {P : Nat → Prop} {w : World} {d : Nat} {g : Form} {gv : Value} {b cap : Nat} {e : TypeId} {k : Int} {p : PropD} (hg : FormAtP P w d g gv) (hb : w.heap[b]? = some (.cells (formCells g gv).toArray e (0, 0))) (hP : P b) : FormAtP P w (d + 1) (.mk k p [g]) (.slice (some ⟨b, 0, none⟩) 1 cap) := by
  refine ⟨some ⟨b, 0, none⟩, cap, rfl, by simp [Form.kids], fun j hj => ?_⟩
  simp only [Form.kids, List.length_cons, List.length_nil] at hj
  obtain rfl : j = 0 := by omega
  refine ⟨b, 0, gv, rfl, ⟨hP, lt_of_block hb⟩, fun i hi => ?_, hg⟩
  rw [show 0 + 0 * 6 + i = i by omega, cell_of_block hb i]
  simp [Form.kids]
theorem formsInP_two {P : Nat → Prop} {w : World} {d : Nat} {g h : Form} {gv hv : Value} {b cap : Nat} {e : TypeId} {k : Int} {p : PropD} (hg : FormAtP P w d g gv) (hh : FormAtP P w d h hv) (hb : w.heap[b]? = some (.cells (formCells g gv ++ formCells h hv).toArray e (0, 0))) (hP : P b) : FormAtP P w (d + 1) (.mk k p [g, h]) (.slice (some ⟨b, 0, none⟩) 2 cap) := by
  refine ⟨some ⟨b, 0, none⟩, cap, rfl, by simp [Form.kids], fun j hj => ?_⟩
  simp only [Form.kids, List.length_cons, List.length_nil] at hj
  have : j = 0 ∨ j = 1 := by omega
  rcases this with rfl | rfl
  · refine ⟨b, 0, gv, rfl, ⟨hP, lt_of_block hb⟩, fun i hi => ?_, hg⟩
    rw [show 0 + 0 * 6 + i = i by omega, cell_of_block hb i, List.getElem?_toArray, List.getElem?_append_left (by simp [formCells]; omega)]
    simp [Form.kids]
  · refine ⟨b, 0, hv, rfl, ⟨hP, lt_of_block hb⟩, fun i hi => ?_, hh⟩
    rw [show 0 + 1 * 6 + i = 6 + i by omega, cell_of_block hb, List.getElem?_toArray, List.getElem?_append_right (by simp [formCells])]
    simp [Form.kids, formCells]
set_option maxHeartbeats 1000000 in
theorem mkOneP_any (P : Nat → Prop) (w : World) (d : Nat) (k : Int) (g : Form) (gv : Value) (h : FormAtP P w d g gv) : Calls Try.prog 13 #[.int .i64 k, formV g gv] w (TellsFormP P (d + 1) (.mk k ⟨0, 0, 0, 0⟩ [g]) w) := by
  obtain ⟨ga, gc, rfl, hgl⟩ := h.at_.slice
  have hall : ∀ W b cap e, Below w.heap.size w W → W.heap[b]? = some (.cells (formCells g (.slice ga g.kids.length gc)).toArray e (0, 0)) → w.heap.size ≤ b → FormAtP (fun b => P b ∨ w.heap.size ≤ b) W (d + 1) (.mk k ⟨0, 0, 0, 0⟩ [g]) (.slice (some ⟨b, 0, none⟩) 1 cap) := fun W b cap e hW hb hle => formsInP_one ((h.since (since_of (fun _ => False) hW) (fun _ _ h => h)).mono (fun b hb _ => .inl hb)) hb (.inr hle)
  have HA := Lib.hid hall
  clear hall h
  obtain ⟨gk, ⟨q1, q2, q3, q4⟩, gl⟩ := g
  unfold formV
  simp only [Form.kind, Form.prop, Form.kids, formCells] at hgl HA ⊢
  go_enter Try.func13, Try.ntmps13
  go_wp2
  have hB : Below w.heap.size w (((w.alloc (.cells #[.int .i64 gk, .int .i64 q1, .int .i64 q2, .int .i64 q3, .int .i64 q4, .slice ga gl.length gc] 26)).alloc (.cells #[.int .i64 k, .int .i64 0, .int .i64 0, .int .i64 0, .int .i64 0, .slice (some ⟨w.heap.size + 1 + 1, 0, none⟩) 1 1] 26)).alloc (.cells #[.int .i64 gk, .int .i64 q1, .int .i64 q2, .int .i64 q3, .int .i64 q4, .slice ga gl.length gc] 26)) := (boxes_below w _ _).alloc (by simp; omega) _
  have hb : (((w.alloc (.cells #[.int .i64 gk, .int .i64 q1, .int .i64 q2, .int .i64 q3, .int .i64 q4, .slice ga gl.length gc] 26)).alloc (.cells #[.int .i64 k, .int .i64 0, .int .i64 0, .int .i64 0, .int .i64 0, .slice (some ⟨w.heap.size + 1 + 1, 0, none⟩) 1 1] 26)).alloc (.cells #[.int .i64 gk, .int .i64 q1, .int .i64 q2, .int .i64 q3, .int .i64 q4, .slice ga gl.length gc] 26)).heap[w.heap.size + 1 + 1]? = some (.cells #[.int .i64 gk, .int .i64 q1, .int .i64 q2, .int .i64 q3, .int .i64 q4, .slice ga gl.length gc] 26) := by
    have := heap_alloc_new ((w.alloc (.cells #[.int .i64 gk, .int .i64 q1, .int .i64 q2, .int .i64 q3, .int .i64 q4, .slice ga gl.length gc] 26)).alloc (.cells #[.int .i64 k, .int .i64 0, .int .i64 0, .int .i64 0, .int .i64 0, .slice (some ⟨w.heap.size + 1 + 1, 0, none⟩) 1 1] 26)) (.cells #[.int .i64 gk, .int .i64 q1, .int .i64 q2, .int .i64 q3, .int .i64 q4, .slice ga gl.length gc] 26)
    simp only [World.size_alloc] at this; exact this
  exact bodyPost_ret (v := .agg #[.int .i64 k, .int .i64 0, .int .i64 0, .int .i64 0, .int .i64 0, .slice (some ⟨w.heap.size + 1 + 1, 0, none⟩) 1 1]) (by simp [results, Try.results13, go_sem]) rfl ⟨_, _, _, rfl, HA.out _ _ _ _ hB hb (by omega), hB⟩

set_option maxHeartbeats 1000000 in
theorem mkTwoP_any (P : Nat → Prop) (w : World) (d : Nat) (k : Int) (g h : Form) (gv hv : Value) (hg : FormAtP P w d g gv) (hh : FormAtP P w d h hv) : Calls Try.prog 14 #[.int .i64 k, formV g gv, formV h hv] w (TellsFormP P (d + 1) (.mk k ⟨0, 0, 0, 0⟩ [g, h]) w) := by
  obtain ⟨ga, gc, rfl, hgl⟩ := hg.at_.slice
  obtain ⟨ha, hc, rfl, hhl⟩ := hh.at_.slice
  have hall : ∀ W b cap e, Below w.heap.size w W → W.heap[b]? = some (.cells (formCells g (.slice ga g.kids.length gc) ++ formCells h (.slice ha h.kids.length hc)).toArray e (0, 0)) → w.heap.size ≤ b → FormAtP (fun b => P b ∨ w.heap.size ≤ b) W (d + 1) (.mk k ⟨0, 0, 0, 0⟩ [g, h]) (.slice (some ⟨b, 0, none⟩) 2 cap) := fun W b cap e hW hb hle => formsInP_two ((hg.since (since_of (fun _ => False) hW) (fun _ _ h => h)).mono (fun b hb _ => .inl hb)) ((hh.since (since_of (fun _ => False) hW) (fun _ _ h => h)).mono (fun b hb _ => .inl hb)) hb (.inr hle)
  have HA := Lib.hid hall
  clear hall hg hh
  obtain ⟨gk, ⟨q1, q2, q3, q4⟩, gl⟩ := g
  obtain ⟨hk, ⟨r1, r2, r3, r4⟩, hl⟩ := h
  unfold formV
  simp only [Form.kind, Form.prop, Form.kids, formCells] at hgl hhl HA ⊢
  go_enter Try.func14, Try.ntmps14
  go_wp2
  have hB : Below w.heap.size w ((((w.alloc (.cells #[.int .i64 gk, .int .i64 q1, .int .i64 q2, .int .i64 q3, .int .i64 q4, .slice ga gl.length gc] 26)).alloc (.cells #[.int .i64 hk, .int .i64 r1, .int .i64 r2, .int .i64 r3, .int .i64 r4, .slice ha hl.length hc] 26)).alloc (.cells #[.int .i64 k, .int .i64 0, .int .i64 0, .int .i64 0, .int .i64 0, .slice (some ⟨w.heap.size + 1 + 1 + 1, 0, none⟩) 2 2] 26)).alloc (.cells #[.int .i64 gk, .int .i64 q1, .int .i64 q2, .int .i64 q3, .int .i64 q4, .slice ga gl.length gc, .int .i64 hk, .int .i64 r1, .int .i64 r2, .int .i64 r3, .int .i64 r4, .slice ha hl.length hc] 26)) := ((boxes_below w _ _).alloc (by simp; omega) _).alloc (by simp; omega) _
  have hb : ((((w.alloc (.cells #[.int .i64 gk, .int .i64 q1, .int .i64 q2, .int .i64 q3, .int .i64 q4, .slice ga gl.length gc] 26)).alloc (.cells #[.int .i64 hk, .int .i64 r1, .int .i64 r2, .int .i64 r3, .int .i64 r4, .slice ha hl.length hc] 26)).alloc (.cells #[.int .i64 k, .int .i64 0, .int .i64 0, .int .i64 0, .int .i64 0, .slice (some ⟨w.heap.size + 1 + 1 + 1, 0, none⟩) 2 2] 26)).alloc (.cells #[.int .i64 gk, .int .i64 q1, .int .i64 q2, .int .i64 q3, .int .i64 q4, .slice ga gl.length gc, .int .i64 hk, .int .i64 r1, .int .i64 r2, .int .i64 r3, .int .i64 r4, .slice ha hl.length hc] 26)).heap[w.heap.size + 1 + 1 + 1]? = some (.cells #[.int .i64 gk, .int .i64 q1, .int .i64 q2, .int .i64 q3, .int .i64 q4, .slice ga gl.length gc, .int .i64 hk, .int .i64 r1, .int .i64 r2, .int .i64 r3, .int .i64 r4, .slice ha hl.length hc] 26) := by
    have := heap_alloc_new (((w.alloc (.cells #[.int .i64 gk, .int .i64 q1, .int .i64 q2, .int .i64 q3, .int .i64 q4, .slice ga gl.length gc] 26)).alloc (.cells #[.int .i64 hk, .int .i64 r1, .int .i64 r2, .int .i64 r3, .int .i64 r4, .slice ha hl.length hc] 26)).alloc (.cells #[.int .i64 k, .int .i64 0, .int .i64 0, .int .i64 0, .int .i64 0, .slice (some ⟨w.heap.size + 1 + 1 + 1, 0, none⟩) 2 2] 26)) (.cells #[.int .i64 gk, .int .i64 q1, .int .i64 q2, .int .i64 q3, .int .i64 q4, .slice ga gl.length gc, .int .i64 hk, .int .i64 r1, .int .i64 r2, .int .i64 r3, .int .i64 r4, .slice ha hl.length hc] 26)
    simp only [World.size_alloc] at this; exact this
  exact bodyPost_ret (v := .agg #[.int .i64 k, .int .i64 0, .int .i64 0, .int .i64 0, .int .i64 0, .slice (some ⟨w.heap.size + 1 + 1 + 1, 0, none⟩) 2 2]) (by simp [results, Try.results14, go_sem]) rfl ⟨_, _, _, rfl, HA.out _ _ _ _ hB hb (by omega), hB⟩
end Go.Proofs.Ytidnpdkibndpkaa
