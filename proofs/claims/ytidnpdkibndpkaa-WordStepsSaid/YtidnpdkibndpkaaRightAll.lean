/- May a formula be: package logic's answer. -/
import Derived.Test.YtidnpdkibndpkaaRight
namespace Go.Proofs.Ytidnpdkibndpkaa
open Go.RowKit

/-- May a formula be? -/
def Form.fits (f : Form) : Bool := f.okD 20 && decide (f.size ≤ 200)
set_option maxHeartbeats 1000000 in
theorem logicRight_any (w : World) (d : Nat) (f : Form) (kv : Value) (h : FormAt w d f kv) :
    Calls Try.prog 24 #[formV f kv] w fun e w' => e = .returned (.bool f.fits) ∧ Below w.heap.size w w' := by
  obtain ⟨ka, kc, rfl, hkl⟩ := h.slice
  have hall : ∀ W fb cb, Below w.heap.size w W → w.heap.size ≤ cb → CheckerAt W cb 0 fb → Calls Try.prog 33 #[.pointer (some ⟨cb, 0, none⟩), formV f (.slice ka f.kids.length kc), .int .i64 20] W fun e w' => e = .returned (.bool f.fits) ∧ Since (fun k => k = cb) W w' := by
    intro W fb cb hW hcb hc
    refine (right_any d W f _ 20 0 cb fb w.heap.size (h.bound.below hW) hcb hc (by omega) (by omega)).mono ?_
    rintro e w' ⟨r, many', rfl, -, h2, h3, -⟩
    refine ⟨?_, h2⟩
    have : r = f.fits := by
      rw [Bool.eq_iff_iff, h3, Form.fits, Bool.and_eq_true, decide_eq_true_iff]; simp
    rw [this]
  have HALL := Lib.hid hall
  obtain ⟨k, ⟨p1, p2, p3, p4⟩, kids⟩ := f
  clear h hall
  simp only [Form.kids] at hkl ⊢
  obtain ⟨res, hres⟩ : ∃ res, res = (Form.mk k ⟨p1, p2, p3, p4⟩ kids).fits := ⟨_, rfl⟩
  rw [← hres] at HALL ⊢
  clear hres
  unfold formV at *
  simp only [Form.kind, Form.prop, Form.kids] at HALL ⊢
  go_enter Try.func24, Try.ntmps24
  go_wp2_with fail
  refine (forms_any _).mono ?_
  rintro e w2 ⟨fb, rfl, hm, hfb, hb⟩
  have hB2 : Below w.heap.size w w2 := ((Below.refl _ _).alloc (Nat.le_refl _) (.cells #[.int .i64 k, .int .i64 p1, .int .i64 p2, .int .i64 p3, .int .i64 p4, .slice ka kids.length kc] 26)).trans (hb.mono (by simp))
  have hbx : w2.heap[w.heap.size]? = some (.cells #[.int .i64 k, .int .i64 p1, .int .i64 p2, .int .i64 p3, .int .i64 p4, .slice ka kids.length kc] 26 (0, 0)) := (hb.block _ (by simp)).trans (heap_alloc_new w _)
  have hz := hB2.size
  have hbx2 : ∀ o, (w2.alloc o).heap[w.heap.size]? = some (.cells #[.int .i64 k, .int .i64 p1, .int .i64 p2, .int .i64 p3, .int .i64 p4, .slice ka kids.length kc] 26 (0, 0)) := fun o => (Below.heap_alloc _ _ _ (lt_of_block hbx)).trans hbx
  have c0 := fun o => cell_of_block (hbx2 o) 0
  have c1 := fun o => cell_of_block (hbx2 o) 1
  have c2 := fun o => cell_of_block (hbx2 o) 2
  have c3 := fun o => cell_of_block (hbx2 o) 3
  have c4 := fun o => cell_of_block (hbx2 o) 4
  have c5 := fun o => cell_of_block (hbx2 o) 5
  simp only [List.getElem?_toArray, List.getElem?_cons_zero, List.getElem?_cons_succ] at c0 c1 c2 c3 c4 c5
  have HM := Lib.hid hm
  have HB2 := Lib.hid hB2
  clear hm hB2 hb hbx hbx2 hfb
  go_wp2_with fail
  have hfl := HM.out.lt
  refine (HALL.out _ fb w2.heap.size (HB2.out.alloc hz _) hz ⟨heap_alloc_new w2 _, HM.out.below ((Below.refl _ _).alloc (Nat.le_refl _) _), by omega⟩).mono ?_
  rintro e w3 ⟨rfl, hs⟩
  have HB3 := Lib.hid ((HB2.out.alloc hz (.cells #[.int .i64 0, .map (some fb)] 66)).trans (hs.below (by simp; omega) (fun k hk => by omega)))
  clear hs c0 c1 c2 c3 c4 c5
  go_wp2
  go_ret
  exact ⟨rfl, HB3.out⟩
end Go.Proofs.Ytidnpdkibndpkaa
