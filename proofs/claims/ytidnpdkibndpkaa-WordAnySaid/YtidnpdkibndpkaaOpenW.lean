/- Formulas and words that came in: how they lie in memory. -/
import Derived.Test.YtidnpdkibndpkaaAwake
import Derived.Lib.SmallJoins
namespace Go.Proofs.Ytidnpdkibndpkaa
open Go.RowKit Go.ChangeShapes Go.WideShapes Go.ChangeAt

theorem form_f0 : ((Try.prog.fieldsOf 26)[0]?).map (fun f => (f.type, f.offset)) = some (3, 0) := by kernel_rfl
theorem form_f1 : ((Try.prog.fieldsOf 26)[1]?).map (fun f => (f.type, f.offset)) = some (23, 1) := by kernel_rfl
theorem form_f2 : ((Try.prog.fieldsOf 26)[2]?).map (fun f => (f.type, f.offset)) = some (24, 5) := by kernel_rfl
theorem form_fs : (Try.prog.fieldsOf 26).size = 3 := by kernel_rfl
theorem form_under : Try.prog.underlying 26 = some (.struct (Try.prog.fieldsOf 26)) := by kernel_rfl
theorem form_cellsOf : Try.prog.cellsOf 26 = 6 := by kernel_rfl
theorem prop_f0 : ((Try.prog.fieldsOf 23)[0]?).map (fun f => (f.type, f.offset)) = some (3, 0) := by kernel_rfl
theorem prop_f1 : ((Try.prog.fieldsOf 23)[1]?).map (fun f => (f.type, f.offset)) = some (3, 1) := by kernel_rfl
theorem prop_f2 : ((Try.prog.fieldsOf 23)[2]?).map (fun f => (f.type, f.offset)) = some (3, 2) := by kernel_rfl
theorem prop_f3 : ((Try.prog.fieldsOf 23)[3]?).map (fun f => (f.type, f.offset)) = some (3, 3) := by kernel_rfl
theorem prop_f (i : Nat) (hi : i < 4) : ((Try.prog.fieldsOf 23)[i]?).map (fun f => (f.type, f.offset)) = some (3, i) := by
  have : i = 0 ∨ i = 1 ∨ i = 2 ∨ i = 3 := by omega
  rcases this with rfl | rfl | rfl | rfl
  · exact prop_f0
  · exact prop_f1
  · exact prop_f2
  · exact prop_f3
theorem list_six {α : Type} {l : List α} (h : l.length = 6) : ∃ a b c d e f, l = [a, b, c, d, e, f] := by
  match l, h with
  | [a, b, c, d, e, f], _ => exact ⟨a, b, c, d, e, f, rfl⟩
theorem list_two {α : Type} {l : List α} (h : l.length = 2) : ∃ a b, l = [a, b] := by
  match l, h with
  | [a, b], _ => exact ⟨a, b, rfl⟩
theorem prop_fs : (Try.prog.fieldsOf 23).size = 4 := by kernel_rfl
theorem prop_cellsOf : Try.prog.cellsOf 23 = 4 := by kernel_rfl
theorem int_cellsOf : Try.prog.cellsOf 3 = 1 := by kernel_rfl
theorem bool_cellsOf : Try.prog.cellsOf 4 = 1 := by kernel_rfl
theorem forms_cellsOf : Try.prog.cellsOf 24 = 1 := by kernel_rfl
theorem bools_cellsOf : Try.prog.cellsOf 41 = 1 := by kernel_rfl
theorem letters_cellsOf : Try.prog.cellsOf 27 = 1 := by kernel_rfl
theorem word_f0 : ((Try.prog.fieldsOf 29)[0]?).map (fun f => (f.type, f.offset)) = some (27, 0) := by kernel_rfl
theorem word_f1 : ((Try.prog.fieldsOf 29)[1]?).map (fun f => (f.type, f.offset)) = some (3, 1) := by kernel_rfl
theorem word_fs : (Try.prog.fieldsOf 29).size = 2 := by kernel_rfl
theorem word_under : Try.prog.underlying 29 = some (.struct (Try.prog.fieldsOf 29)) := by kernel_rfl
theorem word_cellsOf : Try.prog.cellsOf 29 = 2 := by kernel_rfl
theorem field_of {fs : Array Field} {i : Nat} {t : TypeId} {o : Nat} (h : (fs[i]?).map (fun f => (f.type, f.offset)) = some (t, o)) : ∃ f, fs[i]? = some f ∧ f.type = t ∧ f.offset = o := by
  rw [Option.map_eq_some_iff] at h
  obtain ⟨f, h1, h2⟩ := h
  exact ⟨f, h1, (Prod.mk.inj h2).1, (Prod.mk.inj h2).2⟩
theorem list_exists {α : Type} (n : Nat) (P : Nat → α → Prop) (h : ∀ i, i < n → ∃ x, P i x) : ∃ l : List α, l.length = n ∧ ∀ i (hi : i < l.length), P i l[i] := by
  induction n with
  | zero => exact ⟨[], rfl, fun i hi => by simp at hi⟩
  | succ n ih =>
    obtain ⟨l, hl, hp⟩ := ih (fun i hi => h i (by omega))
    obtain ⟨x, hx⟩ := h n (by omega)
    refine ⟨l ++ [x], by simp [hl], fun i hi => ?_⟩
    by_cases he : i < l.length
    · rw [List.getElem_append_left he]; exact hp i he
    · have : i = l.length := by simp at hi; omega
      subst this
      rw [List.getElem_append_right (by omega)]
      simp [hl]; exact hx
theorem spot_none {w : World} {a : Addr} {v : Value} (h : w.cell? ((a.add 0).add 0) = some v) : ∃ b off, a = ⟨b, off, none⟩ := by
  obtain ⟨b, off, spot⟩ := a
  have hspot : spot = none := by simpa [Addr.add] using World.cell?_spot h
  subst hspot
  exact ⟨b, off, rfl⟩

/-- A formula's cells, read. -/
theorem openForm {H : Type} {enc : TypeId × Value → H} {w : World} (fuel : Nat) : ∀ (cs : List Value) (x : DataW H × List MemPlace), DataW.trod enc Try.prog w 0 (fun _ => true) true fuel 26 cs = some x → ∃ f kv, cs = formCells f kv ∧ FormAt w fuel f kv := by
  induction fuel using Nat.strongRecOn with
  | ind fuel ih =>
    intro cs x h
    obtain ⟨xs, n, hfu, -, hl, hxl, hf⟩ := DataW.trod_struct form_under h
    rw [form_fs] at hxl
    rw [form_cellsOf] at hl
    obtain ⟨v0, v1, v2, v3, v4, v5, rfl⟩ := list_six hl
    obtain ⟨f0, g0, t0, o0⟩ := field_of form_f0
    obtain ⟨f1, g1, t1, o1⟩ := field_of form_f1
    obtain ⟨f2, g2, t2, o2⟩ := field_of form_f2
    have h0 := hf 0 f0 g0
    have h1 := hf 1 f1 g1
    have h2 := hf 2 f2 g2
    rw [t0, o0, int_cellsOf, List.getElem?_eq_getElem (by omega)] at h0
    rw [t1, o1, prop_cellsOf, List.getElem?_eq_getElem (by omega)] at h1
    rw [t2, o2, forms_cellsOf, List.getElem?_eq_getElem (by omega)] at h2
    simp only [List.drop_zero, List.drop_succ_cons, List.take_succ_cons, List.take_zero] at h0 h1 h2
    obtain ⟨k, hk, -, -⟩ := DataW.trod_int Try.underlying3 h0
    simp only [List.cons.injEq, and_true] at hk
    subst hk
    obtain ⟨ys, n1, hn1, -, hyl, hys, hg⟩ := DataW.trod_struct prop_fields h1
    rw [prop_fs] at hys
    have hp : ∀ i, i < 4 → ∃ q, [v1, v2, v3, v4][i]? = some (.int .i64 q) := by
      intro i hi
      obtain ⟨f, e1, e2, e3⟩ := field_of (prop_f i hi)
      have := hg i f e1
      rw [e2, e3, int_cellsOf, List.getElem?_eq_getElem (by omega)] at this
      obtain ⟨q, hq, -, -⟩ := DataW.trod_int Try.underlying3 this
      refine ⟨q, ?_⟩
      have e4 := congrArg (fun l => l[0]?) hq
      simp only [List.getElem?_take_of_lt (show 0 < 1 by omega), List.getElem?_drop, Nat.add_zero, List.getElem?_cons_zero] at e4
      exact e4
    obtain ⟨p1, e1⟩ := hp 0 (by omega)
    obtain ⟨p2, e2⟩ := hp 1 (by omega)
    obtain ⟨p3, e3⟩ := hp 2 (by omega)
    obtain ⟨p4, e4⟩ := hp 3 (by omega)
    simp only [List.getElem?_cons_zero, List.getElem?_cons_succ, Option.some.injEq] at e1 e2 e3 e4
    subst e1 e2 e3 e4
    rcases DataW.trod_slice Try.underlying24 h2 with ⟨hc, -⟩ | ⟨a, len, cap, elems, rest, m, hm, hc, -, -, hlc, hcm, hel, he, -⟩
    · simp only [List.cons.injEq, and_true] at hc
      subst hc
      exact ⟨.mk k ⟨p1, p2, p3, p4⟩ [], .slice none 0 0, rfl, (formAt_leaf w k ⟨p1, p2, p3, p4⟩).le (by omega)⟩
    · simp only [List.cons.injEq, and_true] at hc
      subst hc
      rw [form_cellsOf] at he
      have hkid : ∀ i, i < len → ∃ q : Form × Value, (∀ j, j < 6 → w.cell? ((a.add (i * 6)).add j) = (formCells q.1 q.2)[j]?) ∧ FormAt w m q.1 q.2 := by
        intro i hi
        have := he i hi
        rw [List.getElem?_eq_getElem (by omega), Option.bind_eq_some_iff] at this
        obtain ⟨cs', h3, h4⟩ := this
        obtain ⟨-, hcl, hcell⟩ := World.cells?_some h3
        obtain ⟨g, gv, rfl, hg⟩ := ih m (by omega) cs' _ h4
        exact ⟨(g, gv), hcell, hg⟩
      obtain ⟨l, hll, hlp⟩ := list_exists len _ hkid
      have hmax : len ≤ 9223372036854775807 := by unfold maxLen at hcm; omega
      refine ⟨.mk k ⟨p1, p2, p3, p4⟩ (l.map (·.1)), .slice (some a) len cap, rfl, FormAt.le (d := m + 1) ?_ (by omega)⟩
      refine ⟨some a, cap, by simp [Form.kids, hll], by simp [Form.kids, hll]; exact hmax, fun j hj => ?_⟩
      simp only [Form.kids, List.length_map] at hj
      obtain ⟨hc1, hc2⟩ := hlp j hj
      obtain ⟨b, off, rfl⟩ := spot_none (show w.cell? ((a.add 0).add 0) = some _ by have := (hlp 0 (by omega)).1 0 (by omega); rw [Nat.zero_mul] at this; exact this)
      have hfst : ((Form.mk k ⟨p1, p2, p3, p4⟩ (l.map (·.1))).kids.getD j default) = (l[j]).1 := by
        simp [Form.kids, List.getD_eq_getElem?_getD, hj]
      have hcell : ∀ i, i < 6 → w.cell? ⟨b, off + j * 6 + i, none⟩ = (formCells (l[j]).1 (l[j]).2)[i]? := fun i hi => by
        have := hc1 i hi
        rw [add_plain, add_plain] at this; exact this
      refine ⟨b, off, (l[j]).2, rfl, World.block_lt_of_cell? w _ (show w.cell? ⟨b, off + j * 6 + 0, none⟩ = some _ from hcell 0 (by omega)), fun i hi => ?_, ?_⟩
      · rw [hfst]; exact hcell i hi
      · rw [hfst]; exact hc2

/-- A list of yes and no, read. -/
theorem openBools {H : Type} {enc : TypeId × Value → H} {w : World} {fuel : Nat} {c : Value} {x : DataW H × List MemPlace} (h : DataW.trod enc Try.prog w 0 (fun _ => true) true fuel 41 [c] = some x) : ∃ l, BoolsAt w c l := by
  rcases DataW.trod_slice Try.underlying41 h with ⟨hc, -⟩ | ⟨a, len, cap, elems, rest, m, hm, hc, -, -, hlc, hcm, hel, he, -⟩
  · simp only [List.cons.injEq, and_true] at hc
    subst hc
    exact ⟨[], boolsAt_nil w⟩
  · simp only [List.cons.injEq, and_true] at hc
    subst hc
    rw [bool_cellsOf] at he
    have hkid : ∀ i, i < len → ∃ q : Bool, w.cell? ((a.add i).add 0) = some (.bool q) := by
      intro i hi
      have := he i hi
      rw [List.getElem?_eq_getElem (by omega), Option.bind_eq_some_iff, Nat.mul_one] at this
      obtain ⟨cs', h3, h4⟩ := this
      obtain ⟨-, hcl, hcell⟩ := World.cells?_some h3
      obtain ⟨q, rfl, -⟩ := DataW.trod_bool Try.underlying4 h4
      exact ⟨q, hcell 0 (by omega)⟩
    obtain ⟨l, hll, hlp⟩ := list_exists len _ hkid
    have hmax : len ≤ 9223372036854775807 := by unfold maxLen at hcm; omega
    refine ⟨l, some a, cap, by rw [hll], by rw [hll]; exact hmax, fun j hj => ?_⟩
    obtain ⟨b, off, rfl⟩ := spot_none (hlp 0 (by omega))
    have := hlp j hj
    rw [add_plain, add_plain, Nat.add_zero] at this
    refine ⟨b, off, rfl, World.block_lt_of_cell? w _ this, ?_⟩
    rw [this, List.getD_eq_getElem?_getD, List.getElem?_eq_getElem hj]; rfl
/-- Letters, read. -/
theorem openLetters {H : Type} {enc : TypeId × Value → H} {w : World} {fuel : Nat} {c : Value} {x : DataW H × List MemPlace} (h : DataW.trod enc Try.prog w 0 (fun _ => true) true fuel 27 [c] = some x) : ∃ l, LettersAt w c l := by
  rcases DataW.trod_slice Try.underlying27 h with ⟨hc, -⟩ | ⟨a, len, cap, elems, rest, m, hm, hc, -, -, hlc, hcm, hel, he, -⟩
  · simp only [List.cons.injEq, and_true] at hc
    subst hc
    exact ⟨[], letters_none w⟩
  · simp only [List.cons.injEq, and_true] at hc
    subst hc
    rw [bools_cellsOf] at he
    have hkid : ∀ i, i < len → ∃ q : List Bool × Value, w.cell? ((a.add i).add 0) = some q.2 ∧ BoolsAt w q.2 q.1 := by
      intro i hi
      have := he i hi
      rw [List.getElem?_eq_getElem (by omega), Option.bind_eq_some_iff, Nat.mul_one] at this
      obtain ⟨cs', h3, h4⟩ := this
      obtain ⟨-, hcl, hcell⟩ := World.cells?_some h3
      obtain ⟨v, rfl⟩ := List.length_eq_one_iff.1 hcl
      obtain ⟨l, hl⟩ := openBools h4
      exact ⟨(l, v), hcell 0 (by omega), hl⟩
    obtain ⟨l, hll, hlp⟩ := list_exists len _ hkid
    have hmax : len ≤ 9223372036854775807 := by unfold maxLen at hcm; omega
    refine ⟨l.map (·.1), some a, cap, by simp [hll], by simp [hll]; exact hmax, fun j hj => ?_⟩
    simp only [List.length_map] at hj
    obtain ⟨b, off, rfl⟩ := spot_none (hlp 0 (by omega)).1
    obtain ⟨h1, h2⟩ := hlp j hj
    rw [add_plain, add_plain, Nat.add_zero] at h1
    refine ⟨b, off, _, rfl, World.block_lt_of_cell? w _ h1, h1, ?_⟩
    have : (l.map (·.1)).getD j [] = (l[j]).1 := by simp [List.getD_eq_getElem?_getD, hj]
    rw [this]; exact h2
theorem agg_of {P : Program} {w : World} {r : Reach} {b0 : Nat} {t : TypeId} {fs : Array Field} {v : Value} (ht : P.underlying t = some (.struct fs)) (h : Value.okWide P w r b0 t v) : ∃ cs, v = .agg cs ∧ True := by
  obtain ⟨cs, h1, -⟩ := okWide_struct ht h
  exact ⟨cs, h1, trivial⟩
set_option maxRecDepth 100000 in
/-- A formula by value, opened. -/
theorem open_form {H : Type} {enc : TypeId × Value → H} {w : World} {r : Reach} {b0 : Nat} {v : Value} {d : DataW H} {p : List MemPlace} (hv : Value.okWide Try.prog w r b0 26 v) (h : DataW.Trod enc Try.prog w 0 (fun _ => true) true 26 v d p) : ∃ n f kv, v = formV f kv ∧ FormAt w n f kv := by
  obtain ⟨cs, rfl, -⟩ := agg_of form_under hv
  obtain ⟨fuel, hf⟩ := h
  obtain ⟨f, kv, hc, hfa⟩ := openForm fuel _ _ hf
  refine ⟨fuel, f, kv, ?_, hfa⟩
  have : cs = (formCells f kv).toArray := by
    apply Array.toList_inj.1
    rw [show cs.toList = formCells f kv by simpa [Value.cells] using hc]
  rw [this]; rfl
set_option maxRecDepth 100000 in
/-- A word by value, opened. -/
theorem open_word {H : Type} {enc : TypeId × Value → H} {w : World} {r : Reach} {b0 : Nat} {v : Value} {d : DataW H} {p : List MemPlace} (hv : Value.okWide Try.prog w r b0 29 v) (h : DataW.Trod enc Try.prog w 0 (fun _ => true) true 29 v d p) : ∃ lv ls bk, v = .agg #[lv, .int .i64 bk] ∧ LettersAt w lv ls := by
  obtain ⟨cs, rfl, -⟩ := agg_of word_under hv
  obtain ⟨fuel, hf⟩ := h
  obtain ⟨xs, n, -, -, hl, hxl, hg⟩ := DataW.trod_struct word_under hf
  rw [word_fs] at hxl
  rw [word_cellsOf] at hl
  obtain ⟨v0, v1, he⟩ := list_two hl
  have hcs : cs = #[v0, v1] := by
    apply Array.toList_inj.1
    simpa [Value.cells] using he
  subst hcs
  obtain ⟨f0, g0, t0, o0⟩ := field_of word_f0
  obtain ⟨f1, g1, t1, o1⟩ := field_of word_f1
  have h0 := hg 0 f0 g0
  have h1 := hg 1 f1 g1
  rw [t0, o0, letters_cellsOf, List.getElem?_eq_getElem (by omega)] at h0
  rw [t1, o1, int_cellsOf, List.getElem?_eq_getElem (by omega)] at h1
  simp only [Value.cells, List.drop_zero, List.drop_succ_cons, List.take_succ_cons, List.take_zero] at h0 h1
  obtain ⟨k, hk, -, -⟩ := DataW.trod_int Try.underlying3 h1
  simp only [List.cons.injEq, and_true] at hk
  subst hk
  obtain ⟨ls, hls⟩ := openLetters h0
  exact ⟨v0, ls, k, rfl, hls⟩
end Go.Proofs.Ytidnpdkibndpkaa
