/- Code and states that came in: how they lie in memory. -/
import Derived.Test.YtnlkbboghcdpnaaData
import Derived.Lib.SmallJoins
import Derived.OpenShut
namespace Go.Proofs.Ytnlkbboghcdpnaa
open Go.RowKit Go.ChangeShapes Go.WideShapes Go.ChangeAt

theorem field_of {fs : Array Field} {i : Nat} {t : TypeId} {o : Nat} (h : (fs[i]?).map (fun f => (f.type, f.offset)) = some (t, o)) : ∃ f, fs[i]? = some f ∧ f.type = t ∧ f.offset = o := by
  rw [Option.map_eq_some_iff] at h
  obtain ⟨f, h1, h2⟩ := h
  exact ⟨f, h1, (Prod.mk.inj h2).1, (Prod.mk.inj h2).2⟩
theorem list_exists {α : Type} (n : Nat) (P : Nat → α → Prop) (h : ∀ i, i < n → ∃ x, P i x) : ∃ l : List α, l.length = n ∧ ∀ i (hi : i < l.length), P i l[i] := by
  induction n with
  | zero => exact ⟨[], rfl, fun i hi => by simp at hi⟩
  | succ n ih =>
    obtain ⟨l, hl, hp⟩ := ih (fun i hi => h i (by omega))
    obtain ⟨x, hx⟩ := h n (by omega)
    refine ⟨l ++ [x], by simp [hl], fun i hi => ?_⟩
    by_cases he : i < l.length
    · rw [List.getElem_append_left he]; exact hp i he
    · have : i = l.length := by simp at hi; omega
      subst this
      rw [List.getElem_append_right (by omega)]
      simp [hl]; exact hx
theorem spot_none {w : World} {a : Addr} {v : Value} (h : w.cell? ((a.add 0).add 0) = some v) : ∃ b off, a = ⟨b, off, none⟩ := by
  obtain ⟨b, off, spot⟩ := a
  have hspot : spot = none := by simpa [Addr.add] using World.cell?_spot h
  subst hspot
  exact ⟨b, off, rfl⟩
theorem list_two {α : Type} {l : List α} (h : l.length = 2) : ∃ a b, l = [a, b] := by
  match l, h with
  | [a, b], _ => exact ⟨a, b, rfl⟩
theorem list_three {α : Type} {l : List α} (h : l.length = 3) : ∃ a b c, l = [a, b, c] := by
  match l, h with
  | [a, b, c], _ => exact ⟨a, b, c, rfl⟩
theorem list_four {α : Type} {l : List α} (h : l.length = 4) : ∃ a b c d, l = [a, b, c, d] := by
  match l, h with
  | [a, b, c, d], _ => exact ⟨a, b, c, d, rfl⟩
theorem list_six {α : Type} {l : List α} (h : l.length = 6) : ∃ a b c d e f, l = [a, b, c, d, e, f] := by
  match l, h with
  | [a, b, c, d, e, f], _ => exact ⟨a, b, c, d, e, f, rfl⟩
theorem list_twelve {α : Type} {l : List α} (h : l.length = 12) : ∃ a b c d e f a' b' c' d' e' f', l = [a, b, c, d, e, f, a', b', c', d', e', f'] := by
  match l, h with
  | [a, b, c, d, e, f, a', b', c', d', e', f'], _ => exact ⟨a, b, c, d, e, f, a', b', c', d', e', f', rfl⟩
/-- A slice of things, read. -/
theorem openSlice {α : Type} [Inhabited α] {R : World → α → List Value → Prop} {size : Nat} {t e : TypeId} {H : Type} {enc : TypeId × Value → H} {w : World} {fuel : Nat} {c : Value} {x : DataW H × List MemPlace}
    (ht : Try.prog.underlying t = some (.slice e)) (hce : Try.prog.cellsOf e = size) (hs : 0 < size) (hopen : ∀ m cs y, m < fuel → DataW.trod enc Try.prog w 0 (fun _ => true) true m e cs = some y → cs.length = size → ∃ q, R w q cs)
    (h : DataW.trod enc Try.prog w 0 (fun _ => true) true fuel t [c] = some x) : ∃ l, SliceR R size w c l := by
  rcases DataW.trod_slice ht h with ⟨hc, -⟩ | ⟨a, len, cap, elems, rest, m, hm, hc, -, -, hlc, hcm, hel, he, -⟩
  · simp only [List.cons.injEq, and_true] at hc
    subst hc
    exact ⟨[], none, 0, rfl, by simp, fun j hj => by simp at hj⟩
  · simp only [List.cons.injEq, and_true] at hc
    subst hc
    rw [hce] at he
    have hkid : ∀ i, i < len → ∃ q : α × List Value, (q.2.length = size ∧ ∀ j, j < size → w.cell? ((a.add (i * size)).add j) = q.2[j]?) ∧ R w q.1 q.2 := by
      intro i hi
      have := he i hi
      rw [List.getElem?_eq_getElem (by omega), Option.bind_eq_some_iff] at this
      obtain ⟨cs', h3, h4⟩ := this
      obtain ⟨-, hcl, hcell⟩ := World.cells?_some h3
      obtain ⟨q, hq⟩ := hopen m cs' _ (by omega) h4 hcl
      exact ⟨(q, cs'), ⟨hcl, hcell⟩, hq⟩
    obtain ⟨l, hll, hlp⟩ := list_exists len _ hkid
    have hmax : len ≤ 9223372036854775807 := by unfold maxLen at hcm; omega
    refine ⟨l.map (·.1), some a, cap, by simp [hll], by simp [hll]; exact hmax, fun j hj => ?_⟩
    simp only [List.length_map] at hj
    obtain ⟨⟨hl1, hc1⟩, hc2⟩ := hlp j hj
    have h00 : ∃ v, w.cell? ((a.add 0).add 0) = some v := by
      obtain ⟨⟨k1, k2⟩, -⟩ := hlp 0 (by omega)
      have := k2 0 hs
      rw [Nat.zero_mul, List.getElem?_eq_getElem (by omega)] at this
      exact ⟨_, this⟩
    obtain ⟨v, hv⟩ := h00
    obtain ⟨b, off, rfl⟩ := spot_none hv
    have hcell : ∀ i, i < size → w.cell? ⟨b, off + j * size + i, none⟩ = (l[j]).2[i]? := fun i hi => by
      have := hc1 i hi
      rw [add_plain, add_plain] at this; exact this
    refine ⟨b, off, (l[j]).2, rfl, ?_, hl1, hcell, ?_⟩
    · have := hcell 0 hs
      rw [List.getElem?_eq_getElem (by omega)] at this
      exact World.block_lt_of_cell? w _ this
    · rw [show (l.map (·.1)).getD j default = (l[j]).1 by simp [List.getD_eq_getElem?_getD, hj]]
      exact hc2
section
variable {H : Type} {enc : TypeId × Value → H} {w : World} {fuel : Nat} {x : DataW H × List MemPlace}
theorem int_cellsOf : Try.prog.cellsOf 3 = 1 := by kernel_rfl
theorem byte_cellsOf : Try.prog.cellsOf 5 = 1 := by kernel_rfl
theorem bool_cellsOf : Try.prog.cellsOf 4 = 1 := by kernel_rfl
theorem openInt {cs : List Value} (h : DataW.trod enc Try.prog w 0 (fun _ => true) true fuel 3 cs = some x) : ∃ q : Int, cs = [.int .i64 q] := by
  obtain ⟨q, hq, -, -⟩ := DataW.trod_int Try.underlying3 h
  exact ⟨q, hq⟩
theorem openInts {c : Value} (h : DataW.trod enc Try.prog w 0 (fun _ => true) true fuel 29 [c] = some x) : ∃ l, IntsAt w c l :=
  openSlice Try.underlying29 int_cellsOf (by decide) (fun m cs y _ hy _ => by obtain ⟨q, rfl⟩ := openInt hy; exact ⟨q, rfl⟩) h
theorem expr_under : Try.prog.underlying 62 = some (.struct (Try.prog.fieldsOf 62)) := by kernel_rfl
theorem expr_cellsOf : Try.prog.cellsOf 62 = 4 := by kernel_rfl
theorem expr_fs : (Try.prog.fieldsOf 62).size = 4 := by kernel_rfl
theorem expr_f0 : ((Try.prog.fieldsOf 62)[0]?).map (fun f => (f.type, f.offset)) = some (3, 0) := by kernel_rfl
theorem expr_f1 : ((Try.prog.fieldsOf 62)[1]?).map (fun f => (f.type, f.offset)) = some (3, 1) := by kernel_rfl
theorem expr_f2 : ((Try.prog.fieldsOf 62)[2]?).map (fun f => (f.type, f.offset)) = some (5, 2) := by kernel_rfl
theorem expr_f3 : ((Try.prog.fieldsOf 62)[3]?).map (fun f => (f.type, f.offset)) = some (60, 3) := by kernel_rfl
theorem entry_under : Try.prog.underlying 113 = some (.struct (Try.prog.fieldsOf 113)) := by kernel_rfl
theorem entry_cellsOf : Try.prog.cellsOf 113 = 2 := by kernel_rfl
theorem entry_fs : (Try.prog.fieldsOf 113).size = 2 := by kernel_rfl
theorem entry_f0 : ((Try.prog.fieldsOf 113)[0]?).map (fun f => (f.type, f.offset)) = some (3, 0) := by kernel_rfl
theorem entry_f1 : ((Try.prog.fieldsOf 113)[1]?).map (fun f => (f.type, f.offset)) = some (3, 1) := by kernel_rfl
theorem thread_under : Try.prog.underlying 58 = some (.struct (Try.prog.fieldsOf 58)) := by kernel_rfl
theorem thread_cellsOf : Try.prog.cellsOf 58 = 6 := by kernel_rfl
theorem thread_fs : (Try.prog.fieldsOf 58).size = 3 := by kernel_rfl
theorem thread_f0 : ((Try.prog.fieldsOf 58)[0]?).map (fun f => (f.type, f.offset)) = some (3, 0) := by kernel_rfl
theorem thread_f1 : ((Try.prog.fieldsOf 58)[1]?).map (fun f => (f.type, f.offset)) = some (55, 1) := by kernel_rfl
theorem thread_f2 : ((Try.prog.fieldsOf 58)[2]?).map (fun f => (f.type, f.offset)) = some (56, 5) := by kernel_rfl
theorem state_under : Try.prog.underlying 31 = some (.struct (Try.prog.fieldsOf 31)) := by kernel_rfl
theorem state_cellsOf : Try.prog.cellsOf 31 = 3 := by kernel_rfl
theorem state_fs : (Try.prog.fieldsOf 31).size = 3 := by kernel_rfl
theorem state_f0 : ((Try.prog.fieldsOf 31)[0]?).map (fun f => (f.type, f.offset)) = some (28, 0) := by kernel_rfl
theorem state_f1 : ((Try.prog.fieldsOf 31)[1]?).map (fun f => (f.type, f.offset)) = some (29, 1) := by kernel_rfl
theorem state_f2 : ((Try.prog.fieldsOf 31)[2]?).map (fun f => (f.type, f.offset)) = some (4, 2) := by kernel_rfl
theorem instr_under : Try.prog.underlying 64 = some (.struct (Try.prog.fieldsOf 64)) := by kernel_rfl
theorem instr_cellsOf : Try.prog.cellsOf 64 = 12 := by kernel_rfl
theorem instr_fs : (Try.prog.fieldsOf 64).size = 6 := by kernel_rfl
theorem instr_f0 : ((Try.prog.fieldsOf 64)[0]?).map (fun f => (f.type, f.offset)) = some (3, 0) := by kernel_rfl
theorem instr_f1 : ((Try.prog.fieldsOf 64)[1]?).map (fun f => (f.type, f.offset)) = some (3, 1) := by kernel_rfl
theorem instr_f2 : ((Try.prog.fieldsOf 64)[2]?).map (fun f => (f.type, f.offset)) = some (3, 2) := by kernel_rfl
theorem instr_f3 : ((Try.prog.fieldsOf 64)[3]?).map (fun f => (f.type, f.offset)) = some (62, 3) := by kernel_rfl
theorem instr_f4 : ((Try.prog.fieldsOf 64)[4]?).map (fun f => (f.type, f.offset)) = some (62, 7) := by kernel_rfl
theorem instr_f5 : ((Try.prog.fieldsOf 64)[5]?).map (fun f => (f.type, f.offset)) = some (3, 11) := by kernel_rfl
theorem code_under : Try.prog.underlying 24 = some (.struct (Try.prog.fieldsOf 24)) := by kernel_rfl
theorem code_cellsOf : Try.prog.cellsOf 24 = 3 := by kernel_rfl
theorem code_fs : (Try.prog.fieldsOf 24).size = 3 := by kernel_rfl
theorem code_f0 : ((Try.prog.fieldsOf 24)[0]?).map (fun f => (f.type, f.offset)) = some (3, 0) := by kernel_rfl
theorem code_f1 : ((Try.prog.fieldsOf 24)[1]?).map (fun f => (f.type, f.offset)) = some (3, 1) := by kernel_rfl
theorem code_f2 : ((Try.prog.fieldsOf 24)[2]?).map (fun f => (f.type, f.offset)) = some (22, 2) := by kernel_rfl
theorem f1_cellsOf : Try.prog.cellsOf 60 = 1 := by kernel_rfl
theorem f2_cellsOf : Try.prog.cellsOf 55 = 4 := by kernel_rfl
theorem f3_cellsOf : Try.prog.cellsOf 56 = 1 := by kernel_rfl
theorem f4_cellsOf : Try.prog.cellsOf 28 = 1 := by kernel_rfl
theorem f5_cellsOf : Try.prog.cellsOf 29 = 1 := by kernel_rfl
theorem f6_cellsOf : Try.prog.cellsOf 22 = 1 := by kernel_rfl
/-- An expression's cells, read. -/
theorem openExpr (fuel : Nat) : ∀ (cs : List Value) (x : DataW H × List MemPlace), DataW.trod enc Try.prog w 0 (fun _ => true) true fuel 62 cs = some x → ∃ q kv, cs = ExprT.cells q kv ∧ ExprAt fuel w q kv := by
  induction fuel using Nat.strongRecOn with
  | ind fuel ih =>
    intro cs x h
    obtain ⟨xs, n, hfu, -, hl, hxl, hg⟩ := DataW.trod_struct expr_under h
    rw [expr_fs] at hxl
    rw [expr_cellsOf] at hl
    obtain ⟨v0, v1, v2, v3, rfl⟩ := list_four hl
    obtain ⟨f0, g0, t0, o0⟩ := field_of expr_f0
    have h0 := hg 0 f0 g0
    rw [t0, o0, int_cellsOf, List.getElem?_eq_getElem (by omega)] at h0
    obtain ⟨f1, g1, t1, o1⟩ := field_of expr_f1
    have h1 := hg 1 f1 g1
    rw [t1, o1, int_cellsOf, List.getElem?_eq_getElem (by omega)] at h1
    obtain ⟨f2, g2, t2, o2⟩ := field_of expr_f2
    have h2 := hg 2 f2 g2
    rw [t2, o2, byte_cellsOf, List.getElem?_eq_getElem (by omega)] at h2
    obtain ⟨f3, g3, t3, o3⟩ := field_of expr_f3
    have h3 := hg 3 f3 g3
    rw [t3, o3, f1_cellsOf, List.getElem?_eq_getElem (by omega)] at h3
    simp only [List.drop_zero, List.drop_succ_cons, List.take_succ_cons, List.take_zero] at h0 h1 h2 h3
    obtain ⟨q0, e0⟩ := openInt h0
    simp only [List.cons.injEq, and_true] at e0
    subst e0
    obtain ⟨q1, e1⟩ := openInt h1
    simp only [List.cons.injEq, and_true] at e1
    subst e1
    obtain ⟨q2, e2, -, -⟩ := DataW.trod_int Try.underlying5 h2
    simp only [List.cons.injEq, and_true] at e2
    subst e2
    obtain ⟨l, hl⟩ := openSlice (R := fun w y cs => ∃ kv', cs = ExprT.cells y kv' ∧ ExprAt n w y kv') Try.underlying60 expr_cellsOf (by decide) (fun m cs y hm hy _ => by
      obtain ⟨q, kv, e, hq⟩ := ih m (by omega) cs y hy
      exact ⟨q, kv, e, hq.le (by omega)⟩) h3
    exact ⟨.mk q0 q1 q2 l, v3, rfl, by rw [hfu]; exact hl⟩
theorem openEntry {cs : List Value} (h : DataW.trod enc Try.prog w 0 (fun _ => true) true fuel 113 cs = some x) : ∃ q, EntryR w q cs := by
  obtain ⟨xs, n, hfu, -, hl, hxl, hg⟩ := DataW.trod_struct entry_under h
  rw [entry_fs] at hxl
  rw [entry_cellsOf] at hl
  obtain ⟨v0, v1, rfl⟩ := list_two hl
  obtain ⟨f0, g0, t0, o0⟩ := field_of entry_f0
  have h0 := hg 0 f0 g0
  rw [t0, o0, int_cellsOf, List.getElem?_eq_getElem (by omega)] at h0
  obtain ⟨f1, g1, t1, o1⟩ := field_of entry_f1
  have h1 := hg 1 f1 g1
  rw [t1, o1, int_cellsOf, List.getElem?_eq_getElem (by omega)] at h1
  simp only [List.drop_zero, List.drop_succ_cons, List.take_succ_cons, List.take_zero] at h0 h1
  obtain ⟨q0, e0⟩ := openInt h0
  simp only [List.cons.injEq, and_true] at e0
  subst e0
  obtain ⟨q1, e1⟩ := openInt h1
  simp only [List.cons.injEq, and_true] at e1
  subst e1
  exact ⟨⟨q0, q1⟩, rfl⟩
theorem openThread {cs : List Value} (h : DataW.trod enc Try.prog w 0 (fun _ => true) true fuel 58 cs = some x) : ∃ q, ThreadR w q cs := by
  obtain ⟨xs, n, hfu, -, hl, hxl, hg⟩ := DataW.trod_struct thread_under h
  rw [thread_fs] at hxl
  rw [thread_cellsOf] at hl
  obtain ⟨v0, v1, v2, v3, v4, v5, rfl⟩ := list_six hl
  obtain ⟨f0, g0, t0, o0⟩ := field_of thread_f0
  have h0 := hg 0 f0 g0
  rw [t0, o0, int_cellsOf, List.getElem?_eq_getElem (by omega)] at h0
  obtain ⟨f1, g1, t1, o1⟩ := field_of thread_f1
  have h1 := hg 1 f1 g1
  rw [t1, o1, f2_cellsOf, List.getElem?_eq_getElem (by omega)] at h1
  obtain ⟨f2, g2, t2, o2⟩ := field_of thread_f2
  have h2 := hg 2 f2 g2
  rw [t2, o2, f3_cellsOf, List.getElem?_eq_getElem (by omega)] at h2
  simp only [List.drop_zero, List.drop_succ_cons, List.take_succ_cons, List.take_zero] at h0 h1 h2
  obtain ⟨q0, e0⟩ := openInt h0
  simp only [List.cons.injEq, and_true] at e0
  subst e0
  obtain ⟨y0, y1, y2, y3, m, -, e0, e1, e2, e3⟩ := trod_array4 Try.underlying55 int_cellsOf h1
  obtain ⟨r0, hr0⟩ := openInt e0
  obtain ⟨r1, hr1⟩ := openInt e1
  obtain ⟨r2, hr2⟩ := openInt e2
  obtain ⟨r3, hr3⟩ := openInt e3
  simp only [List.cons.injEq, and_true] at hr0 hr1 hr2 hr3
  subst hr0 hr1 hr2 hr3
  obtain ⟨l, hl⟩ := openSlice (R := EntryR) Try.underlying56 entry_cellsOf (by decide) (fun m cs y _ hy _ => openEntry hy) h2
  exact ⟨⟨q0, [r0, r1, r2, r3], l⟩, rfl, v5, rfl, hl⟩
theorem openState {cs : List Value} (h : DataW.trod enc Try.prog w 0 (fun _ => true) true fuel 31 cs = some x) : ∃ q, StateR w q cs := by
  obtain ⟨xs, n, hfu, -, hl, hxl, hg⟩ := DataW.trod_struct state_under h
  rw [state_fs] at hxl
  rw [state_cellsOf] at hl
  obtain ⟨v0, v1, v2, rfl⟩ := list_three hl
  obtain ⟨f0, g0, t0, o0⟩ := field_of state_f0
  have h0 := hg 0 f0 g0
  rw [t0, o0, f4_cellsOf, List.getElem?_eq_getElem (by omega)] at h0
  obtain ⟨f1, g1, t1, o1⟩ := field_of state_f1
  have h1 := hg 1 f1 g1
  rw [t1, o1, f5_cellsOf, List.getElem?_eq_getElem (by omega)] at h1
  obtain ⟨f2, g2, t2, o2⟩ := field_of state_f2
  have h2 := hg 2 f2 g2
  rw [t2, o2, bool_cellsOf, List.getElem?_eq_getElem (by omega)] at h2
  simp only [List.drop_zero, List.drop_succ_cons, List.take_succ_cons, List.take_zero] at h0 h1 h2
  obtain ⟨q2, e2, -⟩ := DataW.trod_bool Try.underlying4 h2
  simp only [List.cons.injEq, and_true] at e2
  subst e2
  obtain ⟨l, hl⟩ := openSlice (R := ThreadR) Try.underlying28 thread_cellsOf (by decide) (fun m cs y _ hy _ => openThread hy) h0
  obtain ⟨k, hk⟩ := openInts h1
  exact ⟨⟨l, k, q2⟩, v0, v1, rfl, hl, hk⟩
theorem openStates {c : Value} (h : DataW.trod enc Try.prog w 0 (fun _ => true) true fuel 25 [c] = some x) : ∃ l, StatesAt w c l :=
  openSlice Try.underlying25 state_cellsOf (by decide) (fun m cs y _ hy _ => openState hy) h
theorem openInstr {cs : List Value} {d : Nat} (hd : fuel ≤ d) (h : DataW.trod enc Try.prog w 0 (fun _ => true) true fuel 64 cs = some x) : ∃ q, InstrR d w q cs := by
  obtain ⟨xs, n, hfu, -, hl, hxl, hg⟩ := DataW.trod_struct instr_under h
  rw [instr_fs] at hxl
  rw [instr_cellsOf] at hl
  obtain ⟨v0, v1, v2, v3, v4, v5, v6, v7, v8, v9, v10, v11, rfl⟩ := list_twelve hl
  obtain ⟨f0, g0, t0, o0⟩ := field_of instr_f0
  have h0 := hg 0 f0 g0
  rw [t0, o0, int_cellsOf, List.getElem?_eq_getElem (by omega)] at h0
  obtain ⟨f1, g1, t1, o1⟩ := field_of instr_f1
  have h1 := hg 1 f1 g1
  rw [t1, o1, int_cellsOf, List.getElem?_eq_getElem (by omega)] at h1
  obtain ⟨f2, g2, t2, o2⟩ := field_of instr_f2
  have h2 := hg 2 f2 g2
  rw [t2, o2, int_cellsOf, List.getElem?_eq_getElem (by omega)] at h2
  obtain ⟨f3, g3, t3, o3⟩ := field_of instr_f3
  have h3 := hg 3 f3 g3
  rw [t3, o3, expr_cellsOf, List.getElem?_eq_getElem (by omega)] at h3
  obtain ⟨f4, g4, t4, o4⟩ := field_of instr_f4
  have h4 := hg 4 f4 g4
  rw [t4, o4, expr_cellsOf, List.getElem?_eq_getElem (by omega)] at h4
  obtain ⟨f5, g5, t5, o5⟩ := field_of instr_f5
  have h5 := hg 5 f5 g5
  rw [t5, o5, int_cellsOf, List.getElem?_eq_getElem (by omega)] at h5
  simp only [List.drop_zero, List.drop_succ_cons, List.take_succ_cons, List.take_zero] at h0 h1 h2 h3 h4 h5
  obtain ⟨q0, e0⟩ := openInt h0
  simp only [List.cons.injEq, and_true] at e0
  subst e0
  obtain ⟨q1, e1⟩ := openInt h1
  simp only [List.cons.injEq, and_true] at e1
  subst e1
  obtain ⟨q2, e2⟩ := openInt h2
  simp only [List.cons.injEq, and_true] at e2
  subst e2
  obtain ⟨q5, e5⟩ := openInt h5
  simp only [List.cons.injEq, and_true] at e5
  subst e5
  obtain ⟨a, ka, ea, ha⟩ := openExpr _ _ _ h3
  obtain ⟨b, kb, eb, hb⟩ := openExpr _ _ _ h4
  unfold ExprT.cells at ea eb
  simp only [List.cons.injEq, and_true] at ea eb
  obtain ⟨rfl, rfl, rfl, rfl⟩ := ea
  obtain ⟨rfl, rfl, rfl, rfl⟩ := eb
  exact ⟨⟨q0, q1, q2, a, b, q5⟩, v6, v10, rfl, ha.le (by omega), hb.le (by omega)⟩
theorem openRow {cs : List Value} {d : Nat} (hd : fuel ≤ d) (h : DataW.trod enc Try.prog w 0 (fun _ => true) true fuel 59 cs = some x) (hl : cs.length = 1) : ∃ q, RowR d w q cs := by
  obtain ⟨v, rfl⟩ := List.length_eq_one_iff.1 hl
  obtain ⟨l, hl⟩ := openSlice (R := InstrR d) Try.underlying59 instr_cellsOf (by decide) (fun m cs y hm hy _ => openInstr (by omega) hy) h
  exact ⟨l, v, rfl, hl⟩
theorem row_cellsOf : Try.prog.cellsOf 59 = 1 := by kernel_rfl
theorem openRows {c : Value} (h : DataW.trod enc Try.prog w 0 (fun _ => true) true fuel 22 [c] = some x) : ∃ l, RowsAt fuel w c l :=
  openSlice Try.underlying22 row_cellsOf (by decide) (fun m cs y hm hy hl => openRow (by omega) hy hl) h
end
set_option maxRecDepth 100000 in
/-- Code by value, opened. -/
theorem open_code {H : Type} {enc : TypeId × Value → H} {w : World} {b0 : Nat} {v : Value} {d : DataW H} {p : List MemPlace} (hv : Value.okWide Try.prog w .any b0 24 v) (h : DataW.Trod enc Try.prog w 0 (fun _ => true) true 24 v d p) : ∃ k c tv, v = codeV c tv ∧ RowsAt k w tv c.threads := by
  obtain ⟨cs, rfl, -⟩ := okWide_struct code_under hv
  obtain ⟨fuel, hf⟩ := h
  obtain ⟨cl, hcl⟩ : ∃ cl, cl = (Value.agg cs).cells.toList := ⟨_, rfl⟩
  rw [← hcl] at hf
  have h := hf
  obtain ⟨xs, n, hfu, -, hl, hxl, hg⟩ := DataW.trod_struct code_under h
  rw [code_fs] at hxl
  rw [code_cellsOf] at hl
  obtain ⟨v0, v1, v2, hcv⟩ := list_three hl
  subst hcv
  obtain ⟨f0, g0, t0, o0⟩ := field_of code_f0
  have h0 := hg 0 f0 g0
  rw [t0, o0, int_cellsOf, List.getElem?_eq_getElem (by omega)] at h0
  obtain ⟨f1, g1, t1, o1⟩ := field_of code_f1
  have h1 := hg 1 f1 g1
  rw [t1, o1, int_cellsOf, List.getElem?_eq_getElem (by omega)] at h1
  obtain ⟨f2, g2, t2, o2⟩ := field_of code_f2
  have h2 := hg 2 f2 g2
  rw [t2, o2, f6_cellsOf, List.getElem?_eq_getElem (by omega)] at h2
  simp only [List.drop_zero, List.drop_succ_cons, List.take_succ_cons, List.take_zero] at h0 h1 h2
  obtain ⟨q0, e0⟩ := openInt h0
  simp only [List.cons.injEq, and_true] at e0
  subst e0
  obtain ⟨q1, e1⟩ := openInt h1
  simp only [List.cons.injEq, and_true] at e1
  subst e1
  obtain ⟨l, hl⟩ := openRows h2
  have hcs : cs = #[.int .i64 q0, .int .i64 q1, v2] := by
    apply Array.toList_inj.1
    simpa [Value.cells] using hcl.symm
  exact ⟨n, ⟨q0, q1, l⟩, v2, by rw [hcs]; rfl, hl⟩
theorem open_states {H : Type} {enc : TypeId × Value → H} {w : World} {v : Value} {d : DataW H} {p : List MemPlace} (h : DataW.Trod enc Try.prog w 0 (fun _ => true) true 25 v d p) (hv : v.cells.toList = [v]) : ∃ l, StatesAt w v l := by
  obtain ⟨fuel, hf⟩ := h
  rw [hv] at hf
  exact openStates hf
end Go.Proofs.Ytnlkbboghcdpnaa
