/- Graphs and lassos that came in: how they lie in memory. -/
import Derived.Test.YtoojalcfojflhaaAccept2
import Derived.Test.YtoojalcfojflhaaRound
import Derived.Lib.SmallJoins
namespace Go.Proofs.Ytoojalcfojflhaa
open Go.RowKit Go.ChangeShapes Go.WideShapes Go.ChangeAt

theorem edge_f0 : ((Try.prog.fieldsOf 37)[0]?).map (fun f => (f.type, f.offset)) = some (3, 0) := by kernel_rfl
theorem edge_f1 : ((Try.prog.fieldsOf 37)[1]?).map (fun f => (f.type, f.offset)) = some (3, 1) := by kernel_rfl
theorem edge_fs : (Try.prog.fieldsOf 37).size = 2 := by kernel_rfl
theorem edge_under : Try.prog.underlying 37 = some (.struct (Try.prog.fieldsOf 37)) := by kernel_rfl
theorem edge_cellsOf : Try.prog.cellsOf 37 = 2 := by kernel_rfl
theorem int_cellsOf : Try.prog.cellsOf 3 = 1 := by kernel_rfl
theorem ints_cellsOf : Try.prog.cellsOf 23 = 1 := by kernel_rfl
theorem edgeS_cellsOf : Try.prog.cellsOf 29 = 1 := by kernel_rfl
theorem edgeSS_cellsOf : Try.prog.cellsOf 22 = 1 := by kernel_rfl
theorem graph_f0 : ((Try.prog.fieldsOf 25)[0]?).map (fun f => (f.type, f.offset)) = some (22, 0) := by kernel_rfl
theorem graph_f1 : ((Try.prog.fieldsOf 25)[1]?).map (fun f => (f.type, f.offset)) = some (23, 1) := by kernel_rfl
theorem graph_f2 : ((Try.prog.fieldsOf 25)[2]?).map (fun f => (f.type, f.offset)) = some (3, 2) := by kernel_rfl
theorem graph_fs : (Try.prog.fieldsOf 25).size = 3 := by kernel_rfl
theorem graph_under : Try.prog.underlying 25 = some (.struct (Try.prog.fieldsOf 25)) := by kernel_rfl
theorem graph_cellsOf : Try.prog.cellsOf 25 = 3 := by kernel_rfl
theorem lasso_f0 : ((Try.prog.fieldsOf 27)[0]?).map (fun f => (f.type, f.offset)) = some (23, 0) := by kernel_rfl
theorem lasso_f1 : ((Try.prog.fieldsOf 27)[1]?).map (fun f => (f.type, f.offset)) = some (23, 1) := by kernel_rfl
theorem lasso_f2 : ((Try.prog.fieldsOf 27)[2]?).map (fun f => (f.type, f.offset)) = some (3, 2) := by kernel_rfl
theorem lasso_fs : (Try.prog.fieldsOf 27).size = 3 := by kernel_rfl
theorem lasso_under : Try.prog.underlying 27 = some (.struct (Try.prog.fieldsOf 27)) := by kernel_rfl
theorem lasso_cellsOf : Try.prog.cellsOf 27 = 3 := by kernel_rfl
theorem list_three {α : Type} {l : List α} (h : l.length = 3) : ∃ a b c, l = [a, b, c] := by
  match l, h with
  | [a, b, c], _ => exact ⟨a, b, c, rfl⟩
theorem list_two {α : Type} {l : List α} (h : l.length = 2) : ∃ a b, l = [a, b] := by
  match l, h with
  | [a, b], _ => exact ⟨a, b, rfl⟩
theorem field_of {fs : Array Field} {i : Nat} {t : TypeId} {o : Nat} (h : (fs[i]?).map (fun f => (f.type, f.offset)) = some (t, o)) : ∃ f, fs[i]? = some f ∧ f.type = t ∧ f.offset = o := by
  rw [Option.map_eq_some_iff] at h
  obtain ⟨f, h1, h2⟩ := h
  exact ⟨f, h1, (Prod.mk.inj h2).1, (Prod.mk.inj h2).2⟩
theorem list_exists {α : Type} (n : Nat) (P : Nat → α → Prop) (h : ∀ i, i < n → ∃ x, P i x) : ∃ l : List α, l.length = n ∧ ∀ i (hi : i < l.length), P i l[i] := by
  induction n with
  | zero => exact ⟨[], rfl, fun i hi => by simp at hi⟩
  | succ n ih =>
    obtain ⟨l, hl, hp⟩ := ih (fun i hi => h i (by omega))
    obtain ⟨x, hx⟩ := h n (by omega)
    refine ⟨l ++ [x], by simp [hl], fun i hi => ?_⟩
    by_cases he : i < l.length
    · rw [List.getElem_append_left he]; exact hp i he
    · have : i = l.length := by simp at hi; omega
      subst this
      rw [List.getElem_append_right (by omega)]
      simp [hl]; exact hx
theorem spot_none {w : World} {a : Addr} {v : Value} (h : w.cell? ((a.add 0).add 0) = some v) : ∃ b off, a = ⟨b, off, none⟩ := by
  obtain ⟨b, off, spot⟩ := a
  have hspot : spot = none := by simpa [Addr.add] using World.cell?_spot h
  subst hspot
  exact ⟨b, off, rfl⟩
/-- Numbers, read. -/
theorem openInts {H : Type} {enc : TypeId × Value → H} {w : World} {fuel : Nat} {c : Value} {x : DataW H × List MemPlace} (h : DataW.trod enc Try.prog w 0 (fun _ => true) true fuel 23 [c] = some x) : ∃ l, NumsAt w .i64 c l := by
  rcases DataW.trod_slice Try.underlying23 h with ⟨hc, -⟩ | ⟨a, len, cap, elems, rest, m, hm, hc, -, -, hlc, hcm, hel, he, -⟩
  · simp only [List.cons.injEq, and_true] at hc
    subst hc
    exact ⟨[], none, 0, rfl, by simp, by simp, by simp⟩
  · simp only [List.cons.injEq, and_true] at hc
    subst hc
    rw [int_cellsOf] at he
    have hkid : ∀ i, i < len → ∃ q : Int, w.cell? ((a.add i).add 0) = some (.int .i64 q) ∧ (Lit.int .i64 q).wf = true := by
      intro i hi
      have := he i hi
      rw [List.getElem?_eq_getElem (by omega), Option.bind_eq_some_iff, Nat.mul_one] at this
      obtain ⟨cs', h3, h4⟩ := this
      obtain ⟨-, hcl, hcell⟩ := World.cells?_some h3
      obtain ⟨q, rfl, -, hq⟩ := DataW.trod_int Try.underlying3 h4
      exact ⟨q, hcell 0 (by omega), hq⟩
    obtain ⟨l, hll, hlp⟩ := list_exists len _ hkid
    have hmax : len ≤ 9223372036854775807 := by unfold maxLen at hcm; omega
    refine ⟨l, some a, cap, by rw [hll], by rw [hll]; exact hmax, fun y hy => ?_, fun j hj => ?_⟩
    · obtain ⟨j, hj, rfl⟩ := List.getElem_of_mem hy
      exact (hlp j hj).2
    · obtain ⟨b, off, rfl⟩ := spot_none (hlp 0 (by omega)).1
      have := (hlp j hj).1
      rw [add_plain, add_plain, Nat.add_zero] at this
      refine ⟨b, off, rfl, World.block_lt_of_cell? w _ this, ?_⟩
      rw [this, List.getD_eq_getElem?_getD, List.getElem?_eq_getElem hj]; rfl
/-- May its marks be? -/
def EdgeD.fits (e : EdgeD) : Prop := -9223372036854775808 ≤ e.marks ∧ e.marks ≤ 9223372036854775807
/-- Edges, read. -/
theorem openEdges {H : Type} {enc : TypeId × Value → H} {w : World} {fuel : Nat} {c : Value} {x : DataW H × List MemPlace} (h : DataW.trod enc Try.prog w 0 (fun _ => true) true fuel 29 [c] = some x) : ∃ l, EdgeLAt w c l ∧ ∀ e ∈ l, e.fits := by
  rcases DataW.trod_slice Try.underlying29 h with ⟨hc, -⟩ | ⟨a, len, cap, elems, rest, m, hm, hc, -, -, hlc, hcm, hel, he, -⟩
  · simp only [List.cons.injEq, and_true] at hc
    subst hc
    exact ⟨[], ⟨none, 0, rfl, by simp, fun j hj => by simp at hj⟩, by simp⟩
  · simp only [List.cons.injEq, and_true] at hc
    subst hc
    rw [edge_cellsOf] at he
    have hkid : ∀ i, i < len → ∃ q : EdgeD, (∀ j, j < 2 → w.cell? ((a.add (i * 2)).add j) = q.cells[j]?) ∧ q.fits := by
      intro i hi
      have := he i hi
      rw [List.getElem?_eq_getElem (by omega), Option.bind_eq_some_iff] at this
      obtain ⟨cs', h3, h4⟩ := this
      obtain ⟨-, hcl, hcell⟩ := World.cells?_some h3
      obtain ⟨ys, n1, hn1, -, hyl, hys, hg⟩ := DataW.trod_struct edge_under h4
      rw [edge_fs] at hys
      rw [edge_cellsOf] at hyl
      obtain ⟨v0, v1, rfl⟩ := list_two hyl
      obtain ⟨f0, g0, t0, o0⟩ := field_of edge_f0
      obtain ⟨f1, g1, t1, o1⟩ := field_of edge_f1
      have h0 := hg 0 f0 g0
      have h1 := hg 1 f1 g1
      rw [t0, o0, int_cellsOf, List.getElem?_eq_getElem (by omega)] at h0
      rw [t1, o1, int_cellsOf, List.getElem?_eq_getElem (by omega)] at h1
      simp only [List.drop_zero, List.drop_succ_cons, List.take_succ_cons, List.take_zero] at h0 h1
      obtain ⟨k0, hk0, -, -⟩ := DataW.trod_int Try.underlying3 h0
      obtain ⟨k1, hk1, -, hw1⟩ := DataW.trod_int Try.underlying3 h1
      simp only [List.cons.injEq, and_true] at hk0 hk1
      subst hk0 hk1
      refine ⟨⟨k0, k1⟩, hcell, ?_⟩
      simp [Lit.wf, IntKind.min, IntKind.max, IntKind.signed, IntKind.bits] at hw1
      unfold EdgeD.fits
      show -9223372036854775808 ≤ k1 ∧ k1 ≤ 9223372036854775807
      omega
    obtain ⟨l, hll, hlp⟩ := list_exists len _ hkid
    have hmax : len ≤ 9223372036854775807 := by unfold maxLen at hcm; omega
    refine ⟨l, ⟨some a, cap, by rw [hll], by rw [hll]; exact hmax, fun j hj => ?_⟩, fun e he => ?_⟩
    · obtain ⟨hc1, -⟩ := hlp j hj
      obtain ⟨b, off, rfl⟩ := spot_none (show w.cell? ((a.add 0).add 0) = some _ by have := (hlp 0 (by omega)).1 0 (by omega); rw [Nat.zero_mul] at this; exact this)
      have hcell : ∀ i, i < 2 → w.cell? ⟨b, off + j * 2 + i, none⟩ = (l[j]).cells[i]? := fun i hi => by
        have := hc1 i hi
        rw [add_plain, add_plain] at this; exact this
      refine ⟨b, off, rfl, World.block_lt_of_cell? w _ (show w.cell? ⟨b, off + j * 2 + 0, none⟩ = some _ from hcell 0 (by omega)), fun i hi => ?_⟩
      show w.cell? _ = (l.getD j default).cells[i]?
      rw [show l.getD j default = l[j] by simp [List.getD_eq_getElem?_getD, hj]]
      exact hcell i hi
    · obtain ⟨j, hj, rfl⟩ := List.getElem_of_mem he
      exact (hlp j hj).2
/-- The edges of all nodes, read. -/
theorem openRows {H : Type} {enc : TypeId × Value → H} {w : World} {fuel : Nat} {c : Value} {x : DataW H × List MemPlace} (h : DataW.trod enc Try.prog w 0 (fun _ => true) true fuel 22 [c] = some x) : ∃ l, EdgesAt w c l ∧ ∀ r ∈ l, ∀ e ∈ r, e.fits := by
  rcases DataW.trod_slice Try.underlying22 h with ⟨hc, -⟩ | ⟨a, len, cap, elems, rest, m, hm, hc, -, -, hlc, hcm, hel, he, -⟩
  · simp only [List.cons.injEq, and_true] at hc
    subst hc
    exact ⟨[], ⟨none, 0, rfl, by simp, fun j hj => by simp at hj⟩, by simp⟩
  · simp only [List.cons.injEq, and_true] at hc
    subst hc
    rw [edgeS_cellsOf] at he
    have hkid : ∀ i, i < len → ∃ q : List EdgeD × Value, (w.cell? ((a.add i).add 0) = some q.2 ∧ EdgeLAt w q.2 q.1) ∧ ∀ e ∈ q.1, e.fits := by
      intro i hi
      have := he i hi
      rw [List.getElem?_eq_getElem (by omega), Option.bind_eq_some_iff, Nat.mul_one] at this
      obtain ⟨cs', h3, h4⟩ := this
      obtain ⟨-, hcl, hcell⟩ := World.cells?_some h3
      obtain ⟨v, rfl⟩ := List.length_eq_one_iff.1 hcl
      obtain ⟨l, hl, hf⟩ := openEdges h4
      exact ⟨(l, v), ⟨hcell 0 (by omega), hl⟩, hf⟩
    obtain ⟨l, hll, hlp⟩ := list_exists len _ hkid
    have hmax : len ≤ 9223372036854775807 := by unfold maxLen at hcm; omega
    refine ⟨l.map (·.1), ⟨some a, cap, by simp [hll], by simp [hll]; exact hmax, fun j hj => ?_⟩, fun r hr => ?_⟩
    · simp only [List.length_map] at hj
      obtain ⟨b, off, rfl⟩ := spot_none (hlp 0 (by omega)).1.1
      obtain ⟨⟨h1, h2⟩, -⟩ := hlp j hj
      rw [add_plain, add_plain, Nat.add_zero] at h1
      refine ⟨b, off, _, rfl, World.block_lt_of_cell? w _ h1, h1, ?_⟩
      have : (l.map (·.1)).getD j [] = (l[j]).1 := by simp [List.getD_eq_getElem?_getD, hj]
      rw [this]; exact h2
    · obtain ⟨q, hq, rfl⟩ := List.mem_map.1 hr
      obtain ⟨j, hj, rfl⟩ := List.getElem_of_mem hq
      exact (hlp j hj).2
set_option maxRecDepth 100000 in
/-- A graph by value, opened. -/
theorem open_graph {H : Type} {enc : TypeId × Value → H} {w : World} {b0 : Nat} {v : Value} {d : DataW H} {p : List MemPlace} (hv : Value.okWide Try.prog w .any b0 25 v) (h : DataW.Trod enc Try.prog w 0 (fun _ => true) true 25 v d p) : ∃ g ev iv, v = graphV g ev iv ∧ GraphAt w g ev iv ∧ g.fits := by
  obtain ⟨cs, rfl, -⟩ := okWide_struct graph_under hv
  obtain ⟨fuel, hf⟩ := h
  obtain ⟨xs, n, -, -, hl, hxl, hg⟩ := DataW.trod_struct graph_under hf
  rw [graph_fs] at hxl
  rw [graph_cellsOf] at hl
  obtain ⟨v0, v1, v2, he⟩ := list_three hl
  have hcs : cs = #[v0, v1, v2] := by
    apply Array.toList_inj.1
    simpa [Value.cells] using he
  subst hcs
  obtain ⟨f0, g0, t0, o0⟩ := field_of graph_f0
  obtain ⟨f1, g1, t1, o1⟩ := field_of graph_f1
  obtain ⟨f2, g2, t2, o2⟩ := field_of graph_f2
  have h0 := hg 0 f0 g0
  have h1 := hg 1 f1 g1
  have h2 := hg 2 f2 g2
  rw [t0, o0, edgeSS_cellsOf, List.getElem?_eq_getElem (by omega)] at h0
  rw [t1, o1, ints_cellsOf, List.getElem?_eq_getElem (by omega)] at h1
  rw [t2, o2, int_cellsOf, List.getElem?_eq_getElem (by omega)] at h2
  simp only [Value.cells, List.drop_zero, List.drop_succ_cons, List.take_succ_cons, List.take_zero] at h0 h1 h2
  obtain ⟨k, hk, -, -⟩ := DataW.trod_int Try.underlying3 h2
  simp only [List.cons.injEq, and_true] at hk
  subst hk
  obtain ⟨es, he1, he2⟩ := openRows h0
  obtain ⟨is, hi1⟩ := openInts h1
  refine ⟨⟨es, is, k⟩, v0, v1, rfl, ⟨he1, hi1⟩, fun a q hq => ?_⟩
  have ha := GraphD.has_lt hq
  unfold GraphD.has at hq
  have h3 : es.getD a [] ∈ es := by
    rw [List.getD_eq_getElem?_getD, List.getElem?_eq_getElem ha]; exact List.getElem_mem ha
  have h4 : (es.getD a []).getD q default ∈ es.getD a [] := by
    rw [List.getD_eq_getElem?_getD (l := es.getD a []), List.getElem?_eq_getElem hq]; exact List.getElem_mem hq
  exact he2 _ h3 _ h4
set_option maxRecDepth 100000 in
/-- A lasso by value, opened. -/
theorem open_lasso {H : Type} {enc : TypeId × Value → H} {w : World} {b0 : Nat} {v : Value} {d : DataW H} {p : List MemPlace} (hv : Value.okWide Try.prog w .any b0 27 v) (h : DataW.Trod enc Try.prog w 0 (fun _ => true) true 27 v d p) : ∃ l nv ev, v = lassoV l nv ev ∧ LassoAt w l nv ev := by
  obtain ⟨cs, rfl, -⟩ := okWide_struct lasso_under hv
  obtain ⟨fuel, hf⟩ := h
  obtain ⟨xs, n, -, -, hl, hxl, hg⟩ := DataW.trod_struct lasso_under hf
  rw [lasso_fs] at hxl
  rw [lasso_cellsOf] at hl
  obtain ⟨v0, v1, v2, he⟩ := list_three hl
  have hcs : cs = #[v0, v1, v2] := by
    apply Array.toList_inj.1
    simpa [Value.cells] using he
  subst hcs
  obtain ⟨f0, g0, t0, o0⟩ := field_of lasso_f0
  obtain ⟨f1, g1, t1, o1⟩ := field_of lasso_f1
  obtain ⟨f2, g2, t2, o2⟩ := field_of lasso_f2
  have h0 := hg 0 f0 g0
  have h1 := hg 1 f1 g1
  have h2 := hg 2 f2 g2
  rw [t0, o0, ints_cellsOf, List.getElem?_eq_getElem (by omega)] at h0
  rw [t1, o1, ints_cellsOf, List.getElem?_eq_getElem (by omega)] at h1
  rw [t2, o2, int_cellsOf, List.getElem?_eq_getElem (by omega)] at h2
  simp only [Value.cells, List.drop_zero, List.drop_succ_cons, List.take_succ_cons, List.take_zero] at h0 h1 h2
  obtain ⟨k, hk, -, -⟩ := DataW.trod_int Try.underlying3 h2
  simp only [List.cons.injEq, and_true] at hk
  subst hk
  obtain ⟨ns, hn1⟩ := openInts h0
  obtain ⟨es, he1⟩ := openInts h1
  exact ⟨⟨ns, es, k⟩, v0, v1, rfl, ⟨hn1, he1⟩⟩
end Go.Proofs.Ytoojalcfojflhaa
