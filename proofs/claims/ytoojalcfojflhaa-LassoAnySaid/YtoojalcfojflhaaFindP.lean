/- Is there a lasso: what groups say of it: plain laws. -/
import Derived.Test.YtoojalcfojflhaaRound
namespace Go.Proofs.Ytoojalcfojflhaa
open Go.RowKit

/-- An edge among nodes that lead to i, and to which i leads. -/
def Circ (g : GraphD) (i a k : Nat) : Prop := g.has a k ∧ Reach g.succ i a ∧ Reach g.succ a i ∧ Reach g.succ i (g.toOf a k) ∧ Reach g.succ (g.toOf a k) i
/-- Is there a lasso? -/
def HasL (g : GraphD) : Prop := ∃ i x0 : Nat, (x0 : Int) ∈ g.initial ∧ Reach g.succ x0 i ∧ (∃ a k, Circ g i a k) ∧ ∀ b, b < g.marks.toNat → ∃ a k, Circ g i a k ∧ bitI (g.markOf a k) b = true
/-- What the groups are. -/
structure Groups (g : GraphD) (grp : Nat → Int) : Prop where
  closed : ∀ v, 0 ≤ grp v → ∀ k ∈ g.succ v, 0 ≤ grp k
  scc : ∀ u v, 0 ≤ grp u → 0 ≤ grp v → (grp u = grp v ↔ Reach g.succ u v ∧ Reach g.succ v u)
  rep : ∀ u, 0 ≤ grp u → ∃ r : Nat, grp u = (r : Int) ∧ grp r = (r : Int)
  come : ∀ v, 0 ≤ grp v ↔ ∃ a : Nat, (a : Int) ∈ g.initial ∧ Reach g.succ a v
  lt : ∀ v, 0 ≤ grp v → v < g.edges.length
theorem Groups.of {g : GraphD} {s : TS} (h : TInv g.edges.length g.succ (fun a => (a : Int) ∈ g.initial) s) (hp : s.path = []) (hI : ∀ a : Nat, (a : Int) ∈ g.initial → 0 < s.order a) : Groups g s.group :=
  ⟨h.closed, h.scc, h.rep, fun v => h.reached hp hI v, fun v hv => h.bound v (h.gvis v hv)⟩
section
variable {g : GraphD} {grp : Nat → Int}
theorem Groups.within (h : Groups g grp) {t : Nat} {u v : Nat} (hr : Reach g.succ u v) (hu : grp u = (t : Int)) (hv : grp v = (t : Int)) : ∃ l, Way g (fun y => decide (grp y = (t : Int))) u l v := by
  induction hr with
  | refl a => exact ⟨[], .nil a⟩
  | @step a k b he hr ih =>
    have hk0 : 0 ≤ grp k := h.closed a (by omega) k he
    have hab := (h.scc a b (by omega) (by omega)).1 (by omega)
    have hk : grp k = grp a := (h.scc k a hk0 (by omega)).2 ⟨hr.trans hab.2, .edge he⟩
    obtain ⟨l, hl⟩ := ih (by omega) hv
    obtain ⟨q, h1, rfl⟩ := g.succ_has he
    exact ⟨(a, q) :: l, .cons h1 (by simp; omega) hl⟩
theorem Groups.strong (h : Groups g grp) {t : Nat} (he : ∃ a k, Inner g grp t a k) (hm : ∀ b, b < g.marks.toNat → ∃ a k, Inner g grp t a k ∧ bitI (g.markOf a k) b = true) : Strong g grp t :=
  ⟨fun a b ha hb => h.within ((h.scc a b (by omega) (by omega)).1 (by omega)).1 ha hb, he, hm⟩
theorem Groups.inner_circ (h : Groups g grp) {t : Int} {i a k : Nat} (hi : grp i = t) (ht : 0 ≤ t) : Inner g grp t a k ↔ Circ g i a k := by
  constructor
  · rintro ⟨h1, h2, -, h4⟩
    have e1 := (h.scc i a (by omega) (by omega)).1 (by omega)
    have e2 := (h.scc i (g.toOf a k) (by omega) (by omega)).1 (by omega)
    exact ⟨h1, e1.1, e1.2, e2.1, e2.2⟩
  · rintro ⟨h1, h2, h3, h4, h5⟩
    have hr : ∀ v, Reach g.succ i v → 0 ≤ grp v := fun v hv => hv.stays (C := fun v => 0 ≤ grp v) h.closed (by omega)
    have e1 := (h.scc i a (by omega) (hr a h2)).2 ⟨h2, h3⟩
    have e2 := (h.scc i (g.toOf a k) (by omega) (hr _ h4)).2 ⟨h4, h5⟩
    exact ⟨h1, by omega, ht, by omega⟩
/-- There is a lasso just if there is a group with an edge in it, and all marks. -/
theorem Groups.has_iff (h : Groups g grp) : HasL g ↔ ∃ t : Nat, t < g.edges.length ∧ (∃ a k, Inner g grp t a k) ∧ ∀ b, b < g.marks.toNat → ∃ a k, Inner g grp t a k ∧ bitI (g.markOf a k) b = true := by
  constructor
  · rintro ⟨i, x0, h0, hr, ⟨a, k, hc⟩, hm⟩
    have hi : 0 ≤ grp i := (h.come i).2 ⟨x0, h0, hr⟩
    obtain ⟨r, e1, e2⟩ := h.rep i hi
    refine ⟨r, h.lt r (by omega), ⟨a, k, (h.inner_circ e1 (by omega)).2 hc⟩, fun b hb => ?_⟩
    obtain ⟨a', k', hc', hb'⟩ := hm b hb
    exact ⟨a', k', (h.inner_circ e1 (by omega)).2 hc', hb'⟩
  · rintro ⟨t, -, ⟨a, k, hin⟩, hm⟩
    have ha : grp a = (t : Int) := hin.2.1
    obtain ⟨x0, h0, hr⟩ := (h.come a).1 (by omega)
    refine ⟨a, x0, h0, hr, ⟨a, k, (h.inner_circ ha (by omega)).1 hin⟩, fun b hb => ?_⟩
    obtain ⟨a', k', hin', hb'⟩ := hm b hb
    exact ⟨a', k', (h.inner_circ ha (by omega)).1 hin', hb'⟩
theorem Groups.from_ (h : Groups g grp) {t : Nat} (he : ∃ a k, Inner g grp t a k) : ∃ x0 : Nat, (x0 : Int) ∈ g.initial ∧ ∃ y, Reach g.succ x0 y ∧ grp y = (t : Int) := by
  obtain ⟨a, k, hin⟩ := he
  obtain ⟨x0, h0, hr⟩ := (h.come a).1 (by have := hin.2.1; omega)
  exact ⟨x0, h0, a, hr, hin.2.1⟩
end
theorem Way.all_has {may : Nat → Bool} {g : GraphD} {a b : Nat} {l : List (Nat × Nat)} (h : Way g may a l b) : ∀ p ∈ l, g.has p.1 p.2 := by
  intro p hp
  obtain ⟨j, hj, rfl⟩ := List.getElem_of_mem hp
  have := (h.at_ j hj).1
  rwa [List.getD_eq_getElem?_getD, List.getElem?_eq_getElem hj] at this
/-- Numbers in a row of the call's own. -/
theorem nums_of_row {w : World} {B n cap : Nat} {a : Option Addr} {xs : List Int} (h : w.ownsRow B 3 1 (.slice a n cap) n (xs.map (Value.int .i64))) (hn : n ≤ 100000000) (hw : ∀ x ∈ xs, 0 ≤ x ∧ x ≤ 9223372036854775807) : NumsAt w .i64 (.slice a n cap) xs := by
  have hl : xs.length = n := by have := h.1; simpa using this
  refine ⟨a, cap, by rw [hl], by omega, fun x hx => ?_, fun j hj => ?_⟩
  · obtain ⟨h1, h2⟩ := hw x hx
    simp [Lit.wf, IntKind.min, IntKind.max, IntKind.signed, IntKind.bits]
    omega
  · obtain ⟨g, cap', he, -, -⟩ := row_some h (by omega)
    cases he
    have hc := World.ownsRow.cellAt h j (by omega)
    have hx : xs[j]? = some xs[j] := List.getElem?_eq_getElem hj
    rw [List.getElem?_map, hx] at hc
    refine ⟨g, 0, rfl, World.block_lt_of_cell? w _ hc, ?_⟩
    rw [Nat.zero_add, hc, List.getD_eq_getElem?_getD, hx]; rfl
/-- What is told of a graph. -/
def FindTold (g : GraphD) (w : World) (e : Ending) (w' : World) : Prop :=
  Below w.heap.size w w' ∧
  ((g.right = false ∧ e = .returned (.tuple #[.agg #[.slice none 0 0, .slice none 0 0, .int .i64 0], .bool false, .int .i64 1])) ∨
   (g.right = true ∧ ¬ HasL g ∧ e = .returned (.tuple #[.agg #[.slice none 0 0, .slice none 0 0, .int .i64 0], .bool false, .int .i64 0])) ∨
   (g.right = true ∧ HasL g ∧ ∃ L nv ev, e = .returned (.tuple #[lassoV L nv ev, .bool true, .int .i64 0]) ∧ LassoAt w' L nv ev ∧ acceptOk g L = true ∧ 0 < L.nodes.length ∧ (∀ y, nv.ownBlock = some y → w.heap.size ≤ y) ∧ ∀ y, ev.ownBlock = some y → w.heap.size ≤ y))
theorem NumsAt.since {F : Nat → Prop} {w w' : World} {k : IntKind} {sv : Value} {l : List Int} (h : NumsAt w k sv l) (hs : Since F w w') (hf : ∀ y, sv.ownBlock = some y → ¬ F y) : NumsAt w' k sv l := by
  obtain ⟨a, cap, rfl, h1, h2, h3⟩ := h
  refine ⟨a, cap, rfl, h1, h2, fun j hj => ?_⟩
  obtain ⟨b, off, rfl, h4, h5⟩ := h3 j hj
  exact ⟨b, off, rfl, Nat.lt_of_lt_of_le h4 hs.size, (hs.cell (p := ⟨b, off + j, none⟩) h4 (hf b rfl)).trans h5⟩
end Go.Proofs.Ytoojalcfojflhaa
