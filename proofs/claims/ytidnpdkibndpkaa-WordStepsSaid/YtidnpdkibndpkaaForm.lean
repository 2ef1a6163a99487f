/- Atoms and formulas: what they are as data, and how they lie in memory. -/
import Derived.Test.YtidnpdkibndpkaaOpens
import Derived.Deep.QuietTactic
import Derived.BigQuiet
import Derived.StillTailTactics
namespace Go.Proofs.Ytidnpdkibndpkaa
open Go.RowKit

/-- An atom. -/
structure PropD where
  kind : Int
  thread : Int
  place : Int
  num : Int
  deriving DecidableEq
instance : Inhabited PropD := ⟨⟨0, 0, 0, 0⟩⟩
def PropD.cells (p : PropD) : List Value := [.int .i64 p.kind, .int .i64 p.thread, .int .i64 p.place, .int .i64 p.num]
def PropD.val (p : PropD) : Value := .agg #[.int .i64 p.kind, .int .i64 p.thread, .int .i64 p.place, .int .i64 p.num]
/-- A formula. -/
inductive Form where
  | mk (kind : Int) (prop : PropD) (kids : List Form)

/-- A slice that holds n things of so many cells each. -/
def ThingsAt (w : World) (size : Nat) (sv : Value) (n : Nat) (cells : Nat → List Value) : Prop :=
  ∃ a cap, sv = .slice a n cap ∧ n ≤ 9223372036854775807 ∧ ∀ j, j < n → ∃ b off, a = some ⟨b, off, none⟩ ∧ b < w.heap.size ∧
    ∀ i, i < size → w.cell? ⟨b, off + j * size + i, none⟩ = (cells j)[i]?
theorem ThingsAt.below {w w' : World} {size : Nat} {sv : Value} {n : Nat} {cells : Nat → List Value} (h : ThingsAt w size sv n cells) (hb : Below w.heap.size w w') : ThingsAt w' size sv n cells := by
  obtain ⟨a, cap, h1, h2, h4⟩ := h
  refine ⟨a, cap, h1, h2, fun j hj => ?_⟩
  obtain ⟨b, off, h5, h6, h7⟩ := h4 j hj
  exact ⟨b, off, h5, Nat.lt_of_lt_of_le h6 hb.size, fun i hi => (hb.cell (p := ⟨b, off + j * size + i, none⟩) h6).trans (h7 i hi)⟩
/-- Atoms in a slice. -/
def PropsAt (w : World) (sv : Value) (l : List PropD) : Prop := ThingsAt w 4 sv l.length (fun j => ((l.getD j ⟨0, 0, 0, 0⟩)).cells)

/-- Where an atom stands among others: the first place, or -1. -/
def PlaceIs (l : List PropD) (p : PropD) (r : Int) : Prop :=
  (∃ i, i < l.length ∧ l.getD i ⟨0, 0, 0, 0⟩ = p ∧ r = (i : Int) ∧ ∀ j, j < i → l.getD j ⟨0, 0, 0, 0⟩ ≠ p) ∨ (r = -1 ∧ ∀ i, i < l.length → l.getD i ⟨0, 0, 0, 0⟩ ≠ p)
def Form.kind : Form → Int | .mk k _ _ => k
def Form.prop : Form → PropD | .mk _ p _ => p
def Form.kids : Form → List Form | .mk _ _ l => l
instance : Inhabited Form := ⟨.mk 0 default []⟩
/-- A formula's value, by the slice of its parts. -/
def formV (f : Form) (kv : Value) : Value := .agg #[.int .i64 f.kind, .int .i64 f.prop.kind, .int .i64 f.prop.thread, .int .i64 f.prop.place, .int .i64 f.prop.num, kv]
def formCells (f : Form) (kv : Value) : List Value := [.int .i64 f.kind, .int .i64 f.prop.kind, .int .i64 f.prop.thread, .int .i64 f.prop.place, .int .i64 f.prop.num, kv]
/-- Formulas in a slice; R: what is asked of each one's slice of parts. -/
def FormsIn (R : Form → Value → Prop) (w : World) (sv : Value) (l : List Form) : Prop :=
  ∃ a cap, sv = .slice a l.length cap ∧ l.length ≤ 9223372036854775807 ∧ ∀ j, j < l.length → ∃ b off kv, a = some ⟨b, off, none⟩ ∧ b < w.heap.size ∧
    (∀ i, i < 6 → w.cell? ⟨b, off + j * 6 + i, none⟩ = (formCells (l.getD j default) kv)[i]?) ∧ R (l.getD j default) kv
/-- The slice of a formula's parts, so deep. -/
def FormAt (w : World) : Nat → Form → Value → Prop
  | 0, _, _ => False
  | d + 1, f, kv => FormsIn (FormAt w d) w kv f.kids
def FormsAt (w : World) (d : Nat) (sv : Value) (l : List Form) : Prop := FormsIn (FormAt w d) w sv l
theorem FormAt.below {w w' : World} {d : Nat} {f : Form} {kv : Value} (h : FormAt w d f kv) (hb : Below w.heap.size w w') : FormAt w' d f kv := by
  induction d generalizing f kv with
  | zero => exact h.elim
  | succ d ih =>
    obtain ⟨a, cap, h1, h2, h4⟩ := h
    refine ⟨a, cap, h1, h2, fun j hj => ?_⟩
    obtain ⟨b, off, kv', h5, h6, h7, h8⟩ := h4 j hj
    exact ⟨b, off, kv', h5, Nat.lt_of_lt_of_le h6 hb.size, fun i hi => (hb.cell (p := ⟨b, off + j * 6 + i, none⟩) h6).trans (h7 i hi), ih h8⟩
theorem FormsAt.below {w w' : World} {d : Nat} {sv : Value} {l : List Form} (h : FormsAt w d sv l) (hb : Below w.heap.size w w') : FormsAt w' d sv l :=
  FormAt.below (d := d + 1) (f := .mk 0 default l) h hb
theorem FormAt.more {w : World} {d : Nat} {f : Form} {kv : Value} (h : FormAt w d f kv) : FormAt w (d + 1) f kv := by
  induction d generalizing f kv with
  | zero => exact h.elim
  | succ d ih =>
    obtain ⟨a, cap, h1, h2, h4⟩ := h
    refine ⟨a, cap, h1, h2, fun j hj => ?_⟩
    obtain ⟨b, off, kv', h5, h6, h7, h8⟩ := h4 j hj
    exact ⟨b, off, kv', h5, h6, h7, ih h8⟩
theorem FormAt.le {w : World} {d e : Nat} {f : Form} {kv : Value} (h : FormAt w d f kv) (hl : d ≤ e) : FormAt w e f kv := by
  induction hl with
  | refl => exact h
  | step _ ih => exact ih.more

theorem FormAt.slice {w : World} {d : Nat} {f : Form} {kv : Value} (h : FormAt w d f kv) : ∃ a cap, kv = .slice a f.kids.length cap ∧ f.kids.length ≤ 9223372036854775807 := by
  cases d with
  | zero => exact h.elim
  | succ d => obtain ⟨a, cap, h1, h2, _⟩ := h; exact ⟨a, cap, h1, h2⟩
/-- The atoms of a formula, each once. -/
def addP (out : List PropD) (p : PropD) : List PropD := if p ∈ out then out else out ++ [p]
mutual
def Form.props : Form → List PropD
  | .mk k p kids => propsL kids (if k = 3 then [p] else [])
def propsL : List Form → List PropD → List PropD
  | [], out => out
  | f :: l, out => propsL l (f.props.foldl addP out)
end
mutual
/-- How many formulas a formula is. -/
def Form.size : Form → Nat
  | .mk _ _ kids => 1 + sizeL kids
def sizeL : List Form → Nat
  | [] => 0
  | f :: l => f.size + sizeL l
end
theorem addP_len (out : List PropD) (p : PropD) : (addP out p).length ≤ out.length + 1 := by unfold addP; split <;> simp
theorem addPs_len (ps out : List PropD) : (ps.foldl addP out).length ≤ out.length + ps.length := by
  induction ps generalizing out with
  | nil => simp
  | cons p ps ih => simp only [List.foldl_cons, List.length_cons]; have := ih (addP out p); have := addP_len out p; omega
mutual
theorem props_len : ∀ f : Form, f.props.length ≤ f.size
  | .mk k p kids => by
    unfold Form.props Form.size
    have := propsL_len kids (if k = 3 then [p] else [])
    have : (if k = 3 then [p] else []).length ≤ 1 := by split <;> simp
    omega
theorem propsL_len : ∀ (l : List Form) (out : List PropD), (propsL l out).length ≤ out.length + sizeL l
  | [], out => by simp [propsL, sizeL]
  | f :: l, out => by
    unfold propsL sizeL
    have h1 := propsL_len l (f.props.foldl addP out)
    have h2 := addPs_len f.props out
    have h3 := props_len f
    omega
end
theorem sizeL_take (l : List Form) (i : Nat) : sizeL (l.take i) ≤ sizeL l := by
  induction l generalizing i with
  | nil => simp [sizeL]
  | cons f l ih => cases i with
    | zero => simp [sizeL]
    | succ i => simp only [List.take_succ_cons, sizeL]; have := ih i; omega
theorem sizeL_take_succ (l : List Form) (i : Nat) (h : i < l.length) : sizeL (l.take (i + 1)) = sizeL (l.take i) + (l.getD i default).size := by
  induction l generalizing i with
  | nil => simp at h
  | cons f l ih => cases i with
    | zero => simp [sizeL]
    | succ i => simp only [List.take_succ_cons, sizeL]; rw [ih i (by simpa using h)]; simp; omega
theorem size_kid (l : List Form) (i : Nat) (h : i < l.length) : (l.getD i default).size ≤ sizeL l := by
  have := sizeL_take_succ l i h; have := sizeL_take l (i + 1); omega

theorem propsL_take (l : List Form) (out : List PropD) (i : Nat) (h : i < l.length) : propsL (l.take (i + 1)) out = (l.getD i default).props.foldl addP (propsL (l.take i) out) := by
  induction l generalizing out i with
  | nil => simp at h
  | cons f l ih =>
    cases i with
    | zero => simp [propsL]
    | succ i => simp only [List.take_succ_cons, propsL]; rw [ih _ _ (by simpa using h)]; rfl

/-- A row of the call's own, as a slice of things. -/
theorem ThingsAt.of_row {w : World} {B : Nat} {e : TypeId} {size : Nat} {sv : Value} {n : Nat} {xs : List Value} (h : w.ownsRow B e size sv n xs) (cells : Nat → List Value)
    (hc : ∀ j, j < n → ∀ i, i < size → xs[j * size + i]? = (cells j)[i]?) : ThingsAt w size sv n cells := by
  obtain ⟨a, cap, rfl, h1, h2⟩ := row_slice h
  refine ⟨a, cap, rfl, by unfold maxLen at h2; omega, ?_⟩
  intro j hj
  obtain ⟨g, cap', he, -, -⟩ := row_some h (by omega)
  cases he
  refine ⟨g, 0, rfl, (h.lt g rfl).2, fun i hi => ?_⟩
  have hlt : j * size + i < n * size := by
    have : (j + 1) * size ≤ n * size := Nat.mul_le_mul_right _ hj
    rw [Nat.add_mul] at this; omega
  rw [show 0 + j * size + i = j * size + i from by omega, h.cellAt _ hlt]
  exact hc j hj i hi
theorem flatMap_get {α : Type} (f : α → List Value) (size : Nat) (hf : ∀ x, (f x).length = size) (l : List α) (j i : Nat) (hj : j < l.length) (hi : i < size) : (l.flatMap f)[j * size + i]? = (f l[j])[i]? := by
  induction l generalizing j with
  | nil => simp at hj
  | cons x l ih =>
    rw [List.flatMap_cons]
    cases j with
    | zero => rw [List.getElem?_append_left (by rw [hf]; omega)]; simp
    | succ j =>
      rw [List.getElem?_append_right (by rw [hf]; have : (j + 1) * size = j * size + size := Nat.succ_mul j size; omega), hf]
      have : (j + 1) * size + i - size = j * size + i := by have : (j + 1) * size = j * size + size := Nat.succ_mul j size; omega
      rw [this, ih j (by simpa using hj)]; simp
theorem PropsAt.of_row {w : World} {B : Nat} {e : TypeId} {sv : Value} {l : List PropD} (h : w.ownsRow B e 4 sv l.length (l.flatMap PropD.cells)) : PropsAt w sv l := by
  refine ThingsAt.of_row h _ fun j hj i hi => ?_
  rw [flatMap_get PropD.cells 4 (fun _ => rfl) l j i hj hi]
  simp [List.getD, List.getElem?_eq_getElem hj]
theorem PropsAt.below {w w' : World} {sv : Value} {l : List PropD} (h : PropsAt w sv l) (hb : Below w.heap.size w w') : PropsAt w' sv l := ThingsAt.below h hb
/-- The cells of a new block. -/
theorem cells_new (w : World) (l : List Value) (e : TypeId) : ∀ j u, l[j]? = some u → (w.alloc (.cells l.toArray e)).cell? ((⟨w.heap.size, 0, none⟩ : Addr).add j) = some u := by
  intro j u hj
  rw [show (⟨w.heap.size, 0, none⟩ : Addr).add j = ⟨w.heap.size, j, none⟩ from by unfold Addr.add; split <;> simp_all, cell_of_block (heap_alloc_new w _) j]
  simpa using hj
theorem placeIs_exists (l : List PropD) (p : PropD) : ∃ r, PlaceIs l p r := by
  by_cases h : ∃ i, i < l.length ∧ l.getD i ⟨0, 0, 0, 0⟩ = p
  · obtain ⟨i, hi⟩ := h
    obtain ⟨d, ⟨h1, h2⟩, h3⟩ := exists_least (p := fun i => i < l.length ∧ l.getD i ⟨0, 0, 0, 0⟩ = p) ⟨i, hi⟩
    exact ⟨d, .inl ⟨d, h1, h2, rfl, fun j hj he => by have := h3 j ⟨by omega, he⟩; omega⟩⟩
  · exact ⟨-1, .inr ⟨rfl, fun i hi he => h ⟨i, hi, he⟩⟩⟩
theorem PlaceIs.mem {l : List PropD} {p : PropD} {r : Int} (h : PlaceIs l p r) : decide (0 ≤ r) = decide (p ∈ l) := by
  rcases h with ⟨i, h1, h2, rfl, h3⟩ | ⟨rfl, h3⟩
  · have : p ∈ l := by rw [← h2, List.getD_eq_getElem?_getD, List.getElem?_eq_getElem h1]; exact List.getElem_mem h1
    simp [this]
  · have : p ∉ l := by
      intro hm
      obtain ⟨i, hi, he⟩ := List.getElem_of_mem hm
      exact h3 i hi (by rw [List.getD_eq_getElem?_getD, List.getElem?_eq_getElem hi]; exact he)
    simp [this]

/-- Likewise, all in blocks below B. -/
def FormsInB (B : Nat) (R : Form → Value → Prop) (w : World) (sv : Value) (l : List Form) : Prop :=
  ∃ a cap, sv = .slice a l.length cap ∧ l.length ≤ 9223372036854775807 ∧ ∀ j, j < l.length → ∃ b off kv, a = some ⟨b, off, none⟩ ∧ b < B ∧
    (∀ i, i < 6 → w.cell? ⟨b, off + j * 6 + i, none⟩ = (formCells (l.getD j default) kv)[i]?) ∧ R (l.getD j default) kv
def FormAtB (B : Nat) (w : World) : Nat → Form → Value → Prop
  | 0, _, _ => False
  | d + 1, f, kv => FormsInB B (FormAtB B w d) w kv f.kids
theorem FormAtB.below {B : Nat} {w w' : World} {d : Nat} {f : Form} {kv : Value} (h : FormAtB B w d f kv) (hb : Below B w w') : FormAtB B w' d f kv := by
  induction d generalizing f kv with
  | zero => exact h.elim
  | succ d ih =>
    obtain ⟨a, cap, h1, h2, h4⟩ := h
    refine ⟨a, cap, h1, h2, fun j hj => ?_⟩
    obtain ⟨b, off, kv', h5, h6, h7, h8⟩ := h4 j hj
    exact ⟨b, off, kv', h5, h6, fun i hi => (hb.cell (p := ⟨b, off + j * 6 + i, none⟩) h6).trans (h7 i hi), ih h8⟩
theorem FormAt.bound {w : World} {d : Nat} {f : Form} {kv : Value} (h : FormAt w d f kv) : FormAtB w.heap.size w d f kv := by
  induction d generalizing f kv with
  | zero => exact h.elim
  | succ d ih =>
    obtain ⟨a, cap, h1, h2, h4⟩ := h
    refine ⟨a, cap, h1, h2, fun j hj => ?_⟩
    obtain ⟨b, off, kv', h5, h6, h7, h8⟩ := h4 j hj
    exact ⟨b, off, kv', h5, h6, h7, ih h8⟩
theorem FormAtB.at_ {B : Nat} {w : World} {d : Nat} {f : Form} {kv : Value} (h : FormAtB B w d f kv) (hB : B ≤ w.heap.size) : FormAt w d f kv := by
  induction d generalizing f kv with
  | zero => exact h.elim
  | succ d ih =>
    obtain ⟨a, cap, h1, h2, h4⟩ := h
    refine ⟨a, cap, h1, h2, fun j hj => ?_⟩
    obtain ⟨b, off, kv', h5, h6, h7, h8⟩ := h4 j hj
    exact ⟨b, off, kv', h5, Nat.lt_of_lt_of_le h6 hB, h7, ih h8⟩
theorem FormAtB.mono {B C : Nat} {w : World} {d : Nat} {f : Form} {kv : Value} (h : FormAtB B w d f kv) (hB : B ≤ C) : FormAtB C w d f kv := by
  induction d generalizing f kv with
  | zero => exact h.elim
  | succ d ih =>
    obtain ⟨a, cap, h1, h2, h4⟩ := h
    refine ⟨a, cap, h1, h2, fun j hj => ?_⟩
    obtain ⟨b, off, kv', h5, h6, h7, h8⟩ := h4 j hj
    exact ⟨b, off, kv', h5, Nat.lt_of_lt_of_le h6 hB, h7, ih h8⟩
theorem FormAtB.slice {B : Nat} {w : World} {d : Nat} {f : Form} {kv : Value} (h : FormAtB B w d f kv) : ∃ a cap, kv = .slice a f.kids.length cap ∧ f.kids.length ≤ 9223372036854775807 := by
  cases d with
  | zero => exact h.elim
  | succ d => obtain ⟨a, cap, h1, h2, _⟩ := h; exact ⟨a, cap, h1, h2⟩
end Go.Proofs.Ytidnpdkibndpkaa
