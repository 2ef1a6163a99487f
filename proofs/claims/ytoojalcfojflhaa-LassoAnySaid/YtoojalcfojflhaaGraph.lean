/- Graphs: what they are as data, and how they lie in memory. -/
import Derived.Test.YtoojalcfojflhaaOpens
import Derived.Test.YtoojalcfojflhaaTarjan
import Derived.Test.YtoojalcfojflhaaMarks
import Derived.Deep.QuietTactic
import Derived.BigQuiet
import Derived.StillTailTactics
namespace Go.Proofs.Ytoojalcfojflhaa
open Go.RowKit

/-- An edge. -/
structure EdgeD where
  to : Int
  marks : Int
  deriving DecidableEq
instance : Inhabited EdgeD := ⟨⟨0, 0⟩⟩
def EdgeD.cells (e : EdgeD) : List Value := [.int .i64 e.to, .int .i64 e.marks]
def EdgeD.val (e : EdgeD) : Value := .agg #[.int .i64 e.to, .int .i64 e.marks]
/-- A graph. -/
structure GraphD where
  edges : List (List EdgeD)
  initial : List Int
  marks : Int

/-- A slice that holds n things of so many cells each. -/
def ThingsAt (w : World) (size : Nat) (sv : Value) (n : Nat) (cells : Nat → List Value) : Prop :=
  ∃ a cap, sv = .slice a n cap ∧ n ≤ 9223372036854775807 ∧ ∀ j, j < n → ∃ b off, a = some ⟨b, off, none⟩ ∧ b < w.heap.size ∧
    ∀ i, i < size → w.cell? ⟨b, off + j * size + i, none⟩ = (cells j)[i]?
theorem ThingsAt.below {w w' : World} {size : Nat} {sv : Value} {n : Nat} {cells : Nat → List Value} (h : ThingsAt w size sv n cells) (hb : Below w.heap.size w w') : ThingsAt w' size sv n cells := by
  obtain ⟨a, cap, h1, h2, h4⟩ := h
  refine ⟨a, cap, h1, h2, fun j hj => ?_⟩
  obtain ⟨b, off, h5, h6, h7⟩ := h4 j hj
  exact ⟨b, off, h5, Nat.lt_of_lt_of_le h6 hb.size, fun i hi => (hb.cell (p := ⟨b, off + j * size + i, none⟩) h6).trans (h7 i hi)⟩
/-- Edges in a slice. -/
def EdgeLAt (w : World) (sv : Value) (l : List EdgeD) : Prop := ThingsAt w 2 sv l.length (fun j => (l.getD j default).cells)
theorem EdgeLAt.below {w w' : World} {sv : Value} {l : List EdgeD} (h : EdgeLAt w sv l) (hb : Below w.heap.size w w') : EdgeLAt w' sv l := ThingsAt.below h hb
theorem EdgeLAt.slice {w : World} {sv : Value} {l : List EdgeD} (h : EdgeLAt w sv l) : ∃ a cap, sv = .slice a l.length cap ∧ l.length ≤ 9223372036854775807 := by
  obtain ⟨a, cap, h1, h2, -⟩ := h; exact ⟨a, cap, h1, h2⟩
theorem EdgeLAt.part {w : World} {a : Option Addr} {n cap : Nat} {l : List EdgeD} (h : EdgeLAt w (.slice a n cap) l) (j : Nat) (hj : j < l.length) : n = l.length ∧ ∃ b off, a = some ⟨b, off, none⟩ ∧ b < w.heap.size ∧
    w.cell? ⟨b, off + j * 2, none⟩ = some (.int .i64 (l.getD j default).to) ∧ w.cell? ⟨b, off + j * 2 + 1, none⟩ = some (.int .i64 (l.getD j default).marks) := by
  obtain ⟨a', cap', he, -, hc⟩ := h
  cases he
  obtain ⟨b, off, e, hb, hx⟩ := hc j hj
  exact ⟨rfl, b, off, e, hb, hx 0 (by omega), hx 1 (by omega)⟩
/-- The edges of all nodes. -/
def EdgesAt (w : World) (sv : Value) (ls : List (List EdgeD)) : Prop :=
  ∃ a cap, sv = .slice a ls.length cap ∧ ls.length ≤ 9223372036854775807 ∧ ∀ j, j < ls.length → ∃ b off kv, a = some ⟨b, off, none⟩ ∧ b < w.heap.size ∧ w.cell? ⟨b, off + j, none⟩ = some kv ∧ EdgeLAt w kv (ls.getD j [])
theorem EdgesAt.below {w w' : World} {sv : Value} {l : List (List EdgeD)} (h : EdgesAt w sv l) (hb : Below w.heap.size w w') : EdgesAt w' sv l := by
  obtain ⟨a, cap, h1, h2, h4⟩ := h
  refine ⟨a, cap, h1, h2, fun j hj => ?_⟩
  obtain ⟨b, off, kv, h5, h6, h7, h8⟩ := h4 j hj
  exact ⟨b, off, kv, h5, Nat.lt_of_lt_of_le h6 hb.size, (hb.cell (p := ⟨b, off + j, none⟩) h6).trans h7, h8.below hb⟩
theorem EdgesAt.slice {w : World} {sv : Value} {l : List (List EdgeD)} (h : EdgesAt w sv l) : ∃ a cap, sv = .slice a l.length cap ∧ l.length ≤ 9223372036854775807 := by
  obtain ⟨a, cap, h1, h2, -⟩ := h; exact ⟨a, cap, h1, h2⟩
theorem EdgesAt.part {w : World} {a : Option Addr} {n cap : Nat} {ls : List (List EdgeD)} (h : EdgesAt w (.slice a n cap) ls) (j : Nat) (hj : j < ls.length) : n = ls.length ∧ ∃ b off ka kc, a = some ⟨b, off, none⟩ ∧ b < w.heap.size ∧
    w.cell? ⟨b, off + j, none⟩ = some (.slice ka (ls.getD j []).length kc) ∧ EdgeLAt w (.slice ka (ls.getD j []).length kc) (ls.getD j []) := by
  obtain ⟨a', cap', he, -, hc⟩ := h
  cases he
  obtain ⟨b, off, kv, e, hb, hx, hl⟩ := hc j hj
  obtain ⟨ka, kc, rfl, -⟩ := hl.slice
  exact ⟨rfl, b, off, ka, kc, e, hb, hx, hl⟩
theorem NumsAt.slice {w : World} {k : IntKind} {sv : Value} {l : List Int} (h : NumsAt w k sv l) : ∃ a cap, sv = .slice a l.length cap ∧ l.length ≤ 9223372036854775807 := by
  obtain ⟨a, cap, h1, h2, -⟩ := h; exact ⟨a, cap, h1, h2⟩
theorem NumsAt.part {w : World} {k : IntKind} {a : Option Addr} {n cap : Nat} {l : List Int} (h : NumsAt w k (.slice a n cap) l) (j : Nat) (hj : j < l.length) : n = l.length ∧ ∃ b off, a = some ⟨b, off, none⟩ ∧ b < w.heap.size ∧ w.cell? ⟨b, off + j, none⟩ = some (.int k (l.getD j 0)) ∧ (Lit.int k (l.getD j 0)).wf = true := by
  obtain ⟨a', cap', he, -, hw, hc⟩ := h
  cases he
  obtain ⟨b, off, e, hb, hx⟩ := hc j hj
  exact ⟨rfl, b, off, e, hb, hx, hw _ (by rw [List.getD_eq_getElem?_getD, List.getElem?_eq_getElem hj]; exact List.getElem_mem hj)⟩
/-- May a node be? -/
def GraphD.node (g : GraphD) (i : Int) : Bool := decide (0 ≤ i ∧ i < (g.edges.length : Int))
/-- May a graph be? -/
def GraphD.right (g : GraphD) : Bool := decide (g.edges.length ≤ 1000000) && decide (0 ≤ g.marks) && decide (g.marks ≤ 40) && g.edges.all (fun l => l.all (fun e => g.node e.to)) && g.initial.all g.node
def GraphD.succ (g : GraphD) (v : Nat) : List Nat := (g.edges.getD v []).map (fun e => e.to.toNat)
/-- A graph's value. -/
def graphV (g : GraphD) (ev iv : Value) : Value := .agg #[ev, iv, .int .i64 g.marks]
/-- A graph's two lists in memory. -/
structure GraphAt (w : World) (g : GraphD) (ev iv : Value) : Prop where
  edges : EdgesAt w ev g.edges
  initial : NumsAt w .i64 iv g.initial
theorem GraphAt.below {w w' : World} {g : GraphD} {ev iv : Value} (h : GraphAt w g ev iv) (hb : Below w.heap.size w w') : GraphAt w' g ev iv := ⟨h.edges.below hb, h.initial.below hb⟩
end Go.Proofs.Ytoojalcfojflhaa
