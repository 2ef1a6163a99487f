/- Is it a lasso: package lasso's answer. -/
import Derived.Test.YtoojalcfojflhaaGRef
namespace Go.Proofs.Ytoojalcfojflhaa
open Go.RowKit

/-- A lasso. -/
structure LassoD where
  nodes : List Int
  edges : List Int
  back : Int
def lassoV (l : LassoD) (nv ev : Value) : Value := .agg #[nv, ev, .int .i64 l.back]
structure LassoAt (w : World) (l : LassoD) (nv ev : Value) : Prop where
  nodes : NumsAt w .i64 nv l.nodes
  edges : NumsAt w .i64 ev l.edges
theorem LassoAt.below {w w' : World} {l : LassoD} {nv ev : Value} (h : LassoAt w l nv ev) (hb : Below w.heap.size w w') : LassoAt w' l nv ev := ⟨h.nodes.below hb, h.edges.below hb⟩
/-- The edge of a step. -/
def GraphD.edgeAt (g : GraphD) (x e : Int) : EdgeD := (g.edges.getD x.toNat []).getD e.toNat default
def LassoD.nextOf (l : LassoD) (i : Nat) : Nat := if i + 1 < l.nodes.length then i + 1 else l.back.toNat
def stepOk (g : GraphD) (l : LassoD) (i : Nat) : Bool :=
  nodeB g.edges.length (l.nodes.getD i 0) && nodeB (g.edges.getD (l.nodes.getD i 0).toNat []).length (l.edges.getD i 0) && decide ((g.edgeAt (l.nodes.getD i 0) (l.edges.getD i 0)).to = l.nodes.getD (l.nextOf i) 0)
/-- The marks that are met, up to a step. -/
def metTo (g : GraphD) (l : LassoD) : Nat → Int
  | 0 => 0
  | i + 1 => if l.back ≤ (i : Int) then bits .or .i64 (metTo g l i) (g.edgeAt (l.nodes.getD i 0) (l.edges.getD i 0)).marks else metTo g l i
def headOk (g : GraphD) (l : LassoD) : Bool := g.right && decide (1 ≤ l.nodes.length) && decide (l.edges.length = l.nodes.length) && decide (0 ≤ l.back) && decide (l.back < (l.nodes.length : Int))
def acceptOk (g : GraphD) (l : LassoD) : Bool :=
  headOk g l && g.initial.any (fun i => decide (i = l.nodes.getD 0 0)) && (List.range l.nodes.length).all (stepOk g l) && decide (bits .and .i64 (metTo g l l.nodes.length) (2 ^ g.marks.toNat - 1) = 2 ^ g.marks.toNat - 1)

set_option maxHeartbeats 1000000 in
/-- The first place of a number. -/
theorem indexI_any (w : World) (sv : Value) (l : List Int) (hl : NumsAt w .i64 sv l) (x : Int) :
    Calls Try.prog 33 #[sv, .int .i64 x] w fun e w' => w = w' ∧ ((∃ i : Nat, i < l.length ∧ e = .returned (.int .i64 i) ∧ l.getD i 0 = x ∧ ∀ j, j < i → l.getD j 0 ≠ x) ∨ (e = .returned (.int .i64 (-1)) ∧ ∀ j, j < l.length → l.getD j 0 ≠ x)) := by
  obtain ⟨a, cap, rfl, hn⟩ := hl.slice
  obtain ⟨n, hnd⟩ : ∃ n, n = l.length := ⟨_, rfl⟩
  have HL := Lib.hid hl
  rw [← hnd] at hn HL ⊢
  have HN := Lib.hid hnd
  clear hnd hl
  go_enter Try.func33, Try.ntmps33
  go_wp2
  go_loopg [8] n (fun g s8 wr => ∃ i : Nat, i ≤ n ∧ Hid (g = n - i) ∧ s8 = .int .i64 i ∧ w = wr ∧ Hid (∀ j, j < i → l.getD j 0 ≠ x))
  case atStart => exact ⟨0, Nat.zero_le _, rfl, rfl, rfl, fun j hj => by omega⟩
  case round =>
    obtain ⟨i, hi, HG, rfl, hwr, HJ⟩ := hrel
    obtain rfl : w = wr := hwr
    by_cases hlt : i < n
    · obtain ⟨-, b, off, rfl, hb, hc, -⟩ := HL.out.part i (by rw [← HN.out]; exact hlt)
      obtain ⟨y, hy⟩ : ∃ y, y = l.getD i 0 := ⟨_, rfl⟩
      rw [← hy] at hc
      have HY := Lib.hid hy
      clear hy hb
      by_cases he : x = y
      · have hb : ((x : Int) == y) = true := by simp [he]
        have HE := Lib.hid he
        clear he
        go_wp2
        go_ret
        exact ⟨rfl, .inl ⟨i, hlt, rfl, by rw [← HY.out]; exact HE.out.symm, HJ.out⟩⟩
      · have hb : ((x : Int) == y) = false := by simp [he]
        have HE := Lib.hid he
        clear he
        go_wp2
        go_roundg (n - (i + 1))
        case measure => rw [HG.out]; omega
        case rel => exact ⟨i + 1, by omega, rfl, by go_num, rfl, fun j hj => by
          by_cases he : j = i
          · subst he; rw [← HY.out]; exact fun e => HE.out e.symm
          · exact HJ.out j (by omega)⟩
    · obtain rfl : i = n := by omega
      go_wp2
      go_ret
      exact ⟨rfl, .inr ⟨rfl, HJ.out⟩⟩
theorem containsI_any (w : World) (sv : Value) (l : List Int) (hl : NumsAt w .i64 sv l) (x : Int) :
    Calls Try.prog 18 #[sv, .int .i64 x] w fun e w' => e = .returned (.bool (l.any (fun i => decide (i = x)))) ∧ w = w' := by
  have hc := indexI_any w sv l hl x
  have HC := Lib.hid hc
  obtain ⟨r, hr⟩ : ∃ r, r = l.any (fun i => decide (i = x)) := ⟨_, rfl⟩
  rw [← hr]
  have HR := Lib.hid hr
  clear hc hr hl
  go_enter Try.func18, Try.ntmps18
  go_wp2_with fail
  refine HC.out.mono ?_
  rintro e w2 ⟨rfl, ⟨i, hi, rfl, h1, -⟩ | ⟨rfl, h1⟩⟩
  · obtain rfl : r = true := by
      rw [HR.out, List.any_eq_true]
      exact ⟨l.getD i 0, by rw [List.getD_eq_getElem?_getD, List.getElem?_eq_getElem hi]; exact List.getElem_mem hi, by simpa using h1⟩
    clear HC HR h1
    go_wp2
    go_ret
    exact ⟨rfl, rfl⟩
  · obtain rfl : r = false := by
      rw [HR.out, List.any_eq_false]
      intro y hy
      obtain ⟨j, hj, rfl⟩ := List.getElem_of_mem hy
      have := h1 j hj
      rw [List.getD_eq_getElem?_getD, List.getElem?_eq_getElem hj] at this
      simpa using this
    clear HC HR h1
    go_wp2
    go_ret
    exact ⟨rfl, rfl⟩
end Go.Proofs.Ytoojalcfojflhaa
