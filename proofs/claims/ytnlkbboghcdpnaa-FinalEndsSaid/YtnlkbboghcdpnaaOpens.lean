/- Arguments that came in, opened: lists of strings, of numbers. -/
import Derived.Test.YtnlkbboghcdpnaaBase
import Derived.WalkKit
import Derived.ProofKit
import Derived.OpenShut
import Derived.ShutString
import Derived.ChangeOld
import Derived.Below
import Derived.SliceStrings
namespace Go.Proofs.Ytnlkbboghcdpnaa
open Go.RowKit Go.ChangeShapes Go.WideShapes Go.ChangeAt

/-- A list of strings that came in. -/
def StrsAt (w : World) (sv : Value) (l : List ByteArray) : Prop :=
  ∃ a cap, sv = .slice a l.length cap ∧ l.length ≤ 9223372036854775807 ∧ (∀ s ∈ l, s.size ≤ maxLen) ∧
    ∀ j, j < l.length → ∃ b off, a = some ⟨b, off, none⟩ ∧ b < w.heap.size ∧ w.cell? ⟨b, off + j, none⟩ = some (.string (l.getD j ByteArray.empty))
theorem StrsAt.below {w w' : World} {sv : Value} {l : List ByteArray} (h : StrsAt w sv l) (hb : Below w.heap.size w w') : StrsAt w' sv l := by
  obtain ⟨a, cap, h1, h2, h3, h4⟩ := h
  refine ⟨a, cap, h1, h2, h3, fun j hj => ?_⟩
  obtain ⟨b, off, h5, h6, h7⟩ := h4 j hj
  exact ⟨b, off, h5, Nat.lt_of_lt_of_le h6 hb.size, (hb.cell (p := ⟨b, off + j, none⟩) h6).trans h7⟩
/-- A list of numbers that came in. -/
def NumsAt (w : World) (k : IntKind) (sv : Value) (l : List Int) : Prop :=
  ∃ a cap, sv = .slice a l.length cap ∧ l.length ≤ 9223372036854775807 ∧ (∀ n ∈ l, (Lit.int k n).wf = true) ∧
    ∀ j, j < l.length → ∃ b off, a = some ⟨b, off, none⟩ ∧ b < w.heap.size ∧ w.cell? ⟨b, off + j, none⟩ = some (.int k (l.getD j 0))
theorem NumsAt.below {w w' : World} {k : IntKind} {sv : Value} {l : List Int} (h : NumsAt w k sv l) (hb : Below w.heap.size w w') : NumsAt w' k sv l := by
  obtain ⟨a, cap, h1, h2, h3, h4⟩ := h
  refine ⟨a, cap, h1, h2, h3, fun j hj => ?_⟩
  obtain ⟨b, off, h5, h6, h7⟩ := h4 j hj
  exact ⟨b, off, h5, Nat.lt_of_lt_of_le h6 hb.size, (hb.cell (p := ⟨b, off + j, none⟩) h6).trans h7⟩

theorem plain_addr {w : World} {a : Addr} {v : Value} (h : w.cell? (a.add 0) = some v) : ∃ b off, a = ⟨b, off, none⟩ := by
  obtain ⟨b, off, spot⟩ := a
  have hspot : spot = none := by simpa [Addr.add] using World.cell?_spot h
  subst hspot
  exact ⟨b, off, rfl⟩

theorem strsAt_open {H : Type} {enc : TypeId × Value → H} {P : Program} {w : World} {t e : TypeId} {a : Option Addr} {len cap : Nat} {d : DataW H} {p : List MemPlace} (ht : P.underlying t = some (.slice e)) (he : P.underlying e = some .string) (hc : P.cellsOf e = 1)
    (h : DataW.Trod enc P w 0 (fun _ => true) true t (.slice a len cap) d p) : ∃ l, StrsAt w (.slice a len cap) l := by
  obtain ⟨fuel, hf⟩ := h
  rcases open_strings ht he hc hf with ⟨hcs, _⟩ | ⟨x, l, c, ss, hcs, _, hl, hm, hz, _, hcell, hws⟩
  · simp [Value.cells] at hcs
    obtain ⟨rfl, rfl, rfl⟩ := hcs
    exact ⟨[], none, 0, rfl, by simp, by simp, by simp⟩
  · simp [Value.cells] at hcs
    obtain ⟨rfl, rfl, rfl⟩ := hcs
    have hlen : (ss.take len).length = len := by rw [List.length_take, hz]; simp; omega
    refine ⟨ss.take len, some x, cap, by rw [hlen], by rw [hlen]; unfold maxLen at hm; omega, fun s hs => hws s (List.mem_of_mem_take hs), ?_⟩
    intro j hj
    rw [hlen] at hj
    have hzl : len ≤ ss.length := by rw [hz]; simp; omega
    obtain ⟨b, off, rfl⟩ := plain_addr (hcell 0 (by omega))
    have hcj := hcell j (by omega)
    rw [add_plain] at hcj
    refine ⟨b, off, rfl, World.block_lt_of_cell? w _ hcj, ?_⟩
    rw [hcj]
    simp [List.getD_eq_getElem?_getD, hj]

theorem numsAt_open {H : Type} {enc : TypeId × Value → H} {P : Program} {w : World} {t e : TypeId} {k : IntKind} {a : Option Addr} {len cap : Nat} {d : DataW H} {p : List MemPlace} (ht : P.underlying t = some (.slice e)) (he : P.underlying e = some (.int k)) (hc : P.cellsOf e = 1)
    (h : DataW.Trod enc P w 0 (fun _ => true) true t (.slice a len cap) d p) : ∃ l, NumsAt w k (.slice a len cap) l := by
  obtain ⟨fuel, hf⟩ := h
  rcases open_ints ht he hc hf with ⟨hcs, _⟩ | ⟨x, l, c, zs, hcs, _, hl, hm, hz, _, hcell, hws⟩
  · simp [Value.cells] at hcs
    obtain ⟨rfl, rfl, rfl⟩ := hcs
    exact ⟨[], none, 0, rfl, by simp, by simp, by simp⟩
  · simp [Value.cells] at hcs
    obtain ⟨rfl, rfl, rfl⟩ := hcs
    have hzl : zs.length = cap := by simpa using hz
    have hlen : (zs.take len).length = len := by rw [List.length_take, hzl]; omega
    refine ⟨zs.take len, some x, cap, by rw [hlen], by rw [hlen]; unfold maxLen at hm; omega, fun s hs => hws s (List.mem_of_mem_take hs), ?_⟩
    intro j hj
    rw [hlen] at hj
    obtain ⟨b, off, rfl⟩ := plain_addr (hcell 0 (by omega))
    have hcj := hcell j (by omega)
    rw [add_plain] at hcj
    refine ⟨b, off, rfl, World.block_lt_of_cell? w _ hcj, ?_⟩
    rw [hcj]
    simp [List.getD_eq_getElem?_getD, hj]
end Go.Proofs.Ytnlkbboghcdpnaa
