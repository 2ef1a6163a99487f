/- Pairs of formulas in a slice, as the laws of words lay them. -/
import Derived.Test.YtidnpdkibndpkaaSteps
import Derived.Test.YtidnpdkibndpkaaMadeW
import Derived.Test.YtidnpdkibndpkaaAwake
import Derived.Test.YtidnpdkibndpkaaMkP
import Derived.Test.YtidnpdkibndpkaaChain
import Derived.Laws.Tables
namespace Go.Proofs.Ytidnpdkibndpkaa
open Go.RowKit

/-- Pairs of formulas, so many, in a block. -/
def PairsAt (w : World) (b : Nat) (X Y : Nat → Form) (n : Nat) : Prop :=
  b < w.heap.size ∧ ∀ i, i < n → ∃ xv yv, FormAt w 12 (X i) xv ∧ FormAt w 12 (Y i) yv ∧
    (∀ j, j < 6 → w.cell? ⟨b, i * 12 + j, none⟩ = (formCells (X i) xv)[j]?) ∧ (∀ j, j < 6 → w.cell? ⟨b, i * 12 + 6 + j, none⟩ = (formCells (Y i) yv)[j]?)
theorem PairsAt.below {w w' : World} {b : Nat} {X Y : Nat → Form} {n : Nat} (h : PairsAt w b X Y n) (hb : Below w.heap.size w w') : PairsAt w' b X Y n := by
  obtain ⟨h1, h2⟩ := h
  refine ⟨Nat.lt_of_lt_of_le h1 hb.size, fun i hi => ?_⟩
  obtain ⟨xv, yv, a1, a2, a3, a4⟩ := h2 i hi
  exact ⟨xv, yv, a1.below hb, a2.below hb, fun j hj => (hb.cell (p := ⟨b, i * 12 + j, none⟩) h1).trans (a3 j hj), fun j hj => (hb.cell (p := ⟨b, i * 12 + 6 + j, none⟩) h1).trans (a4 j hj)⟩
def pairCells (q : (Form × Value) × (Form × Value)) : List Value := formCells q.1.1 q.1.2 ++ formCells q.2.1 q.2.2
theorem pairCells_len (q : (Form × Value) × (Form × Value)) : (pairCells q).length = 12 := by simp [pairCells, formCells]
theorem pairs_of {w : World} {b : Nat} {e : TypeId} {l : List ((Form × Value) × (Form × Value))} (h : w.heap[b]? = some (.cells (l.flatMap pairCells).toArray e (0, 0))) (hF : ∀ q ∈ l, FormAt w 12 q.1.1 q.1.2 ∧ FormAt w 12 q.2.1 q.2.2)
    {X Y : Nat → Form} (hX : ∀ i (h : i < l.length), X i = l[i].1.1 ∧ Y i = l[i].2.1) : PairsAt w b X Y l.length := by
  refine ⟨lt_of_block h, fun i hi => ⟨l[i].1.2, l[i].2.2, ?_, ?_, ?_, ?_⟩⟩
  · rw [(hX i hi).1]; exact (hF _ (List.getElem_mem hi)).1
  · rw [(hX i hi).2]; exact (hF _ (List.getElem_mem hi)).2
  · intro j hj
    rw [cell_of_block h, List.getElem?_toArray, flatMap_get pairCells 12 pairCells_len l i j hi (by omega), (hX i hi).1]
    unfold pairCells
    rw [List.getElem?_append_left (by simp [formCells]; omega)]
  · intro j hj
    rw [cell_of_block h, List.getElem?_toArray, show i * 12 + 6 + j = i * 12 + (6 + j) by omega, flatMap_get pairCells 12 pairCells_len l i (6 + j) hi (by omega), (hX i hi).2]
    unfold pairCells
    rw [List.getElem?_append_right (by simp [formCells]), show 6 + j - (formCells l[i].1.1 l[i].1.2).length = j by simp [formCells]]
/-- What is made in blocks below stays. -/
theorem cells_kept {w w' : World} (h : Below w.heap.size w w') : ∀ a v, w.cell? a = some v → w'.cell? a = some v := fun _ _ hc => (h.cell (World.block_lt_of_cell? w _ hc)).trans hc
/-- A formula is stored whole. -/
theorem store6 {w : World} {B : Nat} {ty : TypeId} {z0 z1 z2 z3 z4 z5 : Value} (h : w.heap[B]? = some (.cells #[z0, z1, z2, z3, z4, z5] ty (0, 0))) (u0 u1 u2 u3 u4 u5 : Value) :
    ((((((w.setCell ⟨B, 0, none⟩ u0).setCell ⟨B, 1, none⟩ u1).setCell ⟨B, 2, none⟩ u2).setCell ⟨B, 3, none⟩ u3).setCell ⟨B, 4, none⟩ u4).setCell ⟨B, 5, none⟩ u5).heap[B]? = some (.cells #[u0, u1, u2, u3, u4, u5] ty (0, 0)) ∧ Since (fun b => b = B) w ((((((w.setCell ⟨B, 0, none⟩ u0).setCell ⟨B, 1, none⟩ u1).setCell ⟨B, 2, none⟩ u2).setCell ⟨B, 3, none⟩ u3).setCell ⟨B, 4, none⟩ u4).setCell ⟨B, 5, none⟩ u5) := by
  constructor
  · have := set_of_block (set_of_block (set_of_block (set_of_block (set_of_block (set_of_block h 0 u0) 1 u1) 2 u2) 3 u3) 4 u4) 5 u5
    simpa using this
  · exact Since.setCell (F := fun b => b = B) (p := ⟨B, 5, none⟩) (Since.setCell (F := fun b => b = B) (p := ⟨B, 4, none⟩) (Since.setCell (F := fun b => b = B) (p := ⟨B, 3, none⟩) (Since.setCell (F := fun b => b = B) (p := ⟨B, 2, none⟩) (Since.setCell (F := fun b => b = B) (p := ⟨B, 1, none⟩) (Since.setCell (F := fun b => b = B) (p := ⟨B, 0, none⟩) (Since.refl _ w) (.inl rfl) u0) (.inl rfl) u1) (.inl rfl) u2) (.inl rfl) u3) (.inl rfl) u4) (.inl rfl) u5
theorem FormAtP.then {P : Nat → Prop} {w w' : World} {d : Nat} {f : Form} {kv : Value} (h : FormAtP P w d f kv) (hb : Below w.heap.size w w') : FormAtP P w' d f kv := h.since (since_of (fun _ => False) hb) (fun _ _ h => h)
theorem FormAtP.beside {U : Nat → Prop} {w : World} {d : Nat} {f : Form} {kv : Value} (h : FormAtP (fun b => ¬ U b) w d f kv) (o : Obj) : FormAtP (fun b => ¬ (U b ∨ b = w.heap.size)) (w.alloc o) d f kv :=
  (h.mono (fun b h1 h2 => by rintro (h3 | h3); exact h1 h3; omega)).then ((Below.refl _ _).alloc (Nat.le_refl _) _)
theorem FormAtP.fresh {U : Nat → Prop} {w w' : World} {d : Nat} {f : Form} {kv : Value} (h : FormAtP (fun b => ¬ U b ∨ w.heap.size ≤ b) w' d f kv) (hU : ∀ b, U b → b < w.heap.size) : FormAtP (fun b => ¬ U b) w' d f kv :=
  h.mono (fun b h1 _ h2 => by have := hU b h2; rcases h1 with h | h; exact h h2; omega)
theorem FormAt.apart {U : Nat → Prop} {w w' : World} {d : Nat} {f : Form} {kv : Value} (h : FormAt w d f kv) (hb : Below w.heap.size w w') (hU : ∀ b, U b → w.heap.size ≤ b) : FormAtP (fun b => ¬ U b) w' d f kv :=
  ((h.toP).then hb).mono (fun b h1 _ h2 => by have := hU b h2; omega)
/-- A pair of formulas is built. -/
theorem run_pair (w : World) (a0 a1 a2 a3 a4 b0 b1 b2 b3 b4 : Int) (aa ba : Option Addr) (an ac bn bc : Nat) :
    (Instr.build 39 #[(0, .agg #[.int .i64 a0, .int .i64 a1, .int .i64 a2, .int .i64 a3, .int .i64 a4, .slice aa an ac]), (1, .agg #[.int .i64 b0, .int .i64 b1, .int .i64 b2, .int .i64 b3, .int .i64 b4, .slice ba bn bc])]).run Try.prog w =
      .ok (.agg #[.int .i64 a0, .int .i64 a1, .int .i64 a2, .int .i64 a3, .int .i64 a4, .slice aa an ac, .int .i64 b0, .int .i64 b1, .int .i64 b2, .int .i64 b3, .int .i64 b4, .slice ba bn bc]) w := run_build w _ _ _ (by kernel_rfl)
attribute [go_sem ↓] run_pair
/-- A formula that is made is told, written out. -/
def TellsMkF (d : Nat) (k : Int) (l : List Form) (w : World) (e : Ending) (w' : World) : Prop := ∃ a n c, e = .returned (.agg #[.int .i64 k, .int .i64 0, .int .i64 0, .int .i64 0, .int .i64 0, .slice a n c]) ∧ FormAt w' d (.mk k ⟨0, 0, 0, 0⟩ l) (.slice a n c) ∧ Below w.heap.size w w'
theorem mkOneL_any (w : World) (d : Nat) (k : Int) (g : Form) (gv : Value) (h : FormAt w d g gv) : Calls Try.prog 13 #[.int .i64 k, formV g gv] w (TellsMkF (d + 1) k [g] w) := mkOne_any w d k g gv h
theorem mkTwoL_any (w : World) (d : Nat) (k : Int) (g h : Form) (gv hv : Value) (hg : FormAt w d g gv) (hh : FormAt w d h hv) : Calls Try.prog 14 #[.int .i64 k, formV g gv, formV h hv] w (TellsMkF (d + 1) k [g, h] w) := mkTwo_any w d k g h gv hv hg hh
/-- A word is told, and a list, written out. -/
def TellsWordL (ls : List (List Bool)) (bk : Int) (w : World) (e : Ending) (w' : World) : Prop := ∃ la n lc, e = .returned (.agg #[.slice la n lc, .int .i64 bk]) ∧ LettersAt w' (.slice la n lc) ls ∧ Below w.heap.size w w'
def TellsResL (l : List Bool) (c : Int) (w : World) (e : Ending) (w' : World) : Prop := ∃ sa n sc, e = .returned (.tuple #[.slice sa n sc, .int .i64 c]) ∧ BoolsAt w' (.slice sa n sc) l ∧ Below w.heap.size w w'
theorem TellsWord.toL {l : List Int} {m : Nat} {back bk : Int} {ls : List (List Bool)} {w w' : World} {e : Ending} (h : TellsWord l m back w e w') (hls : ls = (List.range (lettersN l)).map (letterOf l m)) (hbk : bk = back % (lettersN l : Int)) : TellsWordL ls bk w e w' := by
  obtain ⟨sv, rfl, hl, hb⟩ := h
  obtain ⟨la, lc, rfl, -⟩ := hl.slice
  subst hls hbk
  exact ⟨la, _, lc, rfl, hl, hb⟩
theorem TellsRes.toL {l l' : List Bool} {c c' : Int} {w w' : World} {e : Ending} (h : TellsRes l c w e w') (hl : l' = l) (hc : c' = c) : TellsResL l' c' w e w' := by
  subst hl hc
  obtain ⟨sv, rfl, hbs, hb⟩ := h
  obtain ⟨la, lc, rfl, -⟩ := hbs.slice
  exact ⟨la, _, lc, rfl, hbs, hb⟩
end Go.Proofs.Ytidnpdkibndpkaa
