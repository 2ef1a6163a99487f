/- Lists of yes and no, and words, in memory; a list that a function tells place by place. -/
import Derived.Test.YtidnpdkibndpkaaSem
import Derived.Test.YtidnpdkibndpkaaRightAll
import Derived.OwnWalk
namespace Go.Proofs.Ytidnpdkibndpkaa
open Go.RowKit

/-- A list of yes and no in a slice. -/
def BoolsAt (w : World) (sv : Value) (l : List Bool) : Prop :=
  ∃ a cap, sv = .slice a l.length cap ∧ l.length ≤ 9223372036854775807 ∧ ∀ j, j < l.length → ∃ b off, a = some ⟨b, off, none⟩ ∧ b < w.heap.size ∧ w.cell? ⟨b, off + j, none⟩ = some (.bool (l.getD j false))
theorem BoolsAt.below {w w' : World} {sv : Value} {l : List Bool} (h : BoolsAt w sv l) (hb : Below w.heap.size w w') : BoolsAt w' sv l := by
  obtain ⟨a, cap, h1, h2, h4⟩ := h
  refine ⟨a, cap, h1, h2, fun j hj => ?_⟩
  obtain ⟨b, off, h5, h6, h7⟩ := h4 j hj
  exact ⟨b, off, h5, Nat.lt_of_lt_of_le h6 hb.size, (hb.cell (p := ⟨b, off + j, none⟩) h6).trans h7⟩
theorem BoolsAt.slice {w : World} {sv : Value} {l : List Bool} (h : BoolsAt w sv l) : ∃ a cap, sv = .slice a l.length cap ∧ l.length ≤ 9223372036854775807 := by
  obtain ⟨a, cap, h1, h2, -⟩ := h; exact ⟨a, cap, h1, h2⟩
/-- Letters in a slice. -/
def LettersAt (w : World) (sv : Value) (ls : List (List Bool)) : Prop :=
  ∃ a cap, sv = .slice a ls.length cap ∧ ls.length ≤ 9223372036854775807 ∧ ∀ j, j < ls.length → ∃ b off kv, a = some ⟨b, off, none⟩ ∧ b < w.heap.size ∧ w.cell? ⟨b, off + j, none⟩ = some kv ∧ BoolsAt w kv (ls.getD j [])
theorem LettersAt.below {w w' : World} {sv : Value} {l : List (List Bool)} (h : LettersAt w sv l) (hb : Below w.heap.size w w') : LettersAt w' sv l := by
  obtain ⟨a, cap, h1, h2, h4⟩ := h
  refine ⟨a, cap, h1, h2, fun j hj => ?_⟩
  obtain ⟨b, off, kv, h5, h6, h7, h8⟩ := h4 j hj
  exact ⟨b, off, kv, h5, Nat.lt_of_lt_of_le h6 hb.size, (hb.cell (p := ⟨b, off + j, none⟩) h6).trans h7, h8.below hb⟩
theorem LettersAt.slice {w : World} {sv : Value} {l : List (List Bool)} (h : LettersAt w sv l) : ∃ a cap, sv = .slice a l.length cap ∧ l.length ≤ 9223372036854775807 := by
  obtain ⟨a, cap, h1, h2, -⟩ := h; exact ⟨a, cap, h1, h2⟩
/-- A new list of yes and no. -/
def TellsBools (l : List Bool) (w : World) (e : Ending) (w' : World) : Prop := ∃ sv, e = .returned sv ∧ w'.ownsRow w.heap.size 4 1 sv l.length (l.map Value.bool) ∧ Below w.heap.size w w'
theorem BoolsAt.of_row {w : World} {B : Nat} {sv : Value} {l : List Bool} (h : w.ownsRow B 4 1 sv l.length (l.map Value.bool)) : BoolsAt w sv l := by
  obtain ⟨a, cap, rfl, h1, h2⟩ := row_slice h
  refine ⟨a, cap, rfl, by unfold maxLen at h2; omega, ?_⟩
  intro j hj
  obtain ⟨g, cap', he, -, -⟩ := row_some h (by omega)
  cases he
  refine ⟨g, 0, rfl, (h.lt g rfl).2, ?_⟩
  rw [show 0 + j = j from by omega, h.cellAt _ (by omega)]
  simp [List.getD_eq_getElem?_getD, hj]

theorem bool_info : (Try.prog.info? 4).map (fun i => (i.zero, i.size, i.bytes)) = some (some (.bool false), 1, 1) := by kernel_rfl
/-- What is told so far. -/
def soFar (r : Nat → Bool) (n i : Nat) : List Bool := (List.range n).map (fun j => decide (j < i) && r j)
theorem soFar_len (r : Nat → Bool) (n i : Nat) : (soFar r n i).length = n := by simp [soFar]
theorem soFar_zero (r : Nat → Bool) (n : Nat) : (soFar r n 0).map Value.bool = (madeCells (Value.bool false).cells (n * 1)).toList := by
  apply List.ext_getElem?
  intro i
  simp only [madeCells, soFar, Nat.mul_one]
  by_cases h : i < n <;> simp [h, Value.cells, Nat.mod_one]
theorem soFar_succ (r : Nat → Bool) (n i : Nat) : ((soFar r n i).map Value.bool).set i (.bool (r i)) = (soFar r n (i + 1)).map Value.bool := by
  apply List.ext_getElem?
  intro j
  rw [List.getElem?_set]
  simp only [soFar, List.getElem?_map]
  by_cases h : i = j
  · subst h
    by_cases hn : i < n <;> simp [hn]
  · by_cases hn : j < n
    · have : (j < i + 1) ↔ (j < i) := by omega
      simp [hn, h, this]
    · simp [hn, h]
theorem soFar_full (r : Nat → Bool) (n : Nat) : soFar r n n = (List.range n).map r := by
  unfold soFar
  apply List.map_congr_left
  intro j hj
  rw [List.mem_range] at hj
  simp [hj]

set_option maxHeartbeats 1000000 in
theorem list_any (n : Nat) (hn : n ≤ 1000000000) (fn : FuncId) (first captured : Array Value) (r : Nat → Bool) (w : World) (hfn : ∀ args W, (callFunc fn args).run Try.prog W = .ok (.enter fn args) W)
    (hcall : ∀ i W, i < n → Below w.heap.size w W → Calls Try.prog fn (first.push (.int .i64 (i : Nat)) ++ captured) W fun e W' => e = .returned (.bool (r i)) ∧ Below W.heap.size W W') :
    Calls Try.prog 48 #[.int .i64 n, .func (.func fn) first captured] w (TellsBools ((List.range n).map r) w) := by
  obtain ⟨i0, hi, hz0, hz1, hz2⟩ := info_parts bool_info
  have hb2 : i0.bytes * n ≤ 281474976710656 := by rw [hz2]; omega
  have HC := Lib.hid hcall
  clear hz2 hcall
  go_enter Try.func48, Try.ntmps48
  go_wp2_with (at_make; refine wpList_make_full _ rfl _ _ 41 rfl w.heap.size 4 i0 (.bool false) 1 Try.underlying41 hi hz0 hz1 .i64 .i64 _ _ n rfl rfl (by omega) (by omega) hb2 (by unfold maxLen; omega) (Nat.le_refl _) ?_; intro w1 hown1 hgr1)
  have HO := Lib.hid hown1
  have HG1 := Lib.hid hgr1
  clear hown1 hgr1
  go_loopg [11] n (fun g s11 wr => ∃ i : Nat, i ≤ n ∧ Hid (g = n - i) ∧ s11 = .int .i64 i ∧ wr.ownsRow w.heap.size 4 1 (.slice (some ⟨w.heap.size, 0, none⟩) n n) n ((soFar r n i).map Value.bool) ∧ Below w.heap.size w wr)
  case atStart =>
    refine ⟨0, Nat.zero_le _, rfl, rfl, ?_, ((Since.refl (fun _ => False) w).grown HG1.out (by simp)).below (Nat.le_refl _) (fun k h => h.elim)⟩
    rw [soFar_zero]; exact HO.out
  case round =>
    obtain ⟨i, hi, HG, rfl, hown, hB⟩ := hrel
    by_cases hlt : i < n
    · have hca := HC.out i wr hlt hB
      have HCA := Lib.hid hca
      have HB := Lib.hid hB
      have hz := (hown.lt w.heap.size (by simp [Value.ownBlock])).2
      have HOW := Lib.hid hown
      clear hca hB hown
      go_wp2_with fail
      refine HCA.out.mono ?_
      rintro e w2 ⟨rfl, hb2⟩
      have hown2 := row_below HOW.out hb2
      have hce : ∃ v, w2.cell? ⟨w.heap.size, i, none⟩ = some v := by
        rw [hown2.cellAt i (by omega)]
        simp [soFar, hlt]
      obtain ⟨v0, hce⟩ := hce
      have hfz : w2.frozen? ⟨w.heap.size, i, none⟩ = false := hown2.frozenAt i
      have HO2 := Lib.hid hown2
      have HB2 : Hid (Below w.heap.size w w2) := HB.out.trans (hb2.mono HB.out.size)
      clear hown2 hb2 HCA
      go_wp2
      go_roundg (n - (i + 1))
      case measure => rw [HG.out]; omega
      case rel =>
        refine ⟨i + 1, by omega, rfl, by simp, ?_, HB2.out.setCell (Nat.le_refl _) _⟩
        have := (HO2.out.stored i (.bool (r i))).1
        rw [soFar_succ] at this
        exact this
    · obtain rfl : i = n := by omega
      have HB := Lib.hid hB
      have HOW := Lib.hid hown
      clear hB hown
      go_wp2
      go_ret
      refine ⟨_, rfl, ?_, HB.out⟩
      have := HOW.out
      rw [soFar_full] at this
      simpa using this
end Go.Proofs.Ytidnpdkibndpkaa
