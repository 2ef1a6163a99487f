/- Lists of steps: how they lie in memory. -/
import Derived.Test.YtoojalcfojflhaaMet
namespace Go.Proofs.Ytoojalcfojflhaa
open Go.RowKit

def stepCells (p : Nat × Nat) : List Value := [.int .i64 (p.1 : Int), .int .i64 (p.2 : Int)]
def stepV (p : Nat × Nat) : Value := .agg #[.int .i64 (p.1 : Int), .int .i64 (p.2 : Int)]
def stepsV (l : List (Nat × Nat)) : List Value := l.flatMap stepCells
theorem step_info : (Try.prog.info? 60).map (fun i => (i.zero, i.size, i.bytes)) = some (some (.agg #[.int .i64 0, .int .i64 0]), 2, 16) := by kernel_rfl
theorem stepsV_len (l : List (Nat × Nat)) : (stepsV l).length = l.length * 2 := by
  induction l with
  | nil => rfl
  | cons p l ih => simp only [stepsV, List.flatMap_cons, List.length_append, List.length_cons] at ih ⊢; rw [ih]; simp [stepCells]; omega
theorem stepsV_append (l r : List (Nat × Nat)) : stepsV (l ++ r) = stepsV l ++ stepsV r := by simp [stepsV]
theorem stepsV_at {l : List (Nat × Nat)} : ∀ {j : Nat}, j < l.length → (stepsV l)[j * 2]? = some (.int .i64 ((l.getD j (0, 0)).1 : Int)) ∧ (stepsV l)[j * 2 + 1]? = some (.int .i64 ((l.getD j (0, 0)).2 : Int)) := by
  induction l with
  | nil => intro j hj; simp at hj
  | cons p l ih =>
    intro j hj
    cases j with
    | zero => exact ⟨rfl, rfl⟩
    | succ j =>
      have := ih (j := j) (by simpa using hj)
      rw [show (j + 1) * 2 = (j * 2) + 1 + 1 by omega]
      simp only [stepsV, List.flatMap_cons, stepCells, List.cons_append, List.nil_append, List.getElem?_cons_succ, List.getD_cons_succ] at this ⊢
      exact this
/-- A list of steps of the call's own. -/
def StepsRow (w : World) (B : Nat) (v : Value) (l : List (Nat × Nat)) : Prop := w.ownsRow B 60 2 v l.length (stepsV l)
theorem StepsRow.cell {w : World} {B : Nat} {a : Option Addr} {n cap : Nat} {l : List (Nat × Nat)} (h : StepsRow w B (.slice a n cap) l) {j : Nat} (hj : j < l.length) : ∃ g, a = some ⟨g, 0, none⟩ ∧ n = l.length ∧ B ≤ g ∧ g < w.heap.size ∧
    w.cell? ⟨g, j * 2, none⟩ = some (.int .i64 ((l.getD j (0, 0)).1 : Int)) ∧ w.cell? ⟨g, j * 2 + 1, none⟩ = some (.int .i64 ((l.getD j (0, 0)).2 : Int)) := by
  obtain ⟨g, cap', he, -, -⟩ := row_some h (by omega)
  cases he
  have hlt := h.lt g (by simp [Value.ownBlock])
  obtain ⟨h1, h2⟩ := stepsV_at hj
  have e1 := World.ownsRow.cellAt h (j * 2) (by omega)
  have e2 := World.ownsRow.cellAt h (j * 2 + 1) (by omega)
  exact ⟨g, rfl, rfl, hlt.1, hlt.2, e1.trans h1, e2.trans h2⟩
theorem stepsV_ext {xs : List Value} {l : List (Nat × Nat)} (hl : xs.length = l.length * 2) (h : ∀ j, j < l.length → xs[j * 2]? = some (.int .i64 ((l.getD j (0, 0)).1 : Int)) ∧ xs[j * 2 + 1]? = some (.int .i64 ((l.getD j (0, 0)).2 : Int))) : xs = stepsV l := by
  apply List.ext_getElem?
  intro i
  by_cases hi : i < l.length * 2
  · have hj : i / 2 < l.length := by omega
    obtain ⟨h1, h2⟩ := h _ hj
    obtain ⟨e1, e2⟩ := stepsV_at hj
    rcases Nat.mod_two_eq_zero_or_one i with e | e
    · rw [show i = i / 2 * 2 by omega, h1, e1]
    · rw [show i = i / 2 * 2 + 1 by omega, h2, e2]
  · rw [List.getElem?_eq_none (by omega), List.getElem?_eq_none (by rw [stepsV_len]; omega)]
theorem StepsRow.set {w : World} {B g n cap k : Nat} {l : List (Nat × Nat)} {p : Nat × Nat} (h : StepsRow w B (.slice (some ⟨g, 0, none⟩) n cap) l) (hk : k < l.length) :
    StepsRow ((w.setCell ⟨g, k * 2, none⟩ (.int .i64 (p.1 : Int))).setCell ⟨g, k * 2 + 1, none⟩ (.int .i64 (p.2 : Int))) B (.slice (some ⟨g, 0, none⟩) n cap) (l.set k p) := by
  rcases h.2 with ⟨he, _⟩ | ⟨g', cap', cur, he, hb, hg, h1, h2, h3, h4⟩
  · cases he
  · cases he
    have hlen := stepsV_len (l.set k p)
    refine ⟨by rw [hlen], .inr ⟨g, cap, _, by simp, hb, set_of_block (set_of_block hg _ _) _ _, by simpa using h1, h2, by simpa using h3, ?_⟩⟩
    have hsz : l.length * 2 ≤ cur.size := by rw [h3]; exact Nat.mul_le_mul_right _ h1
    refine stepsV_ext (by simp; omega) (fun j hj => ?_)
    simp only [List.length_set] at hj
    obtain ⟨e1, e2⟩ := stepsV_at (l := l) hj
    rw [← h4] at e1 e2
    rw [List.getElem?_take_of_lt (by omega), Array.getElem?_toList] at e1 e2
    rw [List.getElem?_take_of_lt (by simp; omega), List.getElem?_take_of_lt (by simp; omega), Array.getElem?_toList, Array.getElem?_toList]
    by_cases e : j = k
    · subst e
      constructor
      · rw [Array.getElem?_setIfInBounds_ne (by omega), Array.getElem?_setIfInBounds_self]
        simp [List.getD_eq_getElem?_getD, hj]; omega
      · rw [Array.getElem?_setIfInBounds_self]
        simp [List.getD_eq_getElem?_getD, hj]; omega
    · have hget : (l.set k p).getD j (0, 0) = l.getD j (0, 0) := by
        rw [List.getD_eq_getElem?_getD, List.getElem?_set_ne (fun h => e h.symm), ← List.getD_eq_getElem?_getD]
      rw [hget]
      constructor
      · rw [Array.getElem?_setIfInBounds_ne (by omega), Array.getElem?_setIfInBounds_ne (by omega)]; exact e1
      · rw [Array.getElem?_setIfInBounds_ne (by omega), Array.getElem?_setIfInBounds_ne (by omega)]; exact e2
/-- The first and the last i are turned round. -/
def revTo (l : List (Nat × Nat)) (i : Nat) : List (Nat × Nat) := (List.range l.length).map (fun k => if k < i ∨ l.length ≤ k + i then l.getD (l.length - 1 - k) (0, 0) else l.getD k (0, 0))
theorem revTo_len (l : List (Nat × Nat)) (i : Nat) : (revTo l i).length = l.length := by simp [revTo]
theorem revTo_get {l : List (Nat × Nat)} {i k : Nat} (hk : k < l.length) : (revTo l i)[k]? = some (if k < i ∨ l.length ≤ k + i then l.getD (l.length - 1 - k) (0, 0) else l.getD k (0, 0)) := by
  simp [revTo, hk]
theorem revTo_zero (l : List (Nat × Nat)) : revTo l 0 = l := by
  apply List.ext_getElem?
  intro k
  by_cases hk : k < l.length
  · rw [revTo_get hk, if_neg (by omega), List.getD_eq_getElem?_getD, List.getElem?_eq_getElem hk]; rfl
  · rw [List.getElem?_eq_none (by rw [revTo_len]; omega), List.getElem?_eq_none (by omega)]
theorem revTo_full {l : List (Nat × Nat)} {i : Nat} (hi : l.length ≤ 2 * i + 1) : revTo l i = l.reverse := by
  apply List.ext_getElem?
  intro k
  by_cases hk : k < l.length
  · rw [revTo_get hk, List.getElem?_reverse hk]
    by_cases h : k < i ∨ l.length ≤ k + i
    · rw [if_pos h, List.getD_eq_getElem?_getD, List.getElem?_eq_getElem (by omega : l.length - 1 - k < l.length)]; rfl
    · rw [if_neg h, show l.length - 1 - k = k by omega, List.getD_eq_getElem?_getD, List.getElem?_eq_getElem hk]; rfl
  · rw [List.getElem?_eq_none (by rw [revTo_len]; omega), List.getElem?_eq_none (by simp; omega)]
theorem revTo_next {l : List (Nat × Nat)} {i j : Nat} (hj : j = l.length - 1 - i) (hij : i < j) : ((revTo l i).set i ((revTo l i).getD j (0, 0))).set j ((revTo l i).getD i (0, 0)) = revTo l (i + 1) := by
  have hjl : j < l.length := by omega
  have hil : i < l.length := by omega
  have e1 : (revTo l i).getD j (0, 0) = l.getD j (0, 0) := by rw [List.getD_eq_getElem?_getD, revTo_get hjl, if_neg (by omega)]; rfl
  have e2 : (revTo l i).getD i (0, 0) = l.getD i (0, 0) := by rw [List.getD_eq_getElem?_getD, revTo_get hil, if_neg (by omega)]; rfl
  rw [e1, e2]
  apply List.ext_getElem?
  intro k
  by_cases hk : k < l.length
  · rw [revTo_get hk]
    by_cases h1 : j = k
    · subst h1
      rw [List.getElem?_set_self (by simp [revTo_len]; omega), if_pos (by omega), show l.length - 1 - j = i by omega]
    · rw [List.getElem?_set_ne h1]
      by_cases h2 : i = k
      · subst h2
        rw [List.getElem?_set_self (by rw [revTo_len]; omega), if_pos (by omega), ← hj]
      · rw [List.getElem?_set_ne h2, revTo_get hk]
        by_cases h3 : k < i ∨ l.length ≤ k + i
        · rw [if_pos h3, if_pos (by omega)]
        · rw [if_neg h3, if_neg (by omega)]
  · rw [List.getElem?_eq_none (by simp [revTo_len]; omega), List.getElem?_eq_none (by rw [revTo_len]; omega)]
theorem revTo_at {l : List (Nat × Nat)} {i k : Nat} (hk : k < l.length) : (revTo l i).getD k (0, 0) = if k < i ∨ l.length ≤ k + i then l.getD (l.length - 1 - k) (0, 0) else l.getD k (0, 0) := by
  simp [revTo, List.getD_eq_getElem?_getD, hk]
set_option maxRecDepth 100000 in
set_option maxHeartbeats 4000000 in
theorem reverse_any (w : World) (B : Nat) (v : Value) (l : List (Nat × Nat)) (h : StepsRow w B v l) : Calls Try.prog 50 #[v] w fun e w' => e = .returned (.tuple #[]) ∧ StepsRow w' B v l.reverse ∧ Since (fun k => v.ownBlock = some k) w w' := by
  obtain ⟨a, cap, rfl, hn1, hn2⟩ := row_slice h
  unfold maxLen at hn2
  obtain ⟨n, hn⟩ : ∃ n, n = l.length := ⟨_, rfl⟩
  rw [← hn] at hn1 ⊢
  have H := Lib.hid h
  have HN := Lib.hid hn
  clear h hn
  go_enter Try.func50, Try.ntmps50
  go_wp2_with fail
  go_loopg [2, 3] n (fun gg s2 s3 wr => ∃ i : Nat, 2 * i ≤ n + 1 ∧ Hid (gg + i = n) ∧ s2 = .int .i64 i ∧ s3 = .int .i64 ((n : Int) - 1 - i) ∧ Hid (StepsRow wr B (.slice a n cap) (revTo l i)) ∧ Hid (Since (fun k => (Value.slice a n cap).ownBlock = some k) w wr))
  case atStart => exact ⟨0, by omega, by rw [Hid]; omega, rfl, by simp, by rw [Hid, revTo_zero, HN.out]; exact H.out, Since.refl _ _⟩
  case round =>
    obtain ⟨i, hi, HG, rfl, rfl, HR, HS⟩ := hrel
    by_cases hlt : 2 * i + 1 < n
    · obtain ⟨j, hj⟩ : ∃ j : Nat, j = n - 1 - i := ⟨_, rfl⟩
      have hjI : (n : Int) - 1 - i = (j : Int) := by omega
      rw [hjI]
      have hlI : (i : Int) < (j : Int) := by omega
      have hjn : (j : Int) < (n : Int) := by omega
      have hin : (i : Int) < (n : Int) := by omega
      have hi0 : (0 : Int) ≤ (i : Int) := by omega
      have hj0 : (0 : Int) ≤ (j : Int) := by omega
      obtain ⟨g, rfl, -, hg1, hg2, hc1, hc2⟩ := StepsRow.cell HR.out (j := i) (by rw [revTo_len, ← HN.out]; omega)
      obtain ⟨g', hgg, -, -, -, hc3, hc4⟩ := StepsRow.cell HR.out (j := j) (by rw [revTo_len, ← HN.out]; omega)
      cases hgg
      obtain ⟨p1, hp1⟩ : ∃ p1, p1 = (revTo l i).getD i (0, 0) := ⟨_, rfl⟩
      obtain ⟨p2, hp2⟩ : ∃ p2, p2 = (revTo l i).getD j (0, 0) := ⟨_, rfl⟩
      rw [← hp1] at hc1 hc2
      rw [← hp2] at hc3 hc4
      have HP1 := Lib.hid hp1
      have HP2 := Lib.hid hp2
      have hr := HR.out
      unfold StepsRow at hr
      rw [revTo_len, ← HN.out] at hr
      have hfz : ∀ x, wr.frozen? ⟨g, x, none⟩ = false := fun x => World.ownsRow.frozenAt hr x
      have f1 := hfz (i * 2)
      have f2 := hfz (i * 2 + 1)
      have f3 := hfz (j * 2)
      have f4 := hfz (j * 2 + 1)
      have hij : ¬ j = i := by omega
      have HJ := Lib.hid hj
      clear hp1 hp2 hfz hjI hr hj
      go_wp2_with fail
      go_region
      have hst : StepsRow ((((wr.setCell ⟨g, i * 2, none⟩ (.int .i64 (p2.1 : Int))).setCell ⟨g, i * 2 + 1, none⟩ (.int .i64 (p2.2 : Int))).setCell ⟨g, j * 2, none⟩ (.int .i64 (p1.1 : Int))).setCell ⟨g, j * 2 + 1, none⟩ (.int .i64 (p1.2 : Int))).drew B (.slice (some ⟨g, 0, none⟩) n cap) (revTo l (i + 1)) := by
        have h1 := (StepsRow.set (p := p2) HR.out (k := i) (by rw [revTo_len, ← HN.out]; omega)).set (p := p1) (k := j) (by rw [List.length_set, revTo_len, ← HN.out]; omega)
        rw [HP1.out, HP2.out, revTo_next (by rw [← HN.out]; exact HJ.out) (by omega)] at h1
        rw [HP1.out, HP2.out]
        exact (Since.refl (fun _ => False) _).drew.row h1 (fun _ _ h => h)
      have hsi : Since (fun k => (Value.slice (some ⟨g, 0, none⟩) n cap).ownBlock = some k) w ((((wr.setCell ⟨g, i * 2, none⟩ (.int .i64 (p2.1 : Int))).setCell ⟨g, i * 2 + 1, none⟩ (.int .i64 (p2.2 : Int))).setCell ⟨g, j * 2, none⟩ (.int .i64 (p1.1 : Int))).setCell ⟨g, j * 2 + 1, none⟩ (.int .i64 (p1.2 : Int))).drew :=
        (Since.setCell (p := ⟨g, j * 2 + 1, none⟩) (Since.setCell (p := ⟨g, j * 2, none⟩) (Since.setCell (p := ⟨g, i * 2 + 1, none⟩) (Since.setCell (p := ⟨g, i * 2, none⟩) HS.out (.inl rfl) (.int .i64 (p2.1 : Int))) (.inl rfl) (.int .i64 (p2.2 : Int))) (.inl rfl) (.int .i64 (p1.1 : Int))) (.inl rfl) (.int .i64 (p1.2 : Int))).drew
      have HST := Lib.hid hst
      have HSI := Lib.hid hsi
      clear hst hsi hc1 hc2 hc3 hc4 f1 f2 f3 f4
      generalize World.drew _ = W2 at HST HSI ⊢
      go_wp2_with fail
      go_roundg (n - (i + 1))
      case measure => have := HG.out; omega
      case rel => exact ⟨i + 1, by omega, by rw [Hid]; omega, by simp, by have := HJ.out; rw [show (n : Int) - 1 - ((i + 1 : Nat) : Int) = (j : Int) - 1 by omega], HST.out, HSI.out⟩
    · have hlI : ¬ (i : Int) < (n : Int) - 1 - i := by omega
      have hw : wrap64 ((n : Int) - 1 - i) = (n : Int) - 1 - i := by unfold wrap64; omega
      have hful := revTo_full (l := l) (i := i) (by rw [← HN.out]; omega)
      have HF := Lib.hid hful
      clear hful
      go_wp2_with fail
      go_end0
      exact ⟨rfl, by rw [← HF.out]; exact HR.out, HS.out⟩
end Go.Proofs.Ytoojalcfojflhaa
