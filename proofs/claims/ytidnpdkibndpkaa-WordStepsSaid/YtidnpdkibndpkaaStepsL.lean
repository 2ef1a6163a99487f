/- What the walk of WordSteps stands on. -/
import Derived.Test.YtidnpdkibndpkaaPairs
namespace Go.Proofs.Ytidnpdkibndpkaa
open Go.RowKit

def valAt (p : List PropD) (letter : List Bool) (a : PropD) : Bool := letter.getD (p.idxOf a) false
/-- A letter as it is made: so many atoms, and the next one, if it has been met. -/
def rowAt (p q : List PropD) (letter : List Bool) (x y : Nat) : List Bool := (q.take x).map (valAt p letter) ++ (if p.idxOf (q.getD x default) < y then [valAt p letter (q.getD x default)] else [])
theorem rowAt_zero (p q : List PropD) (letter : List Bool) (x : Nat) : rowAt p q letter x 0 = (q.take x).map (valAt p letter) := by simp [rowAt]
theorem idx_hit {p : List PropD} (hn : p.Nodup) {y : Nat} (hy : y < p.length) : p.idxOf (p.getD y default) = y := by
  rw [List.getD_eq_getElem?_getD, List.getElem?_eq_getElem hy, Option.getD_some]
  exact hn.idxOf_getElem y hy
theorem idx_miss {p : List PropD} {a : PropD} {y : Nat} (hy : y < p.length) (h : p.getD y default ≠ a) : p.idxOf a ≠ y := by
  intro e
  apply h
  subst e
  rw [List.getD_eq_getElem?_getD, List.getElem?_eq_getElem hy, Option.getD_some, List.getElem_idxOf hy]
theorem rowAt_hit {p q : List PropD} (letter : List Bool) (hn : p.Nodup) {x y : Nat} (hy : y < p.length) (h : p.getD y default = q.getD x default) : rowAt p q letter x (y + 1) = rowAt p q letter x y ++ [letter.getD y false] ∧ p.idxOf (q.getD x default) = y := by
  have e : p.idxOf (q.getD x default) = y := by rw [← h]; exact idx_hit hn hy
  refine ⟨?_, e⟩
  unfold rowAt valAt
  rw [e]; simp
theorem rowAt_miss {p q : List PropD} (letter : List Bool) {x y : Nat} (hy : y < p.length) (h : p.getD y default ≠ q.getD x default) : rowAt p q letter x (y + 1) = rowAt p q letter x y ∧ (p.idxOf (q.getD x default) < y + 1 ↔ p.idxOf (q.getD x default) < y) := by
  have e := idx_miss hy h
  have : p.idxOf (q.getD x default) < y + 1 ↔ p.idxOf (q.getD x default) < y := by omega
  unfold rowAt
  simp only [this, and_true]
theorem rowAt_full {p q : List PropD} (letter : List Bool) {x : Nat} (hx : x < q.length) (h : q.getD x default ∈ p) : rowAt p q letter x p.length = (q.take (x + 1)).map (valAt p letter) ∧ p.idxOf (q.getD x default) < p.length := by
  have e := List.idxOf_lt_length_of_mem h
  unfold rowAt
  have ht : q.take (x + 1) = q.take x ++ [q.getD x default] := by
    rw [List.take_succ_eq_append_getElem hx]; simp [List.getD_eq_getElem?_getD, List.getElem?_eq_getElem hx]
  rw [if_pos e, ht, List.map_append]
  exact ⟨rfl, e⟩
theorem rowAt_len {p q : List PropD} (letter : List Bool) {x y : Nat} (hx : x ≤ q.length) : (rowAt p q letter x y).length = x + (if p.idxOf (q.getD x default) < y then 1 else 0) := by
  unfold rowAt
  split <;> simp [Nat.min_eq_left hx]
theorem reletter_take {p q : List PropD} {letter : List Bool} : (q.take q.length).map (valAt p letter) = reletter p q letter := by rw [List.take_length]; rfl
/-- What holds of a pair, and of the words that are made for it. -/
theorem steps_pack (f g : Form) (hf : f.okD 6 = true) (hg : g.okD 6 = true) (hfs : f.size ≤ 41) (hgs : g.size ≤ 41) (i : Nat) (l : List Int) (back : Int) (p q : List PropD) (hp : p = (stepsL f g i).props) (hq : q = (stepsR f g i).props)
    (ls : List (List Bool)) (hls : ls = (List.range (lettersN l)).map (letterOf l p.length)) (bk : Int) (hbk : bk = back % (lettersN l : Int)) :
    (stepsR f g i).fits = true ∧ p.Nodup ∧ (∀ a ∈ q, a ∈ p) ∧ p.length ≤ 200 ∧ q.length ≤ 200 ∧ (ls.length = lettersN l ∧ 1 ≤ lettersN l ∧ lettersN l ≤ 8) ∧ (∀ j, j < ls.length → (ls.getD j []).length = p.length) ∧
      tc (stepsL f g i) ls bk = 0 ∧ tc (stepsR f g i) (ls.map (reletter p q)) bk = 0 ∧ tl (stepsL f g i) ls bk = tl (stepsR f g i) (ls.map (reletter p q)) bk ∧ (stepsL f g i).size ≤ 1000 ∧ (stepsR f g i).size ≤ 1000 := by
  obtain ⟨a1, a2⟩ := stepsL_ok f g hf hg hfs hgs i
  obtain ⟨b1, b2⟩ := stepsR_ok f g hf hg hfs hgs i
  have h8 : 1 ≤ lettersN l ∧ lettersN l ≤ 8 := by unfold lettersN; split <;> (try split) <;> omega
  have hn : ls.length = lettersN l := by rw [hls]; simp
  have h1 := Int.emod_nonneg back (show (lettersN l : Int) ≠ 0 by omega)
  have h2 := Int.emod_lt_of_pos back (show (0 : Int) < (lettersN l : Int) by omega)
  have hw : wideOk ls p.length = true := by rw [hls]; simp [wideOk, letterOf]
  obtain ⟨k1, k2, k3⟩ := steps_law f g hf hg hfs hgs i ls bk (by omega) (by omega) (by omega) (by omega) (by rw [← hp]; exact hw)
  rw [← hp, ← hq] at k2 k3
  have hpl : p.length ≤ (stepsL f g i).size := by rw [hp]; exact props_len _
  have hql : q.length ≤ (stepsR f g i).size := by rw [hq]; exact props_len _
  refine ⟨fits_of b1 (by omega) (by omega), by rw [hp]; exact props_nodup _, fun a ha => by rw [hp, ← steps_props, ← hq]; exact ha, by omega, by omega, ⟨hn, h8⟩, fun j hj => ?_, k1, k2, k3, by omega, by omega⟩
  rw [hn] at hj
  rw [hls]; simp [List.getD_eq_getElem?_getD, hj, letterOf]
/-- One row more. -/
theorem rows_round {wi wx w4 : World} {Wb i m : Nat} {svs : List Value} {oa xa : Option Addr} {oc xc : Nat} {g : Nat → List Bool} {V : Value} {cs : Array Value}
    (HLR : ∀ j, j < i → ∃ B', wi.ownsRow B' 4 1 (svs.getD j (.bool false)) m ((g j).map Value.bool)) (HSL : svs.length = i) (HBX : Below wi.heap.size wi wx)
    (HXR : wx.ownsRow wi.heap.size 4 1 (.slice xa m xc) m ((g i).map Value.bool)) (HOX : wx.ownsRow (Wb + 1) 41 1 (.slice oa i oc) i svs)
    (hW4 : w4.heap[Wb]? = some (.cells cs 29 (0, 0))) (hS4 : Since (fun k => (Value.slice oa i oc).ownBlock = some k) (wx.alloc (.cells #[.slice xa m xc] 41)) w4) :
    ∀ j, j < i + 1 → ∃ B', (w4.setCell ⟨Wb, 0, none⟩ V).ownsRow B' 4 1 ((svs ++ [Value.slice xa m xc]).getD j (.bool false)) m ((g j).map Value.bool) := by
  have hstep : ∀ (B' : Nat) (v : Value) (xs : List Value), wx.ownsRow B' 4 1 v m xs → (w4.setCell ⟨Wb, 0, none⟩ V).ownsRow B' 4 1 v m xs := by
    intro B' v xs h
    have h2 := hS4.row (h.alloc (.cells #[.slice xa m xc] 41)) (fun k hk hk' => row_apart h HOX (by decide) k hk hk')
    exact ownsRow_setCell_other h2 (fun e => row_type h2 e hW4 (by decide)) V
  intro j hj
  by_cases he : j = i
  · subst he
    refine ⟨wi.heap.size, ?_⟩
    rw [List.getD_eq_getElem?_getD, List.getElem?_append_right (by omega), HSL, Nat.sub_self]
    exact hstep _ _ _ HXR
  · obtain ⟨B', h⟩ := HLR j (by omega)
    refine ⟨B', ?_⟩
    rw [List.getD_eq_getElem?_getD, List.getElem?_append_left (by omega), ← List.getD_eq_getElem?_getD]
    exact hstep _ _ _ (row_below h HBX)
/-- The rows are the letters. -/
theorem rows_letters {w : World} {B m : Nat} {svs : List Value} {oa : Option Addr} {oc n : Nat} {p q : List PropD} {ls : List (List Bool)} (HOR : w.ownsRow B 41 1 (.slice oa n oc) n svs) (HSL : svs.length = n) (hn : ls.length = n) (hm : m = q.length)
    (HLR : ∀ j, j < n → ∃ B', w.ownsRow B' 4 1 (svs.getD j (.bool false)) m ((reletter p q (ls.getD j [])).map Value.bool)) : LettersAt w (.slice oa n oc) (ls.map (reletter p q)) := by
  obtain ⟨a, cap, he, h1, h2⟩ := row_slice HOR
  cases he
  refine ⟨oa, oc, by simp [hn], by simp; unfold maxLen at h2; omega, fun j hj => ?_⟩
  rw [List.length_map] at hj
  obtain ⟨g, cap', he, -, -⟩ := row_some HOR (by omega)
  cases he
  obtain ⟨B', hr⟩ := HLR j (by omega)
  refine ⟨g, 0, svs.getD j (.bool false), rfl, (HOR.lt g rfl).2, ?_, ?_⟩
  · rw [show 0 + j = j by omega, HOR.cellAt j (by omega), List.getD_eq_getElem?_getD, List.getElem?_eq_getElem (by omega)]; rfl
  · have : (ls.map (reletter p q)).getD j [] = reletter p q (ls.getD j []) := by simp [List.getD_eq_getElem?_getD, hj]
    rw [this]
    have hl : (reletter p q (ls.getD j [])).length = m := by simp [reletter, hm]
    rw [← hl] at hr
    exact BoolsAt.of_row hr
theorem PropsAt.cells {w : World} {sv : Value} {l : List PropD} (h : PropsAt w sv l) : ∃ a cap, sv = .slice a l.length cap ∧ ∀ i, i < l.length → ∃ b off, a = some ⟨b, off, none⟩ ∧ b < w.heap.size ∧
    w.cell? ⟨b, off + i * 4, none⟩ = some (.int .i64 (l.getD i default).kind) ∧ w.cell? ⟨b, off + i * 4 + 1, none⟩ = some (.int .i64 (l.getD i default).thread) ∧ w.cell? ⟨b, off + i * 4 + 2, none⟩ = some (.int .i64 (l.getD i default).place) ∧ w.cell? ⟨b, off + i * 4 + 3, none⟩ = some (.int .i64 (l.getD i default).num) := by
  obtain ⟨a, cap, he, -, hc⟩ := h
  refine ⟨a, cap, he, fun i hi => ?_⟩
  obtain ⟨b, off, e, hb, hx⟩ := hc i hi
  exact ⟨b, off, e, hb, hx 0 (by omega), hx 1 (by omega), hx 2 (by omega), hx 3 (by omega)⟩
end Go.Proofs.Ytidnpdkibndpkaa
