/- Letters and lists in slices: parts of them, and one behind the other. -/
import Derived.Test.YtidnpdkibndpkaaPairs
namespace Go.Proofs.Ytidnpdkibndpkaa
open Go.RowKit

/-- Letters as the values that lie there. -/
theorem LettersAt.row {w : World} {a : Option Addr} {n cap : Nat} {ls : List (List Bool)} (h : LettersAt w (.slice a n cap) ls) (hn : 0 < ls.length) : ∃ b off, ∃ svs : List Value, a = some ⟨b, off, none⟩ ∧ b < w.heap.size ∧ n = ls.length ∧ svs.length = n ∧
    (∀ j u, svs[j]? = some u → w.cell? ⟨b, off + j, none⟩ = some u) ∧ (∀ j, j < n → BoolsAt w (svs.getD j undef) (ls.getD j [])) ∧ ∀ u ∈ svs, u.oneCell' = true := by
  obtain ⟨a', cap', he, h2, h4⟩ := h
  cases he
  obtain ⟨b, off, -, rfl, hb, -, -⟩ := h4 0 hn
  have hc : ∀ j, j < ls.length → ∃ kv, w.cell? ⟨b, off + j, none⟩ = some kv ∧ BoolsAt w kv (ls.getD j []) := fun j hj => by
    obtain ⟨b', off', kv, e, -, h7, h8⟩ := h4 j hj
    cases e
    exact ⟨kv, h7, h8⟩
  refine ⟨b, off, (List.range ls.length).map (fun j => (w.cell? ⟨b, off + j, none⟩).getD undef), rfl, hb, rfl, by simp, fun j u hj => ?_, fun j hj => ?_, fun u hu => ?_⟩
  · by_cases hl : j < ls.length
    · obtain ⟨kv, h7, -⟩ := hc j hl
      simp [hl, h7] at hj
      rw [h7, hj]
    · simp [hl] at hj
  · obtain ⟨kv, h7, h8⟩ := hc j hj
    simpa [List.getD_eq_getElem?_getD, hj, h7] using h8
  · simp only [List.mem_map, List.mem_range] at hu
    obtain ⟨j, hj, rfl⟩ := hu
    obtain ⟨kv, h7, h8⟩ := hc j hj
    obtain ⟨a, c, rfl, -⟩ := h8.slice
    simp [h7, Value.oneCell']
theorem LettersAt.of_cells {w : World} {B : Nat} {sv : Value} {ls : List (List Bool)} {svs : List Value} (h : w.ownsRow B 41 1 sv ls.length svs) (hl : svs.length = ls.length) (hs : ∀ j, j < ls.length → BoolsAt w (svs.getD j undef) (ls.getD j [])) : LettersAt w sv ls := by
  obtain ⟨a, cap, rfl, h1, h2⟩ := row_slice h
  refine ⟨a, cap, rfl, by unfold maxLen at h2; omega, fun j hj => ?_⟩
  obtain ⟨g, cap', he, -, -⟩ := row_some h (by omega)
  cases he
  refine ⟨g, 0, svs.getD j undef, rfl, (h.lt g rfl).2, ?_, hs j hj⟩
  rw [show 0 + j = j by omega, h.cellAt j (by omega), List.getD_eq_getElem?_getD, List.getElem?_eq_getElem (by omega)]; rfl
theorem BoolsAt.take {w : World} {a : Option Addr} {m c k c' : Nat} {l : List Bool} (h : BoolsAt w (.slice a m c) l) (hk : k ≤ l.length) : BoolsAt w (.slice a k c') (l.take k) := by
  obtain ⟨a', cap, he, h2, h4⟩ := h
  cases he
  refine ⟨a, c', by simp [Nat.min_eq_left hk], by simp; omega, fun j hj => ?_⟩
  have hj' : j < k := by simp at hj; omega
  obtain ⟨b, off, e, hb, hc⟩ := h4 j (by omega)
  refine ⟨b, off, e, hb, ?_⟩
  rw [hc]; simp [List.getD_eq_getElem?_getD, hj']
theorem BoolsAt.drop {w : World} {b off m c k n' c' : Nat} {l : List Bool} (h : BoolsAt w (.slice (some ⟨b, off, none⟩) m c) l) (hk : k + n' = l.length) : BoolsAt w (.slice (some ⟨b, off + k, none⟩) n' c') (l.drop k) := by
  obtain ⟨a', cap, he, h2, h4⟩ := h
  cases he
  have hn' : n' = (l.drop k).length := by simp; omega
  refine ⟨_, c', by rw [hn'], by simp; omega, fun j hj => ?_⟩
  have hj' : k + j < l.length := by simp at hj; omega
  obtain ⟨b', off', e, hb, hc⟩ := h4 (k + j) hj'
  cases e
  refine ⟨b, off + k, rfl, hb, ?_⟩
  rw [show off + k + j = off + (k + j) by omega, hc]; simp [List.getD_eq_getElem?_getD]
theorem getD_twice {svs : List Value} {ls : List (List Bool)} {w : World} {b : Nat} (hl : svs.length = ls.length) (hs : ∀ j, j < ls.length → BoolsAt w (svs.getD j undef) (ls.getD j [])) :
    ∀ j, j < (ls ++ ls.drop b).length → BoolsAt w ((svs ++ svs.drop b).getD j undef) ((ls ++ ls.drop b).getD j []) := by
  intro j hj
  by_cases hc : j < ls.length
  · have := hs j hc
    simpa [List.getD_eq_getElem?_getD, List.getElem?_append_left (show j < svs.length by omega), List.getElem?_append_left hc] using this
  · have hj2 : b + (j - ls.length) < ls.length := by simp at hj; omega
    have := hs _ hj2
    simpa [List.getD_eq_getElem?_getD, List.getElem?_append_right (show svs.length ≤ j by omega), List.getElem?_append_right (show ls.length ≤ j by omega), hl] using this
theorem letters_twice {W x : World} {base n b yc : Nat} {ya : Option Addr} {svs : List Value} {ls : List (List Bool)} (hr : x.ownsRow base 41 1 (.slice ya (n + (n - b)) yc) (n + (n - b)) (svs ++ svs.drop b)) (hl : ls.length = n) (hsl : svs.length = n)
    (hs : ∀ j, j < n → BoolsAt W (svs.getD j undef) (ls.getD j [])) (hb : Below W.heap.size W x) : LettersAt x (.slice ya (n + (n - b)) yc) (ls ++ ls.drop b) := by
  have e : (ls ++ ls.drop b).length = n + (n - b) := by simp [hl]
  rw [← e] at hr ⊢
  exact LettersAt.of_cells hr (by simp [hl, hsl]) (getD_twice (hsl.trans hl.symm) (fun j hj => (hs j (by omega)).below hb))
theorem add_at (b o j : Nat) : (⟨b, o, none⟩ : Addr).add j = ⟨b, o + j, none⟩ := by unfold Addr.add; split <;> simp_all
/-- Of the word that is told: three lists, of the word itself and of both that are told twice. -/
theorem twice_res (f : Form) (hf : f.okD 6 = true) (hfs : f.size ≤ 41) (l : List Int) (b : Nat) (hb : b < lettersN l) :
    ∃ lx : List Bool, lx.length = lettersN l ∧ mayOk f ((List.range (lettersN l)).map (letterOf l f.props.length)) b = true ∧ f.truth f.props ((List.range (lettersN l)).map (letterOf l f.props.length)) b = lx ∧
      ∀ bk : Nat, bk = b ∨ bk = lettersN l → mayOk f ((List.range (lettersN l)).map (letterOf l f.props.length) ++ ((List.range (lettersN l)).map (letterOf l f.props.length)).drop b) bk = true ∧
        f.truth f.props ((List.range (lettersN l)).map (letterOf l f.props.length) ++ ((List.range (lettersN l)).map (letterOf l f.props.length)).drop b) bk = lx ++ lx.drop b := by
  obtain ⟨ls, hls⟩ : ∃ ls, ls = (List.range (lettersN l)).map (letterOf l f.props.length) := ⟨_, rfl⟩
  rw [← hls]
  have hn : ls.length = lettersN l := by rw [hls]; simp
  have h8 : lettersN l ≤ 8 := by unfold lettersN; split <;> (try split) <;> omega
  have hw : wideOk ls f.props.length = true := by
    rw [hls]; simp [wideOk, letterOf]
  have key := fun bk hbk => twice_law f hf hfs ls b (by omega) (by omega) hw bk hbk
  obtain ⟨k1, -, k3, -⟩ := key b (.inl rfl)
  have hm : mayOk f ls b = true := by
    unfold tc at k1; split at k1
    · assumption
    · cases k1
  refine ⟨tl f ls b, by rw [k3, hn], hm, by unfold tl; rw [hm]; rfl, fun bk hbk => ?_⟩
  obtain ⟨-, k2, -, k4⟩ := key bk (by rw [hn]; exact hbk)
  have hm2 : mayOk f (ls ++ ls.drop b) bk = true := by
    unfold tc at k2; split at k2
    · assumption
    · cases k2
  refine ⟨hm2, ?_⟩
  rw [← k4]; unfold tl; rw [hm2]; rfl
end Go.Proofs.Ytidnpdkibndpkaa
