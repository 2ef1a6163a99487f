/- What lasts is so here, and at the next place; a word whose letters that come again are told twice: plain laws. -/
import Derived.Test.YtidnpdkibndpkaaTurn
namespace Go.Proofs.Ytidnpdkibndpkaa

theorem mem_addPs (ps out : List PropD) (x : PropD) : x ∈ ps.foldl addP out ↔ x ∈ out ∨ x ∈ ps := by
  induction ps generalizing out with
  | nil => simp
  | cons p ps ih =>
    rw [List.foldl_cons, ih]
    have : x ∈ addP out p ↔ x ∈ out ∨ x = p := by
      unfold addP
      split
      · rename_i h
        constructor
        · exact fun h => .inl h
        · rintro (h' | rfl)
          · exact h'
          · exact h
      · simp
    rw [this]; simp [or_assoc]
theorem mem_propsL (l : List Form) (out : List PropD) (x : PropD) : x ∈ propsL l out ↔ x ∈ out ∨ ∃ f ∈ l, x ∈ f.props := by
  induction l generalizing out with
  | nil => simp [propsL]
  | cons f l ih => unfold propsL; rw [ih, mem_addPs]; simp [or_assoc]
/-- What an atom is, by its place. -/
def atomAt (l : List PropD) (ls : List (List Bool)) (p : PropD) (i : Nat) : Bool := (ls.getD i []).getD (l.idxOf p) false
/-- Where kinds are so, by places that are turned into others. -/
theorem semKind_map {n back n' back' : Nat} (hb : back < n) (hb' : back' < n') (φ : Nat → Nat) (hφ : ∀ i, i < n' → φ i < n ∧ φ (nx n' back' i) = nx n back (φ i)) (k : Int) {t a b t' a' b' : Nat → Bool}
    (ht : ∀ i, i < n' → t' i = t (φ i)) (ha : ∀ i, i < n' → a' i = a (φ i)) (hbb : ∀ i, i < n' → b' i = b (φ i)) (i : Nat) (hi : i < n') : semKind k t' a' b' n' back' i = semKind k t a b n back (φ i) := by
  have hit : ∀ m j, j < n' → φ (itn n' back' m j) = itn n back m (φ j) := by
    intro m j hj
    induction m with
    | zero => rfl
    | succ m ih => show φ (nx _ _ _) = nx _ _ _; rw [(hφ _ (itn_lt hb' m j hj)).2, ih]
  have hU : ∀ {g s g' s' : Nat → Bool}, (∀ i, i < n' → g' i = g (φ i)) → (∀ i, i < n' → s' i = s (φ i)) → semU n' back' g' s' i = semU n back g s (φ i) := by
    intro g s g' s' hg hs
    rw [Bool.eq_iff_iff, semU_iff hb' hi, semU_iff hb (hφ i hi).1]
    constructor
    · rintro ⟨m, h1, h2⟩
      refine ⟨m, by rw [← hit m i hi, ← hg _ (itn_lt hb' m i hi)]; exact h1, fun j hj => ?_⟩
      rw [← hit j i hi, ← hs _ (itn_lt hb' j i hi)]; exact h2 j hj
    · rintro ⟨m, h1, h2⟩
      refine ⟨m, by rw [hg _ (itn_lt hb' m i hi), hit m i hi]; exact h1, fun j hj => ?_⟩
      rw [hs _ (itn_lt hb' j i hi), hit j i hi]; exact h2 j hj
  unfold semKind
  by_cases c1 : k = 1
  · rw [if_pos c1, if_pos c1]
  rw [if_neg c1, if_neg c1]
  by_cases c2 : k = 2
  · rw [if_pos c2, if_pos c2]
  rw [if_neg c2, if_neg c2]
  by_cases c3 : k = 3
  · rw [if_pos c3, if_pos c3]; exact ht i hi
  rw [if_neg c3, if_neg c3]
  by_cases c4 : k = 4
  · rw [if_pos c4, if_pos c4]; simp only [ha i hi]
  rw [if_neg c4, if_neg c4]
  by_cases c5 : k = 5
  · rw [if_pos c5, if_pos c5]; simp only [ha i hi, hbb i hi]
  rw [if_neg c5, if_neg c5]
  by_cases c6 : k = 6
  · rw [if_pos c6, if_pos c6]; simp only [ha i hi, hbb i hi]
  rw [if_neg c6, if_neg c6]
  by_cases c7 : k = 7
  · rw [if_pos c7, if_pos c7]; simp only [ha i hi, hbb i hi]
  rw [if_neg c7, if_neg c7]
  by_cases c8 : k = 8
  · rw [if_pos c8, if_pos c8]; simp only [ha _ (nx_lt hb' i), (hφ i hi).2]
  rw [if_neg c8, if_neg c8]
  by_cases c9 : k = 9
  · rw [if_pos c9, if_pos c9]; exact hU hbb ha
  rw [if_neg c9, if_neg c9]
  by_cases c12 : k = 12
  · rw [if_pos c12, if_pos c12]; exact hU ha (fun _ _ => rfl)
  rw [if_neg c12, if_neg c12]
  by_cases c10 : k = 10
  · rw [if_pos c10, if_pos c10]; rw [hU (g := fun i => !b i) (s := fun i => !a i) (fun j hj => by rw [hbb j hj]) (fun j hj => by rw [ha j hj])]
  rw [if_neg c10, if_neg c10]
  by_cases c11 : k = 11
  · rw [if_pos c11, if_pos c11]; rw [hU (g := fun i => !a i) (s := fun _ => true) (fun j hj => by rw [ha j hj]) (fun _ _ => rfl)]
  rw [if_neg c11, if_neg c11]
mutual
/-- A formula is so where it is so of another word, if its atoms are. -/
theorem sem_map {l l' : List PropD} {ls ls' : List (List Bool)} {back back' : Nat} (hb : back < ls.length) (hb' : back' < ls'.length) (φ : Nat → Nat) (hφ : ∀ i, i < ls'.length → φ i < ls.length ∧ φ (nx ls'.length back' i) = nx ls.length back (φ i)) :
    ∀ (f : Form), (∀ p ∈ f.props, ∀ i, i < ls'.length → atomAt l' ls' p i = atomAt l ls p (φ i)) → ∀ i, i < ls'.length → f.sem l' ls' back' i = f.sem l ls back (φ i)
  | .mk k p kids, h, i, hi => by
    have hk := semL_map hb hb' φ hφ kids (fun f hf p hp => h p (by rw [props_mk, mem_propsL]; exact .inr ⟨f, hf, hp⟩))
    unfold Form.sem
    by_cases h3 : k = 3
    · subst h3
      have hp := h p (by rw [props_mk, mem_propsL]; exact .inl (by simp)) i hi
      simpa [semKind, atomAt] using hp
    · have hz : ∀ (t t' : Nat → Bool) (a b : Nat → Bool) (n back i : Nat), semKind k t a b n back i = semKind k t' a b n back i := by
        intro t t' a b n back i
        unfold semKind
        rw [if_neg h3, if_neg h3]
      rw [hz _ (fun _ => false), hz (fun i => (ls.getD i []).getD (l.idxOf p) false) (fun _ => false)]
      exact semKind_map (t := fun _ => false) (t' := fun _ => false) hb hb' φ hφ k (fun _ _ => rfl) (hk 0) (hk 1) i hi
theorem semL_map {l l' : List PropD} {ls ls' : List (List Bool)} {back back' : Nat} (hb : back < ls.length) (hb' : back' < ls'.length) (φ : Nat → Nat) (hφ : ∀ i, i < ls'.length → φ i < ls.length ∧ φ (nx ls'.length back' i) = nx ls.length back (φ i)) :
    ∀ (fs : List Form), (∀ f ∈ fs, ∀ p ∈ f.props, ∀ i, i < ls'.length → atomAt l' ls' p i = atomAt l ls p (φ i)) → ∀ j i, i < ls'.length → (semL l' ls' back' fs).getD j (fun _ => false) i = (semL l ls back fs).getD j (fun _ => false) (φ i)
  | [], _, _, _, _ => by simp [semL]
  | f :: fs, h, j, i, hi => by
    unfold semL
    cases j with
    | zero => exact sem_map hb hb' φ hφ f (h f (by simp)) i hi
    | succ j => exact semL_map hb hb' φ hφ fs (fun g hg => h g (by simp [hg])) j i hi
end

/-! ### The steps -/
/-- The letters by another list of atoms. -/
def reletter (p q : List PropD) (letter : List Bool) : List Bool := q.map (fun a => letter.getD (p.idxOf a) false)
theorem atomAt_reletter {p q : List PropD} {ls : List (List Bool)} {a : PropD} (ha : a ∈ q) (i : Nat) (hi : i < ls.length) : atomAt q (ls.map (reletter p q)) a i = atomAt p ls a i := by
  unfold atomAt reletter
  have h1 : (ls.map (fun letter => q.map (fun a => letter.getD (p.idxOf a) false))).getD i [] = q.map (fun a => (ls.getD i []).getD (p.idxOf a) false) := by
    simp [List.getD_eq_getElem?_getD, List.getElem?_eq_getElem hi]
  rw [h1]
  have h2 : q.idxOf a < q.length := List.idxOf_lt_length_of_mem ha
  rw [List.getD_eq_getElem?_getD, List.getElem?_eq_getElem (by simpa using h2), Option.getD_some, List.getElem_map]
  rw [List.getElem_idxOf h2]
def stepsL (f g : Form) (i : Nat) : Form := if i = 0 then .mk 9 ⟨0, 0, 0, 0⟩ [f, g] else if i = 1 then .mk 10 ⟨0, 0, 0, 0⟩ [f, g] else if i = 2 then .mk 11 ⟨0, 0, 0, 0⟩ [f] else .mk 12 ⟨0, 0, 0, 0⟩ [f]
abbrev nex (f : Form) : Form := .mk 8 ⟨0, 0, 0, 0⟩ [f]
def stepsR (f g : Form) (i : Nat) : Form := if i = 0 then .mk 6 ⟨0, 0, 0, 0⟩ [g, .mk 5 ⟨0, 0, 0, 0⟩ [f, nex (.mk 9 ⟨0, 0, 0, 0⟩ [f, g])]] else if i = 1 then .mk 5 ⟨0, 0, 0, 0⟩ [g, .mk 6 ⟨0, 0, 0, 0⟩ [f, nex (.mk 10 ⟨0, 0, 0, 0⟩ [f, g])]]
  else if i = 2 then .mk 5 ⟨0, 0, 0, 0⟩ [f, nex (.mk 11 ⟨0, 0, 0, 0⟩ [f])] else .mk 6 ⟨0, 0, 0, 0⟩ [f, nex (.mk 12 ⟨0, 0, 0, 0⟩ [f])]
theorem stepsL_ok (f g : Form) (hf : f.okD 6 = true) (hg : g.okD 6 = true) (hfs : f.size ≤ 41) (hgs : g.size ≤ 41) (i : Nat) : (stepsL f g i).okD 7 = true ∧ (stepsL f g i).size ≤ 83 := by
  unfold stepsL
  repeat' split
  · exact ⟨okD_two (by decide) hf hg, by rw [size_two]; omega⟩
  · exact ⟨okD_two (by decide) hf hg, by rw [size_two]; omega⟩
  · exact ⟨okD_one (by decide) hf, by rw [size_one]; omega⟩
  · exact ⟨okD_one (by decide) hf, by rw [size_one]; omega⟩
theorem stepsR_ok (f g : Form) (hf : f.okD 6 = true) (hg : g.okD 6 = true) (hfs : f.size ≤ 41) (hgs : g.size ≤ 41) (i : Nat) : (stepsR f g i).okD 10 = true ∧ (stepsR f g i).size ≤ 170 := by
  unfold stepsR nex
  repeat' split
  · exact ⟨okD_two (by decide) (okD_more _ 6 9 (by omega) hg) (okD_two (by decide) (okD_more _ 6 8 (by omega) hf) (okD_one (by decide) (okD_two (by decide) hf hg))), by simp only [size_one, size_two]; omega⟩
  · exact ⟨okD_two (by decide) (okD_more _ 6 9 (by omega) hg) (okD_two (by decide) (okD_more _ 6 8 (by omega) hf) (okD_one (by decide) (okD_two (by decide) hf hg))), by simp only [size_one, size_two]; omega⟩
  · exact ⟨okD_more _ 9 10 (by omega) (okD_two (by decide) (okD_more _ 6 8 (by omega) hf) (okD_one (by decide) (okD_one (by decide) hf))), by simp only [size_one, size_two]; omega⟩
  · exact ⟨okD_more _ 9 10 (by omega) (okD_two (by decide) (okD_more _ 6 8 (by omega) hf) (okD_one (by decide) (okD_one (by decide) hf))), by simp only [size_one, size_two]; omega⟩
theorem steps_props (f g : Form) (i : Nat) (x : PropD) : x ∈ (stepsR f g i).props ↔ x ∈ (stepsL f g i).props := by
  unfold stepsL stepsR nex
  repeat' split
  all_goals
    rw [props_two _ _ _ (by decide)]
    first
      | (rw [props_two _ _ _ (by decide), props_one _ _ (by decide), props_two _ _ _ (by decide)]
         simp only [mem_addPs]
         constructor
         · rintro (h | h | h | h) <;> simp [h]
         · rintro (h | h) <;> simp [h])
      | (rw [props_one _ _ (by decide), props_one _ _ (by decide)]
         simp only [mem_addPs]
         constructor
         · rintro (h | h) <;> simp [h]
         · intro h; simp [h])
theorem steps_sem (f g : Form) (i : Nat) (l : List PropD) (ls : List (List Bool)) (back : Nat) (hb : back < ls.length) (j : Nat) (hj : j < ls.length) : (stepsL f g i).sem l ls back j = (stepsR f g i).sem l ls back j := by
  unfold stepsL stepsR nex
  repeat' split
  · simp only [sem_one, sem_two]
    simp [semKind]
    exact semU_unfold hb hj
  · simp only [sem_one, sem_two]
    simp [semKind]
    rw [semU_unfold hb hj]
  · simp only [sem_one, sem_two]
    simp [semKind]
    rw [semU_unfold hb hj]
    simp
  · simp only [sem_one, sem_two]
    simp [semKind]
    rw [semU_unfold hb hj]
    simp
/-- A word for a formula is one for another, by its list of atoms. -/
theorem steps_law (f g : Form) (hf : f.okD 6 = true) (hg : g.okD 6 = true) (hfs : f.size ≤ 41) (hgs : g.size ≤ 41) (i : Nat) (ls : List (List Bool)) (bk : Int) (h1 : 1 ≤ ls.length) (h2 : ls.length ≤ 100000) (hb0 : 0 ≤ bk) (hb1 : bk < ls.length) (hw : wideOk ls (stepsL f g i).props.length = true) :
    tc (stepsL f g i) ls bk = 0 ∧ tc (stepsR f g i) (ls.map (reletter (stepsL f g i).props (stepsR f g i).props)) bk = 0 ∧ tl (stepsL f g i) ls bk = tl (stepsR f g i) (ls.map (reletter (stepsL f g i).props (stepsR f g i).props)) bk := by
  obtain ⟨a1, a2⟩ := stepsL_ok f g hf hg hfs hgs i
  obtain ⟨b1, b2⟩ := stepsR_ok f g hf hg hfs hgs i
  have hm : mayOk (stepsL f g i) ls bk = true := by
    unfold mayOk; rw [fits_of a1 (by omega) (by omega), hw]; simp; omega
  have hm' : mayOk (stepsR f g i) (ls.map (reletter (stepsL f g i).props (stepsR f g i).props)) bk = true := by
    unfold mayOk
    rw [fits_of b1 (by omega) (by omega)]
    have : wideOk (ls.map (reletter (stepsL f g i).props (stepsR f g i).props)) (stepsR f g i).props.length = true := by
      simp [wideOk, reletter]
    rw [this]; simp; omega
  refine ⟨by simp [tc, hm], by simp [tc, hm'], ?_⟩
  unfold tl Form.truth
  rw [hm, hm', if_pos rfl, if_pos rfl, List.length_map]
  apply List.map_congr_left
  intro j hj
  have hj' : j < ls.length := by simpa using hj
  have hbn : bk.toNat < ls.length := by omega
  rw [steps_sem f g i _ ls _ hbn j hj']
  have := sem_map (l := (stepsL f g i).props) (l' := (stepsR f g i).props) (ls := ls) (ls' := ls.map (reletter (stepsL f g i).props (stepsR f g i).props)) (back := bk.toNat) (back' := bk.toNat) hbn (by simpa using hbn) id (fun i h3 => ⟨by simpa using h3, by simp⟩) (stepsR f g i)
    (fun p hp i hi => atomAt_reletter hp i (by simpa using hi)) j (by simpa using hj')
  exact this.symm
/-! ### Told twice -/
theorem twice_nx {n b i : Nat} (hb : b < n) (hi : i < n + (n - b)) (back' : Nat) (hbk : back' = b ∨ back' = n) :
    (fun i => if i < n then i else b + (i - n)) i < n ∧ (fun i => if i < n then i else b + (i - n)) (nx (n + (n - b)) back' i) = nx n b ((fun i => if i < n then i else b + (i - n)) i) := by
  simp only [nx]
  constructor
  · split <;> omega
  · rcases hbk with rfl | rfl
    · repeat' split
      all_goals omega
    · repeat' split
      all_goals omega
theorem twice_getD {α : Type} (ls : List α) (d : α) (b i : Nat) (_ : i < ls.length + (ls.length - b)) : (ls ++ ls.drop b).getD i d = ls.getD (if i < ls.length then i else b + (i - ls.length)) d := by
  split
  · rename_i h; simp [List.getD_eq_getElem?_getD, List.getElem?_append_left h]
  · rename_i h; simp [List.getD_eq_getElem?_getD, List.getElem?_append_right (Nat.le_of_not_lt h)]
theorem wide_twice {ls : List (List Bool)} {m b : Nat} (h : wideOk ls m = true) : wideOk (ls ++ ls.drop b) m = true := by
  simp only [wideOk, List.all_eq_true] at h ⊢
  intro x hx
  rcases List.mem_append.1 hx with hx | hx
  · exact h x hx
  · exact h x (List.mem_of_mem_drop hx)
theorem twice_law (f : Form) (hf : f.okD 6 = true) (hfs : f.size ≤ 41) (ls : List (List Bool)) (b : Nat) (h2 : ls.length ≤ 1000) (hb : b < ls.length) (hw : wideOk ls f.props.length = true) (bk : Nat) (hbk : bk = b ∨ bk = ls.length) :
    tc f ls b = 0 ∧ tc f (ls ++ ls.drop b) bk = 0 ∧ (tl f ls b).length = ls.length ∧ tl f (ls ++ ls.drop b) bk = tl f ls b ++ (tl f ls b).drop b := by
  have hfit := fits_of hf (by omega) (by omega)
  have hm : mayOk f ls b = true := by unfold mayOk; rw [hfit, hw]; simp; omega
  have hm' : mayOk f (ls ++ ls.drop b) bk = true := by
    unfold mayOk; rw [hfit, wide_twice hw]; simp; omega
  refine ⟨by simp [tc, hm], by simp [tc, hm'], by simp [tl, hm, Form.truth], ?_⟩
  unfold tl Form.truth
  rw [hm, hm', if_pos rfl, if_pos rfl]
  simp only [Int.toNat_natCast]
  have hl : (ls ++ ls.drop b).length = ls.length + (ls.length - b) := by simp
  apply List.ext_getElem
  · simp
  · intro i h1 h2
    have hi : i < ls.length + (ls.length - b) := by simpa using h1
    rw [List.getElem_map, List.getElem_range]
    have key := sem_map (l := f.props) (l' := f.props) (ls := ls) (ls' := ls ++ ls.drop b) (back := b) (back' := bk) hb (by rw [hl]; omega) (fun i => if i < ls.length then i else b + (i - ls.length)) (fun i h3 => by rw [hl] at h3 ⊢; exact twice_nx hb h3 bk hbk) f
      (fun p _ i h3 => by unfold atomAt; rw [twice_getD ls [] b i (by rw [← hl]; exact h3)]) i (by rw [hl]; exact hi)
    rw [key]
    by_cases hc : i < ls.length
    · rw [List.getElem_append_left (by simpa using hc)]; simp [hc]
    · rw [List.getElem_append_right (by simpa using hc)]; simp [hc]
end Go.Proofs.Ytidnpdkibndpkaa
