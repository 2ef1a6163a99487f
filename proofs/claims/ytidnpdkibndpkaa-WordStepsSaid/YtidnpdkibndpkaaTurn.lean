/- Formulas that are turned: plain laws of what two formulas of the same parts tell. -/
import Derived.Test.YtidnpdkibndpkaaWLaws2
namespace Go.Proofs.Ytidnpdkibndpkaa

mutual
theorem okD_more : ∀ (f : Form) (d e : Nat), d ≤ e → f.okD d = true → f.okD e = true
  | .mk k p kids, d, e, h, ho => by
    unfold Form.okD at ho ⊢
    simp only [Bool.and_eq_true, decide_eq_true_eq] at ho ⊢
    refine ⟨by omega, ?_⟩
    by_cases hk : k = 3
    · simpa [hk] using ho.2
    · have h2 := ho.2
      rw [if_neg hk] at h2 ⊢
      cases hn : kidsOf k with
      | none => rw [hn] at h2; exact h2
      | some n =>
        rw [hn] at h2
        simp only [Bool.and_eq_true] at h2 ⊢
        exact ⟨h2.1, okL_more kids (d - 1) (e - 1) (by omega) h2.2⟩
theorem okL_more : ∀ (l : List Form) (d e : Nat), d ≤ e → okL l d = true → okL l e = true
  | [], _, _, _, _ => by simp [okL]
  | f :: l, d, e, h, ho => by
    unfold okL at ho ⊢
    simp only [Bool.and_eq_true] at ho ⊢
    exact ⟨okD_more f d e h ho.1, okL_more l d e h ho.2⟩
end
theorem okD_one {k : Int} {g : Form} {d : Nat} (hk : kidsOf k = some 1) (h : g.okD d = true) : (Form.mk k ⟨0, 0, 0, 0⟩ [g]).okD (d + 1) = true := by
  have h3 : k ≠ 3 := by rintro rfl; simp [kidsOf] at hk
  unfold Form.okD
  rw [if_neg h3, hk]
  simp [okL, h]
theorem okD_two {k : Int} {f g : Form} {d : Nat} (hk : kidsOf k = some 2) (h : f.okD d = true) (h' : g.okD d = true) : (Form.mk k ⟨0, 0, 0, 0⟩ [f, g]).okD (d + 1) = true := by
  have h3 : k ≠ 3 := by rintro rfl; simp [kidsOf] at hk
  unfold Form.okD
  rw [if_neg h3, hk]
  simp [okL, h, h']
theorem size_one (k : Int) (p : PropD) (g : Form) : (Form.mk k p [g]).size = 1 + g.size := by simp [Form.size, sizeL]
theorem size_two (k : Int) (p : PropD) (f g : Form) : (Form.mk k p [f, g]).size = 1 + f.size + g.size := by simp [Form.size, sizeL]; omega
theorem fits_of {f : Form} {d : Nat} (h : f.okD d = true) (hd : d ≤ 20) (hs : f.size ≤ 200) : f.fits = true := by
  unfold Form.fits; rw [okD_more f d 20 hd h]; simp [hs]

theorem addP_nodup {out : List PropD} (p : PropD) (h : out.Nodup) : (addP out p).Nodup := by
  unfold addP
  split
  · exact h
  · rename_i hp
    rw [List.nodup_append]
    refine ⟨h, by simp, ?_⟩
    intro a ha b hb
    simp at hb
    subst hb
    intro e; subst e; exact hp ha
theorem addPs_nodup (ps out : List PropD) (h : out.Nodup) : (ps.foldl addP out).Nodup := by
  induction ps generalizing out with
  | nil => exact h
  | cons p ps ih => exact ih _ (addP_nodup p h)
theorem addPs_fresh (ps out : List PropD) (h : (out ++ ps).Nodup) : ps.foldl addP out = out ++ ps := by
  induction ps generalizing out with
  | nil => simp
  | cons p ps ih =>
    have hp : p ∉ out := by
      intro hm
      rw [List.nodup_append] at h
      exact h.2.2 p hm p (by simp) rfl
    rw [List.foldl_cons, show addP out p = out ++ [p] from if_neg hp, ih _ (by simpa using h)]
    simp
theorem propsL_nodup (l : List Form) (out : List PropD) (h : out.Nodup) : (propsL l out).Nodup := by
  induction l generalizing out with
  | nil => exact h
  | cons f l ih => unfold propsL; exact ih _ (addPs_nodup _ _ h)
theorem props_nodup (f : Form) : f.props.Nodup := by
  obtain ⟨k, p, kids⟩ := f
  unfold Form.props
  apply propsL_nodup
  split <;> simp
theorem props_mk (k : Int) (p : PropD) (kids : List Form) : (Form.mk k p kids).props = propsL kids (if k = 3 then [p] else []) := by
  unfold Form.props; rfl
theorem props_one {k : Int} (p : PropD) (g : Form) (h : k ≠ 3) : (Form.mk k p [g]).props = g.props := by
  rw [props_mk, if_neg h]
  simp only [propsL]
  rw [addPs_fresh _ _ (by simpa using props_nodup g)]
  rfl
theorem props_two {k : Int} (p : PropD) (f g : Form) (h : k ≠ 3) : (Form.mk k p [f, g]).props = g.props.foldl addP f.props := by
  rw [props_mk, if_neg h]
  simp only [propsL]
  rw [addPs_fresh _ [] (by simpa using props_nodup f)]
  rfl

theorem sem_one (l : List PropD) (ls : List (List Bool)) (back : Nat) (k : Int) (p : PropD) (g : Form) : (Form.mk k p [g]).sem l ls back = semKind k (fun i => (ls.getD i []).getD (l.idxOf p) false) (g.sem l ls back) (fun _ => false) ls.length back := by
  simp [Form.sem, semL]
theorem sem_two (l : List PropD) (ls : List (List Bool)) (back : Nat) (k : Int) (p : PropD) (f g : Form) : (Form.mk k p [f, g]).sem l ls back = semKind k (fun i => (ls.getD i []).getD (l.idxOf p) false) (f.sem l ls back) (g.sem l ls back) ls.length back := by
  simp [Form.sem, semL]
/-- Two formulas with the same atoms that are so at the same places tell the same. -/
theorem res_same {x y : Form} (hx : x.fits = true) (hy : y.fits = true) (hp : x.props = y.props) (hs : ∀ (l : List PropD) (ls : List (List Bool)) (back : Nat), x.sem l ls back = y.sem l ls back) (ls : List (List Bool)) (bk : Int) : tl x ls bk = tl y ls bk ∧ tc x ls bk = tc y ls bk := by
  have hm : mayOk x ls bk = mayOk y ls bk := by unfold mayOk; rw [hx, hy, hp]
  unfold tl tc Form.truth
  rw [hm, hp, hs]
  exact ⟨rfl, rfl⟩
abbrev no (f : Form) : Form := .mk 4 ⟨0, 0, 0, 0⟩ [f]
theorem props_no (f : Form) : (no f).props = f.props := props_one _ _ (by decide)
/-- The pairs. -/
def turnedL (f g : Form) (i : Nat) : Form := if i = 0 then no (.mk 9 ⟨0, 0, 0, 0⟩ [f, g]) else if i = 1 then no (.mk 12 ⟨0, 0, 0, 0⟩ [f]) else if i = 2 then no (.mk 8 ⟨0, 0, 0, 0⟩ [f]) else if i = 3 then .mk 7 ⟨0, 0, 0, 0⟩ [f, g] else no (.mk 5 ⟨0, 0, 0, 0⟩ [f, g])
def turnedR (f g : Form) (i : Nat) : Form := if i = 0 then .mk 10 ⟨0, 0, 0, 0⟩ [no f, no g] else if i = 1 then .mk 11 ⟨0, 0, 0, 0⟩ [no f] else if i = 2 then .mk 8 ⟨0, 0, 0, 0⟩ [no f] else if i = 3 then .mk 6 ⟨0, 0, 0, 0⟩ [no f, g] else .mk 6 ⟨0, 0, 0, 0⟩ [no f, no g]
theorem turnedL_ok (f g : Form) (hf : f.okD 6 = true) (hg : g.okD 6 = true) (hfs : f.size ≤ 41) (hgs : g.size ≤ 41) (i : Nat) : (turnedL f g i).okD 8 = true ∧ (turnedL f g i).size ≤ 90 := by
  unfold turnedL
  split
  · exact ⟨okD_one (by decide) (okD_two (by decide) hf hg), by rw [size_one, size_two]; omega⟩
  · split
    · exact ⟨okD_one (by decide) (okD_one (by decide) hf), by rw [size_one, size_one]; omega⟩
    · split
      · exact ⟨okD_one (by decide) (okD_one (by decide) hf), by rw [size_one, size_one]; omega⟩
      · split
        · exact ⟨okD_more _ 7 8 (by omega) (okD_two (by decide) hf hg), by rw [size_two]; omega⟩
        · exact ⟨okD_one (by decide) (okD_two (by decide) hf hg), by rw [size_one, size_two]; omega⟩
theorem turnedR_ok (f g : Form) (hf : f.okD 6 = true) (hg : g.okD 6 = true) (hfs : f.size ≤ 41) (hgs : g.size ≤ 41) (i : Nat) : (turnedR f g i).okD 8 = true ∧ (turnedR f g i).size ≤ 90 := by
  unfold turnedR
  split
  · exact ⟨okD_two (by decide) (okD_one (by decide) hf) (okD_one (by decide) hg), by rw [size_two, size_one, size_one]; omega⟩
  · split
    · exact ⟨okD_one (by decide) (okD_one (by decide) hf), by rw [size_one, size_one]; omega⟩
    · split
      · exact ⟨okD_one (by decide) (okD_one (by decide) hf), by rw [size_one, size_one]; omega⟩
      · split
        · exact ⟨okD_two (by decide) (okD_one (by decide) hf) (okD_more _ 6 7 (by omega) hg), by rw [size_two, size_one]; omega⟩
        · exact ⟨okD_two (by decide) (okD_one (by decide) hf) (okD_one (by decide) hg), by rw [size_two, size_one, size_one]; omega⟩
theorem turned_props (f g : Form) (i : Nat) : (turnedL f g i).props = (turnedR f g i).props := by
  unfold turnedL turnedR
  repeat' split
  · rw [props_no, props_two _ _ _ (by decide), props_two _ _ _ (by decide), props_no, props_no]
  · rw [props_no, props_one _ _ (by decide), props_one _ _ (by decide), props_no]
  · rw [props_no, props_one _ _ (by decide), props_one _ _ (by decide), props_no]
  · rw [props_two _ _ _ (by decide), props_two _ _ _ (by decide), props_no]
  · rw [props_no, props_two _ _ _ (by decide), props_two _ _ _ (by decide), props_no, props_no]
theorem turned_sem (f g : Form) (i : Nat) (l : List PropD) (ls : List (List Bool)) (back : Nat) : (turnedL f g i).sem l ls back = (turnedR f g i).sem l ls back := by
  unfold turnedL turnedR no
  repeat' split
  · rw [sem_one, sem_two, sem_two, sem_one, sem_one]; simp [semKind]
  · rw [sem_one, sem_one, sem_one, sem_one]; simp [semKind]
  · rw [sem_one, sem_one, sem_one, sem_one]; simp [semKind]
  · rw [sem_two, sem_two, sem_one]; simp [semKind]
  · rw [sem_one, sem_two, sem_two, sem_one, sem_one]; simp [semKind]
/-- What is turned tells the same. -/
theorem turned_law (f g : Form) (hf : f.okD 6 = true) (hg : g.okD 6 = true) (hfs : f.size ≤ 41) (hgs : g.size ≤ 41) (i : Nat) (ls : List (List Bool)) (bk : Int) : tl (turnedL f g i) ls bk = tl (turnedR f g i) ls bk ∧ tc (turnedL f g i) ls bk = tc (turnedR f g i) ls bk := by
  obtain ⟨a1, a2⟩ := turnedL_ok f g hf hg hfs hgs i
  obtain ⟨b1, b2⟩ := turnedR_ok f g hf hg hfs hgs i
  exact res_same (fits_of a1 (by omega) (by omega)) (fits_of b1 (by omega) (by omega)) (turned_props f g i) (turned_sem f g i) ls bk
end Go.Proofs.Ytidnpdkibndpkaa
