/- Where a formula is so: the document's answer. -/
import Derived.Test.YtidnpdkibndpkaaROf2
import Derived.Test.YtidnpdkibndpkaaRMay
namespace Go.Proofs.Ytidnpdkibndpkaa
open Go.RowKit

/-- The document's way tells where a formula is so. -/
theorem rofAll_any (d : Nat) : ROfAt d := by
  induction d with
  | zero => exact fun w f kv deep lv ls back pv ps h => h.elim
  | succ d ih =>
    intro w f kv deep lv ls back pv ps h hok ha hps
    obtain ⟨ka, kc, rfl, hkl, hk⟩ := h
    obtain ⟨k, ⟨p1, p2, p3, p4⟩, kids⟩ := f
    simp only [Form.kids] at hkl hk ⊢
    rw [truth_range]
    by_cases h3 : k = 3
    · subst h3
      have hk0 : kids.length = 0 := by
        simp only [Form.okD, Bool.and_eq_true, decide_eq_true_eq, if_true] at hok; exact hok.2.2
      have hnil : kids = [] := List.eq_nil_of_length_eq_zero hk0
      have hmem : (⟨p1, p2, p3, p4⟩ : PropD) ∈ ps := by
        refine hps _ ?_
        subst hnil
        simp [Form.props, propsL]
      refine rof_any d ih w 3 p1 p2 p3 p4 kids ka kc deep lv ls back pv ps hk (by rw [hnil]; rfl) ha hps (by omega) _ (fun i hi => ?_) (.inr (.inl ⟨rfl, hmem⟩))
      simp [Form.sem, semKind]
    · have hk2 : ∃ n, kidsOf k = some n ∧ kids.length = n ∧ okL kids (deep - 1) = true := by
        simp only [Form.okD, if_neg h3, Bool.and_eq_true] at hok
        have h2 := hok.2
        cases hko : kidsOf k with
        | none => rw [hko] at h2; cases h2
        | some n => rw [hko] at h2; simp only [Bool.and_eq_true, decide_eq_true_eq] at h2; exact ⟨n, rfl, h2.1.2, h2.2⟩
      obtain ⟨n, hn, hl, hL⟩ := hk2
      have hkk : ((k = 1 ∨ k = 2) ∧ kids.length = 0) ∨ (k = 4 ∨ k = 8 ∨ k = 11 ∨ k = 12) ∧ kids.length = 1 ∨ (k = 5 ∨ k = 6 ∨ k = 7 ∨ k = 9 ∨ k = 10) ∧ kids.length = 2 := by
        rcases kids_cases k with ⟨hk', h2, -⟩ | ⟨hk', h2, -⟩ | ⟨hk', h2, -⟩ | ⟨hk', -⟩ | ⟨hk', h2, -⟩
        · rw [h2] at hn; cases hn; exact .inl ⟨hk', hl⟩
        · rw [h2] at hn; cases hn; exact .inr (.inl ⟨hk', hl⟩)
        · rw [h2] at hn; cases hn; exact .inr (.inr ⟨hk', hl⟩)
        · exact absurd hk' h3
        · rw [h2] at hn; cases hn
      refine rof_any d ih w k p1 p2 p3 p4 kids ka kc (deep - 1) lv ls back pv ps hk hL ha hps (by omega) _ (fun i hi => ?_) (by omega)
      rw [Form.sem]
      rcases hkk with ⟨hk', h0⟩ | ⟨hk', h1⟩ | ⟨hk', h2⟩
      · rcases hk' with rfl | rfl <;> simp [semKind]
      · rw [semL_get ps ls back kids 0 (by omega)]
        rcases hk' with rfl | rfl | rfl | rfl <;> simp [semKind]
      · rw [semL_get ps ls back kids 0 (by omega), semL_get ps ls back kids 1 (by omega)]

set_option maxRecDepth 100000 in
set_option maxHeartbeats 8000000 in
theorem refTruth_any (w : World) (d : Nat) (f : Form) (kv lv : Value) (ls : List (List Bool)) (bk : Int) (h : FormAt w d f kv) (hl : LettersAt w lv ls) :
    Calls Try.prog 20 #[formV f kv, .agg #[lv, .int .i64 bk]] w (TellsTruth f ls bk w) := by
  obtain ⟨ka, kc, rfl, hkl⟩ := h.slice
  obtain ⟨la, lc, rfl, hll⟩ := hl.slice
  have hmay := fun W (hW : Below w.heap.size w W) => may_any W d f _ _ ls bk (h.below hW) (hl.below hW)
  have hprops := fun W (hW : Below w.heap.size w W) (hs : f.size ≤ 200) => rprops_any d W f _ (h.below hW) (by omega)
  have hof := fun (W : World) (back : Nat) (pv : Value) (hW : Below w.heap.size w W) (hok : f.okD 20 = true) (ha : AskedR W (.slice la ls.length lc) ls back pv f.props) => rofAll_any d W f _ 20 _ ls back pv f.props (h.below hW) hok ha (fun p hp => hp)
  have HL := Lib.hid hl
  obtain ⟨fs, hfs⟩ : ∃ fs, fs = f.props := ⟨_, rfl⟩
  obtain ⟨tr, htr⟩ : ∃ tr, tr = f.truth f.props ls bk.toNat := ⟨_, rfl⟩
  obtain ⟨may, hmy⟩ : ∃ may, may = mayOk f ls bk := ⟨_, rfl⟩
  have htell : ∀ e w', (Below w.heap.size w w' ∧ ((may = true ∧ ∃ sv, e = .returned (.tuple #[sv, .int .i64 0]) ∧ w'.ownsRow w.heap.size 4 1 sv tr.length (tr.map Value.bool)) ∨ (may = false ∧ e = .returned (.tuple #[.slice none 0 0, .int .i64 1])))) → TellsTruth f ls bk w e w' := fun e w' h => by rw [htr, hmy] at h; exact h
  rw [← hmy] at hmay
  have hfacts : may = true → f.size ≤ 200 ∧ f.okD 20 = true ∧ 1 ≤ ls.length ∧ ls.length ≤ 100000 ∧ 0 ≤ bk ∧ bk < ls.length ∧ wideOk ls fs.length = true := by
    intro h
    rw [hmy] at h
    unfold mayOk at h
    simp only [Bool.and_eq_true, decide_eq_true_eq] at h
    obtain ⟨⟨⟨⟨⟨h1, h2⟩, h3⟩, h4⟩, h5⟩, h6⟩ := h
    exact ⟨(fits_size h1).1, (fits_size h1).2, h2, h3, h4, h5, by rw [hfs]; exact h6⟩
  have HFA := Lib.hid hfacts
  have HFS := Lib.hid hfs
  have HTR := Lib.hid htr
  have HT := Lib.hid htell
  have HMY := Lib.hid hmay
  have HP := Lib.hid hprops
  have HOF := Lib.hid hof
  clear hmay hprops hof hfs htr htell hl h hmy hfacts
  obtain ⟨k, ⟨p1, p2, p3, p4⟩, kids⟩ := f
  simp only [Form.kids] at hkl HMY HP HOF ⊢
  unfold formV at *
  simp only [Form.kind, Form.prop] at HMY HP HOF ⊢
  have hB := boxes_below w (.cells #[.int .i64 k, .int .i64 p1, .int .i64 p2, .int .i64 p3, .int .i64 p4, .slice ka kids.length kc] 26) (.cells #[.slice la ls.length lc, .int .i64 bk] 29)
  have h1 := boxes_first w (.cells #[.int .i64 k, .int .i64 p1, .int .i64 p2, .int .i64 p3, .int .i64 p4, .slice ka kids.length kc] 26) (.cells #[.slice la ls.length lc, .int .i64 bk] 29)
  have h2 := boxes_second w (.cells #[.int .i64 k, .int .i64 p1, .int .i64 p2, .int .i64 p3, .int .i64 p4, .slice ka kids.length kc] 26) (.cells #[.slice la ls.length lc, .int .i64 bk] 29)
  have HB := Lib.hid hB
  have H1 := Lib.hid h1
  have H2 := Lib.hid h2
  clear hB h1 h2
  go_enter Try.func20, Try.ntmps20
  go_upto_region 1 with fail
  generalize hW : World.alloc _ _ = W at HB H1 H2 ⊢
  have hws : w.heap.size + 2 = W.heap.size := by rw [← hW]; simp
  clear hW
  have c0 := cell_of_block H1.out 0
  have c1 := cell_of_block H1.out 1
  have c2 := cell_of_block H1.out 2
  have c3 := cell_of_block H1.out 3
  have c4 := cell_of_block H1.out 4
  have c5 := cell_of_block H1.out 5
  have d0 := cell_of_block H2.out 0
  have d1 := cell_of_block H2.out 1
  simp only [List.getElem?_toArray, List.getElem?_cons_zero, List.getElem?_cons_succ] at c0 c1 c2 c3 c4 c5 d0 d1
  clear H1 H2
  go_wp2_with fail
  refine (HMY.out _ HB.out).mono ?_
  rintro e w2 ⟨rfl, hb2⟩
  have hx : ∀ a v, W.cell? a = some v → w2.cell? a = some v := fun a v h => (hb2.cell (World.block_lt_of_cell? _ _ h)).trans h
  replace c0 := hx _ _ c0
  replace c1 := hx _ _ c1
  replace c2 := hx _ _ c2
  replace c3 := hx _ _ c3
  replace c4 := hx _ _ c4
  replace c5 := hx _ _ c5
  replace d0 := hx _ _ d0
  replace d1 := hx _ _ d1
  have HB2 : Hid (Below w.heap.size w w2) := HB.out.trans (hb2.mono HB.out.size)
  clear hx hb2 HB hws HMY
  cases may with
  | false =>
    go_wp2_with fail
    go_ret2
    exact HT.out _ _ ⟨HB2.out, .inr ⟨by trivial, rfl⟩⟩
  | true =>
    obtain ⟨hs1, hs2, hn1, hn2, hb0, hbn, hwd⟩ := HFA.out rfl
    obtain ⟨back, rfl⟩ : ∃ back : Nat, bk = back := ⟨bk.toNat, by omega⟩
    have HS1 := Lib.hid hs1
    have HS2 := Lib.hid hs2
    have HWD := Lib.hid hwd
    clear hs1 hs2 hwd HFA
    go_wp2_with fail
    go_region_held3 (fun w' => w'.cell? ⟨w.heap.size + 1, 0, none⟩ = some (.slice la ls.length lc) ∧ w'.cell? ⟨w.heap.size + 1, 1, none⟩ = some (.int .i64 back) ∧ w'.cell? ⟨w.heap.size, 0, none⟩ = some (.int .i64 k) ∧ w'.cell? ⟨w.heap.size, 1, none⟩ = some (.int .i64 p1) ∧ w'.cell? ⟨w.heap.size, 2, none⟩ = some (.int .i64 p2) ∧ w'.cell? ⟨w.heap.size, 3, none⟩ = some (.int .i64 p3) ∧ w'.cell? ⟨w.heap.size, 4, none⟩ = some (.int .i64 p4) ∧ w'.cell? ⟨w.heap.size, 5, none⟩ = some (.slice ka kids.length kc)) (first | exact ⟨hx4 _ _ d0, hx4 _ _ d1, hx4 _ _ c0, hx4 _ _ c1, hx4 _ _ c2, hx4 _ _ c3, hx4 _ _ c4, hx4 _ _ c5⟩ | exact ⟨hx3 _ _ d0, hx3 _ _ d1, hx3 _ _ c0, hx3 _ _ c1, hx3 _ _ c2, hx3 _ _ c3, hx3 _ _ c4, hx3 _ _ c5⟩ | go_keep) (first | (go_at_call 18; refine (HP.out _ (HB2.out.drew) HS1.out).mono ?_; rintro e w3 ⟨sv, rfl, ho3, hb3⟩; unfold PropsOwn at ho3; rw [← HFS.out] at ho3; obtain ⟨pa, pc, rfl, hpc1, hpc2⟩ := row_slice ho3; have hx3 : ∀ a v, w2.cell? a = some v → w3.cell? a = some v := (fun a v h => (hb3.cell (World.block_lt_of_cell? w2 _ h)).trans h)) | (go_at_call 31; have hB3 : Below w.heap.size w w3 := (HB2.out.drew.trans (hb3.mono HB2.out.size)); have hcof := HOF.out w3 back (.slice pa fs.length pc) hB3 HS2.out ⟨HL.out.below hB3, (by rw [← HFS.out]; exact PropsAt.of_row ho3), hn1, (by omega), (by omega), (fun i hi => by rw [← HFS.out]; exact wideOk_at hi HWD.out)⟩; refine hcof.mono ?_; rintro e w4 ⟨xv, rfl, ho4, hb4⟩; have hx4 : ∀ a v, w2.cell? a = some v → w4.cell? a = some v := (fun a v h => (hb4.cell (World.block_lt_of_cell? w3 _ (hx3 a v h))).trans (hx3 a v h))))
    all_goals
      have HPP : Hid (w4.ownsRow w.heap.size 4 1 xv tr.length (tr.map Value.bool) ∧ Below w.heap.size w w4) := by
        refine ⟨?_, hB3.trans (hb4.mono hB3.size)⟩
        rw [HTR.out, Int.toNat_natCast]
        exact row_mono ho4 hB3.size
      clear ho4 hb4 ho3 hb3 hB3
      go_wp2_with fail
      go_ret2
      exact HT.out _ _ ⟨HPP.out.2, .inl ⟨by trivial, xv, rfl, HPP.out.1⟩⟩
end Go.Proofs.Ytidnpdkibndpkaa
