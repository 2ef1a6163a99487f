/- Where a formula is so: package word's teller. -/
import Derived.Test.YtidnpdkibndpkaaOfC
import Derived.Test.YtidnpdkibndpkaaRRight
namespace Go.Proofs.Ytidnpdkibndpkaa
open Go.RowKit

/-- The first part is told. -/
theorem truth_range (f : Form) (ps : List PropD) (ls : List (List Bool)) (back : Nat) : f.truth ps ls back = (List.range ls.length).map (f.sem ps ls back) := rfl
theorem BoolsAt.of_own {w W : World} {sv : Value} {l : List Bool} {B : Nat} (h : w.ownsRow B 4 1 sv l.length (l.map Value.bool)) (hb : Below w.heap.size w W) : BoolsAt W sv l := (BoolsAt.of_row h).below hb

set_option maxRecDepth 100000 in
set_option maxHeartbeats 4000000 in
theorem of_kids (d : Nat) (ih : OfAt d) (w : World) (tb : Nat) (k p1 p2 p3 p4 : Int) (kids : List Form) (ka : Option Addr) (kc : Nat) (deep : Nat) (lv : Value) (ls : List (List Bool)) (back : Nat) (pv : Value) (ps : List PropD)
    (hk : ∀ j, j < kids.length → ∃ b off kv, ka = some ⟨b, off, none⟩ ∧ b < w.heap.size ∧ (∀ i, i < 6 → w.cell? ⟨b, off + j * 6 + i, none⟩ = (formCells (kids.getD j default) kv)[i]?) ∧ FormAt w d (kids.getD j default) kv)
    (hok : okL kids deep = true) (ha : Asked w tb lv ls back pv ps) (hps : ∀ p ∈ (Form.mk k ⟨p1, p2, p3, p4⟩ kids).props, p ∈ ps)
    (hkk : (k = 4 ∨ k = 8 ∨ k = 11 ∨ k = 12) ∧ kids.length = 1 ∨ (k = 5 ∨ k = 6 ∨ k = 7 ∨ k = 9 ∨ k = 10) ∧ kids.length = 2) :
    Calls Try.prog 28 #[.pointer (some ⟨tb, 0, none⟩), .agg #[.int .i64 k, .int .i64 p1, .int .i64 p2, .int .i64 p3, .int .i64 p4, .slice ka kids.length kc]] w
      (TellsBools ((List.range ls.length).map (semKind k (fun _ => false) ((kids.getD 0 default).sem ps ls back) ((kids.getD 1 default).sem ps ls back) ls.length back)) w) := by
  obtain ⟨la, lc, rfl, -⟩ := ha.letters.slice
  have hB := boxes_below w (.cells #[.pointer (some ⟨tb, 0, none⟩)] 53) (.cells #[.int .i64 k, .int .i64 p1, .int .i64 p2, .int .i64 p3, .int .i64 p4, .slice ka kids.length kc] 26)
  have h1 := boxes_first w (.cells #[.pointer (some ⟨tb, 0, none⟩)] 53) (.cells #[.int .i64 k, .int .i64 p1, .int .i64 p2, .int .i64 p3, .int .i64 p4, .slice ka kids.length kc] 26)
  have h2 := boxes_second w (.cells #[.pointer (some ⟨tb, 0, none⟩)] 53) (.cells #[.int .i64 k, .int .i64 p1, .int .i64 p2, .int .i64 p3, .int .i64 p4, .slice ka kids.length kc] 26)
  have hk1 : (k == 1) = false := by rw [beq_eq_false_iff_ne]; omega
  have hk2 : (k == 2) = false := by rw [beq_eq_false_iff_ne]; omega
  have hk3 : (k == 3) = false := by rw [beq_eq_false_iff_ne]; omega
  have hl0 : 0 < kids.length := by omega
  have hrec : ∀ (W : World) (j : Nat), Below w.heap.size w W → j < kids.length → ∀ a n c, FormAt w d (kids.getD j default) (.slice a n c) → Calls Try.prog 28 #[.pointer (some ⟨tb, 0, none⟩), formV (kids.getD j default) (.slice a n c)] W (TellsBools ((kids.getD j default).truth ps ls back) W) :=
    fun W j hW hj a n c hf => ih W tb _ _ deep _ ls back _ ps (hf.below hW) (okL_kid kids _ j hj hok) (ha.below hW) (fun p hp => hps p (props_kid hj hp))
  have hlen : kids.length ≤ 2 := by omega
  obtain ⟨r, hr⟩ : ∃ r, r = (List.range ls.length).map (semKind k (fun _ => false) ((kids.getD 0 default).sem ps ls back) ((kids.getD 1 default).sem ps ls back) ls.length back) := ⟨_, rfl⟩
  rw [← hr]
  obtain ⟨b, off, g1, q1, q2, q3, q4, a1, n1, cc1, rfl, hb, hfv, hf, hn1, e0, e1, e2, e3, e4, e5⟩ := form_read hk hl0 hB
  have hc1 := fun W hW => hrec W 0 hW hl0 a1 n1 cc1 hf
  rw [hfv] at hc1
  simp only [Nat.zero_mul, Nat.add_zero] at e0 e1 e2 e3 e4 e5
  have c0 := cell_of_block h1 0
  have d0 := cell_of_block h2 0
  have d5 := cell_of_block h2 5
  simp only [List.getElem?_toArray, List.getElem?_cons_zero, List.getElem?_cons_succ] at c0 d0 d5
  have hone : ∀ (W : World) (sv : Value), Below w.heap.size w W → BoolsAt W sv ((kids.getD 0 default).truth ps ls back) → kids.length = 1 → Calls Try.prog 40 #[.pointer (some ⟨tb, 0, none⟩), .int .i64 k, sv] W (TellsBools r W) := by
    intro W sv hW hsv hl1
    have := one_any k (by omega) W tb la ls.length lc back _ sv _ (ha.teller.below hW) ha.long ha.short ha.back hsv (truth_len ..) (fun _ => false) ((kids.getD 1 default).sem ps ls back)
    rw [hr]
    rw [show (List.range ls.length).map (semKind k (fun _ => false) (fun i => ((kids.getD 0 default).truth ps ls back).getD i false) ((kids.getD 1 default).sem ps ls back) ls.length back) = (List.range ls.length).map (semKind k (fun _ => false) ((kids.getD 0 default).sem ps ls back) ((kids.getD 1 default).sem ps ls back) ls.length back) from
      List.map_congr_left (fun i hi => semKind_congr ha.back k (fun _ _ => rfl) (fun i hi => truth_get _ ps ls back i hi) (fun _ _ => rfl) i (List.mem_range.1 hi))] at this
    exact this
  have htwo : ∀ (W : World) (sv tv : Value), Below w.heap.size w W → BoolsAt W sv ((kids.getD 0 default).truth ps ls back) → BoolsAt W tv ((kids.getD 1 default).truth ps ls back) → kids.length = 2 → Calls Try.prog 41 #[.pointer (some ⟨tb, 0, none⟩), .int .i64 k, sv, tv] W (TellsBools r W) := by
    intro W sv tv hW hsv htv hl1
    have := two_any k (by omega) W tb la ls.length lc back _ sv tv _ _ (ha.teller.below hW) ha.long ha.short ha.back hsv (truth_len ..) htv (truth_len ..) (fun _ => false)
    rw [hr]
    rw [show (List.range ls.length).map (semKind k (fun _ => false) (fun i => ((kids.getD 0 default).truth ps ls back).getD i false) (fun i => ((kids.getD 1 default).truth ps ls back).getD i false) ls.length back) = (List.range ls.length).map (semKind k (fun _ => false) ((kids.getD 0 default).sem ps ls back) ((kids.getD 1 default).sem ps ls back) ls.length back) from
      List.map_congr_left (fun i hi => semKind_congr ha.back k (fun _ _ => rfl) (fun i hi => truth_get _ ps ls back i hi) (fun i hi => truth_get _ ps ls back i hi) i (List.mem_range.1 hi))] at this
    exact this
  have HC1 := Lib.hid hc1
  have HONE := Lib.hid hone
  have HTWO := Lib.hid htwo
  have HB := Lib.hid hB
  have HH2 := Lib.hid h2
  have HREC := Lib.hid hrec
  have HK := Lib.hid hk
  have HKK := Lib.hid hkk
  have hz := hB.size
  clear hc1 hone htwo hB h1 h2 hrec hk hr ha hps ih hfv hf hok hkk
  go_enter Try.func28, Try.ntmps28
  go_upto_region 8 with fail
  generalize hW : World.alloc _ _ = W at HB HH2 c0 d0 d5 e0 e1 e2 e3 e4 e5 ⊢
  have hws : w.heap.size + 2 = W.heap.size := by rw [← hW]; simp
  clear hW
  go_cut [6] (fun s6 w' => ∃ sv, s6 = sv ∧ Below W.heap.size W w' ∧ Hid (BoolsAt w' sv ((kids.getD 0 default).truth ps ls back)))
  case first =>
    go_still_tail 5, (by kernel_rfl)
    change wpList _ _ _ _ _ W.drew
    have hd : Hid (Below w.heap.size w W.drew) := HB.out.drew
    go_wp2_with fail
    refine (HC1.out _ hd.out).mono ?_
    rintro e w2 ⟨sv, rfl, ho, hb2⟩
    have HP : Hid (Below W.heap.size W w2 ∧ BoolsAt w2 sv ((kids.getD 0 default).truth ps ls back)) := ⟨(Below.refl _ _).drew.trans hb2, BoolsAt.of_row ho⟩
    clear ho hb2
    go_wp2_with fail
    go_meet
    case rel => exact ⟨sv, rfl, HP.out.1, HP.out.2⟩
  case rest =>
    obtain ⟨sv, rfl, hB, HSV⟩ := hcut
    have HBW : Hid (Below w.heap.size w wc) := HB.out.trans (hB.mono HB.out.size)
    have hx : ∀ a v, W.cell? a = some v → wc.cell? a = some v := fun a v h => (hB.cell (World.block_lt_of_cell? _ _ h)).trans h
    have c0' := hx _ _ c0
    have d0' := hx _ _ d0
    have d5' := hx _ _ d5
    have hwc : w.heap.size + 2 ≤ wc.heap.size := by rw [hws]; exact hB.size
    obtain ⟨aa, ac, rfl, hal⟩ := HSV.out.slice
    have hsv2 := HSV.out
    rw [truth_len] at hal hsv2 ⊢
    have HSV2 := Lib.hid hsv2
    clear hsv2 HSV
    clear hx hB c0 d0 d5 e0 e1 e2 e3 e4 e5 HC1 HH2 hws HB hz hb
    by_cases hl1 : kids.length = 1
    · have hl1' : ((kids.length : Int) == 1) = true := by rw [beq_iff_eq]; omega
      have hone := HONE.out _ _ HBW.out HSV2.out hl1
      have H1 := Lib.hid hone
      clear hone hl1
      go_wp2_with fail
      refine H1.out.mono ?_
      rintro e w2 ⟨tv, rfl, ho, hb2⟩
      have HP : Hid (w2.ownsRow w.heap.size 4 1 tv r.length (r.map Value.bool) ∧ Below w.heap.size w w2) := ⟨row_mono ho HBW.out.size, HBW.out.trans (hb2.mono HBW.out.size)⟩
      clear ho hb2 c0' d0' d5'
      go_wp2
      go_ret
      exact ⟨tv, rfl, HP.out⟩
    · have hl2 : Hid (kids.length = 2) := by rw [Hid]; rcases HKK.out with h | h; exact absurd h.2 hl1; exact h.2
      have hl1' : ((kids.length : Int) == 1) = false := by rw [beq_eq_false_iff_ne]; omega
      obtain ⟨b', off', g1, q1, q2, q3, q4, a1, n1, cc1, he, hb', hfv, hf, hn1, e0, e1, e2, e3, e4, e5⟩ := form_read HK.out (by rw [hl2.out]; omega : 1 < kids.length) HBW.out
      cases he
      have hc2 := fun W hW => HREC.out W 1 hW (by rw [hl2.out]; omega) a1 n1 cc1 hf
      rw [hfv] at hc2
      simp only [Nat.one_mul] at e0 e1 e2 e3 e4 e5
      have HC2 := Lib.hid hc2
      have hlt : (1 : Int) < (kids.length : Int) := by have := hl2.out; omega
      clear hc2 hf hfv hl1
      go_wp2_with fail
      go_region_held3 (fun w' => w'.cell? ⟨w.heap.size, 0, none⟩ = some (.pointer (some ⟨tb, 0, none⟩)) ∧ w'.cell? ⟨w.heap.size + 1, 0, none⟩ = some (.int .i64 k) ∧ w'.cell? ⟨w.heap.size + 1, 5, none⟩ = some (.slice (some ⟨b, off, none⟩) kids.length kc) ∧ w'.cell? ⟨b, off + 6, none⟩ = some (.int .i64 g1) ∧ w'.cell? ⟨b, off + 6 + 1, none⟩ = some (.int .i64 q1) ∧ w'.cell? ⟨b, off + 6 + 2, none⟩ = some (.int .i64 q2) ∧ w'.cell? ⟨b, off + 6 + 3, none⟩ = some (.int .i64 q3) ∧ w'.cell? ⟨b, off + 6 + 4, none⟩ = some (.int .i64 q4) ∧ w'.cell? ⟨b, off + 6 + 5, none⟩ = some (.slice a1 n1 cc1)) (first | exact ⟨hx3 _ _ c0', hx3 _ _ d0', hx3 _ _ d5', hx3 _ _ e0, hx3 _ _ e1, hx3 _ _ e2, hx3 _ _ e3, hx3 _ _ e4, hx3 _ _ e5⟩ | exact ⟨hx2 _ _ c0', hx2 _ _ d0', hx2 _ _ d5', hx2 _ _ e0, hx2 _ _ e1, hx2 _ _ e2, hx2 _ _ e3, hx2 _ _ e4, hx2 _ _ e5⟩ | go_keep) (first | (go_at_call 28; refine (HC2.out _ (HBW.out.drew)).mono ?_; rintro e w2 ⟨tv, rfl, ho2, hb2⟩; have hx2 : ∀ a v, wc.cell? a = some v → w2.cell? a = some v := fun a v h => (hb2.cell (World.block_lt_of_cell? wc _ h)).trans h) | (go_at_call 41; refine (HTWO.out w2 _ tv (HBW.out.drew.trans (hb2.mono HBW.out.size)) (HSV2.out.below ((Below.refl _ _).drew.trans hb2)) (BoolsAt.of_row ho2) hl2.out).mono ?_; rintro e w3 ⟨xv, rfl, ho3, hb3⟩; have hx3 : ∀ a v, wc.cell? a = some v → w3.cell? a = some v := fun a v h => (hb3.cell (World.block_lt_of_cell? w2 _ (hx2 a v h))).trans (hx2 a v h)))
      have hB2 : Below w.heap.size w w2 := HBW.out.drew.trans (hb2.mono HBW.out.size)
      have HP : Hid (w3.ownsRow w.heap.size 4 1 xv r.length (r.map Value.bool) ∧ Below w.heap.size w w3) := ⟨row_mono ho3 hB2.size, hB2.trans (hb3.mono hB2.size)⟩
      clear ho3 hb3 hb2 ho2 hB2
      go_wp2
      go_ret
      exact ⟨xv, rfl, HP.out⟩

/-- The teller tells where a formula is so. -/
theorem tellerOf_any (d : Nat) : OfAt d := by
  induction d with
  | zero => exact fun w tb f kv deep lv ls back pv ps h => h.elim
  | succ d ih =>
    intro w tb f kv deep lv ls back pv ps h hok ha hps
    obtain ⟨ka, kc, rfl, hkl, hk⟩ := h
    obtain ⟨k, ⟨p1, p2, p3, p4⟩, kids⟩ := f
    simp only [Form.kids] at hkl hk ⊢
    have hd : 1 ≤ deep := by
      simp only [Form.okD, Bool.and_eq_true, decide_eq_true_eq] at hok; exact hok.1
    by_cases h3 : k = 3
    · subst h3
      have hmem : (⟨p1, p2, p3, p4⟩ : PropD) ∈ ps := by
        refine hps _ ?_
        have hk0 : kids.length = 0 := by
          simp only [Form.okD, Bool.and_eq_true, decide_eq_true_eq, if_true] at hok; exact hok.2.2
        have : kids = [] := List.eq_nil_of_length_eq_zero hk0
        subst this
        simp [Form.props, propsL]
      have hix : ps.idxOf ⟨p1, p2, p3, p4⟩ < ps.length := List.idxOf_lt_length_iff.2 hmem
      have hpl : PlaceIs ps ⟨p1, p2, p3, p4⟩ ((ps.idxOf ⟨p1, p2, p3, p4⟩ : Nat) : Int) := by
        refine .inl ⟨_, hix, ?_, rfl, fun j hj he => ?_⟩
        · rw [List.getD_eq_getElem?_getD, List.getElem?_eq_getElem hix, Option.getD_some]
          exact List.getElem_idxOf hix
        · have hjl : j < ps.length := by omega
          rw [List.getD_eq_getElem?_getD, List.getElem?_eq_getElem hjl, Option.getD_some] at he
          have hne := List.not_of_lt_findIdx hj
          rw [he] at hne; simp at hne
      have := ofAtomAll_any w tb lv ls back pv ps ha p1 p2 p3 p4 ka kids.length kc _ hix hpl
      rw [truth_range]
      have e : (Form.mk 3 ⟨p1, p2, p3, p4⟩ kids).sem ps ls back = fun i => (ls.getD i []).getD (ps.idxOf ⟨p1, p2, p3, p4⟩) false := by simp [Form.sem, semKind]
      rw [e]
      exact this
    · have hk2 : ∃ n, kidsOf k = some n ∧ kids.length = n ∧ okL kids (deep - 1) = true := by
        simp only [Form.okD, if_neg h3, Bool.and_eq_true] at hok
        have h2 := hok.2
        cases hko : kidsOf k with
        | none => rw [hko] at h2; cases h2
        | some n => rw [hko] at h2; simp only [Bool.and_eq_true, decide_eq_true_eq] at h2; exact ⟨n, rfl, h2.1.2, h2.2⟩
      obtain ⟨n, hn, hl, hL⟩ := hk2
      rcases kids_cases k with ⟨hk', h2, -⟩ | ⟨hk', h2, -⟩ | ⟨hk', h2, -⟩ | ⟨hk', -⟩ | ⟨hk', h2, -⟩
      · rw [truth_range]
        rcases hk' with rfl | rfl
        · have e : (Form.mk 1 ⟨p1, p2, p3, p4⟩ kids).sem ps ls back = fun i => true := by simp [Form.sem, semKind]
          rw [e]; exact ofConst_any true w tb lv ls back pv ps ha p1 p2 p3 p4 ka kids.length kc
        · have e : (Form.mk 2 ⟨p1, p2, p3, p4⟩ kids).sem ps ls back = fun i => false := by simp [Form.sem, semKind]
          rw [e]; exact ofConst_any false w tb lv ls back pv ps ha p1 p2 p3 p4 ka kids.length kc
      · rw [h2] at hn; cases hn
        have := of_kids d ih w tb k p1 p2 p3 p4 kids ka kc (deep - 1) lv ls back pv ps hk hL ha hps (.inl ⟨hk', hl⟩)
        rw [truth_range]
        rw [show (List.range ls.length).map ((Form.mk k ⟨p1, p2, p3, p4⟩ kids).sem ps ls back) = (List.range ls.length).map (semKind k (fun _ => false) ((kids.getD 0 default).sem ps ls back) ((kids.getD 1 default).sem ps ls back) ls.length back) from ?_]
        · exact this
        · apply List.map_congr_left
          intro i hi
          rw [Form.sem, semL_get ps ls back kids 0 (by omega)]
          rcases hk' with rfl | rfl | rfl | rfl <;> simp [semKind]
      · rw [h2] at hn; cases hn
        have := of_kids d ih w tb k p1 p2 p3 p4 kids ka kc (deep - 1) lv ls back pv ps hk hL ha hps (.inr ⟨hk', hl⟩)
        rw [truth_range]
        rw [show (List.range ls.length).map ((Form.mk k ⟨p1, p2, p3, p4⟩ kids).sem ps ls back) = (List.range ls.length).map (semKind k (fun _ => false) ((kids.getD 0 default).sem ps ls back) ((kids.getD 1 default).sem ps ls back) ls.length back) from ?_]
        · exact this
        · apply List.map_congr_left
          intro i hi
          rw [Form.sem, semL_get ps ls back kids 0 (by omega), semL_get ps ls back kids 1 (by omega)]
          rcases hk' with rfl | rfl | rfl | rfl | rfl <;> simp [semKind]
      · exact absurd hk' h3
      · rw [h2] at hn; cases hn
end Go.Proofs.Ytidnpdkibndpkaa
