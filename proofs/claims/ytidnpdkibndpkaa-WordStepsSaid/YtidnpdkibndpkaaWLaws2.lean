/- What the laws of words share: held against the document; formulas that are made. -/
import Derived.Test.YtidnpdkibndpkaaWLaws
namespace Go.Proofs.Ytidnpdkibndpkaa
open Go.RowKit

theorem TellsRes.mono {l : List Bool} {c : Int} {w W : World} {e : Ending} {w' : World} (h : TellsRes l c W e w') (hB : Below w.heap.size w W) : TellsRes l c w e w' := by
  obtain ⟨sv, h1, h2, h3⟩ := h
  exact ⟨sv, h1, h2, hB.trans (h3.mono hB.size)⟩
theorem truthR_any (w : World) (d : Nat) (f : Form) (kv lv : Value) (ls : List (List Bool)) (bk : Int) (h : FormAt w d f kv) (hl : LettersAt w lv ls) :
    Calls Try.prog 15 #[formV f kv, .agg #[lv, .int .i64 bk]] w (TellsRes (tl f ls bk) (tc f ls bk) w) := (truth_any w d f kv lv ls bk h hl).mono fun _ _ h => h.res
theorem refTruthR_any (w : World) (d : Nat) (f : Form) (kv lv : Value) (ls : List (List Bool)) (bk : Int) (h : FormAt w d f kv) (hl : LettersAt w lv ls) :
    Calls Try.prog 20 #[formV f kv, .agg #[lv, .int .i64 bk]] w (TellsRes (tl f ls bk) (tc f ls bk) w) := (refTruth_any w d f kv lv ls bk h hl).mono fun _ _ h => h.res

set_option maxRecDepth 100000 in
set_option maxHeartbeats 2000000 in
theorem sameW_any (w : World) (d : Nat) (f : Form) (kv lv : Value) (ls : List (List Bool)) (bk : Int) (h : FormAt w d f kv) (hl : LettersAt w lv ls) :
    Calls Try.prog 10 #[formV f kv, .agg #[lv, .int .i64 bk]] w (fun e w' => e = .returned (.bool true) ∧ Below w.heap.size w w') := by
  obtain ⟨ka, kc, rfl, hkl⟩ := h.slice
  obtain ⟨la, lc, rfl, hll⟩ := hl.slice
  have ht := fun W (hW : Below w.heap.size w W) => truthR_any W d f _ _ ls bk (h.below hW) (hl.below hW)
  have hr := fun W (hW : Below w.heap.size w W) => refTruthR_any W d f _ _ ls bk (h.below hW) (hl.below hW)
  obtain ⟨l, hl2⟩ : ∃ l, l = tl f ls bk := ⟨_, rfl⟩
  obtain ⟨c, hc⟩ : ∃ c, c = tc f ls bk := ⟨_, rfl⟩
  rw [← hl2, ← hc] at ht hr
  have HT := Lib.hid ht
  have HR := Lib.hid hr
  clear ht hr h hl hl2 hc
  obtain ⟨k, ⟨p1, p2, p3, p4⟩, kids⟩ := f
  simp only [Form.kids] at hkl HT HR ⊢
  unfold formV at *
  simp only [Form.kind, Form.prop] at HT HR ⊢
  have hB := boxes_below w (.cells #[.int .i64 k, .int .i64 p1, .int .i64 p2, .int .i64 p3, .int .i64 p4, .slice ka kids.length kc] 26) (.cells #[.slice la ls.length lc, .int .i64 bk] 29)
  have h1 := boxes_first w (.cells #[.int .i64 k, .int .i64 p1, .int .i64 p2, .int .i64 p3, .int .i64 p4, .slice ka kids.length kc] 26) (.cells #[.slice la ls.length lc, .int .i64 bk] 29)
  have h2 := boxes_second w (.cells #[.int .i64 k, .int .i64 p1, .int .i64 p2, .int .i64 p3, .int .i64 p4, .slice ka kids.length kc] 26) (.cells #[.slice la ls.length lc, .int .i64 bk] 29)
  have HB := Lib.hid hB
  have H1 := Lib.hid h1
  have H2 := Lib.hid h2
  clear hB h1 h2
  go_enter Try.func10, Try.ntmps10
  go_upto_region 1 with fail
  generalize hW : World.alloc _ _ = W at HB H1 H2 ⊢
  clear hW
  have c0 := cell_of_block H1.out 0
  have c1 := cell_of_block H1.out 1
  have c2 := cell_of_block H1.out 2
  have c3 := cell_of_block H1.out 3
  have c4 := cell_of_block H1.out 4
  have c5 := cell_of_block H1.out 5
  have d0 := cell_of_block H2.out 0
  have d1 := cell_of_block H2.out 1
  simp only [List.getElem?_toArray, List.getElem?_cons_zero, List.getElem?_cons_succ] at c0 c1 c2 c3 c4 c5 d0 d1
  clear H1 H2
  go_wp2_with fail
  refine (HT.out _ HB.out).mono ?_
  rintro e w2 ⟨sv, rfl, hs, hb2⟩
  have hx : ∀ a v, W.cell? a = some v → w2.cell? a = some v := fun a v h => (hb2.cell (World.block_lt_of_cell? _ _ h)).trans h
  replace c0 := hx _ _ c0
  replace c1 := hx _ _ c1
  replace c2 := hx _ _ c2
  replace c3 := hx _ _ c3
  replace c4 := hx _ _ c4
  replace c5 := hx _ _ c5
  replace d0 := hx _ _ d0
  replace d1 := hx _ _ d1
  have HB2 : Hid (Below w.heap.size w w2) := HB.out.trans (hb2.mono HB.out.size)
  have HS := Lib.hid hs
  clear hx hb2 HB hs
  go_wp2_with fail
  refine (HR.out _ HB2.out).mono ?_
  rintro e w3 ⟨tv, rfl, ht, hb3⟩
  have HB3 : Hid (Below w.heap.size w w3) := HB2.out.trans (hb3.mono HB2.out.size)
  have hsm := sameL_any w3 sv tv l l (HS.out.below hb3) ht
  rw [decide_eq_true rfl] at hsm
  have HSM := Lib.hid hsm
  clear hsm hb3 ht c0 c1 c2 c3 c4 c5 d0 d1
  go_wp2_with fail
  refine HSM.out.mono ?_
  rintro e w4 ⟨rfl, hb4⟩
  have HB4 : Hid (Below w.heap.size w w4) := HB3.out.trans (hb4.mono HB3.out.size)
  clear hb4
  go_wp2_with fail
  go_ret
  exact ⟨by first | rfl | simp, HB4.out⟩

set_option maxRecDepth 100000 in
set_option maxHeartbeats 2000000 in
/-- What is left of so many formulas: no less than -1. -/
theorem big_any (d : Nat) : ∀ (w : World) (f : Form) (kv : Value) (most : Int), FormAt w d f kv → -1 ≤ most → most ≤ 1000 → Calls Try.prog 9 #[formV f kv, .int .i64 most] w (fun e w' => ∃ r : Int, e = .returned (.int .i64 r) ∧ -1 ≤ r ∧ r ≤ most ∧ Below w.heap.size w w') := by
  induction d with
  | zero => exact fun w f kv most h => h.elim
  | succ d ih =>
    intro w f kv most h hm0 hm1
    obtain ⟨ka, kc, rfl, hkl, hk⟩ := h
    obtain ⟨k, ⟨p1, p2, p3, p4⟩, kids⟩ := f
    simp only [Form.kids] at hkl hk ⊢
    unfold formV
    simp only [Form.kind, Form.prop]
    have hB : Below w.heap.size w (w.alloc (.cells #[.int .i64 k, .int .i64 p1, .int .i64 p2, .int .i64 p3, .int .i64 p4, .slice ka kids.length kc] 26)) := (Below.refl _ _).alloc (Nat.le_refl _) _
    have h1 := heap_alloc_new w (.cells #[.int .i64 k, .int .i64 p1, .int .i64 p2, .int .i64 p3, .int .i64 p4, .slice ka kids.length kc] 26)
    have hz : w.heap.size < (w.alloc (.cells #[.int .i64 k, .int .i64 p1, .int .i64 p2, .int .i64 p3, .int .i64 p4, .slice ka kids.length kc] 26)).heap.size := by simp
    have HB := Lib.hid hB
    have H1 := Lib.hid h1
    have HZ := Lib.hid hz
    have HK := Lib.hid hk
    have HIH := Lib.hid ih
    clear hB h1 hz hk ih
    go_enter Try.func9, Try.ntmps9
    go_upto_region 1 with fail
    generalize hW : World.alloc _ _ = W at HB H1 HZ ⊢
    clear hW
    go_wp2_with fail
    go_loopg [1, 5] kids.length (fun g s1 s5 wr => ∃ (i : Nat) (m : Int), i ≤ kids.length ∧ Hid (g = kids.length - i) ∧ s5 = .int .i64 i ∧ s1 = .int .i64 m ∧ -1 ≤ m ∧ m ≤ most ∧ Hid (Below W.heap.size W wr))
    case atStart => exact ⟨0, most, Nat.zero_le _, rfl, rfl, rfl, hm0, Int.le_refl _, Below.refl _ _⟩
    case round =>
      obtain ⟨i, m, hi, HG, rfl, rfl, hma, hmb, HBR⟩ := hrel
      have hx5 : wr.cell? ⟨w.heap.size, 5, none⟩ = some (.slice ka kids.length kc) := (HBR.out.cell (p := ⟨w.heap.size, 5, none⟩) HZ.out).trans (cell_of_block H1.out 5)
      have HBW : Hid (Below w.heap.size w wr) := HB.out.trans (HBR.out.mono HB.out.size)
      by_cases hlt : i < kids.length
      · by_cases hm2 : 0 ≤ m
        · obtain ⟨b, off, g1, q1, q2, q3, q4, a1, n1, cc1, rfl, hb, hfv, hf, hn1, e0, e1, e2, e3, e4, e5⟩ := form_read HK.out hlt HBW.out
          have hc1 := HIH.out wr _ _ (m - 1) (hf.below HBW.out) (by omega) (by omega)
          rw [hfv] at hc1
          have HC1 := Lib.hid hc1
          clear hc1 hf hfv
          go_wp2_with fail
          refine HC1.out.mono ?_
          rintro e w2 ⟨r, rfl, hr1, hr2, hb2⟩
          have HB2 : Hid (Below W.heap.size W w2) := HBR.out.trans (hb2.mono HBR.out.size)
          clear hb2 hx5 e0 e1 e2 e3 e4 e5 HC1
          go_wp2_with fail
          go_roundg (kids.length - (i + 1))
          case measure => rw [HG.out]; omega
          case rel => exact ⟨i + 1, r, by omega, rfl, by simp, rfl, by omega, by omega, HB2.out⟩
        · have hm3 : ¬ 0 ≤ m := hm2
          go_wp2_with fail
          go_ret
          exact ⟨m, rfl, hma, hmb, HBW.out⟩
      · go_wp2_with fail
        go_ret
        exact ⟨m, rfl, hma, hmb, HBW.out⟩
end Go.Proofs.Ytidnpdkibndpkaa
