/- Does one stand ahead of another one; are two the same: the document's answer: the walks. -/
import Derived.Test.YtnlkbboghcdpnaaRFlat
namespace Go.Proofs.Ytnlkbboghcdpnaa
open Go.RowKit

theorem cmp_step {l r : List Int} {i : Nat} (h1 : i < l.length) (h2 : i < r.length) : cmpI (l.drop i) (r.drop i) = if l.getD i 0 < r.getD i 0 then -1 else if r.getD i 0 < l.getD i 0 then 1 else cmpI (l.drop (i + 1)) (r.drop (i + 1)) := by
  rw [List.drop_eq_getElem_cons h1, List.drop_eq_getElem_cons h2, List.getD_eq_getElem?_getD, List.getD_eq_getElem?_getD, List.getElem?_eq_getElem h1, List.getElem?_eq_getElem h2]
  rfl
theorem cmp_end {l r : List Int} {i : Nat} (h1 : i ≤ l.length) (h2 : i ≤ r.length) (h : i = l.length ∨ i = r.length) : decide (cmpI (l.drop i) (r.drop i) < 0) = decide (l.length < r.length) := by
  rcases h with rfl | rfl
  · rw [List.drop_length]
    cases hr : r.drop l.length with
    | nil =>
      have := List.drop_eq_nil_iff.1 hr
      rw [decide_eq_false (show ¬ cmpI [] [] < 0 from (by decide : ¬ (0 : Int) < 0)), decide_eq_false (by omega)]
    | cons a q =>
      have : ¬ r.length ≤ l.length := fun e => by rw [List.drop_eq_nil_iff.2 e] at hr; cases hr
      rw [decide_eq_true (show cmpI [] (a :: q) < 0 from (by decide : (-1 : Int) < 0)), decide_eq_true (by omega)]
  · rw [List.drop_length]
    cases hl : l.drop r.length with
    | nil =>
      rw [decide_eq_false (show ¬ cmpI [] [] < 0 from (by decide : ¬ (0 : Int) < 0)), decide_eq_false (by omega)]
    | cons a q => rw [decide_eq_false (show ¬ cmpI (a :: q) [] < 0 from (by decide : ¬ (1 : Int) < 0)), decide_eq_false (by omega)]
/-- Are a final's rows short? -/
def fewD (f : FinalD) : Prop := f.mem.length ≤ 1000000 ∧ f.regs.length ≤ 1000000
set_option maxRecDepth 100000 in
set_option maxHeartbeats 4000000 in
theorem refBelow_any (w : World) (a b : FinalD) (ma ra mb rb : Value) (ha : FinalAt w a ma ra) (hb : FinalAt w b mb rb) (hfa : fewD a) (hfb : fewD b) :
    Calls Try.prog 23 #[finalV ma ra, finalV mb rb] w fun e w' => e = .returned (.bool (belowD a b)) ∧ Below w.heap.size w w' := by
  obtain ⟨ma1, mac, rfl, -⟩ := SliceR.slice ha.mem
  obtain ⟨ra1, rac, rfl, -⟩ := SliceR.slice ha.regs
  obtain ⟨mb1, mbc, rfl, -⟩ := SliceR.slice hb.mem
  obtain ⟨rb1, rbc, rfl, -⟩ := SliceR.slice hb.regs
  obtain ⟨r, hr⟩ : ∃ r, r = belowD a b := ⟨_, rfl⟩
  obtain ⟨X, hX⟩ : ∃ X, X = flatD a := ⟨_, rfl⟩
  obtain ⟨Y, hY⟩ : ∃ Y, Y = flatD b := ⟨_, rfl⟩
  obtain ⟨xn, hxn⟩ : ∃ n, n = X.length := ⟨_, rfl⟩
  obtain ⟨yn, hyn⟩ : ∃ n, n = Y.length := ⟨_, rfl⟩
  have hr2 : r = decide (cmpI X Y < 0) := by rw [hr, hX, hY]; rfl
  have h1 := fun W (h : Below w.heap.size w W) => refFlat_any W a _ _ (ha.below h) hfa.1 hfa.2
  have h2 := fun W (h : Below w.heap.size w W) => refFlat_any W b _ _ (hb.below h) hfb.1 hfb.2
  rw [← hX, ← hxn] at h1
  rw [← hY, ← hyn] at h2
  rw [← hr]
  unfold finalV at h1 h2 ⊢
  generalize a.mem.length = n1 at h1 ⊢
  generalize a.regs.length = n2 at h1 ⊢
  generalize b.mem.length = n3 at h2 ⊢
  generalize b.regs.length = n4 at h2 ⊢
  have hB := boxes_below w (.cells #[.slice ma1 n1 mac, .slice ra1 n2 rac] 70) (.cells #[.slice mb1 n3 mbc, .slice rb1 n4 rbc] 70)
  have H1 := Lib.hid (boxes_first w (.cells #[.slice ma1 n1 mac, .slice ra1 n2 rac] 70) (.cells #[.slice mb1 n3 mbc, .slice rb1 n4 rbc] 70))
  have H2 := Lib.hid (boxes_second w (.cells #[.slice ma1 n1 mac, .slice ra1 n2 rac] 70) (.cells #[.slice mb1 n3 mbc, .slice rb1 n4 rbc] 70))
  have HB := Lib.hid hB
  have HR := Lib.hid hr2
  have HXN := Lib.hid hxn
  have HYN := Lib.hid hyn
  have HA := Lib.hid h1
  have HBB := Lib.hid h2
  clear ha hb hfa hfb hr hr2 hX hY hxn hyn h1 h2 hB
  go_enter Try.func23, Try.ntmps23
  go_upto_region 1 with fail
  generalize World.alloc (World.alloc w _) _ = W at HB H1 H2 ⊢
  obtain ⟨gx, hgx⟩ : ∃ gx, gx = w.heap.size := ⟨_, rfl⟩
  rw [← hgx] at H1 H2 ⊢
  clear hgx
  have HFIN : Hid (∀ x, Below W.heap.size W x → Below w.heap.size w x) := fun x hx => HB.out.trans (hx.mono HB.out.size)
  have HC : Hid (∀ x, Below W.heap.size W x → x.cell? ⟨gx, 0, none⟩ = some (.slice ma1 n1 mac) ∧ x.cell? ⟨gx, 1, none⟩ = some (.slice ra1 n2 rac) ∧ x.cell? ⟨gx + 1, 0, none⟩ = some (.slice mb1 n3 mbc) ∧ x.cell? ⟨gx + 1, 1, none⟩ = some (.slice rb1 n4 rbc)) := fun x hx =>
    ⟨cells_kept hx _ _ (cell_of_block H1.out 0), cells_kept hx _ _ (cell_of_block H1.out 1), cells_kept hx _ _ (cell_of_block H2.out 0), cells_kept hx _ _ (cell_of_block H2.out 1)⟩
  refine wp_region_noPanic ?_
  refine wp_region_held_drew (S := fun x => Below W.heap.size W x) (by kernel_rfl) (Below.refl _ _).drew (fun hH => ?_)
  refine wpAnyH_take (i := 0) (v := ?vh1) rfl (by kernel_rfl) (by kernel_rfl) (by kernel_rfl) (fun _ _ _ h => h) (Or.inl ⟨by rfl, ?hyh1⟩) (by assumption) ?_
  case hyh1 => (intro x' hxx; obtain ⟨e0, e1, e2, e3⟩ := HC.out x' hxx; go_simp; try with_reducible rfl)
  change wpAnyH _ _ _ _ _ _ _ (Act.put _ (some 8) _) _
  simp only [Act.put, List.setIfInBounds_toArray, List.set_cons_zero, List.set_cons_succ]
  refine wpAnyH_take (i := 2) (v := ?vh2) rfl (by kernel_rfl) (by kernel_rfl) (by kernel_rfl) (fun _ _ _ h => h) (Or.inl ⟨by rfl, ?hyh2⟩) (by assumption) ?_
  case hyh2 => (intro x' hxx; obtain ⟨e0, e1, e2, e3⟩ := HC.out x' hxx; go_simp; try with_reducible rfl)
  change wpAnyH _ _ _ _ _ _ _ (Act.put _ (some 10) _) _
  simp only [Act.put, List.setIfInBounds_toArray, List.set_cons_zero, List.set_cons_succ]
  refine wpAnyH_ready (rs := [1]) (by kernel_rfl) (by simp) ?_
  refine AllReadyH.cons rfl (fun K hK => ?_) AllReadyH.nil
  go_simp
  refine (HA.out W.drew (HFIN.out _ hH)).mono ?_
  rintro e hw1 ⟨⟨fa, fc, rfl, hro⟩, hb⟩
  have HROW1 := Lib.hid hro
  clear hro
  have hHh1 : Below W.heap.size W hw1 := below_then hH hb
  refine hK.out _ _ hHh1 (fun _ => ?_)
  clear hK K hb hH
  refine wpAnyH_ready (rs := [3]) (by kernel_rfl) (by simp) ?_
  refine AllReadyH.cons rfl (fun K hK => ?_) AllReadyH.nil
  go_simp
  refine (HBB.out hw1 (HFIN.out _ hHh1)).mono ?_
  rintro e hw3 ⟨⟨ga, gc, rfl, hro⟩, hb⟩
  have HROW2 := Lib.hid hro
  have HBT := Lib.hid hb
  clear hro
  have hHh3 : Below W.heap.size W hw3 := below_then hHh1 hb
  refine hK.out _ _ hHh3 (fun _ => ?_)
  clear hK K hb hHh1
  refine wpAnyH_take (i := 4) (v := ?vh3) rfl (by kernel_rfl) (by kernel_rfl) (by kernel_rfl) (fun _ _ _ h => h) (Or.inl ⟨by rfl, ?hyh3⟩) (by assumption) ?_
  case hyh3 => (intro x' hxx; obtain ⟨e0, e1, e2, e3⟩ := HC.out x' hxx; go_simp; try with_reducible rfl)
  change wpAnyH _ _ _ _ _ _ _ (Act.put _ (some 5) _) _
  simp only [Act.put, List.setIfInBounds_toArray, List.set_cons_zero, List.set_cons_succ]
  refine wpAnyH_take (i := 5) (v := ?vh4) rfl (by kernel_rfl) (by kernel_rfl) (by kernel_rfl) (fun _ _ _ h => h) (Or.inl ⟨by rfl, ?hyh4⟩) (by assumption) ?_
  case hyh4 => (intro x' hxx; obtain ⟨e0, e1, e2, e3⟩ := HC.out x' hxx; go_simp; try with_reducible rfl)
  change wpAnyH _ _ _ _ _ _ _ (Act.put _ (some 6) _) _
  simp only [Act.put, List.setIfInBounds_toArray, List.set_cons_zero, List.set_cons_succ]
  refine wpAnyH_done (by kernel_rfl) ?_ _
  refine NoPanic.normal ?_
  have HBE := Lib.hid hHh3
  clear hHh3
  have HY2 := Lib.hid (ints_of (by rw [← HYN.out]; exact HROW2.out))
  have HX2 := Lib.hid (SliceR.below IntR.stays (ints_of (by rw [← HXN.out]; exact HROW1.out)) HBT.out)
  have hxb : xn ≤ 9223372036854775807 := by obtain ⟨_, _, _, h1, h2⟩ := row_slice HROW1.out; unfold maxLen at h2; omega
  clear HROW1 HROW2 HBT
  go_wp2_with fail
  go_loopg [7] (xn + 1) (fun gg s7 wr => ∃ i : Nat, i ≤ xn ∧ i ≤ yn ∧ Hid (gg = xn + 1 - i) ∧ s7 = .int .i64 i ∧ Hid (Below hw3.heap.size hw3 wr) ∧ Hid (cmpI X Y = cmpI (X.drop i) (Y.drop i)))
  case atStart => exact ⟨0, Nat.zero_le _, Nat.zero_le _, rfl, rfl, Below.refl _ _, rfl⟩
  case round =>
    obtain ⟨i, hi, hi2, HG, rfl, HBR, HJ⟩ := hrel
    by_cases hlt : i < xn ∧ i < yn
    · obtain ⟨hlx, hly⟩ := hlt
      have hlxI : (i : Int) < (xn : Int) := by omega
      have hlyI : (i : Int) < (yn : Int) := by omega
      obtain ⟨b1, o1, hea, -, x0⟩ := IntsAt.part HX2.out i (by rw [← HXN.out]; exact hlx)
      obtain ⟨b2, o2, heb, -, y0⟩ := IntsAt.part HY2.out i (by rw [← HYN.out]; exact hly)
      subst hea
      subst heb
      have hst := cmp_step (l := X) (r := Y) (i := i) (by rw [← HXN.out]; exact hlx) (by rw [← HYN.out]; exact hly)
      rw [← HJ.out] at hst
      have HST := Lib.hid hst
      clear hst
      generalize X.getD i 0 = p at x0 HST
      generalize Y.getD i 0 = q at y0 HST
      have HXY : Hid (∀ y, Below hw3.heap.size hw3 y → y.cell? ⟨b1, o1 + i, none⟩ = some (.int .i64 p) ∧ y.cell? ⟨b2, o2 + i, none⟩ = some (.int .i64 q)) := fun y hy => ⟨cells_kept hy _ _ x0, cells_kept hy _ _ y0⟩
      clear x0 y0
      obtain ⟨x0, y0⟩ := HXY.out wr HBR.out
      by_cases hpq : p = q
      · subst hpq
        have HST2 : Hid (cmpI X Y = cmpI (X.drop (i + 1)) (Y.drop (i + 1))) := by rw [Hid, HST.out, if_neg (by omega), if_neg (by omega)]
        go_wp2_with fail
        go_quiet (fail)
        go_wp2_with fail
        go_roundg (xn + 1 - (i + 1))
        case measure => rw [HG.out]; omega
        case rel => exact ⟨i + 1, by omega, by omega, rfl, by simp, drewN_below HBR.out _, HST2.out⟩
      · have hrr : r = decide (p < q) := by
          rw [HR.out, HST.out]
          by_cases h : p < q
          · rw [if_pos h, decide_eq_true h]; rfl
          · rw [if_neg h, if_pos (by omega), decide_eq_false h]; rfl
        have HRR := Lib.hid hrr
        clear hrr
        go_wp2_with fail
        go_quiet (fail)
        go_wp2_with fail
        generalize hX9 : World.drewN wr _ = X9
        have HX9 := Lib.hid (show Below hw3.heap.size hw3 X9 by rw [← hX9]; exact drewN_below HBR.out _)
        clear hX9 x0 y0
        obtain ⟨x0, y0⟩ := HXY.out X9 HX9.out
        go_quiet (fail)
        go_wp2_with fail
        go_ret
        exact ⟨by rw [HRR.out]; first | rfl | simp, HFIN.out _ (below_then HBE.out (drewN_below HX9.out _))⟩
    · have hend : i = xn ∨ i = yn := by omega
      have hrr : r = decide ((xn : Int) < (yn : Int)) := by
        rw [HR.out, HJ.out, cmp_end (by rw [← HXN.out]; exact hi) (by rw [← HYN.out]; exact hi2) (by rw [← HXN.out, ← HYN.out]; exact hend), ← HXN.out, ← HYN.out]
        simp
      have HRR := Lib.hid hrr
      clear hrr hend
      by_cases hlx : i < xn
      · have hlxI : (i : Int) < (xn : Int) := by omega
        have hlyI : ¬ (i : Int) < (yn : Int) := by omega
        clear hlt
        go_wp2_with fail
        go_ret
        exact ⟨by rw [HRR.out]; first | rfl | simp, HFIN.out _ (below_then HBE.out HBR.out)⟩
      · have hlxI : ¬ (i : Int) < (xn : Int) := by omega
        clear hlt
        go_wp2_with fail
        go_ret
        exact ⟨by rw [HRR.out]; first | rfl | simp, HFIN.out _ (below_then HBE.out HBR.out)⟩
set_option maxRecDepth 100000 in
set_option maxHeartbeats 4000000 in
theorem refSameOne_any (w : World) (a b : FinalD) (ma ra mb rb : Value) (ha : FinalAt w a ma ra) (hb : FinalAt w b mb rb) (hfa : fewD a) (hfb : fewD b) :
    Calls Try.prog 29 #[finalV ma ra, finalV mb rb] w fun e w' => e = .returned (.bool (sameOneD a b)) ∧ Below w.heap.size w w' := by
  obtain ⟨ma1, mac, rfl, -⟩ := SliceR.slice ha.mem
  obtain ⟨ra1, rac, rfl, -⟩ := SliceR.slice ha.regs
  obtain ⟨mb1, mbc, rfl, -⟩ := SliceR.slice hb.mem
  obtain ⟨rb1, rbc, rfl, -⟩ := SliceR.slice hb.regs
  have h1 := fun W (h : Below w.heap.size w W) => refBelow_any W a b _ _ _ _ (ha.below h) (hb.below h) hfa hfb
  have h2 := fun W (h : Below w.heap.size w W) => refBelow_any W b a _ _ _ _ (hb.below h) (ha.below h) hfb hfa
  obtain ⟨r, hr⟩ : ∃ r, r = sameOneD a b := ⟨_, rfl⟩
  obtain ⟨p, hp⟩ : ∃ p, p = belowD a b := ⟨_, rfl⟩
  obtain ⟨q, hq⟩ : ∃ q, q = belowD b a := ⟨_, rfl⟩
  have hr2 : r = (decide (a.mem.length = b.mem.length) && !p && !q) := by rw [hr, hp, hq]; rfl
  rw [← hp] at h1
  rw [← hq] at h2
  rw [← hr]
  unfold finalV at h1 h2 ⊢
  clear ha hb hr hp hq
  generalize a.mem.length = n1 at h1 h2 hr2 ⊢
  generalize a.regs.length = n2 at h1 h2 ⊢
  generalize b.mem.length = n3 at h1 h2 hr2 ⊢
  generalize b.regs.length = n4 at h1 h2 ⊢
  have hB := boxes_below w (.cells #[.slice ma1 n1 mac, .slice ra1 n2 rac] 70) (.cells #[.slice mb1 n3 mbc, .slice rb1 n4 rbc] 70)
  have H1 := Lib.hid (boxes_first w (.cells #[.slice ma1 n1 mac, .slice ra1 n2 rac] 70) (.cells #[.slice mb1 n3 mbc, .slice rb1 n4 rbc] 70))
  have H2 := Lib.hid (boxes_second w (.cells #[.slice ma1 n1 mac, .slice ra1 n2 rac] 70) (.cells #[.slice mb1 n3 mbc, .slice rb1 n4 rbc] 70))
  have HB := Lib.hid hB
  have HR := Lib.hid hr2
  have HA := Lib.hid h1
  have HBB := Lib.hid h2
  clear h1 h2 hr2 hB hfa hfb
  go_enter Try.func29, Try.ntmps29
  go_upto_region 1 with fail
  generalize World.alloc (World.alloc w _) _ = W at HB H1 H2 ⊢
  obtain ⟨gx, hgx⟩ : ∃ gx, gx = w.heap.size := ⟨_, rfl⟩
  rw [← hgx] at H1 H2 ⊢
  clear hgx
  have HFIN : Hid (∀ x, Below W.heap.size W x → Below w.heap.size w x) := fun x hx => HB.out.trans (hx.mono HB.out.size)
  have HC : Hid (∀ x, Below W.heap.size W x → x.cell? ⟨gx, 0, none⟩ = some (.slice ma1 n1 mac) ∧ x.cell? ⟨gx, 1, none⟩ = some (.slice ra1 n2 rac) ∧ x.cell? ⟨gx + 1, 0, none⟩ = some (.slice mb1 n3 mbc) ∧ x.cell? ⟨gx + 1, 1, none⟩ = some (.slice rb1 n4 rbc)) := fun x hx =>
    ⟨cells_kept hx _ _ (cell_of_block H1.out 0), cells_kept hx _ _ (cell_of_block H1.out 1), cells_kept hx _ _ (cell_of_block H2.out 0), cells_kept hx _ _ (cell_of_block H2.out 1)⟩
  obtain ⟨c0, c1, c2, c3⟩ := HC.out W (Below.refl _ _)
  by_cases h : n1 = n3
  · subst h
    cases p with
    | true =>
      obtain rfl : r = false := by rw [HR.out]; simp
      go_wp2_with (go_at_call 23; go_must (refine (HA.out W HB.out).mono ?_); rintro e w1 ⟨rfl, hb⟩; have HB1 := Lib.hid hb; clear hb)
      go_ret
      exact ⟨by first | rfl | simp, HFIN.out _ HB1.out⟩
    | false =>
      obtain rfl : r = !q := by rw [HR.out]; simp
      go_wp2_with (first | (go_at_call 23; refine (HBB.out w1 (HFIN.out _ HB1.out)).mono ?_; rintro e w2 ⟨rfl, hb⟩; have HB2 := Lib.hid hb; clear hb) | (go_at_call 23; refine (HA.out W HB.out).mono ?_; rintro e w1 ⟨rfl, hb⟩; have HB1 := Lib.hid hb; obtain ⟨d0, d1, d2, d3⟩ := HC.out w1 hb; clear hb c0 c1 c2 c3))
      go_ret
      exact ⟨by first | rfl | simp, HFIN.out _ (below_then HB1.out HB2.out)⟩
  · obtain rfl : r = false := by rw [HR.out, decide_eq_false h]; rfl
    have h2 : ((n1 : Int) == (n3 : Int)) = false := by simp; omega
    go_wp2_with fail
    go_ret
    exact ⟨by first | rfl | simp, HFIN.out _ (Below.refl _ _)⟩
end Go.Proofs.Ytnlkbboghcdpnaa
