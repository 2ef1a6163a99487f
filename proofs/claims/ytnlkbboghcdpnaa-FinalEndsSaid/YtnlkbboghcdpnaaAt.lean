/- A state's place among others: the document's answer: the walk. -/
import Derived.Test.YtnlkbboghcdpnaaSame7
namespace Go.Proofs.Ytnlkbboghcdpnaa
open Go.RowKit

/-- A state's place. -/
def atS (l : List StateD) (t : StateD) : Int := if t ∈ l then (l.idxOf t : Int) else -1
theorem idx_at {l : List StateD} {t : StateD} {i : Nat} (hi : i < l.length) (h : ∀ j, j < i → l.getD j default ≠ t) (he : l.getD i default = t) : t ∈ l ∧ l.idxOf t = i := by
  induction l generalizing i with
  | nil => simp at hi
  | cons x l ih =>
    cases i with
    | zero =>
      simp only [List.getD_cons_zero] at he
      subst he
      exact ⟨List.mem_cons_self .., by simp⟩
    | succ i =>
      have h0 := h 0 (by omega)
      simp only [List.getD_cons_zero] at h0
      simp only [List.getD_cons_succ] at he
      obtain ⟨h1, h2⟩ := ih (by simpa using hi) (fun j hj => by have := h (j + 1) (by omega); simpa using this) he
      refine ⟨List.mem_cons_of_mem _ h1, ?_⟩
      rw [List.idxOf_cons, h2]
      have : (x == t) = false := by simpa using h0
      simp [this]
theorem at_yes {l : List StateD} {t : StateD} {i : Nat} (hi : i < l.length) (h : ∀ j, j < i → l.getD j default ≠ t) (he : l.getD i default = t) : atS l t = i := by
  obtain ⟨h1, h2⟩ := idx_at hi h he
  unfold atS
  rw [if_pos h1, h2]
theorem at_no {l : List StateD} {t : StateD} (h : ∀ j, j < l.length → l.getD j default ≠ t) : atS l t = -1 := by
  unfold atS
  rw [if_neg]
  intro hm
  obtain ⟨j, hj, e⟩ := List.getElem_of_mem hm
  refine h j hj ?_
  rw [List.getD_eq_getElem?_getD, List.getElem?_eq_getElem hj, ← e]; rfl
theorem putAt_eq (l : List StateD) (t : StateD) : putAt l t = if atS l t < 0 then (l ++ [t], l.length) else (l, (atS l t).toNat) := by
  unfold putAt atS
  by_cases h : t ∈ l
  · rw [if_pos h, if_pos h, if_neg (by omega)]; simp
  · rw [if_neg h, if_neg h, if_pos (by omega)]
set_option maxRecDepth 100000 in
set_option maxHeartbeats 4000000 in
theorem at_any (w : World) (l : List StateD) (lv : Value) (hl : StatesAt w lv l) (t : StateD) (ta tb : Value) (ht : StateAt w t ta tb) :
    Calls Try.prog 37 #[lv, stateV t ta tb] w fun e w' => e = .returned (.int .i64 (atS l t)) ∧ Below w.heap.size w w' := by
  obtain ⟨la, lc, rfl, hll⟩ := SliceR.slice hl
  obtain ⟨n, hn⟩ : ∃ n, n = l.length := ⟨_, rfl⟩
  rw [← hn] at hl hll ⊢
  have HYES : Hid (∀ i, i < n → (∀ j, j < i → l.getD j default ≠ t) → l.getD i default = t → atS l t = i) := fun i hi h e => at_yes (by rw [← hn]; exact hi) h e
  have HNO : Hid ((∀ j, j < n → l.getD j default ≠ t) → atS l t = -1) := fun h => at_no (by rw [← hn]; exact h)
  obtain ⟨r, hr⟩ : ∃ r, r = atS l t := ⟨_, rfl⟩
  rw [← hr] at HYES HNO ⊢
  have HSAME : Hid (∀ y, Below w.heap.size w y → ∀ s sa sb, StateAt y s sa sb → Calls Try.prog 54 #[stateV s sa sb, stateV t ta tb] y fun e w' => e = .returned (.bool (decide (s = t))) ∧ Below y.heap.size y w') := fun y hy s sa sb hs => same7_any y s t sa sb ta tb hs (ht.below hy)
  obtain ⟨ta1, ta3, rfl, -⟩ := SliceR.slice ht.threads
  obtain ⟨tb1, tb3, rfl, -⟩ := SliceR.slice ht.mem
  obtain ⟨ta2, hta2⟩ : ∃ n, n = t.threads.length := ⟨_, rfl⟩
  obtain ⟨tb2, htb2⟩ : ∃ n, n = t.mem.length := ⟨_, rfl⟩
  obtain ⟨tb0, htb⟩ : ∃ b, b = t.bad := ⟨_, rfl⟩
  unfold stateV at HSAME ⊢
  rw [← htb, ← hta2, ← htb2] at HSAME ⊢
  clear ht hr htb hta2 htb2
  have HL := Lib.hid hl
  have HN := Lib.hid hn
  clear hl hn
  have hB := (Below.refl w.heap.size w).alloc (Nat.le_refl _) (.cells #[.slice ta1 ta2 ta3, .slice tb1 tb2 tb3, .bool tb0] 31)
  have H1 := Lib.hid (heap_alloc_new w (.cells #[.slice ta1 ta2 ta3, .slice tb1 tb2 tb3, .bool tb0] 31))
  have HB := Lib.hid hB
  clear hB
  go_enter Try.func37, Try.ntmps37
  go_upto_region 1 with fail
  generalize World.alloc w _ = W at HB H1 ⊢
  obtain ⟨gx, hgx⟩ : ∃ gx, gx = w.heap.size := ⟨_, rfl⟩
  rw [← hgx] at H1 ⊢
  clear hgx
  have HFIN : Hid (∀ x, Below W.heap.size W x → Below w.heap.size w x) := fun x hx => HB.out.trans (hx.mono HB.out.size)
  go_wp2_with fail
  go_loopg [5] n (fun gg s5 wr => ∃ i : Nat, i ≤ n ∧ Hid (gg = n - i) ∧ s5 = .int .i64 i ∧ Hid (Below W.heap.size W wr) ∧ Hid (∀ j, j < i → l.getD j default ≠ t))
  case atStart => exact ⟨0, Nat.zero_le _, rfl, rfl, Below.refl _ _, fun j hj => by omega⟩
  case round =>
    obtain ⟨i, hi, HG, rfl, HBR, HJ⟩ := hrel
    by_cases hlt : i < n
    · have hltI : (i : Int) < (n : Int) := by omega
      obtain ⟨b, off, tv, mv, hea, -, x0, x1, x2, hst⟩ := StatesAt.part HL.out i (by rw [← HN.out]; exact hlt)
      subst hea
      have HE : Hid (l.getD i default = t → r = i) := fun e => HYES.out i hlt HJ.out e
      have HNE : Hid (l.getD i default ≠ t → ∀ j, j < i + 1 → l.getD j default ≠ t) := fun e j hj => by
        by_cases he : j = i
        · subst he; exact e
        · exact HJ.out j (by omega)
      generalize l.getD i default = s at x2 hst HE HNE
      obtain ⟨sa, sac, rfl, -⟩ := SliceR.slice hst.threads
      obtain ⟨sb, sbc, rfl, -⟩ := SliceR.slice hst.mem
      obtain ⟨sl, hsl⟩ : ∃ n, n = s.threads.length := ⟨_, rfl⟩
      obtain ⟨sm, hsm⟩ : ∃ n, n = s.mem.length := ⟨_, rfl⟩
      rw [← hsl] at x0 hst
      rw [← hsm] at x1 hst
      obtain ⟨sbd, hsb⟩ : ∃ b, b = s.bad := ⟨_, rfl⟩
      rw [← hsb] at x2
      have CC : Hid (∀ y, Below wr.heap.size wr y → y.cell? ⟨b, off + i * 3, none⟩ = some (.slice sa sl sac) ∧ y.cell? ⟨b, off + i * 3 + 1, none⟩ = some (.slice sb sm sbc) ∧ y.cell? ⟨b, off + i * 3 + 2, none⟩ = some (.bool sbd) ∧ y.cell? ⟨gx, 0, none⟩ = some (.slice ta1 ta2 ta3) ∧ y.cell? ⟨gx, 1, none⟩ = some (.slice tb1 tb2 tb3) ∧ y.cell? ⟨gx, 2, none⟩ = some (.bool tb0)) := fun y hy => by
        have hw := below_then HBR.out hy
        have hw0 := HFIN.out _ hw
        exact ⟨cells_kept hw0 _ _ x0, cells_kept hw0 _ _ x1, cells_kept hw0 _ _ x2, cells_kept hw _ _ (cell_of_block H1.out 0), cells_kept hw _ _ (cell_of_block H1.out 1), cells_kept hw _ _ (cell_of_block H1.out 2)⟩
      obtain ⟨df, hdf⟩ : ∃ d, d = decide (s = t) := ⟨_, rfl⟩
      have hcall : ∀ y, Below wr.heap.size wr y → Calls Try.prog 54 #[.agg #[.slice sa sl sac, .slice sb sm sbc, .bool sbd], .agg #[.slice ta1 ta2 ta3, .slice tb1 tb2 tb3, .bool tb0]] y fun e w' => e = .returned (.bool df) ∧ Below y.heap.size y w' := fun y hy => by
        have hw0 := HFIN.out _ (below_then HBR.out hy)
        have := HSAME.out y hw0 s (.slice sa sl sac) (.slice sb sm sbc) (by rw [hsl, hsm] at hst ⊢; exact hst.below hw0)
        rw [← hsb, ← hdf] at this
        exact this
      have HCALL := Lib.hid hcall
      have HDF := Lib.hid hdf
      clear hsl hsm hsb hcall hdf x0 x1 x2 hst
      go_upto_region 4 with fail
      refine wp_region_noPanic ?_
      refine wp_region_held_drew (S := fun x => Below wr.heap.size wr x) (by kernel_rfl) (Below.refl _ _).drew (fun hH => ?_)
      refine wpAnyH_take (i := 0) (v := ?vh1) rfl (by kernel_rfl) (by kernel_rfl) (by kernel_rfl) (fun _ _ _ h => h) (Or.inl ⟨by rfl, ?hyh1⟩) (by assumption) ?_
      case hyh1 => (intro x' hxx; obtain ⟨e0, e1, e2, e3, e4, e5⟩ := CC.out x' hxx; go_simp; try with_reducible rfl)
      change wpAnyH _ _ _ _ _ _ _ (Act.put _ (some 12) _) _
      simp only [Act.put, List.setIfInBounds_toArray, List.set_cons_zero, List.set_cons_succ]
      refine wpAnyH_take (i := 1) (v := ?vh2) rfl (by kernel_rfl) (by kernel_rfl) (by kernel_rfl) (fun _ _ _ h => h) (Or.inl ⟨by rfl, ?hyh2⟩) (by assumption) ?_
      case hyh2 => (intro x' hxx; obtain ⟨e0, e1, e2, e3, e4, e5⟩ := CC.out x' hxx; go_simp; try with_reducible rfl)
      change wpAnyH _ _ _ _ _ _ _ (Act.put _ (some 13) _) _
      simp only [Act.put, List.setIfInBounds_toArray, List.set_cons_zero, List.set_cons_succ]
      refine wpAnyH_take (i := 2) (v := ?vh3) rfl (by kernel_rfl) (by kernel_rfl) (by kernel_rfl) (fun _ _ _ h => h) (Or.inl ⟨by rfl, ?hyh3⟩) (by assumption) ?_
      case hyh3 => (intro x' hxx; obtain ⟨e0, e1, e2, e3, e4, e5⟩ := CC.out x' hxx; go_simp; try with_reducible rfl)
      change wpAnyH _ _ _ _ _ _ _ (Act.put _ (some 14) _) _
      simp only [Act.put, List.setIfInBounds_toArray, List.set_cons_zero, List.set_cons_succ]
      refine wpAnyH_take (i := 3) (v := ?vh4) rfl (by kernel_rfl) (by kernel_rfl) (by kernel_rfl) (fun _ _ _ h => h) (Or.inl ⟨by rfl, ?hyh4⟩) (by assumption) ?_
      case hyh4 => (intro x' hxx; obtain ⟨e0, e1, e2, e3, e4, e5⟩ := CC.out x' hxx; go_simp; try with_reducible rfl)
      change wpAnyH _ _ _ _ _ _ _ (Act.put _ (some 15) _) _
      simp only [Act.put, List.setIfInBounds_toArray, List.set_cons_zero, List.set_cons_succ]
      refine wpAnyH_take (i := 4) (v := ?vh5) rfl (by kernel_rfl) (by kernel_rfl) (by kernel_rfl) (fun _ _ _ h => h) (Or.inl ⟨by rfl, ?hyh5⟩) (by assumption) ?_
      case hyh5 => (intro x' hxx; obtain ⟨e0, e1, e2, e3, e4, e5⟩ := CC.out x' hxx; go_simp; try with_reducible rfl)
      change wpAnyH _ _ _ _ _ _ _ (Act.put _ (some 16) _) _
      simp only [Act.put, List.setIfInBounds_toArray, List.set_cons_zero, List.set_cons_succ]
      refine wpAnyH_ready (rs := [5]) (by kernel_rfl) (by simp) ?_
      refine AllReadyH.cons rfl (fun K hK => ?_) AllReadyH.nil
      go_simp
      refine (HCALL.out wr.drew hH).mono ?_
      rintro e hw5 ⟨rfl, hb⟩
      have hHh5 : Below wr.heap.size wr hw5 := below_then hH hb
      refine hK.out _ _ hHh5 (fun _ => ?_)
      clear hK K hb hH
      refine wpAnyH_done (by kernel_rfl) ?_ _
      refine NoPanic.normal ?_
      have HEND := Lib.hid hHh5
      clear hHh5
      cases df with
      | true =>
        obtain rfl := HE.out (of_decide_eq_true HDF.out.symm)
        go_wp2_with fail
        go_ret
        exact ⟨by first | rfl | simp, HFIN.out _ (below_then HBR.out HEND.out)⟩
      | false =>
        have HN2 := Lib.hid (HNE.out (of_decide_eq_false HDF.out.symm))
        go_wp2_with fail
        go_roundg (n - (i + 1))
        case measure => rw [HG.out]; omega
        case rel => exact ⟨i + 1, by omega, rfl, by simp, below_then HBR.out HEND.out, HN2.out⟩
    · obtain rfl : n = i := by omega
      obtain rfl := HNO.out HJ.out
      go_wp2_with fail
      go_ret
      exact ⟨by first | rfl | simp, HFIN.out _ HBR.out⟩
end Go.Proofs.Ytnlkbboghcdpnaa
