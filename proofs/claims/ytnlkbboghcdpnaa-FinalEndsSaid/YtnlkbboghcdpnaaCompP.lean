/- Which of two finals stands ahead: the program's answer: the walks. Equal neighbours go: plain Lean, and laws on a row of finals. -/
import Derived.Test.YtnlkbboghcdpnaaPFlat
import Derived.Laws.CopyRow
namespace Go.Proofs.Ytnlkbboghcdpnaa
open Go.RowKit

theorem cmp_step3 {l r : List Int} {i : Nat} (h1 : i < l.length) (h2 : i < r.length) : cmpI (l.drop i) (r.drop i) = if cmp3 (l.getD i 0) (r.getD i 0) ≠ 0 then cmp3 (l.getD i 0) (r.getD i 0) else cmpI (l.drop (i + 1)) (r.drop (i + 1)) := by
  rw [cmp_step h1 h2]
  unfold cmp3
  by_cases h : l.getD i 0 < r.getD i 0
  · rw [if_pos h, if_pos h]; rfl
  · rw [if_neg h, if_neg h]
    by_cases h' : r.getD i 0 < l.getD i 0
    · rw [if_pos h', if_pos h']; rfl
    · rw [if_neg h', if_neg h']; rfl
theorem cmp_short {l r : List Int} (h : r.length < l.length) : cmpI (l.drop r.length) (r.drop r.length) = 1 := by
  rw [List.drop_length]
  cases hl : l.drop r.length with
  | nil => have := List.drop_eq_nil_iff.1 hl; omega
  | cons a q => rfl
theorem cmp_done {l r : List Int} (h : l.length ≤ r.length) : cmpI (l.drop l.length) (r.drop l.length) = if l.length < r.length then -1 else 0 := by
  rw [List.drop_length]
  cases hr : r.drop l.length with
  | nil => have := List.drop_eq_nil_iff.1 hr; rw [if_neg (by omega)]; rfl
  | cons a q =>
    have : ¬ r.length ≤ l.length := fun e => by rw [List.drop_eq_nil_iff.2 e] at hr; cases hr
    rw [if_pos (by omega)]; rfl
set_option maxRecDepth 100000 in
set_option maxHeartbeats 4000000 in
theorem compareL_any (w : World) (X Y : List Int) (xv yv : Value) (hx : IntsAt w xv X) (hy : IntsAt w yv Y) :
    Calls Try.prog 64 #[xv, yv] w fun e w' => e = .returned (.int .i64 (cmpI X Y)) ∧ w = w' := by
  obtain ⟨xa, xc, rfl, hxl⟩ := SliceR.slice hx
  obtain ⟨ya, yc, rfl, hyl⟩ := SliceR.slice hy
  obtain ⟨r, hr⟩ : ∃ r, r = cmpI X Y := ⟨_, rfl⟩
  rw [← hr]
  obtain ⟨xn, hxn⟩ : ∃ n, n = X.length := ⟨_, rfl⟩
  obtain ⟨yn, hyn⟩ : ∃ n, n = Y.length := ⟨_, rfl⟩
  rw [← hxn] at hx hxl ⊢
  rw [← hyn] at hy hyl ⊢
  have HX := Lib.hid hx
  have HY := Lib.hid hy
  have HXN := Lib.hid hxn
  have HYN := Lib.hid hyn
  have HR := Lib.hid hr
  clear hx hy hxn hyn hr
  go_enter Try.func64, Try.ntmps64
  go_wp2_with fail
  go_loopg [11] xn (fun gg s11 wr => ∃ i : Nat, i ≤ xn ∧ i ≤ yn ∧ Hid (gg = xn - i) ∧ s11 = .int .i64 i ∧ w = wr ∧ Hid (r = cmpI (X.drop i) (Y.drop i)))
  case atStart => exact ⟨0, Nat.zero_le _, Nat.zero_le _, rfl, rfl, rfl, HR.out⟩
  case round =>
    obtain ⟨i, hi, hi2, HG, rfl, rfl, HJ⟩ := hrel
    by_cases hlx : i < xn
    · have hlxI : (i : Int) < (xn : Int) := by omega
      obtain ⟨b1, o1, hea, -, x0⟩ := IntsAt.part HX.out i (by rw [← HXN.out]; exact hlx)
      subst hea
      by_cases hly : i < yn
      · have hlyI : (i : Int) < (yn : Int) := by omega
        have hlyN : ¬ (yn : Int) ≤ (i : Int) := by omega
        obtain ⟨b2, o2, heb, -, y0⟩ := IntsAt.part HY.out i (by rw [← HYN.out]; exact hly)
        subst heb
        have hst := cmp_step3 (l := X) (r := Y) (i := i) (by rw [← HXN.out]; exact hlx) (by rw [← HYN.out]; exact hly)
        rw [← HJ.out] at hst
        generalize X.getD i 0 = p at x0 hst
        generalize Y.getD i 0 = q at y0 hst
        have hcm := fun w => compare_any w p q
        generalize cmp3 p q = c at hcm hst
        have HST := Lib.hid hst
        have HCM := Lib.hid hcm
        clear hst hcm
        by_cases hc : c = 0
        · subst hc
          have HJ2 : Hid (r = cmpI (X.drop (i + 1)) (Y.drop (i + 1))) := by rw [Hid, HST.out, if_neg (by simp)]
          go_wp2_with (go_at_call 82; go_must (refine (HCM.out _).mono ?_); rintro e w' ⟨rfl, rfl⟩)
          go_roundg (xn - (i + 1))
          case measure => rw [HG.out]; omega
          case rel => exact ⟨i + 1, by omega, by omega, rfl, by simp, rfl, HJ2.out⟩
        · have hrc : r = c := by rw [HST.out, if_pos hc]
          have HRC := Lib.hid hrc
          have hc2 : ((c : Int) == 0) = false := by simpa using hc
          have hc3 : ((c : Int) != 0) = true := by simpa using hc
          clear hrc
          go_wp2_with (go_at_call 82; go_must (refine (HCM.out _).mono ?_); rintro e w' ⟨rfl, rfl⟩)
          go_ret
          exact ⟨by rw [HRC.out]; first | rfl | simp, rfl⟩
      · obtain rfl : yn = i := by omega
        have hr1 : r = 1 := by rw [HJ.out, HYN.out, cmp_short (by rw [← HXN.out, ← HYN.out]; exact hlx)]
        have HR1 := Lib.hid hr1
        clear hr1
        go_wp2_with fail
        go_ret
        exact ⟨by rw [HR1.out]; first | rfl | simp, rfl⟩
    · obtain rfl : xn = i := by omega
      have hr1 : r = if xn < yn then -1 else 0 := by rw [HJ.out, HXN.out, cmp_done (by rw [← HXN.out, ← HYN.out]; exact hi2), ← HYN.out]
      have HR1 := Lib.hid hr1
      clear hr1
      by_cases hxy : xn < yn
      · have hxyI : (xn : Int) < (yn : Int) := by omega
        go_wp2_with fail
        go_ret
        exact ⟨by rw [HR1.out, if_pos hxy]; first | rfl | simp, rfl⟩
      · have hxyI : ¬ (xn : Int) < (yn : Int) := by omega
        go_wp2_with fail
        go_ret
        exact ⟨by rw [HR1.out, if_neg hxy]; first | rfl | simp, rfl⟩
set_option maxRecDepth 100000 in
set_option maxHeartbeats 4000000 in
theorem order_any (w : World) (a b : FinalD) (ma ra mb rb : Value) (ha : FinalAt w a ma ra) (hb : FinalAt w b mb rb) (hfa : fewD a) (hfb : fewD b) :
    Calls Try.prog 48 #[finalV ma ra, finalV mb rb] w fun e w' => e = .returned (.int .i64 (cmpI (flatD a) (flatD b))) ∧ Below w.heap.size w w' ∧ w.drawn ≤ w'.drawn := by
  obtain ⟨ma1, mac, rfl, -⟩ := SliceR.slice ha.mem
  obtain ⟨ra1, rac, rfl, -⟩ := SliceR.slice ha.regs
  obtain ⟨mb1, mbc, rfl, -⟩ := SliceR.slice hb.mem
  obtain ⟨rb1, rbc, rfl, -⟩ := SliceR.slice hb.regs
  obtain ⟨X, hX⟩ : ∃ X, X = flatD a := ⟨_, rfl⟩
  obtain ⟨Y, hY⟩ : ∃ Y, Y = flatD b := ⟨_, rfl⟩
  obtain ⟨xn, hxn⟩ : ∃ n, n = X.length := ⟨_, rfl⟩
  obtain ⟨yn, hyn⟩ : ∃ n, n = Y.length := ⟨_, rfl⟩
  have h1 := fun W (h : Below w.heap.size w W) => flat_any W a _ _ (ha.below h) hfa
  have h2 := fun W (h : Below w.heap.size w W) => flat_any W b _ _ (hb.below h) hfb
  rw [← hX, ← hxn] at h1
  rw [← hY, ← hyn] at h2
  rw [← hX, ← hY]
  unfold finalV at h1 h2 ⊢
  generalize a.mem.length = n1 at h1 ⊢
  generalize a.regs.length = n2 at h1 ⊢
  generalize b.mem.length = n3 at h2 ⊢
  generalize b.regs.length = n4 at h2 ⊢
  have hB := boxes_below w (.cells #[.slice ma1 n1 mac, .slice ra1 n2 rac] 103) (.cells #[.slice mb1 n3 mbc, .slice rb1 n4 rbc] 103)
  have H1 := Lib.hid (boxes_first w (.cells #[.slice ma1 n1 mac, .slice ra1 n2 rac] 103) (.cells #[.slice mb1 n3 mbc, .slice rb1 n4 rbc] 103))
  have H2 := Lib.hid (boxes_second w (.cells #[.slice ma1 n1 mac, .slice ra1 n2 rac] 103) (.cells #[.slice mb1 n3 mbc, .slice rb1 n4 rbc] 103))
  have HD0 : Hid (w.drawn ≤ ((w.alloc (.cells #[.slice ma1 n1 mac, .slice ra1 n2 rac] 103)).alloc (.cells #[.slice mb1 n3 mbc, .slice rb1 n4 rbc] 103)).drawn) := Nat.le_refl _
  have HB := Lib.hid hB
  have HXN := Lib.hid hxn
  have HYN := Lib.hid hyn
  have HA := Lib.hid h1
  have HBB := Lib.hid h2
  obtain ⟨r, hr⟩ : ∃ r, r = cmpI X Y := ⟨_, rfl⟩
  have HR := Lib.hid hr
  rw [← hr]
  clear ha hb hfa hfb hX hY hxn hyn h1 h2 hB hr
  go_enter Try.func48, Try.ntmps48
  go_upto_region 1 with fail
  generalize World.alloc (World.alloc w _) _ = W at HB HD0 H1 H2 ⊢
  obtain ⟨gx, hgx⟩ : ∃ gx, gx = w.heap.size := ⟨_, rfl⟩
  rw [← hgx] at H1 H2 ⊢
  clear hgx
  have HFIN : Hid (∀ x, Below W.heap.size W x → Below w.heap.size w x) := fun x hx => HB.out.trans (hx.mono HB.out.size)
  have HC : Hid (∀ x, Below W.heap.size W x → x.cell? ⟨gx, 0, none⟩ = some (.slice ma1 n1 mac) ∧ x.cell? ⟨gx, 1, none⟩ = some (.slice ra1 n2 rac) ∧ x.cell? ⟨gx + 1, 0, none⟩ = some (.slice mb1 n3 mbc) ∧ x.cell? ⟨gx + 1, 1, none⟩ = some (.slice rb1 n4 rbc)) := fun x hx =>
    ⟨cells_kept hx _ _ (cell_of_block H1.out 0), cells_kept hx _ _ (cell_of_block H1.out 1), cells_kept hx _ _ (cell_of_block H2.out 0), cells_kept hx _ _ (cell_of_block H2.out 1)⟩
  refine wp_region_noPanic ?_
  refine wp_region_held_drew (S := fun x => Below W.heap.size W x) (by kernel_rfl) (Below.refl _ _).drew (fun hH => ?_)
  refine wpAnyH_take (i := 0) (v := ?vh1) rfl (by kernel_rfl) (by kernel_rfl) (by kernel_rfl) (fun _ _ _ h => h) (Or.inl ⟨by rfl, ?hyh1⟩) (by assumption) ?_
  case hyh1 => (intro x' hxx; obtain ⟨e0, e1, e2, e3⟩ := HC.out x' hxx; go_simp; try with_reducible rfl)
  change wpAnyH _ _ _ _ _ _ _ (Act.put _ (some 5) _) _
  simp only [Act.put, List.setIfInBounds_toArray, List.set_cons_zero, List.set_cons_succ]
  refine wpAnyH_take (i := 2) (v := ?vh2) rfl (by kernel_rfl) (by kernel_rfl) (by kernel_rfl) (fun _ _ _ h => h) (Or.inl ⟨by rfl, ?hyh2⟩) (by assumption) ?_
  case hyh2 => (intro x' hxx; obtain ⟨e0, e1, e2, e3⟩ := HC.out x' hxx; go_simp; try with_reducible rfl)
  change wpAnyH _ _ _ _ _ _ _ (Act.put _ (some 7) _) _
  simp only [Act.put, List.setIfInBounds_toArray, List.set_cons_zero, List.set_cons_succ]
  refine wpAnyH_ready (rs := [1]) (by kernel_rfl) (by simp) ?_
  refine AllReadyH.cons rfl (fun K hK => ?_) AllReadyH.nil
  go_simp
  refine (HA.out W.drew (HFIN.out _ hH)).mono ?_
  rintro e hw1 ⟨⟨fa, fc, rfl, hro⟩, hb, hd⟩
  have HROW1 := Lib.hid hro
  have HD1 : Hid (w.drawn ≤ hw1.drawn) := Nat.le_trans HD0.out (Nat.le_trans (Nat.le_succ _) hd)
  clear hro hd
  have hHh1 : Below W.heap.size W hw1 := below_then hH hb
  refine hK.out _ _ hHh1 (fun _ => ?_)
  clear hK K hb hH
  refine wpAnyH_ready (rs := [3]) (by kernel_rfl) (by simp) ?_
  refine AllReadyH.cons rfl (fun K hK => ?_) AllReadyH.nil
  go_simp
  refine (HBB.out hw1 (HFIN.out _ hHh1)).mono ?_
  rintro e hw3 ⟨⟨ga, gc, rfl, hro⟩, hb, hd⟩
  have HROW2 := Lib.hid hro
  have HX2 := Lib.hid (SliceR.below IntR.stays (ints_of (by rw [← HXN.out]; exact HROW1.out)) hb)
  have HDD := Lib.hid (Nat.le_trans HD1.out hd)
  clear hro hd
  have hHh3 : Below W.heap.size W hw3 := below_then hHh1 hb
  refine hK.out _ _ hHh3 (fun _ => ?_)
  clear hK K hb hHh1
  refine wpAnyH_ready (rs := [4]) (by kernel_rfl) (by simp) ?_
  refine AllReadyH.cons rfl (fun K hK => ?_) AllReadyH.nil
  go_simp
  refine (compareL_any hw3 X Y _ _ HX2.out (ints_of (by rw [← HYN.out]; exact HROW2.out))).mono ?_
  rintro e hw4 ⟨rfl, hww⟩
  rw [← HR.out]
  have hb : Below hw3.heap.size hw3 hw4 := by rw [← hww]; exact Below.refl _ _
  replace HDD : Hid (w.drawn ≤ hw4.drawn) := by rw [← hww]; exact HDD.out
  clear hww
  have hHh4 : Below W.heap.size W hw4 := below_then hHh3 hb
  refine hK.out _ _ hHh4 (fun _ => ?_)
  clear hK K hb hHh3
  refine wpAnyH_take (i := 5) (v := ?vh3) rfl (by kernel_rfl) (by kernel_rfl) (by kernel_rfl) (fun _ _ _ h => h) (Or.inl ⟨by rfl, ?hyh3⟩) (by assumption) ?_
  case hyh3 => (intro x' hxx; obtain ⟨e0, e1, e2, e3⟩ := HC.out x' hxx; go_simp; try with_reducible rfl)
  change wpAnyH _ _ _ _ _ _ _ (Act.put _ (some 4) _) _
  simp only [Act.put, List.setIfInBounds_toArray, List.set_cons_zero, List.set_cons_succ]
  refine wpAnyH_done (by kernel_rfl) ?_ _
  refine NoPanic.normal ?_
  have HBE := Lib.hid hHh4
  clear hHh4
  go_wp2_with fail
  go_ret
  exact ⟨by first | rfl | simp, HFIN.out _ HBE.out, HDD.out⟩
end Go.Proofs.Ytnlkbboghcdpnaa
namespace Go.Proofs.Ytnlkbboghcdpnaa
open Go.RowKit

abbrev FinP := FinalD × List Value
/-- Are two the same? -/
def eqP (p q : FinP) : Bool := decide (cmpI (flatD p.1) (flatD q.1) = 0) && decide (p.1.mem.length = q.1.mem.length)
def compTo (P : List FinP) : Nat → List FinP
  | 0 => []
  | i + 1 => if i = 0 ∨ eqP (P.getD i default) (P.getD (i - 1) default) = false then compTo P i ++ [P.getD i default] else compTo P i
theorem compTo_len (P : List FinP) (i : Nat) : (compTo P i).length ≤ i := by
  induction i with
  | zero => simp [compTo]
  | succ i ih =>
    unfold compTo
    split
    · rw [List.length_append]; simp only [List.length_cons, List.length_nil]; omega
    · omega
theorem compTo_take {P : List FinP} {k : Nat} (hk : k ≤ P.length) (h : ∀ j, 1 ≤ j → j < k → eqP (P.getD j default) (P.getD (j - 1) default) = false) : compTo P k = P.take k := by
  induction k with
  | zero => simp [compTo]
  | succ k ih =>
    have hk' : k < P.length := by omega
    unfold compTo
    have hc : k = 0 ∨ eqP (P.getD k default) (P.getD (k - 1) default) = false := by
      rcases Nat.eq_zero_or_pos k with e | e
      · exact .inl e
      · exact .inr (h k e (by omega))
    rw [if_pos hc, ih (by omega) (fun j h1 h2 => h j h1 (by omega)), List.take_succ_eq_append_getElem hk', List.getD_eq_getElem?_getD, List.getElem?_eq_getElem hk']; rfl
theorem compTo_yes {P : List FinP} {i : Nat} (h : eqP (P.getD i default) (P.getD (i - 1) default) = false) : compTo P (i + 1) = compTo P i ++ [P.getD i default] := by
  conv => lhs; unfold compTo
  rw [if_pos (.inr h)]
theorem compTo_no {P : List FinP} {i : Nat} (h0 : 0 < i) (h : eqP (P.getD i default) (P.getD (i - 1) default) = true) : compTo P (i + 1) = compTo P i := by
  conv => lhs; unfold compTo
  rw [if_neg]
  rintro (e | e)
  · omega
  · rw [h] at e; cases e
theorem compTo_mem {P : List FinP} {i : Nat} (hi : i ≤ P.length) {p : FinP} (h : p ∈ compTo P i) : p ∈ P := by
  induction i with
  | zero => simp [compTo] at h
  | succ i ih =>
    unfold compTo at h
    split at h
    · rcases List.mem_append.1 h with h | h
      · exact ih (by omega) h
      · rw [List.mem_singleton.1 h]; exact getD_mem (by omega)
    · exact ih (by omega) h
/-- The cells of a row. -/
def cellsP (P : List FinP) : List Value := P.flatMap (·.2)
theorem cellsP_at : ∀ {P : List FinP} {j i : Nat}, (∀ p ∈ P, p.2.length = 2) → j < P.length → i < 2 → (cellsP P)[j * 2 + i]? = (P.getD j default).2[i]? := by
  intro P
  induction P with
  | nil => intro j i _ hj; simp at hj
  | cons p P ih =>
    intro j i h hj hi
    have h0 := h p (List.mem_cons_self ..)
    simp only [cellsP, List.flatMap_cons] at ih ⊢
    cases j with
    | zero => rw [Nat.zero_mul, Nat.zero_add, List.getElem?_append_left (by rw [h0]; exact hi)]; rfl
    | succ j =>
      rw [List.getElem?_append_right (by rw [h0, Nat.add_mul]; omega), h0, show (j + 1) * 2 + i - 2 = j * 2 + i by omega]
      exact ih (fun q hq => h q (List.mem_cons_of_mem _ hq)) (by simpa using hj) hi
theorem cellsP_len {P : List FinP} (h : ∀ p ∈ P, p.2.length = 2) : (cellsP P).length = P.length * 2 := by
  induction P with
  | nil => rfl
  | cons p P ih =>
    have h0 := h p (List.mem_cons_self ..)
    have h1 := ih (fun q hq => h q (List.mem_cons_of_mem _ hq))
    simp only [cellsP, List.flatMap_cons, List.length_append, List.length_cons] at h1 ⊢
    rw [h1, h0]; omega
theorem cellsP_set : ∀ {P : List FinP} {j : Nat} {f : FinalD} {a b : Value}, (∀ p ∈ P, p.2.length = 2) → j < P.length → cellsP (P.set j (f, [a, b])) = ((cellsP P).set (j * 2) a).set (j * 2 + 1) b := by
  intro P
  induction P with
  | nil => intro j f a b _ hj; simp at hj
  | cons p P ih =>
    intro j f a b h hj
    obtain ⟨pf, pc⟩ := p
    have h0 : pc.length = 2 := h _ (List.mem_cons_self ..)
    obtain ⟨x, y, rfl⟩ : ∃ x y, pc = [x, y] := by
      match pc, h0 with
      | [x, y], _ => exact ⟨x, y, rfl⟩
    cases j with
    | zero => simp [cellsP]
    | succ j =>
      have := ih (f := f) (a := a) (b := b) (fun q hq => h q (List.mem_cons_of_mem _ hq)) (by simpa using hj)
      simp only [cellsP, List.set_cons_succ, List.flatMap_cons, List.cons_append, List.nil_append] at this ⊢
      rw [this, show (j + 1) * 2 = j * 2 + 1 + 1 by omega, List.set_cons_succ, List.set_cons_succ, List.set_cons_succ, List.set_cons_succ]
/-- The builtin clear, of a part of a row of the call's own. -/
theorem wpList_clear {P : Program} (w : World) {ops : Array Oper} {rest : List Oper} {o : Oper} {a : Act} {Q : Exit → Act → World → Prop} (hgd : o.guard = none) (x : Operand) (t : TypeId)
    (ho : o.op = .call { callee := .builtin .clear, args := #[x], argTypes := #[t] }) (e : TypeId) (z : Value) (ht : P.underlying t = some (.slice e)) (hz : ∀ w, (zeroValue e).run P w = .ok z w) (h1 : ∀ v ∈ z.cells.toList, v.oneCell' = true)
    (g off m c : Nat) (hx : a.eval x = .slice (some ⟨g, off, none⟩) m c) (hm : 0 < m) (cur : Array Value) (te : TypeId) (hg : w.heap[g]? = some (.cells cur te (0, 0))) (hroom : off + m * z.cells.size ≤ cur.size)
    (h : ∀ w' cur', w'.heap[g]? = some (.cells cur' te (0, 0)) → cur'.size = cur.size → (∀ j, j < off → cur'[j]? = cur[j]?) → Since (fun k => k = g) w w' → wpList P ops Q rest (a.put o.dst (.tuple #[])) w') : wpList P ops Q (o :: rest) a w := by
  have hlen : (Builtin.zeroCells z.cells m).toList.length = m * z.cells.size := by simp [Builtin.zeroCells]
  have hone : ∀ v ∈ (Builtin.zeroCells z.cells m).toList, v.oneCell' = true := by
    intro v hv
    rcases Nat.eq_zero_or_pos z.cells.size with hs | hs
    · have hnil : (Builtin.zeroCells z.cells m).toList = [] := List.eq_nil_of_length_eq_zero (by rw [hlen, hs]; simp)
      rw [hnil] at hv; cases hv
    · simp only [Builtin.zeroCells, Array.toList_map, List.mem_map] at hv
      obtain ⟨i, -, rfl⟩ := hv
      rw [getElem!_pos z.cells (i % z.cells.size) (Nat.mod_lt _ hs)]
      exact h1 _ (by simp)
  have hs := run_storeCells_at (P := P) g off te (Builtin.zeroCells z.cells m).toList 0 cur w hg (by rw [hlen]; omega) hone
  obtain ⟨m', rfl⟩ : ∃ m', m = m' + 1 := ⟨m - 1, by omega⟩
  refine wpList_plain hgd fun _ hK => ?_
  unfold Oper.wp execOp
  simp only [ho, resolve, invoke, builtin, Sem.run_bind, Sem.run_pure, Result.andThen_ok, List.map_toArray, List.map_cons, List.map_nil, hx]
  simp only [Builtin.clear_, Sem.run_bind, run_underlying ht, Result.andThen_ok, hz, hs, Sem.run_pure, List.getElem?_toArray, List.getElem?_cons_zero]
  refine hK _ _ (h _ _ (setRow_heap w g cur _ te (0, 0) hg) ?_ ?_ ⟨rfl, rfl, rfl, by simp, fun k _ hne => setRow_other _ _ _ _ hne⟩)
  · simp only [List.size_toArray, List.length_append, List.length_take, List.length_drop, Array.length_toList, hlen]
    omega
  · intro j hj
    rw [List.getElem?_toArray, List.append_assoc, List.getElem?_append_left (by simp; omega), List.getElem?_take_of_lt (by omega)]
    simp
end Go.Proofs.Ytnlkbboghcdpnaa
