/- Edges from a node back to it that meet all marks: the walk. -/
import Derived.Test.YtoojalcfojflhaaBegin
namespace Go.Proofs.Ytoojalcfojflhaa
open Go.RowKit

theorem steps_one {l : List (Nat × Nat)} : ∀ u ∈ stepsV l, u.oneCell' = true := by
  intro u hu
  unfold stepsV at hu
  obtain ⟨p, -, hp⟩ := List.mem_flatMap.1 hu
  simp only [stepCells, List.mem_cons, List.not_mem_nil, or_false] at hp
  rcases hp with rfl | rfl <;> rfl
/-- One leads within a group from everywhere to everywhere, and there is an edge in it. -/
structure Strong (g : GraphD) (grp : Nat → Int) (t : Nat) : Prop where
  way : ∀ a b, grp a = (t : Int) → grp b = (t : Int) → ∃ l, Way g (fun y => decide (grp y = (t : Int))) a l b
  edge : ∃ a k, Inner g grp t a k
  marks : ∀ b, b < g.marks.toNat → ∃ a k, Inner g grp t a k ∧ bitI (g.markOf a k) b = true
theorem Strong.circle {g : GraphD} {grp : Nat → Int} {t : Nat} (h : Strong g grp t) {x y : Nat} (hx : grp x = (t : Int)) (hy : grp y = (t : Int)) : ∃ l, l ≠ [] ∧ Way g (fun y => decide (grp y = (t : Int))) x l y := by
  obtain ⟨a, k, h1, h2, -, h3⟩ := h.edge
  obtain ⟨l1, w1⟩ := h.way x a hx h2
  obtain ⟨l2, w2⟩ := h.way (g.toOf a k) y h3 hy
  exact ⟨l1 ++ ([(a, k)] ++ l2), by simp, w1.append ((Way.one h1 (by simpa using h3)).append w2)⟩
def GraphD.fits (g : GraphD) : Prop := ∀ a k, g.has a k → -9223372036854775808 ≤ g.markOf a k ∧ g.markOf a k ≤ 9223372036854775807
set_option maxRecDepth 100000 in
set_option maxHeartbeats 4000000 in
theorem round_any (w : World) (g : GraphD) (hright : g.right = true) (hfit : g.fits) (sb : Nat) (ea : Option Addr) (ec : Nat) (iv : Value) (grp : Nat → Int) (gx tx gb t : Nat) (hs : SeekAt w sb g ea ec iv (.func (.func 23) #[] #[.pointer (some ⟨gx, 0, none⟩), .pointer (some ⟨tx, 0, none⟩)]))
    (hg : GroupAt w g.edges.length grp gx tx gb t) (hst : Strong g grp t) (x : Nat) (hx : x < g.edges.length) (hxt : grp x = (t : Int)) :
    Calls Try.prog 24 #[.pointer (some ⟨sb, 0, none⟩), .int .i64 (x : Int)] w fun e w' => ∃ v l, e = .returned v ∧ StepsRow w' w.heap.size v l ∧ Below w.heap.size w w' ∧ l ≠ [] ∧ Way g (fun y => decide (grp y = (t : Int))) x l x ∧
      (∀ b, b < g.marks.toNat → ∃ p ∈ l, bitI (g.markOf p.1 p.2) b = true) ∧ l.length ≤ 42000000 := by
  obtain ⟨N, hN⟩ : ∃ N, N = g.edges.length := ⟨_, rfl⟩
  obtain ⟨m, hm⟩ : ∃ m : Nat, g.marks = (m : Int) ∧ m ≤ 40 := by
    have h := hright
    unfold GraphD.right at h
    simp only [Bool.and_eq_true, decide_eq_true_eq] at h
    exact ⟨g.marks.toNat, by omega, by omega⟩
  obtain ⟨hm1, hm2⟩ := hm
  have hN1 : N ≤ 1000000 := by
    have h := hright
    unfold GraphD.right at h
    simp only [Bool.and_eq_true, decide_eq_true_eq] at h
    omega
  have hal := (Below.refl w.heap.size w).alloc (Nat.le_refl _) (.cells #[.int .i64 (x : Int)] 3)
  have HB := Lib.hid hal
  have H1 := Lib.hid (heap_alloc_new w (.cells #[.int .i64 (x : Int)] 3))
  have HS := Lib.hid (hs.below hal)
  have HGA := Lib.hid (hg.below hal)
  have HST := Lib.hid hst
  have HRIGHT := Lib.hid hright
  have HFIT := Lib.hid hfit
  have HN := Lib.hid hN
  have HM := Lib.hid hm1
  have HXT := Lib.hid hxt
  have HX := Lib.hid hx
  clear hal hs hg hst hright hfit hN hm1 hxt hx
  go_enter Try.func24, Try.ntmps24
  go_upto_region 1 with fail
  generalize World.alloc _ _ = W at HB H1 HS HGA ⊢
  obtain ⟨fx, hfx⟩ : ∃ fx, fx = w.heap.size := ⟨_, rfl⟩
  rw [← hfx] at H1 ⊢
  clear hfx
  have c0 := cell_of_block H1.out 0
  have c2 := cell_of_block HS.out.block 2
  simp only [List.getElem?_toArray, List.getElem?_cons_zero, List.getElem?_cons_succ, HM.out] at c0 c2
  have HC0 := Lib.hid c0
  have hmay : ∀ X, Below W.heap.size W X → ∀ y, y < g.edges.length → Calls Try.prog 23 (#[.int .i64 (y : Int)] ++ #[.pointer (some ⟨gx, 0, none⟩), .pointer (some ⟨tx, 0, none⟩)]) X fun e w' => e = .returned (.bool (decide (grp y = (t : Int)))) ∧ Below X.heap.size X w' := fun X hX y hy => find2_any X g.edges.length grp gx tx gb t (HGA.out.below hX) y hy
  have HMAY := Lib.hid hmay
  clear hmay
  go_wp2_with fail
  clear c0 c2
  go_loopg [4, 5, 14] m (fun gg s4 s5 s14 wr => ∃ (j : Nat) (l : List (Nat × Nat)) (at_ : Nat) (oa : Option Addr) (oc : Nat), j ≤ m ∧ Hid (gg = m - j) ∧ s14 = .int .i64 j ∧ s5 = .int .i64 at_ ∧ s4 = .slice oa l.length oc ∧ Hid (StepsRow wr W.heap.size (.slice oa l.length oc) l) ∧ Hid (Below W.heap.size W wr) ∧ Hid (Way g (fun y => decide (grp y = (t : Int))) x l at_) ∧ Hid (grp at_ = (t : Int) ∧ at_ < g.edges.length) ∧
    Hid (∀ b, b < j → ∃ p ∈ l, bitI (g.markOf p.1 p.2) b = true) ∧ Hid (l.length ≤ j * 1000000))
  case atStart => exact ⟨0, [], x, none, 0, Nat.zero_le _, rfl, rfl, rfl, rfl, World.ownsRow_nil _ _ _ _, Below.refl _ _, .nil x, ⟨HXT.out, HX.out⟩, fun b hb => by omega, by simp [Hid]⟩
  case round =>
    obtain ⟨j, l, at_, oa, oc, hj, HG, rfl, rfl, rfl, HR, HBR, HWAY, HAT, HMK, HLL⟩ := hrel
    obtain ⟨ln, hln⟩ : ∃ ln, ln = l.length := ⟨_, rfl⟩
    have hlb : ln ≤ 41000000 := by have h := HLL.out; have h2 : j * 1000000 ≤ 40 * 1000000 := Nat.mul_le_mul_right _ (by omega); omega
    have hrow := HR.out
    unfold StepsRow at hrow
    rw [← hln] at hrow ⊢
    have HROW := Lib.hid hrow
    have HLN := Lib.hid hln
    clear hrow hln HR
    by_cases hlt : j < m
    · have hjI : (j : Int) < (m : Int) := by omega
      have hal := (Below.refl wr.heap.size wr).alloc (Nat.le_refl _) (.cells #[.int .i64 (j : Int)] 3)
      have hnw := heap_alloc_new wr (.cells #[.int .i64 (j : Int)] 3)
      have hbv : Below W.heap.size W (wr.alloc (.cells #[.int .i64 (j : Int)] 3)) := below_then HBR.out hal
      have hway := way_any (wr.alloc (.cells #[.int .i64 (j : Int)] 3)) g HRIGHT.out sb ea ec iv 23 #[.pointer (some ⟨gx, 0, none⟩), .pointer (some ⟨tx, 0, none⟩)] (HS.out.below hbv) (fun y => decide (grp y = (t : Int))) (fun y k => bitI (g.markOf y k) j) 39 #[.pointer (some ⟨wr.heap.size, 0, none⟩)] (fun _ _ => rfl) (fun _ _ => rfl)
        (fun X hX y hy => HMAY.out X (below_then hbv hX) y hy)
        (fun X hX y k hk => round1_any X wr.heap.size j ((hX.block _ (lt_of_block hnw)).trans hnw) (by omega) _ _ _ (HFIT.out y k hk))
        at_ HAT.out.2
      have HWY := Lib.hid hway
      have HBV := Lib.hid hbv
      have HROW2 := Lib.hid (row_below HROW.out hal)
      clear hal hnw hbv hway HROW
      go_wp2_with fail
      refine HWY.out.mono ?_
      rintro e w3 ⟨v, l2, rfl, hr3, hb3, ht3⟩
      rcases ht3 with ⟨hne, hle, i', k', r', hl', hf', hw'⟩ | ⟨rfl, hnone⟩
      · have hk' : g.has i' k' ∧ grp (g.toOf i' k') = (t : Int) := by
          obtain ⟨r2, y2, k2, e1, -, e2, e3, -⟩ := hw'.split hne
          rw [hl'] at e1
          have := List.append_inj' e1 rfl
          simp at this
          obtain ⟨-, rfl, rfl⟩ := this
          exact ⟨e2, by simpa using e3⟩
        obtain ⟨oa2, oc2, rfl, ho1, ho2⟩ := hr3.slice
        have hb4 : Below W.heap.size W w3 := below_then HBV.out hb3
        have hwB : W.heap.size ≤ (wr.alloc (.cells #[.int .i64 (j : Int)] 3)).heap.size := HBV.out.size
        have hto := fun X (hX : Below W.heap.size W X) (hl2 : StepsRow X W.heap.size (.slice oa2 l2.length oc2) l2) => to_any X g HRIGHT.out sb ea ec _ _ (HS.out.below hX) W.heap.size _ l2 hl2 i' k' r' hl' hk'.1
        obtain ⟨n2, hn2⟩ : ∃ n2, n2 = l2.length := ⟨_, rfl⟩
        have hn2b : n2 ≤ 1000000 := by rw [hn2]; have := HN.out; omega
        obtain ⟨lg, hlg⟩ : ∃ lg, oa2 = some ⟨lg, 0, none⟩ := by
          obtain ⟨lg, h1, -⟩ := hr3.cell (j := 0) (List.length_pos_iff.2 hne)
          exact ⟨lg, h1⟩
        subst hlg
        have hcells := World.ownsRow.cells hr3 (g := lg) rfl
        have hlgb : (wr.alloc (.cells #[.int .i64 (j : Int)] 3)).heap.size ≤ lg := (hr3.lt lg rfl).1
        have hown : ∀ b, (Value.slice oa ln oc).ownBlock = some b → b < (wr.alloc (.cells #[.int .i64 (j : Int)] 3)).heap.size := fun b hb => (HROW2.out.lt b hb).2
        unfold StepsRow at hr3
        rw [← hn2] at hr3 hto ho1 ⊢
        have HTO := Lib.hid hto
        have HR3 := Lib.hid hr3
        have HOWN := Lib.hid hown
        have HROW3 := Lib.hid (row_below HROW2.out hb3)
        have HCELLS := Lib.hid hcells
        have HB4 := Lib.hid hb4
        have HW' := Lib.hid hw'
        have HF' := Lib.hid hf'
        have HK' := Lib.hid hk'
        have HL' := Lib.hid hl'
        have HN2 := Lib.hid hn2
        have HLE := Lib.hid hle
        have hbsz : W.heap.size ≤ w3.heap.size := Nat.le_trans hwB hb3.size
        clear hr3 hb3 hto hcells hb4 hw' hf' hk' hl' hn2 hne hle HWY HROW2 hown
        go_wp2_with (at_builtin; go_must (refine wpList_append_at_ _ rfl _ _ 55 rfl 60 (.agg #[.int .i64 0, .int .i64 0]) 2 16 Try.underlying55 step_info rfl (by decide) W.heap.size (.slice oa ln oc) ln (stepsV l) rfl HROW3.out ⟨lg, 0, none⟩ n2 oc2 (stepsV l2) rfl (by rw [stepsV_len, HN2.out]) HCELLS.out steps_one (by unfold maxLen; omega) (by omega) hbsz ?_); intro a' c' w4 e1 e2 e3 e4 e5 e6; have HE1 := Lib.hid e1; have HB5 : Hid (Below W.heap.size W w4) := HB4.out.trans (e4.below hbsz (fun k hk => (HROW3.out.lt k hk).1)); have HR4 := Lib.hid (e4.row HR3.out (fun k hk e => by have h1 := HOWN.out k e; have h2 := (HR3.out.lt k hk).1; omega)); clear e1 e2 e3 e4 e5 e6)
        refine (HTO.out w4 HB5.out (by have h := row_mono HR4.out hwB; unfold StepsRow; rw [← HN2.out]; exact h)).mono ?_
        rintro e w5 ⟨rfl, hb6⟩
        have HB6 : Hid (Below W.heap.size W w5) := below_then HB5.out hb6
        have HR6 := Lib.hid (row_below HE1.out hb6)
        clear hb6 HTO
        go_wp2_with fail
        go_roundg (m - (j + 1))
        case measure => rw [HG.out]; omega
        case rel =>
          have hlen : (l ++ l2).length = ln + n2 := by rw [List.length_append, ← HLN.out, ← HN2.out]
          refine ⟨j + 1, l ++ l2, g.toOf i' k', a', c', by omega, rfl, by simp, rfl, by rw [hlen], ?_, HB6.out, HWAY.out.append HW'.out, ⟨HK'.out.2, (GraphD.right_to HRIGHT.out HK'.out.1).1⟩, fun b hb => ?_, ?_⟩
          · rw [Hid]; unfold StepsRow; rw [stepsV_append, hlen]; exact HR6.out
          · by_cases he : b = j
            · subst he
              exact ⟨(i', k'), by rw [HL'.out]; simp, HF'.out⟩
            · obtain ⟨p, hp, hb2⟩ := HMK.out b (by omega)
              exact ⟨p, List.mem_append_left _ hp, hb2⟩
          · rw [Hid, hlen]
            have h1 := HLL.out
            have h2 := HLN.out
            have h3 : (j + 1) * 1000000 = j * 1000000 + 1000000 := by omega
            omega
      · exfalso
        obtain ⟨a, k, hin, hbit⟩ := HST.out.marks j (by rw [HM.out]; simpa using hlt)
        obtain ⟨r, hr⟩ := HST.out.way at_ a HAT.out.1 hin.2.1
        have := hnone a r k hr hin.1 (by simpa using hin.2.2.2)
        simp only [hbit] at this; cases this
    · obtain rfl : j = m := by omega
      have c0 := cells_kept HBR.out _ _ HC0.out
      by_cases hax : at_ = x
      · have haI : ((at_ : Int) == (x : Int)) = true := by simp [hax]
        by_cases hl0 : ln = 0
        · have hl1 : ¬ (0 : Int) < (ln : Int) := by omega
          have hl2 : decide ((0 : Int) < (ln : Int)) = false := by simp; omega
          clear hax hl0
          have hway := way_any wr g HRIGHT.out sb ea ec iv 23 #[.pointer (some ⟨gx, 0, none⟩), .pointer (some ⟨tx, 0, none⟩)] (HS.out.below HBR.out) (fun y => decide (grp y = (t : Int))) (fun y k => decide (g.toOf y k = x)) 40 #[.pointer (some ⟨fx, 0, none⟩)] (fun _ _ => rfl) (fun _ _ => rfl)
            (fun X hX y hy => HMAY.out X (below_then HBR.out hX) y hy)
            (fun X hX y k hk => round2_any X fx x (((below_then HBR.out hX).block _ (lt_of_block H1.out)).trans H1.out) _ _ _)
            at_ HAT.out.2
          have HWY := Lib.hid hway
          clear hway
          go_wp2_with fail
          refine HWY.out.mono ?_
          rintro e w3 ⟨v, l2, rfl, hr3, hb3, ht3⟩
          rcases ht3 with ⟨hne, hle, i', k', r', hl', hf', hw'⟩ | ⟨rfl, hnone⟩
          · obtain ⟨oa2, oc2, rfl, ho1, ho2⟩ := hr3.slice
            obtain ⟨n2, hn2⟩ : ∃ n2, n2 = l2.length := ⟨_, rfl⟩
            have hn2b : n2 ≤ 1000000 := by rw [hn2]; have := HN.out; omega
            obtain ⟨lg, hlg⟩ : ∃ lg, oa2 = some ⟨lg, 0, none⟩ := by
              obtain ⟨lg, h1, -⟩ := hr3.cell (j := 0) (List.length_pos_iff.2 hne)
              exact ⟨lg, h1⟩
            subst hlg
            have hcells := World.ownsRow.cells hr3 (g := lg) rfl
            rw [← hn2] at ho1 ⊢
            have hto : g.toOf i' k' = x := by simpa using hf'
            rw [hto] at hw'
            have HROW3 := Lib.hid (row_below HROW.out hb3)
            have HCELLS := Lib.hid hcells
            have HB4 : Hid (Below W.heap.size W w3) := below_then HBR.out hb3
            have HW' := Lib.hid hw'
            have HN2 := Lib.hid hn2
            have HNE := Lib.hid hne
            have hbsz : W.heap.size ≤ w3.heap.size := HB4.out.size
            clear hr3 hb3 hcells hw' hf' hl' hn2 hne hle HWY HROW hto
            go_wp2_with (at_builtin; go_must (refine wpList_append_at_ _ rfl _ _ 55 rfl 60 (.agg #[.int .i64 0, .int .i64 0]) 2 16 Try.underlying55 step_info rfl (by decide) W.heap.size (.slice oa ln oc) ln (stepsV l) rfl HROW3.out ⟨lg, 0, none⟩ n2 oc2 (stepsV l2) rfl (by rw [stepsV_len, HN2.out]) HCELLS.out steps_one (by unfold maxLen; omega) (by omega) hbsz ?_); intro a' c' w4 e1 e2 e3 e4 e5 e6; have HE1 := Lib.hid e1; have HB5 : Hid (Below W.heap.size W w4) := HB4.out.trans (e4.below hbsz (fun k hk => (HROW3.out.lt k hk).1)); clear e1 e2 e3 e4 e5 e6)
            go_ret
            have hlen : (l ++ l2).length = ln + n2 := by rw [List.length_append, ← HLN.out, ← HN2.out]
            refine ⟨_, l ++ l2, rfl, ?_, below_then HB.out HB5.out, by intro e; exact HNE.out (List.append_eq_nil_iff.1 e).2, HWAY.out.append HW'.out, fun b hb => ?_, by rw [hlen]; omega⟩
            · have h := row_mono HE1.out HB.out.size
              unfold StepsRow; rw [stepsV_append, hlen]; exact h
            · obtain ⟨p, hp, hb2⟩ := HMK.out b (by have := HM.out; omega)
              exact ⟨p, List.mem_append_left _ hp, hb2⟩
          · exfalso
            obtain ⟨l3, h1, h2⟩ := HST.out.circle HAT.out.1 HXT.out
            exact told_none hnone h2 h1 (fun y k hyk => by simpa using hyk)
        · have hl1 : (0 : Int) < (ln : Int) := by omega
          have hl2 : decide ((0 : Int) < (ln : Int)) = true := by simp; omega
          have HAX := Lib.hid hax
          clear hax
          go_wp2_with fail
          go_ret
          exact ⟨_, l, rfl, by have h := row_mono HROW.out HB.out.size; unfold StepsRow; rw [← HLN.out]; exact h, below_then HB.out HBR.out, by rintro rfl; have := HLN.out; simp at this; omega, by have := HWAY.out; rwa [HAX.out] at this, fun b hb => HMK.out b (by have := HM.out; omega), by rw [← HLN.out]; omega⟩
      · have haI : ((at_ : Int) == (x : Int)) = false := by rw [beq_eq_false_iff_ne]; omega
        clear hax
        have hway := way_any wr g HRIGHT.out sb ea ec iv 23 #[.pointer (some ⟨gx, 0, none⟩), .pointer (some ⟨tx, 0, none⟩)] (HS.out.below HBR.out) (fun y => decide (grp y = (t : Int))) (fun y k => decide (g.toOf y k = x)) 40 #[.pointer (some ⟨fx, 0, none⟩)] (fun _ _ => rfl) (fun _ _ => rfl)
          (fun X hX y hy => HMAY.out X (below_then HBR.out hX) y hy)
          (fun X hX y k hk => round2_any X fx x (((below_then HBR.out hX).block _ (lt_of_block H1.out)).trans H1.out) _ _ _)
          at_ HAT.out.2
        have HWY := Lib.hid hway
        clear hway
        go_wp2_with fail
        refine HWY.out.mono ?_
        rintro e w3 ⟨v, l2, rfl, hr3, hb3, ht3⟩
        rcases ht3 with ⟨hne, hle, i', k', r', hl', hf', hw'⟩ | ⟨rfl, hnone⟩
        · obtain ⟨oa2, oc2, rfl, ho1, ho2⟩ := hr3.slice
          obtain ⟨n2, hn2⟩ : ∃ n2, n2 = l2.length := ⟨_, rfl⟩
          have hn2b : n2 ≤ 1000000 := by rw [hn2]; have := HN.out; omega
          obtain ⟨lg, hlg⟩ : ∃ lg, oa2 = some ⟨lg, 0, none⟩ := by
            obtain ⟨lg, h1, -⟩ := hr3.cell (j := 0) (List.length_pos_iff.2 hne)
            exact ⟨lg, h1⟩
          subst hlg
          have hcells := World.ownsRow.cells hr3 (g := lg) rfl
          rw [← hn2] at ho1 ⊢
          have hto : g.toOf i' k' = x := by simpa using hf'
          rw [hto] at hw'
          have HROW3 := Lib.hid (row_below HROW.out hb3)
          have HCELLS := Lib.hid hcells
          have HB4 : Hid (Below W.heap.size W w3) := below_then HBR.out hb3
          have HW' := Lib.hid hw'
          have HN2 := Lib.hid hn2
          have HNE := Lib.hid hne
          have hbsz : W.heap.size ≤ w3.heap.size := HB4.out.size
          clear hr3 hb3 hcells hw' hf' hl' hn2 hne hle HWY HROW hto
          go_wp2_with (at_builtin; go_must (refine wpList_append_at_ _ rfl _ _ 55 rfl 60 (.agg #[.int .i64 0, .int .i64 0]) 2 16 Try.underlying55 step_info rfl (by decide) W.heap.size (.slice oa ln oc) ln (stepsV l) rfl HROW3.out ⟨lg, 0, none⟩ n2 oc2 (stepsV l2) rfl (by rw [stepsV_len, HN2.out]) HCELLS.out steps_one (by unfold maxLen; omega) (by omega) hbsz ?_); intro a' c' w4 e1 e2 e3 e4 e5 e6; have HE1 := Lib.hid e1; have HB5 : Hid (Below W.heap.size W w4) := HB4.out.trans (e4.below hbsz (fun k hk => (HROW3.out.lt k hk).1)); clear e1 e2 e3 e4 e5 e6)
          go_ret
          have hlen : (l ++ l2).length = ln + n2 := by rw [List.length_append, ← HLN.out, ← HN2.out]
          refine ⟨_, l ++ l2, rfl, ?_, below_then HB.out HB5.out, by intro e; exact HNE.out (List.append_eq_nil_iff.1 e).2, HWAY.out.append HW'.out, fun b hb => ?_, by rw [hlen]; omega⟩
          · have h := row_mono HE1.out HB.out.size
            unfold StepsRow; rw [stepsV_append, hlen]; exact h
          · obtain ⟨p, hp, hb2⟩ := HMK.out b (by have := HM.out; omega)
            exact ⟨p, List.mem_append_left _ hp, hb2⟩
        · exfalso
          obtain ⟨l3, h1, h2⟩ := HST.out.circle HAT.out.1 HXT.out
          exact told_none hnone h2 h1 (fun y k hyk => by simpa using hyk)
end Go.Proofs.Ytoojalcfojflhaa
