/- Is it a lasso: the document's answer, the walk. -/
import Derived.Test.YtoojalcfojflhaaAccept2
namespace Go.Proofs.Ytoojalcfojflhaa
open Go.RowKit

theorem any_take {xs : List Int} {p : Int → Bool} {i : Nat} (hi : i < xs.length) : (xs.take (i + 1)).any p = ((xs.take i).any p || p (xs.getD i 0)) := by
  rw [List.take_add_one, List.any_append, List.getD_eq_getElem?_getD, List.getElem?_eq_getElem hi]; simp
set_option maxRecDepth 100000 in
set_option maxHeartbeats 8000000 in
theorem refAccept_any (w : World) (g : GraphD) (ev iv : Value) (h : GraphAt w g ev iv) (l : LassoD) (nv fv : Value) (hl : LassoAt w l nv fv) :
    Calls Try.prog 11 #[graphV g ev iv, lassoV l nv fv] w fun e w' => e = .returned (.bool (acceptOk g l)) ∧ Below w.heap.size w w' := by
  obtain ⟨ea, ec, rfl, hel⟩ := h.edges.slice
  obtain ⟨ia, ic, rfl, hil⟩ := h.initial.slice
  obtain ⟨na, nc, rfl, hnl⟩ := hl.nodes.slice
  obtain ⟨fa, fc, rfl, hfl⟩ := hl.edges.slice
  obtain ⟨r, hr⟩ : ∃ r, r = acceptOk g l := ⟨_, rfl⟩
  rw [← hr]
  obtain ⟨N, hN⟩ : ∃ N, N = g.edges.length := ⟨_, rfl⟩
  obtain ⟨k, hk⟩ : ∃ k, k = g.initial.length := ⟨_, rfl⟩
  obtain ⟨n, hn⟩ : ∃ n, n = l.nodes.length := ⟨_, rfl⟩
  obtain ⟨f, hf⟩ : ∃ f, f = l.edges.length := ⟨_, rfl⟩
  obtain ⟨m, hm⟩ : ∃ m, m = g.marks := ⟨_, rfl⟩
  obtain ⟨bk, hbk⟩ : ∃ bk, bk = l.back := ⟨_, rfl⟩
  obtain ⟨gr, hgr⟩ : ∃ gr, gr = g.right := ⟨_, rfl⟩
  have hright := fun W (hW : Below w.heap.size w W) => refRight_any W g _ _ (h.below hW)
  rw [← hgr] at hright
  unfold graphV at *
  unfold lassoV
  rw [← hN] at hel
  rw [← hk] at hil
  rw [← hn] at hnl
  rw [← hf] at hfl
  simp only [← hN, ← hk, ← hm] at hright ⊢
  rw [← hn, ← hf, ← hbk]
  have hE := h.edges
  have hI := h.initial
  have hNo := hl.nodes
  have hEd := hl.edges
  rw [← hN] at hE
  rw [← hk] at hI
  rw [← hn] at hNo
  rw [← hf] at hEd
  have hhead : headOk g l = (gr && decide (1 ≤ n) && decide (f = n) && decide (0 ≤ bk) && decide (bk < (n : Int))) := by unfold headOk; rw [← hgr, ← hn, ← hf, ← hbk]
  have HR := Lib.hid hr
  have HHEAD := Lib.hid hhead
  have HRIGHT := Lib.hid hright
  have HE := Lib.hid hE
  have HIN := Lib.hid hI
  have HNO := Lib.hid hNo
  have HED := Lib.hid hEd
  have HNN := Lib.hid hN
  have HK := Lib.hid hk
  have Hn := Lib.hid hn
  have Hf := Lib.hid hf
  have Hm := Lib.hid hm
  have Hbk := Lib.hid hbk
  have Hgr := Lib.hid hgr
  clear hr hhead hright h hl hE hI hNo hEd hN hk hn hf hm hbk hgr
  have HB := Lib.hid (boxes_below w (.cells #[.slice ea N ec, .slice ia k ic, .int .i64 m] 25) (.cells #[.slice na n nc, .slice fa f fc, .int .i64 bk] 27))
  have H1 := Lib.hid (boxes_first w (.cells #[.slice ea N ec, .slice ia k ic, .int .i64 m] 25) (.cells #[.slice na n nc, .slice fa f fc, .int .i64 bk] 27))
  have H2 := Lib.hid (boxes_second w (.cells #[.slice ea N ec, .slice ia k ic, .int .i64 m] 25) (.cells #[.slice na n nc, .slice fa f fc, .int .i64 bk] 27))
  go_enter Try.func11, Try.ntmps11
  go_upto_region 1 with fail
  generalize World.alloc _ _ = W at HB H1 H2 ⊢
  obtain ⟨b, hb⟩ : ∃ b, b = w.heap.size := ⟨_, rfl⟩
  rw [← hb] at H1 H2 ⊢
  clear hb
  have c0 := cell_of_block H1.out 0
  have c1 := cell_of_block H1.out 1
  have c2 := cell_of_block H1.out 2
  have d0 := cell_of_block H2.out 0
  have d1 := cell_of_block H2.out 1
  have d2 := cell_of_block H2.out 2
  simp only [List.getElem?_toArray, List.getElem?_cons_zero, List.getElem?_cons_succ] at c0 c1 c2 d0 d1 d2
  go_wp2_with fail
  refine (HRIGHT.out W HB.out).mono ?_
  rintro e wc0 ⟨rfl, hb1⟩
  have HBW : Hid (Below w.heap.size w wc0) := below_then HB.out hb1
  replace c0 := cells_kept hb1 _ _ c0
  replace c1 := cells_kept hb1 _ _ c1
  replace c2 := cells_kept hb1 _ _ c2
  replace d0 := cells_kept hb1 _ _ d0
  replace d1 := cells_kept hb1 _ _ d1
  replace d2 := cells_kept hb1 _ _ d2
  clear hb1 HRIGHT H1 H2 HB
  have hacc : r = (headOk g l && g.initial.any (fun i => decide (i = l.nodes.getD 0 0)) && (List.range n).all (stepOk g l) && decide (bits .and .i64 (metTo g l n) (2 ^ g.marks.toNat - 1) = 2 ^ g.marks.toNat - 1)) := by rw [HR.out]; unfold acceptOk; rw [← Hn.out]
  have HACC := Lib.hid hacc
  clear hacc HR
  cases gr
  · obtain rfl : r = false := by rw [HACC.out, HHEAD.out]; simp
    clear HACC HHEAD
    go_wp2_with fail
    go_ret
    exact ⟨by first | rfl | simp, HBW.out⟩
  · by_cases b1 : (n : Int) < 1
    · have e1' : decide (1 ≤ n) = false := by simp; omega
      have e1d : decide ((n : Int) < 1) = true := by simp; omega
      obtain rfl : r = false := by rw [HACC.out, HHEAD.out, e1']; simp
      clear HACC HHEAD
      go_wp2_with fail
      go_ret
      exact ⟨by first | rfl | simp, HBW.out⟩
    · have e1' : decide (1 ≤ n) = true := by simp; omega
      have e1d : decide ((n : Int) < 1) = false := by simp; omega
      by_cases b2 : f = n
      · have e2' : decide (f = n) = true := by simp [b2]
        have b2' : ((f : Int) != (n : Int)) = false := by simp [b2]
        have B2 := Lib.hid b2
        clear b2
        by_cases b3 : bk < 0
        · have e3' : decide (0 ≤ bk) = false := by simp; omega
          have e3d : decide (bk < 0) = true := by simp; omega
          obtain rfl : r = false := by rw [HACC.out, HHEAD.out, e1', e2', e3']; simp
          clear HACC HHEAD
          go_wp2_with fail
          go_ret
          exact ⟨by first | rfl | simp, HBW.out⟩
        · have e3' : decide (0 ≤ bk) = true := by simp; omega
          have e3d : decide (bk < 0) = false := by simp; omega
          by_cases b4 : (n : Int) ≤ bk
          · have e4' : decide (bk < (n : Int)) = false := by simp; omega
            have b4' : bk ≥ (n : Int) := b4
            have e4d : decide ((n : Int) ≤ bk) = true := by simp; omega
            obtain rfl : r = false := by rw [HACC.out, HHEAD.out, e1', e2', e3', e4']; simp
            clear HACC HHEAD
            go_wp2_with fail
            go_ret
            exact ⟨by first | rfl | simp, HBW.out⟩
          · have e4' : decide (bk < (n : Int)) = true := by simp; omega
            have b4' : ¬ bk ≥ (n : Int) := b4
            have e4d : decide ((n : Int) ≤ bk) = false := by simp; omega
            have hgr : g.right = true := by rw [← Hgr.out]
            have hhd : headOk g l = true := by rw [HHEAD.out, e1', e2', e3', e4']; rfl
            have hr2 : r = (g.initial.any (fun i => decide (i = l.nodes.getD 0 0)) && (List.range f).all (stepOk g l) && decide (bits .and .i64 (metTo g l f) (2 ^ g.marks.toNat - 1) = 2 ^ g.marks.toNat - 1)) := by rw [HACC.out, hhd, B2.out]; simp
            have HR2 := Lib.hid hr2
            have HGR := Lib.hid hgr
            clear hgr hhd hr2 HACC HHEAD e1' e2' e3' e4'
            obtain ⟨bn, rfl⟩ : ∃ bn : Nat, bk = (bn : Int) := ⟨bk.toNat, by omega⟩
            have hbn : bn < n := by omega
            have hn1 : 1 ≤ n := by omega
            have hfn := B2.out
            subst hfn
            have e4e : decide (f ≤ bn) = false := by simp; omega
            go_wp2_with fail
            clear b1 b2' b3 b4 b4' e1d e3d e4d
            obtain ⟨-, nb, no, rfl, hnb, hnc, -⟩ := HNO.out.part 0 (by rw [← Hn.out]; omega)
            obtain ⟨x0, hx0⟩ : ∃ x0, x0 = l.nodes.getD 0 0 := ⟨_, rfl⟩
            rw [← hx0] at hnc
            have hn0 := (HBW.out.cell (p := ⟨nb, no + 0, none⟩) hnb).trans hnc
            simp only [Nat.add_zero] at hn0
            have HX0 := Lib.hid hx0
            clear hnc hnb hx0
            have hn0I : (0 : Int) < (f : Int) := by omega
            go_loopg [6, 7] k (fun gg s6 s7 wr => ∃ i : Nat, i ≤ k ∧ Hid (gg = k - i) ∧ s7 = .int .i64 i ∧ s6 = .bool ((g.initial.take i).any (fun q => decide (q = x0))) ∧ Hid (Below wc0.heap.size wc0 wr))
            case atStart => exact ⟨0, Nat.zero_le _, rfl, rfl, rfl, Below.refl _ _⟩
            case round =>
              obtain ⟨i, hi, HG, rfl, rfl, HBX⟩ := hrel
              obtain ⟨bb, hbb⟩ : ∃ bb, bb = (g.initial.take i).any (fun q => decide (q = x0)) := ⟨_, rfl⟩
              rw [← hbb]
              have HBB := Lib.hid hbb
              clear hbb
              have c1' := cells_kept HBX.out _ _ c1
              have d0' := cells_kept HBX.out _ _ d0
              have hn0' := cells_kept HBX.out _ _ hn0
              by_cases hlt : i < k
              · as_aux_lemma =>
                  have hltI : (i : Int) < (k : Int) := by omega
                  obtain ⟨-, ib, io, rfl, hib, hic, -⟩ := HIN.out.part i (by rw [← HK.out]; exact hlt)
                  replace hic := cells_kept HBX.out _ _ (cells_kept HBW.out _ _ hic)
                  have hnext := any_take (xs := g.initial) (p := fun q => decide (q = x0)) (i := i) (by rw [← HK.out]; exact hlt)
                  rw [← HBB.out] at hnext
                  obtain ⟨qv, hqv⟩ : ∃ qv, qv = g.initial.getD i 0 := ⟨_, rfl⟩
                  rw [← hqv] at hic hnext
                  have HNX := Lib.hid hnext
                  clear hnext hqv hib
                  clear c0 c1 c2 d0 d1 d2 hn0
                  cases bb
                  · by_cases hq : qv = x0
                    · have hqb : ((qv : Int) == x0) = true := by simp [hq]
                      have HQ := Lib.hid hq
                      clear hq
                      go_wp2_with fail
                      go_quiet (fail)
                      go_wp2_with fail
                      go_roundg (k - (i + 1))
                      case measure => rw [HG.out]; omega
                      case rel => exact ⟨i + 1, by omega, rfl, by simp, by rw [HNX.out]; simp [HQ.out], drewN_below HBX.out _⟩
                    · have hqb : ((qv : Int) == x0) = false := by simp [hq]
                      have HQ := Lib.hid hq
                      clear hq
                      go_wp2_with fail
                      go_quiet (fail)
                      go_wp2_with fail
                      go_roundg (k - (i + 1))
                      case measure => rw [HG.out]; omega
                      case rel => exact ⟨i + 1, by omega, rfl, by simp, by rw [HNX.out]; have := HQ.out; simp [this], drewN_below HBX.out _⟩
                  · go_wp2_with fail
                    go_quiet (fail)
                    go_wp2_with fail
                    go_roundg (k - (i + 1))
                    case measure => rw [HG.out]; omega
                    case rel => exact ⟨i + 1, by omega, rfl, by simp, by rw [HNX.out]; simp, drewN_below HBX.out _⟩
              · as_aux_lemma =>
                  obtain rfl : i = k := by omega
                  have hbeg : g.initial.any (fun q => decide (q = l.nodes.getD 0 0)) = bb := by rw [HBB.out, ← HX0.out, List.take_of_length_le (by rw [← HK.out]; exact Nat.le_refl _)]
                  have hr3 := HR2.out
                  rw [hbeg] at hr3
                  have HR3 := Lib.hid hr3
                  have c0' := cells_kept HBX.out _ _ c0
                  have c2' := cells_kept HBX.out _ _ c2
                  have d1' := cells_kept HBX.out _ _ d1
                  have d2' := cells_kept HBX.out _ _ d2
                  clear hbeg hr3 HR2 c0 c1 c2 d0 d1 d2 hn0 hlt
                  have HBV : Hid (Below w.heap.size w wr) := below_then HBW.out HBX.out
                  obtain ⟨wl, rfl⟩ : ∃ wl : World, wl = wr := ⟨_, rfl⟩
                  go_wp2_with fail
                  go_loopg [8, 9] f (fun gg s8 s9 wr => ∃ i : Nat, i ≤ f ∧ Hid (gg = f - i) ∧ s9 = .int .i64 i ∧ s8 = .int .i64 (metTo g l i) ∧ Hid (∀ j, j < i → stepOk g l j = true) ∧ Hid (Below w.heap.size w wr) ∧ Hid (Below wl.heap.size wl wr))
                  case atStart => exact ⟨0, Nat.zero_le _, rfl, rfl, rfl, fun j hj => by omega, HBV.out, Below.refl _ _⟩
                  case round =>
                    obtain ⟨i, hi, HG, rfl, rfl, HJ, HBR, HBX2⟩ := hrel
                    obtain ⟨wi, rfl⟩ : ∃ wi : World, wi = wr := ⟨_, rfl⟩
                    replace c0' := cells_kept HBX2.out _ _ c0'
                    replace c2' := cells_kept HBX2.out _ _ c2'
                    replace d0' := cells_kept HBX2.out _ _ d0'
                    replace d1' := cells_kept HBX2.out _ _ d1'
                    replace d2' := cells_kept HBX2.out _ _ d2'
                    clear hn0' c1'
                    obtain ⟨mt, hmt⟩ : ∃ mt, mt = metTo g l i := ⟨_, rfl⟩
                    rw [← hmt]
                    have HMT := Lib.hid hmt
                    clear hmt
                    by_cases hlt : i < f
                    · as_aux_lemma =>
                        have hlt' : (i : Int) < (f : Int) := by omega
                        have hli : (0 : Int) ≤ (i : Int) := by omega
                        obtain ⟨-, nb', no', e', hnb, hnc, -⟩ := HNO.out.part i (by rw [← Hn.out]; exact hlt)
                        cases e'
                        obtain ⟨-, fb, fo, rfl, hfb, hfc, -⟩ := HED.out.part i (by rw [← Hf.out]; exact hlt)
                        replace hnc := (HBR.out.cell (p := ⟨nb, no + i, none⟩) hnb).trans hnc
                        replace hfc := (HBR.out.cell (p := ⟨fb, fo + i, none⟩) hfb).trans hfc
                        obtain ⟨x, hx⟩ : ∃ x, x = l.nodes.getD i 0 := ⟨_, rfl⟩
                        obtain ⟨e, he⟩ : ∃ e, e = l.edges.getD i 0 := ⟨_, rfl⟩
                        rw [← hx] at hnc
                        rw [← he] at hfc
                        have HX := Lib.hid hx
                        have HEE := Lib.hid he
                        clear hx he hnb hfb
                        have h8c := fun (y : World) (hy : Below wi.heap.size wi y) => (show y.cell? ⟨b, 0, none⟩ = some (.slice ea N ec) ∧ y.cell? ⟨b + 1, 1, none⟩ = some (.slice (some ⟨fb, fo, none⟩) f fc) ∧ y.cell? ⟨fb, fo + i, none⟩ = some (.int .i64 e) ∧ True ∧ True ∧ True from ⟨cells_kept hy _ _ c0', cells_kept hy _ _ d1', cells_kept hy _ _ hfc, trivial, trivial, trivial⟩)
                        have C8 := Lib.hid h8c
                        clear h8c
                        by_cases b1 : x < 0
                        · obtain rfl : r = false := by
                            have : stepOk g l i = false := by unfold stepOk nodeB; rw [← HX.out]; simp; omega
                            rw [HR3.out, List.all_eq_false.2 ⟨i, by simpa using hlt, by simp [this]⟩]; simp
                          clear HR3
                          go_wp2_with fail
                          refine wp_region_noPanic ?_
                          refine wp_region_held_drew (S := fun w' => Below wi.heap.size wi w') (by kernel_rfl) (Below.refl _ _).drew (fun hH => ?_)
                          first | (refine wpAnyH_take (i := 0) (v := undef) rfl (by kernel_rfl) (by kernel_rfl) (by kernel_rfl) (fun _ _ _ h => h) (Or.inr ⟨by rfl, rfl⟩) (by assumption) ?_) | (refine wpAnyH_take (i := 0) (v := ?v1) rfl (by kernel_rfl) (by kernel_rfl) (by kernel_rfl) (fun _ _ _ h => h) (Or.inl ⟨by rfl, ?hy1⟩) (by assumption) ?_; (case hy1 => (intro x' hxx; obtain ⟨e0, e1, e2, e3, e4, e5⟩ := C8.out x' hxx; go_simp; try with_reducible rfl)))
                          change wpAnyH _ _ _ _ _ _ _ (Act.put _ (some 70) _) _
                          simp only [Act.put, List.setIfInBounds_toArray, List.set_cons_zero, List.set_cons_succ]
                          first | (refine wpAnyH_take (i := 1) (v := undef) rfl (by kernel_rfl) (by kernel_rfl) (by kernel_rfl) (fun _ _ _ h => h) (Or.inr ⟨by rfl, rfl⟩) (by assumption) ?_) | (refine wpAnyH_take (i := 1) (v := ?v2) rfl (by kernel_rfl) (by kernel_rfl) (by kernel_rfl) (fun _ _ _ h => h) (Or.inl ⟨by rfl, ?hy2⟩) (by assumption) ?_; (case hy2 => (intro x' hxx; obtain ⟨e0, e1, e2, e3, e4, e5⟩ := C8.out x' hxx; go_simp; try with_reducible rfl)))
                          change wpAnyH _ _ _ _ _ _ _ (Act.put _ (some 71) _) _
                          simp only [Act.put, List.setIfInBounds_toArray, List.set_cons_zero, List.set_cons_succ]
                          first | (refine wpAnyH_take (i := 2) (v := undef) rfl (by kernel_rfl) (by kernel_rfl) (by kernel_rfl) (fun _ _ _ h => h) (Or.inr ⟨by rfl, rfl⟩) (by assumption) ?_) | (refine wpAnyH_take (i := 2) (v := ?v3) rfl (by kernel_rfl) (by kernel_rfl) (by kernel_rfl) (fun _ _ _ h => h) (Or.inl ⟨by rfl, ?hy3⟩) (by assumption) ?_; (case hy3 => (intro x' hxx; obtain ⟨e0, e1, e2, e3, e4, e5⟩ := C8.out x' hxx; go_simp; try with_reducible rfl)))
                          change wpAnyH _ _ _ _ _ _ _ (Act.put _ (some 72) _) _
                          simp only [Act.put, List.setIfInBounds_toArray, List.set_cons_zero, List.set_cons_succ]
                          first | (refine wpAnyH_take (i := 3) (v := undef) rfl (by kernel_rfl) (by kernel_rfl) (by kernel_rfl) (fun _ _ _ h => h) (Or.inr ⟨by rfl, rfl⟩) (by assumption) ?_) | (refine wpAnyH_take (i := 3) (v := ?v4) rfl (by kernel_rfl) (by kernel_rfl) (by kernel_rfl) (fun _ _ _ h => h) (Or.inl ⟨by rfl, ?hy4⟩) (by assumption) ?_; (case hy4 => (intro x' hxx; obtain ⟨e0, e1, e2, e3, e4, e5⟩ := C8.out x' hxx; go_simp; try with_reducible rfl)))
                          change wpAnyH _ _ _ _ _ _ _ (Act.put _ (some 73) _) _
                          simp only [Act.put, List.setIfInBounds_toArray, List.set_cons_zero, List.set_cons_succ]
                          first | (refine wpAnyH_take (i := 4) (v := undef) rfl (by kernel_rfl) (by kernel_rfl) (by kernel_rfl) (fun _ _ _ h => h) (Or.inr ⟨by rfl, rfl⟩) (by assumption) ?_) | (refine wpAnyH_take (i := 4) (v := ?v5) rfl (by kernel_rfl) (by kernel_rfl) (by kernel_rfl) (fun _ _ _ h => h) (Or.inl ⟨by rfl, ?hy5⟩) (by assumption) ?_; (case hy5 => (intro x' hxx; obtain ⟨e0, e1, e2, e3, e4, e5⟩ := C8.out x' hxx; go_simp; try with_reducible rfl)))
                          change wpAnyH _ _ _ _ _ _ _ (Act.put _ (some 74) _) _
                          simp only [Act.put, List.setIfInBounds_toArray, List.set_cons_zero, List.set_cons_succ]
                          first | (refine wpAnyH_take (i := 5) (v := undef) rfl (by kernel_rfl) (by kernel_rfl) (by kernel_rfl) (fun _ _ _ h => h) (Or.inr ⟨by rfl, rfl⟩) (by assumption) ?_) | (refine wpAnyH_take (i := 5) (v := ?v6) rfl (by kernel_rfl) (by kernel_rfl) (by kernel_rfl) (fun _ _ _ h => h) (Or.inl ⟨by rfl, ?hy6⟩) (by assumption) ?_; (case hy6 => (intro x' hxx; obtain ⟨e0, e1, e2, e3, e4, e5⟩ := C8.out x' hxx; go_simp; try with_reducible rfl)))
                          change wpAnyH _ _ _ _ _ _ _ (Act.put _ (some 75) _) _
                          simp only [Act.put, List.setIfInBounds_toArray, List.set_cons_zero, List.set_cons_succ]
                          first | (refine wpAnyH_take (i := 6) (v := undef) rfl (by kernel_rfl) (by kernel_rfl) (by kernel_rfl) (fun _ _ _ h => h) (Or.inr ⟨by rfl, rfl⟩) (by assumption) ?_) | (refine wpAnyH_take (i := 6) (v := ?v7) rfl (by kernel_rfl) (by kernel_rfl) (by kernel_rfl) (fun _ _ _ h => h) (Or.inl ⟨by rfl, ?hy7⟩) (by assumption) ?_; (case hy7 => (intro x' hxx; obtain ⟨e0, e1, e2, e3, e4, e5⟩ := C8.out x' hxx; go_simp; try with_reducible rfl)))
                          change wpAnyH _ _ _ _ _ _ _ (Act.put _ (some 76) _) _
                          simp only [Act.put, List.setIfInBounds_toArray, List.set_cons_zero, List.set_cons_succ]
                          first | (refine wpAnyH_take (i := 7) (v := undef) rfl (by kernel_rfl) (by kernel_rfl) (by kernel_rfl) (fun _ _ _ h => h) (Or.inr ⟨by rfl, rfl⟩) (by assumption) ?_) | (refine wpAnyH_take (i := 7) (v := ?v8) rfl (by kernel_rfl) (by kernel_rfl) (by kernel_rfl) (fun _ _ _ h => h) (Or.inl ⟨by rfl, ?hy8⟩) (by assumption) ?_; (case hy8 => (intro x' hxx; obtain ⟨e0, e1, e2, e3, e4, e5⟩ := C8.out x' hxx; go_simp; try with_reducible rfl)))
                          change wpAnyH _ _ _ _ _ _ _ (Act.put _ (some 77) _) _
                          simp only [Act.put, List.setIfInBounds_toArray, List.set_cons_zero, List.set_cons_succ]
                          first | (refine wpAnyH_take (i := 8) (v := undef) rfl (by kernel_rfl) (by kernel_rfl) (by kernel_rfl) (fun _ _ _ h => h) (Or.inr ⟨by rfl, rfl⟩) (by assumption) ?_) | (refine wpAnyH_take (i := 8) (v := ?v9) rfl (by kernel_rfl) (by kernel_rfl) (by kernel_rfl) (fun _ _ _ h => h) (Or.inl ⟨by rfl, ?hy9⟩) (by assumption) ?_; (case hy9 => (intro x' hxx; obtain ⟨e0, e1, e2, e3, e4, e5⟩ := C8.out x' hxx; go_simp; try with_reducible rfl)))
                          change wpAnyH _ _ _ _ _ _ _ (Act.put _ (some 78) _) _
                          simp only [Act.put, List.setIfInBounds_toArray, List.set_cons_zero, List.set_cons_succ]
                          first | (refine wpAnyH_take (i := 9) (v := undef) rfl (by kernel_rfl) (by kernel_rfl) (by kernel_rfl) (fun _ _ _ h => h) (Or.inr ⟨by rfl, rfl⟩) (by assumption) ?_) | (refine wpAnyH_take (i := 9) (v := ?v10) rfl (by kernel_rfl) (by kernel_rfl) (by kernel_rfl) (fun _ _ _ h => h) (Or.inl ⟨by rfl, ?hy10⟩) (by assumption) ?_; (case hy10 => (intro x' hxx; obtain ⟨e0, e1, e2, e3, e4, e5⟩ := C8.out x' hxx; go_simp; try with_reducible rfl)))
                          change wpAnyH _ _ _ _ _ _ _ (Act.put _ (some 79) _) _
                          simp only [Act.put, List.setIfInBounds_toArray, List.set_cons_zero, List.set_cons_succ]
                          first | (refine wpAnyH_take (i := 10) (v := undef) rfl (by kernel_rfl) (by kernel_rfl) (by kernel_rfl) (fun _ _ _ h => h) (Or.inr ⟨by rfl, rfl⟩) (by assumption) ?_) | (refine wpAnyH_take (i := 10) (v := ?v11) rfl (by kernel_rfl) (by kernel_rfl) (by kernel_rfl) (fun _ _ _ h => h) (Or.inl ⟨by rfl, ?hy11⟩) (by assumption) ?_; (case hy11 => (intro x' hxx; obtain ⟨e0, e1, e2, e3, e4, e5⟩ := C8.out x' hxx; go_simp; try with_reducible rfl)))
                          change wpAnyH _ _ _ _ _ _ _ (Act.put _ (some 80) _) _
                          simp only [Act.put, List.setIfInBounds_toArray, List.set_cons_zero, List.set_cons_succ]
                          first | (refine wpAnyH_take (i := 11) (v := undef) rfl (by kernel_rfl) (by kernel_rfl) (by kernel_rfl) (fun _ _ _ h => h) (Or.inr ⟨by rfl, rfl⟩) (by assumption) ?_) | (refine wpAnyH_take (i := 11) (v := ?v12) rfl (by kernel_rfl) (by kernel_rfl) (by kernel_rfl) (fun _ _ _ h => h) (Or.inl ⟨by rfl, ?hy12⟩) (by assumption) ?_; (case hy12 => (intro x' hxx; obtain ⟨e0, e1, e2, e3, e4, e5⟩ := C8.out x' hxx; go_simp; try with_reducible rfl)))
                          change wpAnyH _ _ _ _ _ _ _ (Act.put _ (some 81) _) _
                          simp only [Act.put, List.setIfInBounds_toArray, List.set_cons_zero, List.set_cons_succ]
                          first | (refine wpAnyH_take (i := 12) (v := undef) rfl (by kernel_rfl) (by kernel_rfl) (by kernel_rfl) (fun _ _ _ h => h) (Or.inr ⟨by rfl, rfl⟩) (by assumption) ?_) | (refine wpAnyH_take (i := 12) (v := ?v13) rfl (by kernel_rfl) (by kernel_rfl) (by kernel_rfl) (fun _ _ _ h => h) (Or.inl ⟨by rfl, ?hy13⟩) (by assumption) ?_; (case hy13 => (intro x' hxx; obtain ⟨e0, e1, e2, e3, e4, e5⟩ := C8.out x' hxx; go_simp; try with_reducible rfl)))
                          change wpAnyH _ _ _ _ _ _ _ (Act.put _ (some 82) _) _
                          simp only [Act.put, List.setIfInBounds_toArray, List.set_cons_zero, List.set_cons_succ]
                          first | (refine wpAnyH_take (i := 13) (v := undef) rfl (by kernel_rfl) (by kernel_rfl) (by kernel_rfl) (fun _ _ _ h => h) (Or.inr ⟨by rfl, rfl⟩) (by assumption) ?_) | (refine wpAnyH_take (i := 13) (v := ?v14) rfl (by kernel_rfl) (by kernel_rfl) (by kernel_rfl) (fun _ _ _ h => h) (Or.inl ⟨by rfl, ?hy14⟩) (by assumption) ?_; (case hy14 => (intro x' hxx; obtain ⟨e0, e1, e2, e3, e4, e5⟩ := C8.out x' hxx; go_simp; try with_reducible rfl)))
                          change wpAnyH _ _ _ _ _ _ _ (Act.put _ (some 83) _) _
                          simp only [Act.put, List.setIfInBounds_toArray, List.set_cons_zero, List.set_cons_succ]
                          first | (refine wpAnyH_take (i := 14) (v := undef) rfl (by kernel_rfl) (by kernel_rfl) (by kernel_rfl) (fun _ _ _ h => h) (Or.inr ⟨by rfl, rfl⟩) (by assumption) ?_) | (refine wpAnyH_take (i := 14) (v := ?v15) rfl (by kernel_rfl) (by kernel_rfl) (by kernel_rfl) (fun _ _ _ h => h) (Or.inl ⟨by rfl, ?hy15⟩) (by assumption) ?_; (case hy15 => (intro x' hxx; obtain ⟨e0, e1, e2, e3, e4, e5⟩ := C8.out x' hxx; go_simp; try with_reducible rfl)))
                          change wpAnyH _ _ _ _ _ _ _ (Act.put _ (some 84) _) _
                          simp only [Act.put, List.setIfInBounds_toArray, List.set_cons_zero, List.set_cons_succ]
                          first | (refine wpAnyH_take (i := 15) (v := undef) rfl (by kernel_rfl) (by kernel_rfl) (by kernel_rfl) (fun _ _ _ h => h) (Or.inr ⟨by rfl, rfl⟩) (by assumption) ?_) | (refine wpAnyH_take (i := 15) (v := ?v16) rfl (by kernel_rfl) (by kernel_rfl) (by kernel_rfl) (fun _ _ _ h => h) (Or.inl ⟨by rfl, ?hy16⟩) (by assumption) ?_; (case hy16 => (intro x' hxx; obtain ⟨e0, e1, e2, e3, e4, e5⟩ := C8.out x' hxx; go_simp; try with_reducible rfl)))
                          change wpAnyH _ _ _ _ _ _ _ (Act.put _ (some 85) _) _
                          simp only [Act.put, List.setIfInBounds_toArray, List.set_cons_zero, List.set_cons_succ]
                          first | (refine wpAnyH_take (i := 16) (v := undef) rfl (by kernel_rfl) (by kernel_rfl) (by kernel_rfl) (fun _ _ _ h => h) (Or.inr ⟨by rfl, rfl⟩) (by assumption) ?_) | (refine wpAnyH_take (i := 16) (v := ?v17) rfl (by kernel_rfl) (by kernel_rfl) (by kernel_rfl) (fun _ _ _ h => h) (Or.inl ⟨by rfl, ?hy17⟩) (by assumption) ?_; (case hy17 => (intro x' hxx; obtain ⟨e0, e1, e2, e3, e4, e5⟩ := C8.out x' hxx; go_simp; try with_reducible rfl)))
                          change wpAnyH _ _ _ _ _ _ _ (Act.put _ (some 86) _) _
                          simp only [Act.put, List.setIfInBounds_toArray, List.set_cons_zero, List.set_cons_succ]
                          first | (refine wpAnyH_take (i := 17) (v := undef) rfl (by kernel_rfl) (by kernel_rfl) (by kernel_rfl) (fun _ _ _ h => h) (Or.inr ⟨by rfl, rfl⟩) (by assumption) ?_) | (refine wpAnyH_take (i := 17) (v := ?v18) rfl (by kernel_rfl) (by kernel_rfl) (by kernel_rfl) (fun _ _ _ h => h) (Or.inl ⟨by rfl, ?hy18⟩) (by assumption) ?_; (case hy18 => (intro x' hxx; obtain ⟨e0, e1, e2, e3, e4, e5⟩ := C8.out x' hxx; go_simp; try with_reducible rfl)))
                          change wpAnyH _ _ _ _ _ _ _ (Act.put _ (some 87) _) _
                          simp only [Act.put, List.setIfInBounds_toArray, List.set_cons_zero, List.set_cons_succ]
                          first | (refine wpAnyH_take (i := 18) (v := undef) rfl (by kernel_rfl) (by kernel_rfl) (by kernel_rfl) (fun _ _ _ h => h) (Or.inr ⟨by rfl, rfl⟩) (by assumption) ?_) | (refine wpAnyH_take (i := 18) (v := ?v19) rfl (by kernel_rfl) (by kernel_rfl) (by kernel_rfl) (fun _ _ _ h => h) (Or.inl ⟨by rfl, ?hy19⟩) (by assumption) ?_; (case hy19 => (intro x' hxx; obtain ⟨e0, e1, e2, e3, e4, e5⟩ := C8.out x' hxx; go_simp; try with_reducible rfl)))
                          change wpAnyH _ _ _ _ _ _ _ (Act.put _ (some 88) _) _
                          simp only [Act.put, List.setIfInBounds_toArray, List.set_cons_zero, List.set_cons_succ]
                          first | (refine wpAnyH_take (i := 19) (v := undef) rfl (by kernel_rfl) (by kernel_rfl) (by kernel_rfl) (fun _ _ _ h => h) (Or.inr ⟨by rfl, rfl⟩) (by assumption) ?_) | (refine wpAnyH_take (i := 19) (v := ?v20) rfl (by kernel_rfl) (by kernel_rfl) (by kernel_rfl) (fun _ _ _ h => h) (Or.inl ⟨by rfl, ?hy20⟩) (by assumption) ?_; (case hy20 => (intro x' hxx; obtain ⟨e0, e1, e2, e3, e4, e5⟩ := C8.out x' hxx; go_simp; try with_reducible rfl)))
                          change wpAnyH _ _ _ _ _ _ _ (Act.put _ (some 89) _) _
                          simp only [Act.put, List.setIfInBounds_toArray, List.set_cons_zero, List.set_cons_succ]
                          first | (refine wpAnyH_take (i := 20) (v := undef) rfl (by kernel_rfl) (by kernel_rfl) (by kernel_rfl) (fun _ _ _ h => h) (Or.inr ⟨by rfl, rfl⟩) (by assumption) ?_) | (refine wpAnyH_take (i := 20) (v := ?v21) rfl (by kernel_rfl) (by kernel_rfl) (by kernel_rfl) (fun _ _ _ h => h) (Or.inl ⟨by rfl, ?hy21⟩) (by assumption) ?_; (case hy21 => (intro x' hxx; obtain ⟨e0, e1, e2, e3, e4, e5⟩ := C8.out x' hxx; go_simp; try with_reducible rfl)))
                          change wpAnyH _ _ _ _ _ _ _ (Act.put _ (some 90) _) _
                          simp only [Act.put, List.setIfInBounds_toArray, List.set_cons_zero, List.set_cons_succ]
                          first | (refine wpAnyH_take (i := 21) (v := undef) rfl (by kernel_rfl) (by kernel_rfl) (by kernel_rfl) (fun _ _ _ h => h) (Or.inr ⟨by rfl, rfl⟩) (by assumption) ?_) | (refine wpAnyH_take (i := 21) (v := ?v22) rfl (by kernel_rfl) (by kernel_rfl) (by kernel_rfl) (fun _ _ _ h => h) (Or.inl ⟨by rfl, ?hy22⟩) (by assumption) ?_; (case hy22 => (intro x' hxx; obtain ⟨e0, e1, e2, e3, e4, e5⟩ := C8.out x' hxx; go_simp; try with_reducible rfl)))
                          change wpAnyH _ _ _ _ _ _ _ (Act.put _ (some 91) _) _
                          simp only [Act.put, List.setIfInBounds_toArray, List.set_cons_zero, List.set_cons_succ]
                          first | (refine wpAnyH_take (i := 22) (v := undef) rfl (by kernel_rfl) (by kernel_rfl) (by kernel_rfl) (fun _ _ _ h => h) (Or.inr ⟨by rfl, rfl⟩) (by assumption) ?_) | (refine wpAnyH_take (i := 22) (v := ?v23) rfl (by kernel_rfl) (by kernel_rfl) (by kernel_rfl) (fun _ _ _ h => h) (Or.inl ⟨by rfl, ?hy23⟩) (by assumption) ?_; (case hy23 => (intro x' hxx; obtain ⟨e0, e1, e2, e3, e4, e5⟩ := C8.out x' hxx; go_simp; try with_reducible rfl)))
                          change wpAnyH _ _ _ _ _ _ _ (Act.put _ (some 92) _) _
                          simp only [Act.put, List.setIfInBounds_toArray, List.set_cons_zero, List.set_cons_succ]
                          first | (refine wpAnyH_take (i := 23) (v := undef) rfl (by kernel_rfl) (by kernel_rfl) (by kernel_rfl) (fun _ _ _ h => h) (Or.inr ⟨by rfl, rfl⟩) (by assumption) ?_) | (refine wpAnyH_take (i := 23) (v := ?v24) rfl (by kernel_rfl) (by kernel_rfl) (by kernel_rfl) (fun _ _ _ h => h) (Or.inl ⟨by rfl, ?hy24⟩) (by assumption) ?_; (case hy24 => (intro x' hxx; obtain ⟨e0, e1, e2, e3, e4, e5⟩ := C8.out x' hxx; go_simp; try with_reducible rfl)))
                          change wpAnyH _ _ _ _ _ _ _ (Act.put _ (some 93) _) _
                          simp only [Act.put, List.setIfInBounds_toArray, List.set_cons_zero, List.set_cons_succ]
                          first | (refine wpAnyH_take (i := 24) (v := undef) rfl (by kernel_rfl) (by kernel_rfl) (by kernel_rfl) (fun _ _ _ h => h) (Or.inr ⟨by rfl, rfl⟩) (by assumption) ?_) | (refine wpAnyH_take (i := 24) (v := ?v25) rfl (by kernel_rfl) (by kernel_rfl) (by kernel_rfl) (fun _ _ _ h => h) (Or.inl ⟨by rfl, ?hy25⟩) (by assumption) ?_; (case hy25 => (intro x' hxx; obtain ⟨e0, e1, e2, e3, e4, e5⟩ := C8.out x' hxx; go_simp; try with_reducible rfl)))
                          change wpAnyH _ _ _ _ _ _ _ (Act.put _ (some 94) _) _
                          simp only [Act.put, List.setIfInBounds_toArray, List.set_cons_zero, List.set_cons_succ]
                          first | (refine wpAnyH_take (i := 25) (v := undef) rfl (by kernel_rfl) (by kernel_rfl) (by kernel_rfl) (fun _ _ _ h => h) (Or.inr ⟨by rfl, rfl⟩) (by assumption) ?_) | (refine wpAnyH_take (i := 25) (v := ?v26) rfl (by kernel_rfl) (by kernel_rfl) (by kernel_rfl) (fun _ _ _ h => h) (Or.inl ⟨by rfl, ?hy26⟩) (by assumption) ?_; (case hy26 => (intro x' hxx; obtain ⟨e0, e1, e2, e3, e4, e5⟩ := C8.out x' hxx; go_simp; try with_reducible rfl)))
                          change wpAnyH _ _ _ _ _ _ _ (Act.put _ (some 95) _) _
                          simp only [Act.put, List.setIfInBounds_toArray, List.set_cons_zero, List.set_cons_succ]
                          first | (refine wpAnyH_take (i := 26) (v := undef) rfl (by kernel_rfl) (by kernel_rfl) (by kernel_rfl) (fun _ _ _ h => h) (Or.inr ⟨by rfl, rfl⟩) (by assumption) ?_) | (refine wpAnyH_take (i := 26) (v := ?v27) rfl (by kernel_rfl) (by kernel_rfl) (by kernel_rfl) (fun _ _ _ h => h) (Or.inl ⟨by rfl, ?hy27⟩) (by assumption) ?_; (case hy27 => (intro x' hxx; obtain ⟨e0, e1, e2, e3, e4, e5⟩ := C8.out x' hxx; go_simp; try with_reducible rfl)))
                          change wpAnyH _ _ _ _ _ _ _ (Act.put _ (some 96) _) _
                          simp only [Act.put, List.setIfInBounds_toArray, List.set_cons_zero, List.set_cons_succ]
                          first | (refine wpAnyH_take (i := 27) (v := undef) rfl (by kernel_rfl) (by kernel_rfl) (by kernel_rfl) (fun _ _ _ h => h) (Or.inr ⟨by rfl, rfl⟩) (by assumption) ?_) | (refine wpAnyH_take (i := 27) (v := ?v28) rfl (by kernel_rfl) (by kernel_rfl) (by kernel_rfl) (fun _ _ _ h => h) (Or.inl ⟨by rfl, ?hy28⟩) (by assumption) ?_; (case hy28 => (intro x' hxx; obtain ⟨e0, e1, e2, e3, e4, e5⟩ := C8.out x' hxx; go_simp; try with_reducible rfl)))
                          change wpAnyH _ _ _ _ _ _ _ (Act.put _ (some 97) _) _
                          simp only [Act.put, List.setIfInBounds_toArray, List.set_cons_zero, List.set_cons_succ]
                          first | (refine wpAnyH_take (i := 28) (v := undef) rfl (by kernel_rfl) (by kernel_rfl) (by kernel_rfl) (fun _ _ _ h => h) (Or.inr ⟨by rfl, rfl⟩) (by assumption) ?_) | (refine wpAnyH_take (i := 28) (v := ?v29) rfl (by kernel_rfl) (by kernel_rfl) (by kernel_rfl) (fun _ _ _ h => h) (Or.inl ⟨by rfl, ?hy29⟩) (by assumption) ?_; (case hy29 => (intro x' hxx; obtain ⟨e0, e1, e2, e3, e4, e5⟩ := C8.out x' hxx; go_simp; try with_reducible rfl)))
                          change wpAnyH _ _ _ _ _ _ _ (Act.put _ (some 98) _) _
                          simp only [Act.put, List.setIfInBounds_toArray, List.set_cons_zero, List.set_cons_succ]
                          first | (refine wpAnyH_take (i := 29) (v := undef) rfl (by kernel_rfl) (by kernel_rfl) (by kernel_rfl) (fun _ _ _ h => h) (Or.inr ⟨by rfl, rfl⟩) (by assumption) ?_) | (refine wpAnyH_take (i := 29) (v := ?v30) rfl (by kernel_rfl) (by kernel_rfl) (by kernel_rfl) (fun _ _ _ h => h) (Or.inl ⟨by rfl, ?hy30⟩) (by assumption) ?_; (case hy30 => (intro x' hxx; obtain ⟨e0, e1, e2, e3, e4, e5⟩ := C8.out x' hxx; go_simp; try with_reducible rfl)))
                          change wpAnyH _ _ _ _ _ _ _ (Act.put _ (some 99) _) _
                          simp only [Act.put, List.setIfInBounds_toArray, List.set_cons_zero, List.set_cons_succ]
                          first | (refine wpAnyH_take (i := 30) (v := undef) rfl (by kernel_rfl) (by kernel_rfl) (by kernel_rfl) (fun _ _ _ h => h) (Or.inr ⟨by rfl, rfl⟩) (by assumption) ?_) | (refine wpAnyH_take (i := 30) (v := ?v31) rfl (by kernel_rfl) (by kernel_rfl) (by kernel_rfl) (fun _ _ _ h => h) (Or.inl ⟨by rfl, ?hy31⟩) (by assumption) ?_; (case hy31 => (intro x' hxx; obtain ⟨e0, e1, e2, e3, e4, e5⟩ := C8.out x' hxx; go_simp; try with_reducible rfl)))
                          change wpAnyH _ _ _ _ _ _ _ (Act.put _ (some 100) _) _
                          simp only [Act.put, List.setIfInBounds_toArray, List.set_cons_zero, List.set_cons_succ]
                          refine wpAnyH_done (by kernel_rfl) ?_ _
                          refine NoPanic.normal ?_
                          clear hH
                          go_wp2_with fail
                          go_ret
                          exact ⟨by first | rfl | simp, HBR.out.drew⟩
                        · by_cases b2 : (N : Int) ≤ x
                          · obtain rfl : r = false := by
                              have : stepOk g l i = false := by unfold stepOk nodeB; rw [← HX.out, ← HNN.out]; simp; omega
                              rw [HR3.out, List.all_eq_false.2 ⟨i, by simpa using hlt, by simp [this]⟩]; simp
                            have b2' : x ≥ (N : Int) := b2
                            have b1d : decide (x < 0) = false := by simp; omega
                            have b2d : decide ((N : Int) ≤ x) = true := by simp; omega
                            clear HR3
                            go_wp2_with fail
                            refine wp_region_noPanic ?_
                            refine wp_region_held_drew (S := fun w' => Below wi.heap.size wi w') (by kernel_rfl) (Below.refl _ _).drew (fun hH => ?_)
                            first | (refine wpAnyH_take (i := 0) (v := undef) rfl (by kernel_rfl) (by kernel_rfl) (by kernel_rfl) (fun _ _ _ h => h) (Or.inr ⟨by rfl, rfl⟩) (by assumption) ?_) | (refine wpAnyH_take (i := 0) (v := ?v32) rfl (by kernel_rfl) (by kernel_rfl) (by kernel_rfl) (fun _ _ _ h => h) (Or.inl ⟨by rfl, ?hy32⟩) (by assumption) ?_; (case hy32 => (intro x' hxx; obtain ⟨e0, e1, e2, e3, e4, e5⟩ := C8.out x' hxx; go_simp; try with_reducible rfl)))
                            change wpAnyH _ _ _ _ _ _ _ (Act.put _ (some 70) _) _
                            simp only [Act.put, List.setIfInBounds_toArray, List.set_cons_zero, List.set_cons_succ]
                            first | (refine wpAnyH_take (i := 1) (v := undef) rfl (by kernel_rfl) (by kernel_rfl) (by kernel_rfl) (fun _ _ _ h => h) (Or.inr ⟨by rfl, rfl⟩) (by assumption) ?_) | (refine wpAnyH_take (i := 1) (v := ?v33) rfl (by kernel_rfl) (by kernel_rfl) (by kernel_rfl) (fun _ _ _ h => h) (Or.inl ⟨by rfl, ?hy33⟩) (by assumption) ?_; (case hy33 => (intro x' hxx; obtain ⟨e0, e1, e2, e3, e4, e5⟩ := C8.out x' hxx; go_simp; try with_reducible rfl)))
                            change wpAnyH _ _ _ _ _ _ _ (Act.put _ (some 71) _) _
                            simp only [Act.put, List.setIfInBounds_toArray, List.set_cons_zero, List.set_cons_succ]
                            first | (refine wpAnyH_take (i := 2) (v := undef) rfl (by kernel_rfl) (by kernel_rfl) (by kernel_rfl) (fun _ _ _ h => h) (Or.inr ⟨by rfl, rfl⟩) (by assumption) ?_) | (refine wpAnyH_take (i := 2) (v := ?v34) rfl (by kernel_rfl) (by kernel_rfl) (by kernel_rfl) (fun _ _ _ h => h) (Or.inl ⟨by rfl, ?hy34⟩) (by assumption) ?_; (case hy34 => (intro x' hxx; obtain ⟨e0, e1, e2, e3, e4, e5⟩ := C8.out x' hxx; go_simp; try with_reducible rfl)))
                            change wpAnyH _ _ _ _ _ _ _ (Act.put _ (some 72) _) _
                            simp only [Act.put, List.setIfInBounds_toArray, List.set_cons_zero, List.set_cons_succ]
                            first | (refine wpAnyH_take (i := 3) (v := undef) rfl (by kernel_rfl) (by kernel_rfl) (by kernel_rfl) (fun _ _ _ h => h) (Or.inr ⟨by rfl, rfl⟩) (by assumption) ?_) | (refine wpAnyH_take (i := 3) (v := ?v35) rfl (by kernel_rfl) (by kernel_rfl) (by kernel_rfl) (fun _ _ _ h => h) (Or.inl ⟨by rfl, ?hy35⟩) (by assumption) ?_; (case hy35 => (intro x' hxx; obtain ⟨e0, e1, e2, e3, e4, e5⟩ := C8.out x' hxx; go_simp; try with_reducible rfl)))
                            change wpAnyH _ _ _ _ _ _ _ (Act.put _ (some 73) _) _
                            simp only [Act.put, List.setIfInBounds_toArray, List.set_cons_zero, List.set_cons_succ]
                            first | (refine wpAnyH_take (i := 4) (v := undef) rfl (by kernel_rfl) (by kernel_rfl) (by kernel_rfl) (fun _ _ _ h => h) (Or.inr ⟨by rfl, rfl⟩) (by assumption) ?_) | (refine wpAnyH_take (i := 4) (v := ?v36) rfl (by kernel_rfl) (by kernel_rfl) (by kernel_rfl) (fun _ _ _ h => h) (Or.inl ⟨by rfl, ?hy36⟩) (by assumption) ?_; (case hy36 => (intro x' hxx; obtain ⟨e0, e1, e2, e3, e4, e5⟩ := C8.out x' hxx; go_simp; try with_reducible rfl)))
                            change wpAnyH _ _ _ _ _ _ _ (Act.put _ (some 74) _) _
                            simp only [Act.put, List.setIfInBounds_toArray, List.set_cons_zero, List.set_cons_succ]
                            first | (refine wpAnyH_take (i := 5) (v := undef) rfl (by kernel_rfl) (by kernel_rfl) (by kernel_rfl) (fun _ _ _ h => h) (Or.inr ⟨by rfl, rfl⟩) (by assumption) ?_) | (refine wpAnyH_take (i := 5) (v := ?v37) rfl (by kernel_rfl) (by kernel_rfl) (by kernel_rfl) (fun _ _ _ h => h) (Or.inl ⟨by rfl, ?hy37⟩) (by assumption) ?_; (case hy37 => (intro x' hxx; obtain ⟨e0, e1, e2, e3, e4, e5⟩ := C8.out x' hxx; go_simp; try with_reducible rfl)))
                            change wpAnyH _ _ _ _ _ _ _ (Act.put _ (some 75) _) _
                            simp only [Act.put, List.setIfInBounds_toArray, List.set_cons_zero, List.set_cons_succ]
                            first | (refine wpAnyH_take (i := 6) (v := undef) rfl (by kernel_rfl) (by kernel_rfl) (by kernel_rfl) (fun _ _ _ h => h) (Or.inr ⟨by rfl, rfl⟩) (by assumption) ?_) | (refine wpAnyH_take (i := 6) (v := ?v38) rfl (by kernel_rfl) (by kernel_rfl) (by kernel_rfl) (fun _ _ _ h => h) (Or.inl ⟨by rfl, ?hy38⟩) (by assumption) ?_; (case hy38 => (intro x' hxx; obtain ⟨e0, e1, e2, e3, e4, e5⟩ := C8.out x' hxx; go_simp; try with_reducible rfl)))
                            change wpAnyH _ _ _ _ _ _ _ (Act.put _ (some 76) _) _
                            simp only [Act.put, List.setIfInBounds_toArray, List.set_cons_zero, List.set_cons_succ]
                            first | (refine wpAnyH_take (i := 7) (v := undef) rfl (by kernel_rfl) (by kernel_rfl) (by kernel_rfl) (fun _ _ _ h => h) (Or.inr ⟨by rfl, rfl⟩) (by assumption) ?_) | (refine wpAnyH_take (i := 7) (v := ?v39) rfl (by kernel_rfl) (by kernel_rfl) (by kernel_rfl) (fun _ _ _ h => h) (Or.inl ⟨by rfl, ?hy39⟩) (by assumption) ?_; (case hy39 => (intro x' hxx; obtain ⟨e0, e1, e2, e3, e4, e5⟩ := C8.out x' hxx; go_simp; try with_reducible rfl)))
                            change wpAnyH _ _ _ _ _ _ _ (Act.put _ (some 77) _) _
                            simp only [Act.put, List.setIfInBounds_toArray, List.set_cons_zero, List.set_cons_succ]
                            first | (refine wpAnyH_take (i := 8) (v := undef) rfl (by kernel_rfl) (by kernel_rfl) (by kernel_rfl) (fun _ _ _ h => h) (Or.inr ⟨by rfl, rfl⟩) (by assumption) ?_) | (refine wpAnyH_take (i := 8) (v := ?v40) rfl (by kernel_rfl) (by kernel_rfl) (by kernel_rfl) (fun _ _ _ h => h) (Or.inl ⟨by rfl, ?hy40⟩) (by assumption) ?_; (case hy40 => (intro x' hxx; obtain ⟨e0, e1, e2, e3, e4, e5⟩ := C8.out x' hxx; go_simp; try with_reducible rfl)))
                            change wpAnyH _ _ _ _ _ _ _ (Act.put _ (some 78) _) _
                            simp only [Act.put, List.setIfInBounds_toArray, List.set_cons_zero, List.set_cons_succ]
                            first | (refine wpAnyH_take (i := 9) (v := undef) rfl (by kernel_rfl) (by kernel_rfl) (by kernel_rfl) (fun _ _ _ h => h) (Or.inr ⟨by rfl, rfl⟩) (by assumption) ?_) | (refine wpAnyH_take (i := 9) (v := ?v41) rfl (by kernel_rfl) (by kernel_rfl) (by kernel_rfl) (fun _ _ _ h => h) (Or.inl ⟨by rfl, ?hy41⟩) (by assumption) ?_; (case hy41 => (intro x' hxx; obtain ⟨e0, e1, e2, e3, e4, e5⟩ := C8.out x' hxx; go_simp; try with_reducible rfl)))
                            change wpAnyH _ _ _ _ _ _ _ (Act.put _ (some 79) _) _
                            simp only [Act.put, List.setIfInBounds_toArray, List.set_cons_zero, List.set_cons_succ]
                            first | (refine wpAnyH_take (i := 10) (v := undef) rfl (by kernel_rfl) (by kernel_rfl) (by kernel_rfl) (fun _ _ _ h => h) (Or.inr ⟨by rfl, rfl⟩) (by assumption) ?_) | (refine wpAnyH_take (i := 10) (v := ?v42) rfl (by kernel_rfl) (by kernel_rfl) (by kernel_rfl) (fun _ _ _ h => h) (Or.inl ⟨by rfl, ?hy42⟩) (by assumption) ?_; (case hy42 => (intro x' hxx; obtain ⟨e0, e1, e2, e3, e4, e5⟩ := C8.out x' hxx; go_simp; try with_reducible rfl)))
                            change wpAnyH _ _ _ _ _ _ _ (Act.put _ (some 80) _) _
                            simp only [Act.put, List.setIfInBounds_toArray, List.set_cons_zero, List.set_cons_succ]
                            first | (refine wpAnyH_take (i := 11) (v := undef) rfl (by kernel_rfl) (by kernel_rfl) (by kernel_rfl) (fun _ _ _ h => h) (Or.inr ⟨by rfl, rfl⟩) (by assumption) ?_) | (refine wpAnyH_take (i := 11) (v := ?v43) rfl (by kernel_rfl) (by kernel_rfl) (by kernel_rfl) (fun _ _ _ h => h) (Or.inl ⟨by rfl, ?hy43⟩) (by assumption) ?_; (case hy43 => (intro x' hxx; obtain ⟨e0, e1, e2, e3, e4, e5⟩ := C8.out x' hxx; go_simp; try with_reducible rfl)))
                            change wpAnyH _ _ _ _ _ _ _ (Act.put _ (some 81) _) _
                            simp only [Act.put, List.setIfInBounds_toArray, List.set_cons_zero, List.set_cons_succ]
                            first | (refine wpAnyH_take (i := 12) (v := undef) rfl (by kernel_rfl) (by kernel_rfl) (by kernel_rfl) (fun _ _ _ h => h) (Or.inr ⟨by rfl, rfl⟩) (by assumption) ?_) | (refine wpAnyH_take (i := 12) (v := ?v44) rfl (by kernel_rfl) (by kernel_rfl) (by kernel_rfl) (fun _ _ _ h => h) (Or.inl ⟨by rfl, ?hy44⟩) (by assumption) ?_; (case hy44 => (intro x' hxx; obtain ⟨e0, e1, e2, e3, e4, e5⟩ := C8.out x' hxx; go_simp; try with_reducible rfl)))
                            change wpAnyH _ _ _ _ _ _ _ (Act.put _ (some 82) _) _
                            simp only [Act.put, List.setIfInBounds_toArray, List.set_cons_zero, List.set_cons_succ]
                            first | (refine wpAnyH_take (i := 13) (v := undef) rfl (by kernel_rfl) (by kernel_rfl) (by kernel_rfl) (fun _ _ _ h => h) (Or.inr ⟨by rfl, rfl⟩) (by assumption) ?_) | (refine wpAnyH_take (i := 13) (v := ?v45) rfl (by kernel_rfl) (by kernel_rfl) (by kernel_rfl) (fun _ _ _ h => h) (Or.inl ⟨by rfl, ?hy45⟩) (by assumption) ?_; (case hy45 => (intro x' hxx; obtain ⟨e0, e1, e2, e3, e4, e5⟩ := C8.out x' hxx; go_simp; try with_reducible rfl)))
                            change wpAnyH _ _ _ _ _ _ _ (Act.put _ (some 83) _) _
                            simp only [Act.put, List.setIfInBounds_toArray, List.set_cons_zero, List.set_cons_succ]
                            first | (refine wpAnyH_take (i := 14) (v := undef) rfl (by kernel_rfl) (by kernel_rfl) (by kernel_rfl) (fun _ _ _ h => h) (Or.inr ⟨by rfl, rfl⟩) (by assumption) ?_) | (refine wpAnyH_take (i := 14) (v := ?v46) rfl (by kernel_rfl) (by kernel_rfl) (by kernel_rfl) (fun _ _ _ h => h) (Or.inl ⟨by rfl, ?hy46⟩) (by assumption) ?_; (case hy46 => (intro x' hxx; obtain ⟨e0, e1, e2, e3, e4, e5⟩ := C8.out x' hxx; go_simp; try with_reducible rfl)))
                            change wpAnyH _ _ _ _ _ _ _ (Act.put _ (some 84) _) _
                            simp only [Act.put, List.setIfInBounds_toArray, List.set_cons_zero, List.set_cons_succ]
                            first | (refine wpAnyH_take (i := 15) (v := undef) rfl (by kernel_rfl) (by kernel_rfl) (by kernel_rfl) (fun _ _ _ h => h) (Or.inr ⟨by rfl, rfl⟩) (by assumption) ?_) | (refine wpAnyH_take (i := 15) (v := ?v47) rfl (by kernel_rfl) (by kernel_rfl) (by kernel_rfl) (fun _ _ _ h => h) (Or.inl ⟨by rfl, ?hy47⟩) (by assumption) ?_; (case hy47 => (intro x' hxx; obtain ⟨e0, e1, e2, e3, e4, e5⟩ := C8.out x' hxx; go_simp; try with_reducible rfl)))
                            change wpAnyH _ _ _ _ _ _ _ (Act.put _ (some 85) _) _
                            simp only [Act.put, List.setIfInBounds_toArray, List.set_cons_zero, List.set_cons_succ]
                            first | (refine wpAnyH_take (i := 16) (v := undef) rfl (by kernel_rfl) (by kernel_rfl) (by kernel_rfl) (fun _ _ _ h => h) (Or.inr ⟨by rfl, rfl⟩) (by assumption) ?_) | (refine wpAnyH_take (i := 16) (v := ?v48) rfl (by kernel_rfl) (by kernel_rfl) (by kernel_rfl) (fun _ _ _ h => h) (Or.inl ⟨by rfl, ?hy48⟩) (by assumption) ?_; (case hy48 => (intro x' hxx; obtain ⟨e0, e1, e2, e3, e4, e5⟩ := C8.out x' hxx; go_simp; try with_reducible rfl)))
                            change wpAnyH _ _ _ _ _ _ _ (Act.put _ (some 86) _) _
                            simp only [Act.put, List.setIfInBounds_toArray, List.set_cons_zero, List.set_cons_succ]
                            first | (refine wpAnyH_take (i := 17) (v := undef) rfl (by kernel_rfl) (by kernel_rfl) (by kernel_rfl) (fun _ _ _ h => h) (Or.inr ⟨by rfl, rfl⟩) (by assumption) ?_) | (refine wpAnyH_take (i := 17) (v := ?v49) rfl (by kernel_rfl) (by kernel_rfl) (by kernel_rfl) (fun _ _ _ h => h) (Or.inl ⟨by rfl, ?hy49⟩) (by assumption) ?_; (case hy49 => (intro x' hxx; obtain ⟨e0, e1, e2, e3, e4, e5⟩ := C8.out x' hxx; go_simp; try with_reducible rfl)))
                            change wpAnyH _ _ _ _ _ _ _ (Act.put _ (some 87) _) _
                            simp only [Act.put, List.setIfInBounds_toArray, List.set_cons_zero, List.set_cons_succ]
                            first | (refine wpAnyH_take (i := 18) (v := undef) rfl (by kernel_rfl) (by kernel_rfl) (by kernel_rfl) (fun _ _ _ h => h) (Or.inr ⟨by rfl, rfl⟩) (by assumption) ?_) | (refine wpAnyH_take (i := 18) (v := ?v50) rfl (by kernel_rfl) (by kernel_rfl) (by kernel_rfl) (fun _ _ _ h => h) (Or.inl ⟨by rfl, ?hy50⟩) (by assumption) ?_; (case hy50 => (intro x' hxx; obtain ⟨e0, e1, e2, e3, e4, e5⟩ := C8.out x' hxx; go_simp; try with_reducible rfl)))
                            change wpAnyH _ _ _ _ _ _ _ (Act.put _ (some 88) _) _
                            simp only [Act.put, List.setIfInBounds_toArray, List.set_cons_zero, List.set_cons_succ]
                            first | (refine wpAnyH_take (i := 19) (v := undef) rfl (by kernel_rfl) (by kernel_rfl) (by kernel_rfl) (fun _ _ _ h => h) (Or.inr ⟨by rfl, rfl⟩) (by assumption) ?_) | (refine wpAnyH_take (i := 19) (v := ?v51) rfl (by kernel_rfl) (by kernel_rfl) (by kernel_rfl) (fun _ _ _ h => h) (Or.inl ⟨by rfl, ?hy51⟩) (by assumption) ?_; (case hy51 => (intro x' hxx; obtain ⟨e0, e1, e2, e3, e4, e5⟩ := C8.out x' hxx; go_simp; try with_reducible rfl)))
                            change wpAnyH _ _ _ _ _ _ _ (Act.put _ (some 89) _) _
                            simp only [Act.put, List.setIfInBounds_toArray, List.set_cons_zero, List.set_cons_succ]
                            first | (refine wpAnyH_take (i := 20) (v := undef) rfl (by kernel_rfl) (by kernel_rfl) (by kernel_rfl) (fun _ _ _ h => h) (Or.inr ⟨by rfl, rfl⟩) (by assumption) ?_) | (refine wpAnyH_take (i := 20) (v := ?v52) rfl (by kernel_rfl) (by kernel_rfl) (by kernel_rfl) (fun _ _ _ h => h) (Or.inl ⟨by rfl, ?hy52⟩) (by assumption) ?_; (case hy52 => (intro x' hxx; obtain ⟨e0, e1, e2, e3, e4, e5⟩ := C8.out x' hxx; go_simp; try with_reducible rfl)))
                            change wpAnyH _ _ _ _ _ _ _ (Act.put _ (some 90) _) _
                            simp only [Act.put, List.setIfInBounds_toArray, List.set_cons_zero, List.set_cons_succ]
                            first | (refine wpAnyH_take (i := 21) (v := undef) rfl (by kernel_rfl) (by kernel_rfl) (by kernel_rfl) (fun _ _ _ h => h) (Or.inr ⟨by rfl, rfl⟩) (by assumption) ?_) | (refine wpAnyH_take (i := 21) (v := ?v53) rfl (by kernel_rfl) (by kernel_rfl) (by kernel_rfl) (fun _ _ _ h => h) (Or.inl ⟨by rfl, ?hy53⟩) (by assumption) ?_; (case hy53 => (intro x' hxx; obtain ⟨e0, e1, e2, e3, e4, e5⟩ := C8.out x' hxx; go_simp; try with_reducible rfl)))
                            change wpAnyH _ _ _ _ _ _ _ (Act.put _ (some 91) _) _
                            simp only [Act.put, List.setIfInBounds_toArray, List.set_cons_zero, List.set_cons_succ]
                            first | (refine wpAnyH_take (i := 22) (v := undef) rfl (by kernel_rfl) (by kernel_rfl) (by kernel_rfl) (fun _ _ _ h => h) (Or.inr ⟨by rfl, rfl⟩) (by assumption) ?_) | (refine wpAnyH_take (i := 22) (v := ?v54) rfl (by kernel_rfl) (by kernel_rfl) (by kernel_rfl) (fun _ _ _ h => h) (Or.inl ⟨by rfl, ?hy54⟩) (by assumption) ?_; (case hy54 => (intro x' hxx; obtain ⟨e0, e1, e2, e3, e4, e5⟩ := C8.out x' hxx; go_simp; try with_reducible rfl)))
                            change wpAnyH _ _ _ _ _ _ _ (Act.put _ (some 92) _) _
                            simp only [Act.put, List.setIfInBounds_toArray, List.set_cons_zero, List.set_cons_succ]
                            first | (refine wpAnyH_take (i := 23) (v := undef) rfl (by kernel_rfl) (by kernel_rfl) (by kernel_rfl) (fun _ _ _ h => h) (Or.inr ⟨by rfl, rfl⟩) (by assumption) ?_) | (refine wpAnyH_take (i := 23) (v := ?v55) rfl (by kernel_rfl) (by kernel_rfl) (by kernel_rfl) (fun _ _ _ h => h) (Or.inl ⟨by rfl, ?hy55⟩) (by assumption) ?_; (case hy55 => (intro x' hxx; obtain ⟨e0, e1, e2, e3, e4, e5⟩ := C8.out x' hxx; go_simp; try with_reducible rfl)))
                            change wpAnyH _ _ _ _ _ _ _ (Act.put _ (some 93) _) _
                            simp only [Act.put, List.setIfInBounds_toArray, List.set_cons_zero, List.set_cons_succ]
                            first | (refine wpAnyH_take (i := 24) (v := undef) rfl (by kernel_rfl) (by kernel_rfl) (by kernel_rfl) (fun _ _ _ h => h) (Or.inr ⟨by rfl, rfl⟩) (by assumption) ?_) | (refine wpAnyH_take (i := 24) (v := ?v56) rfl (by kernel_rfl) (by kernel_rfl) (by kernel_rfl) (fun _ _ _ h => h) (Or.inl ⟨by rfl, ?hy56⟩) (by assumption) ?_; (case hy56 => (intro x' hxx; obtain ⟨e0, e1, e2, e3, e4, e5⟩ := C8.out x' hxx; go_simp; try with_reducible rfl)))
                            change wpAnyH _ _ _ _ _ _ _ (Act.put _ (some 94) _) _
                            simp only [Act.put, List.setIfInBounds_toArray, List.set_cons_zero, List.set_cons_succ]
                            first | (refine wpAnyH_take (i := 25) (v := undef) rfl (by kernel_rfl) (by kernel_rfl) (by kernel_rfl) (fun _ _ _ h => h) (Or.inr ⟨by rfl, rfl⟩) (by assumption) ?_) | (refine wpAnyH_take (i := 25) (v := ?v57) rfl (by kernel_rfl) (by kernel_rfl) (by kernel_rfl) (fun _ _ _ h => h) (Or.inl ⟨by rfl, ?hy57⟩) (by assumption) ?_; (case hy57 => (intro x' hxx; obtain ⟨e0, e1, e2, e3, e4, e5⟩ := C8.out x' hxx; go_simp; try with_reducible rfl)))
                            change wpAnyH _ _ _ _ _ _ _ (Act.put _ (some 95) _) _
                            simp only [Act.put, List.setIfInBounds_toArray, List.set_cons_zero, List.set_cons_succ]
                            first | (refine wpAnyH_take (i := 26) (v := undef) rfl (by kernel_rfl) (by kernel_rfl) (by kernel_rfl) (fun _ _ _ h => h) (Or.inr ⟨by rfl, rfl⟩) (by assumption) ?_) | (refine wpAnyH_take (i := 26) (v := ?v58) rfl (by kernel_rfl) (by kernel_rfl) (by kernel_rfl) (fun _ _ _ h => h) (Or.inl ⟨by rfl, ?hy58⟩) (by assumption) ?_; (case hy58 => (intro x' hxx; obtain ⟨e0, e1, e2, e3, e4, e5⟩ := C8.out x' hxx; go_simp; try with_reducible rfl)))
                            change wpAnyH _ _ _ _ _ _ _ (Act.put _ (some 96) _) _
                            simp only [Act.put, List.setIfInBounds_toArray, List.set_cons_zero, List.set_cons_succ]
                            first | (refine wpAnyH_take (i := 27) (v := undef) rfl (by kernel_rfl) (by kernel_rfl) (by kernel_rfl) (fun _ _ _ h => h) (Or.inr ⟨by rfl, rfl⟩) (by assumption) ?_) | (refine wpAnyH_take (i := 27) (v := ?v59) rfl (by kernel_rfl) (by kernel_rfl) (by kernel_rfl) (fun _ _ _ h => h) (Or.inl ⟨by rfl, ?hy59⟩) (by assumption) ?_; (case hy59 => (intro x' hxx; obtain ⟨e0, e1, e2, e3, e4, e5⟩ := C8.out x' hxx; go_simp; try with_reducible rfl)))
                            change wpAnyH _ _ _ _ _ _ _ (Act.put _ (some 97) _) _
                            simp only [Act.put, List.setIfInBounds_toArray, List.set_cons_zero, List.set_cons_succ]
                            first | (refine wpAnyH_take (i := 28) (v := undef) rfl (by kernel_rfl) (by kernel_rfl) (by kernel_rfl) (fun _ _ _ h => h) (Or.inr ⟨by rfl, rfl⟩) (by assumption) ?_) | (refine wpAnyH_take (i := 28) (v := ?v60) rfl (by kernel_rfl) (by kernel_rfl) (by kernel_rfl) (fun _ _ _ h => h) (Or.inl ⟨by rfl, ?hy60⟩) (by assumption) ?_; (case hy60 => (intro x' hxx; obtain ⟨e0, e1, e2, e3, e4, e5⟩ := C8.out x' hxx; go_simp; try with_reducible rfl)))
                            change wpAnyH _ _ _ _ _ _ _ (Act.put _ (some 98) _) _
                            simp only [Act.put, List.setIfInBounds_toArray, List.set_cons_zero, List.set_cons_succ]
                            first | (refine wpAnyH_take (i := 29) (v := undef) rfl (by kernel_rfl) (by kernel_rfl) (by kernel_rfl) (fun _ _ _ h => h) (Or.inr ⟨by rfl, rfl⟩) (by assumption) ?_) | (refine wpAnyH_take (i := 29) (v := ?v61) rfl (by kernel_rfl) (by kernel_rfl) (by kernel_rfl) (fun _ _ _ h => h) (Or.inl ⟨by rfl, ?hy61⟩) (by assumption) ?_; (case hy61 => (intro x' hxx; obtain ⟨e0, e1, e2, e3, e4, e5⟩ := C8.out x' hxx; go_simp; try with_reducible rfl)))
                            change wpAnyH _ _ _ _ _ _ _ (Act.put _ (some 99) _) _
                            simp only [Act.put, List.setIfInBounds_toArray, List.set_cons_zero, List.set_cons_succ]
                            first | (refine wpAnyH_take (i := 30) (v := undef) rfl (by kernel_rfl) (by kernel_rfl) (by kernel_rfl) (fun _ _ _ h => h) (Or.inr ⟨by rfl, rfl⟩) (by assumption) ?_) | (refine wpAnyH_take (i := 30) (v := ?v62) rfl (by kernel_rfl) (by kernel_rfl) (by kernel_rfl) (fun _ _ _ h => h) (Or.inl ⟨by rfl, ?hy62⟩) (by assumption) ?_; (case hy62 => (intro x' hxx; obtain ⟨e0, e1, e2, e3, e4, e5⟩ := C8.out x' hxx; go_simp; try with_reducible rfl)))
                            change wpAnyH _ _ _ _ _ _ _ (Act.put _ (some 100) _) _
                            simp only [Act.put, List.setIfInBounds_toArray, List.set_cons_zero, List.set_cons_succ]
                            refine wpAnyH_done (by kernel_rfl) ?_ _
                            refine NoPanic.normal ?_
                            clear hH
                            go_wp2_with fail
                            go_ret
                            exact ⟨by first | rfl | simp, HBR.out.drew⟩
                          · obtain ⟨xn, rfl⟩ : ∃ xn : Nat, x = (xn : Int) := ⟨x.toNat, by omega⟩
                            have hxn : xn < N := by omega
                            have hxi : (xn : Int) < (N : Int) := by omega
                            obtain ⟨-, eb, eo, ka, kc, rfl, heb, hec, hek⟩ := HE.out.part xn (by rw [← HNN.out]; exact hxn)
                            obtain ⟨ln, hln⟩ : ∃ ln, ln = (g.edges.getD xn []).length := ⟨_, rfl⟩
                            rw [← hln] at hec hek
                            replace hec := (HBR.out.cell (p := ⟨eb, eo + xn, none⟩) heb).trans hec
                            have hlb : ln ≤ 9223372036854775807 := by obtain ⟨_, _, _, h⟩ := hek.slice; omega
                            have HLN := Lib.hid hln
                            have HEK := Lib.hid (hek.below HBR.out)
                            have h8c := fun (y : World) (hy : Below wi.heap.size wi y) => (show y.cell? ⟨b, 0, none⟩ = some (.slice (some ⟨eb, eo, none⟩) N ec) ∧ y.cell? ⟨b + 1, 1, none⟩ = some (.slice (some ⟨fb, fo, none⟩) f fc) ∧ y.cell? ⟨fb, fo + i, none⟩ = some (.int .i64 e) ∧ y.cell? ⟨eb, eo + xn, none⟩ = some (.slice ka ln kc) ∧ True ∧ True from ⟨cells_kept hy _ _ c0', cells_kept hy _ _ d1', cells_kept hy _ _ hfc, cells_kept hy _ _ hec, trivial, trivial⟩)
                            replace C8 := Lib.hid h8c
                            clear h8c hek hln heb
                            have b1d : decide ((xn : Int) < 0) = false := by simp
                            have b2d : decide ((N : Int) ≤ (xn : Int)) = false := by simp; omega
                            have b2e : decide (N ≤ xn) = false := by simp; omega
                            by_cases b3 : e < 0
                            · obtain rfl : r = false := by
                                have : stepOk g l i = false := by unfold stepOk nodeB; rw [← HX.out, ← HEE.out]; simp; omega
                                rw [HR3.out, List.all_eq_false.2 ⟨i, by simpa using hlt, by simp [this]⟩]; simp
                              have b3d : decide (e < 0) = true := by simp; omega
                              clear HR3
                              go_wp2_with fail
                              refine wp_region_noPanic ?_
                              refine wp_region_held_drew (S := fun w' => Below wi.heap.size wi w') (by kernel_rfl) (Below.refl _ _).drew (fun hH => ?_)
                              first | (refine wpAnyH_take (i := 0) (v := undef) rfl (by kernel_rfl) (by kernel_rfl) (by kernel_rfl) (fun _ _ _ h => h) (Or.inr ⟨by rfl, rfl⟩) (by assumption) ?_) | (refine wpAnyH_take (i := 0) (v := ?v63) rfl (by kernel_rfl) (by kernel_rfl) (by kernel_rfl) (fun _ _ _ h => h) (Or.inl ⟨by rfl, ?hy63⟩) (by assumption) ?_; (case hy63 => (intro x' hxx; obtain ⟨e0, e1, e2, e3, e4, e5⟩ := C8.out x' hxx; go_simp; try with_reducible rfl)))
                              change wpAnyH _ _ _ _ _ _ _ (Act.put _ (some 70) _) _
                              simp only [Act.put, List.setIfInBounds_toArray, List.set_cons_zero, List.set_cons_succ]
                              first | (refine wpAnyH_take (i := 1) (v := undef) rfl (by kernel_rfl) (by kernel_rfl) (by kernel_rfl) (fun _ _ _ h => h) (Or.inr ⟨by rfl, rfl⟩) (by assumption) ?_) | (refine wpAnyH_take (i := 1) (v := ?v64) rfl (by kernel_rfl) (by kernel_rfl) (by kernel_rfl) (fun _ _ _ h => h) (Or.inl ⟨by rfl, ?hy64⟩) (by assumption) ?_; (case hy64 => (intro x' hxx; obtain ⟨e0, e1, e2, e3, e4, e5⟩ := C8.out x' hxx; go_simp; try with_reducible rfl)))
                              change wpAnyH _ _ _ _ _ _ _ (Act.put _ (some 71) _) _
                              simp only [Act.put, List.setIfInBounds_toArray, List.set_cons_zero, List.set_cons_succ]
                              first | (refine wpAnyH_take (i := 2) (v := undef) rfl (by kernel_rfl) (by kernel_rfl) (by kernel_rfl) (fun _ _ _ h => h) (Or.inr ⟨by rfl, rfl⟩) (by assumption) ?_) | (refine wpAnyH_take (i := 2) (v := ?v65) rfl (by kernel_rfl) (by kernel_rfl) (by kernel_rfl) (fun _ _ _ h => h) (Or.inl ⟨by rfl, ?hy65⟩) (by assumption) ?_; (case hy65 => (intro x' hxx; obtain ⟨e0, e1, e2, e3, e4, e5⟩ := C8.out x' hxx; go_simp; try with_reducible rfl)))
                              change wpAnyH _ _ _ _ _ _ _ (Act.put _ (some 72) _) _
                              simp only [Act.put, List.setIfInBounds_toArray, List.set_cons_zero, List.set_cons_succ]
                              first | (refine wpAnyH_take (i := 3) (v := undef) rfl (by kernel_rfl) (by kernel_rfl) (by kernel_rfl) (fun _ _ _ h => h) (Or.inr ⟨by rfl, rfl⟩) (by assumption) ?_) | (refine wpAnyH_take (i := 3) (v := ?v66) rfl (by kernel_rfl) (by kernel_rfl) (by kernel_rfl) (fun _ _ _ h => h) (Or.inl ⟨by rfl, ?hy66⟩) (by assumption) ?_; (case hy66 => (intro x' hxx; obtain ⟨e0, e1, e2, e3, e4, e5⟩ := C8.out x' hxx; go_simp; try with_reducible rfl)))
                              change wpAnyH _ _ _ _ _ _ _ (Act.put _ (some 73) _) _
                              simp only [Act.put, List.setIfInBounds_toArray, List.set_cons_zero, List.set_cons_succ]
                              first | (refine wpAnyH_take (i := 4) (v := undef) rfl (by kernel_rfl) (by kernel_rfl) (by kernel_rfl) (fun _ _ _ h => h) (Or.inr ⟨by rfl, rfl⟩) (by assumption) ?_) | (refine wpAnyH_take (i := 4) (v := ?v67) rfl (by kernel_rfl) (by kernel_rfl) (by kernel_rfl) (fun _ _ _ h => h) (Or.inl ⟨by rfl, ?hy67⟩) (by assumption) ?_; (case hy67 => (intro x' hxx; obtain ⟨e0, e1, e2, e3, e4, e5⟩ := C8.out x' hxx; go_simp; try with_reducible rfl)))
                              change wpAnyH _ _ _ _ _ _ _ (Act.put _ (some 74) _) _
                              simp only [Act.put, List.setIfInBounds_toArray, List.set_cons_zero, List.set_cons_succ]
                              first | (refine wpAnyH_take (i := 5) (v := undef) rfl (by kernel_rfl) (by kernel_rfl) (by kernel_rfl) (fun _ _ _ h => h) (Or.inr ⟨by rfl, rfl⟩) (by assumption) ?_) | (refine wpAnyH_take (i := 5) (v := ?v68) rfl (by kernel_rfl) (by kernel_rfl) (by kernel_rfl) (fun _ _ _ h => h) (Or.inl ⟨by rfl, ?hy68⟩) (by assumption) ?_; (case hy68 => (intro x' hxx; obtain ⟨e0, e1, e2, e3, e4, e5⟩ := C8.out x' hxx; go_simp; try with_reducible rfl)))
                              change wpAnyH _ _ _ _ _ _ _ (Act.put _ (some 75) _) _
                              simp only [Act.put, List.setIfInBounds_toArray, List.set_cons_zero, List.set_cons_succ]
                              first | (refine wpAnyH_take (i := 6) (v := undef) rfl (by kernel_rfl) (by kernel_rfl) (by kernel_rfl) (fun _ _ _ h => h) (Or.inr ⟨by rfl, rfl⟩) (by assumption) ?_) | (refine wpAnyH_take (i := 6) (v := ?v69) rfl (by kernel_rfl) (by kernel_rfl) (by kernel_rfl) (fun _ _ _ h => h) (Or.inl ⟨by rfl, ?hy69⟩) (by assumption) ?_; (case hy69 => (intro x' hxx; obtain ⟨e0, e1, e2, e3, e4, e5⟩ := C8.out x' hxx; go_simp; try with_reducible rfl)))
                              change wpAnyH _ _ _ _ _ _ _ (Act.put _ (some 76) _) _
                              simp only [Act.put, List.setIfInBounds_toArray, List.set_cons_zero, List.set_cons_succ]
                              first | (refine wpAnyH_take (i := 7) (v := undef) rfl (by kernel_rfl) (by kernel_rfl) (by kernel_rfl) (fun _ _ _ h => h) (Or.inr ⟨by rfl, rfl⟩) (by assumption) ?_) | (refine wpAnyH_take (i := 7) (v := ?v70) rfl (by kernel_rfl) (by kernel_rfl) (by kernel_rfl) (fun _ _ _ h => h) (Or.inl ⟨by rfl, ?hy70⟩) (by assumption) ?_; (case hy70 => (intro x' hxx; obtain ⟨e0, e1, e2, e3, e4, e5⟩ := C8.out x' hxx; go_simp; try with_reducible rfl)))
                              change wpAnyH _ _ _ _ _ _ _ (Act.put _ (some 77) _) _
                              simp only [Act.put, List.setIfInBounds_toArray, List.set_cons_zero, List.set_cons_succ]
                              first | (refine wpAnyH_take (i := 8) (v := undef) rfl (by kernel_rfl) (by kernel_rfl) (by kernel_rfl) (fun _ _ _ h => h) (Or.inr ⟨by rfl, rfl⟩) (by assumption) ?_) | (refine wpAnyH_take (i := 8) (v := ?v71) rfl (by kernel_rfl) (by kernel_rfl) (by kernel_rfl) (fun _ _ _ h => h) (Or.inl ⟨by rfl, ?hy71⟩) (by assumption) ?_; (case hy71 => (intro x' hxx; obtain ⟨e0, e1, e2, e3, e4, e5⟩ := C8.out x' hxx; go_simp; try with_reducible rfl)))
                              change wpAnyH _ _ _ _ _ _ _ (Act.put _ (some 78) _) _
                              simp only [Act.put, List.setIfInBounds_toArray, List.set_cons_zero, List.set_cons_succ]
                              first | (refine wpAnyH_take (i := 9) (v := undef) rfl (by kernel_rfl) (by kernel_rfl) (by kernel_rfl) (fun _ _ _ h => h) (Or.inr ⟨by rfl, rfl⟩) (by assumption) ?_) | (refine wpAnyH_take (i := 9) (v := ?v72) rfl (by kernel_rfl) (by kernel_rfl) (by kernel_rfl) (fun _ _ _ h => h) (Or.inl ⟨by rfl, ?hy72⟩) (by assumption) ?_; (case hy72 => (intro x' hxx; obtain ⟨e0, e1, e2, e3, e4, e5⟩ := C8.out x' hxx; go_simp; try with_reducible rfl)))
                              change wpAnyH _ _ _ _ _ _ _ (Act.put _ (some 79) _) _
                              simp only [Act.put, List.setIfInBounds_toArray, List.set_cons_zero, List.set_cons_succ]
                              first | (refine wpAnyH_take (i := 10) (v := undef) rfl (by kernel_rfl) (by kernel_rfl) (by kernel_rfl) (fun _ _ _ h => h) (Or.inr ⟨by rfl, rfl⟩) (by assumption) ?_) | (refine wpAnyH_take (i := 10) (v := ?v73) rfl (by kernel_rfl) (by kernel_rfl) (by kernel_rfl) (fun _ _ _ h => h) (Or.inl ⟨by rfl, ?hy73⟩) (by assumption) ?_; (case hy73 => (intro x' hxx; obtain ⟨e0, e1, e2, e3, e4, e5⟩ := C8.out x' hxx; go_simp; try with_reducible rfl)))
                              change wpAnyH _ _ _ _ _ _ _ (Act.put _ (some 80) _) _
                              simp only [Act.put, List.setIfInBounds_toArray, List.set_cons_zero, List.set_cons_succ]
                              first | (refine wpAnyH_take (i := 11) (v := undef) rfl (by kernel_rfl) (by kernel_rfl) (by kernel_rfl) (fun _ _ _ h => h) (Or.inr ⟨by rfl, rfl⟩) (by assumption) ?_) | (refine wpAnyH_take (i := 11) (v := ?v74) rfl (by kernel_rfl) (by kernel_rfl) (by kernel_rfl) (fun _ _ _ h => h) (Or.inl ⟨by rfl, ?hy74⟩) (by assumption) ?_; (case hy74 => (intro x' hxx; obtain ⟨e0, e1, e2, e3, e4, e5⟩ := C8.out x' hxx; go_simp; try with_reducible rfl)))
                              change wpAnyH _ _ _ _ _ _ _ (Act.put _ (some 81) _) _
                              simp only [Act.put, List.setIfInBounds_toArray, List.set_cons_zero, List.set_cons_succ]
                              first | (refine wpAnyH_take (i := 12) (v := undef) rfl (by kernel_rfl) (by kernel_rfl) (by kernel_rfl) (fun _ _ _ h => h) (Or.inr ⟨by rfl, rfl⟩) (by assumption) ?_) | (refine wpAnyH_take (i := 12) (v := ?v75) rfl (by kernel_rfl) (by kernel_rfl) (by kernel_rfl) (fun _ _ _ h => h) (Or.inl ⟨by rfl, ?hy75⟩) (by assumption) ?_; (case hy75 => (intro x' hxx; obtain ⟨e0, e1, e2, e3, e4, e5⟩ := C8.out x' hxx; go_simp; try with_reducible rfl)))
                              change wpAnyH _ _ _ _ _ _ _ (Act.put _ (some 82) _) _
                              simp only [Act.put, List.setIfInBounds_toArray, List.set_cons_zero, List.set_cons_succ]
                              first | (refine wpAnyH_take (i := 13) (v := undef) rfl (by kernel_rfl) (by kernel_rfl) (by kernel_rfl) (fun _ _ _ h => h) (Or.inr ⟨by rfl, rfl⟩) (by assumption) ?_) | (refine wpAnyH_take (i := 13) (v := ?v76) rfl (by kernel_rfl) (by kernel_rfl) (by kernel_rfl) (fun _ _ _ h => h) (Or.inl ⟨by rfl, ?hy76⟩) (by assumption) ?_; (case hy76 => (intro x' hxx; obtain ⟨e0, e1, e2, e3, e4, e5⟩ := C8.out x' hxx; go_simp; try with_reducible rfl)))
                              change wpAnyH _ _ _ _ _ _ _ (Act.put _ (some 83) _) _
                              simp only [Act.put, List.setIfInBounds_toArray, List.set_cons_zero, List.set_cons_succ]
                              first | (refine wpAnyH_take (i := 14) (v := undef) rfl (by kernel_rfl) (by kernel_rfl) (by kernel_rfl) (fun _ _ _ h => h) (Or.inr ⟨by rfl, rfl⟩) (by assumption) ?_) | (refine wpAnyH_take (i := 14) (v := ?v77) rfl (by kernel_rfl) (by kernel_rfl) (by kernel_rfl) (fun _ _ _ h => h) (Or.inl ⟨by rfl, ?hy77⟩) (by assumption) ?_; (case hy77 => (intro x' hxx; obtain ⟨e0, e1, e2, e3, e4, e5⟩ := C8.out x' hxx; go_simp; try with_reducible rfl)))
                              change wpAnyH _ _ _ _ _ _ _ (Act.put _ (some 84) _) _
                              simp only [Act.put, List.setIfInBounds_toArray, List.set_cons_zero, List.set_cons_succ]
                              first | (refine wpAnyH_take (i := 15) (v := undef) rfl (by kernel_rfl) (by kernel_rfl) (by kernel_rfl) (fun _ _ _ h => h) (Or.inr ⟨by rfl, rfl⟩) (by assumption) ?_) | (refine wpAnyH_take (i := 15) (v := ?v78) rfl (by kernel_rfl) (by kernel_rfl) (by kernel_rfl) (fun _ _ _ h => h) (Or.inl ⟨by rfl, ?hy78⟩) (by assumption) ?_; (case hy78 => (intro x' hxx; obtain ⟨e0, e1, e2, e3, e4, e5⟩ := C8.out x' hxx; go_simp; try with_reducible rfl)))
                              change wpAnyH _ _ _ _ _ _ _ (Act.put _ (some 85) _) _
                              simp only [Act.put, List.setIfInBounds_toArray, List.set_cons_zero, List.set_cons_succ]
                              first | (refine wpAnyH_take (i := 16) (v := undef) rfl (by kernel_rfl) (by kernel_rfl) (by kernel_rfl) (fun _ _ _ h => h) (Or.inr ⟨by rfl, rfl⟩) (by assumption) ?_) | (refine wpAnyH_take (i := 16) (v := ?v79) rfl (by kernel_rfl) (by kernel_rfl) (by kernel_rfl) (fun _ _ _ h => h) (Or.inl ⟨by rfl, ?hy79⟩) (by assumption) ?_; (case hy79 => (intro x' hxx; obtain ⟨e0, e1, e2, e3, e4, e5⟩ := C8.out x' hxx; go_simp; try with_reducible rfl)))
                              change wpAnyH _ _ _ _ _ _ _ (Act.put _ (some 86) _) _
                              simp only [Act.put, List.setIfInBounds_toArray, List.set_cons_zero, List.set_cons_succ]
                              first | (refine wpAnyH_take (i := 17) (v := undef) rfl (by kernel_rfl) (by kernel_rfl) (by kernel_rfl) (fun _ _ _ h => h) (Or.inr ⟨by rfl, rfl⟩) (by assumption) ?_) | (refine wpAnyH_take (i := 17) (v := ?v80) rfl (by kernel_rfl) (by kernel_rfl) (by kernel_rfl) (fun _ _ _ h => h) (Or.inl ⟨by rfl, ?hy80⟩) (by assumption) ?_; (case hy80 => (intro x' hxx; obtain ⟨e0, e1, e2, e3, e4, e5⟩ := C8.out x' hxx; go_simp; try with_reducible rfl)))
                              change wpAnyH _ _ _ _ _ _ _ (Act.put _ (some 87) _) _
                              simp only [Act.put, List.setIfInBounds_toArray, List.set_cons_zero, List.set_cons_succ]
                              first | (refine wpAnyH_take (i := 18) (v := undef) rfl (by kernel_rfl) (by kernel_rfl) (by kernel_rfl) (fun _ _ _ h => h) (Or.inr ⟨by rfl, rfl⟩) (by assumption) ?_) | (refine wpAnyH_take (i := 18) (v := ?v81) rfl (by kernel_rfl) (by kernel_rfl) (by kernel_rfl) (fun _ _ _ h => h) (Or.inl ⟨by rfl, ?hy81⟩) (by assumption) ?_; (case hy81 => (intro x' hxx; obtain ⟨e0, e1, e2, e3, e4, e5⟩ := C8.out x' hxx; go_simp; try with_reducible rfl)))
                              change wpAnyH _ _ _ _ _ _ _ (Act.put _ (some 88) _) _
                              simp only [Act.put, List.setIfInBounds_toArray, List.set_cons_zero, List.set_cons_succ]
                              first | (refine wpAnyH_take (i := 19) (v := undef) rfl (by kernel_rfl) (by kernel_rfl) (by kernel_rfl) (fun _ _ _ h => h) (Or.inr ⟨by rfl, rfl⟩) (by assumption) ?_) | (refine wpAnyH_take (i := 19) (v := ?v82) rfl (by kernel_rfl) (by kernel_rfl) (by kernel_rfl) (fun _ _ _ h => h) (Or.inl ⟨by rfl, ?hy82⟩) (by assumption) ?_; (case hy82 => (intro x' hxx; obtain ⟨e0, e1, e2, e3, e4, e5⟩ := C8.out x' hxx; go_simp; try with_reducible rfl)))
                              change wpAnyH _ _ _ _ _ _ _ (Act.put _ (some 89) _) _
                              simp only [Act.put, List.setIfInBounds_toArray, List.set_cons_zero, List.set_cons_succ]
                              first | (refine wpAnyH_take (i := 20) (v := undef) rfl (by kernel_rfl) (by kernel_rfl) (by kernel_rfl) (fun _ _ _ h => h) (Or.inr ⟨by rfl, rfl⟩) (by assumption) ?_) | (refine wpAnyH_take (i := 20) (v := ?v83) rfl (by kernel_rfl) (by kernel_rfl) (by kernel_rfl) (fun _ _ _ h => h) (Or.inl ⟨by rfl, ?hy83⟩) (by assumption) ?_; (case hy83 => (intro x' hxx; obtain ⟨e0, e1, e2, e3, e4, e5⟩ := C8.out x' hxx; go_simp; try with_reducible rfl)))
                              change wpAnyH _ _ _ _ _ _ _ (Act.put _ (some 90) _) _
                              simp only [Act.put, List.setIfInBounds_toArray, List.set_cons_zero, List.set_cons_succ]
                              first | (refine wpAnyH_take (i := 21) (v := undef) rfl (by kernel_rfl) (by kernel_rfl) (by kernel_rfl) (fun _ _ _ h => h) (Or.inr ⟨by rfl, rfl⟩) (by assumption) ?_) | (refine wpAnyH_take (i := 21) (v := ?v84) rfl (by kernel_rfl) (by kernel_rfl) (by kernel_rfl) (fun _ _ _ h => h) (Or.inl ⟨by rfl, ?hy84⟩) (by assumption) ?_; (case hy84 => (intro x' hxx; obtain ⟨e0, e1, e2, e3, e4, e5⟩ := C8.out x' hxx; go_simp; try with_reducible rfl)))
                              change wpAnyH _ _ _ _ _ _ _ (Act.put _ (some 91) _) _
                              simp only [Act.put, List.setIfInBounds_toArray, List.set_cons_zero, List.set_cons_succ]
                              first | (refine wpAnyH_take (i := 22) (v := undef) rfl (by kernel_rfl) (by kernel_rfl) (by kernel_rfl) (fun _ _ _ h => h) (Or.inr ⟨by rfl, rfl⟩) (by assumption) ?_) | (refine wpAnyH_take (i := 22) (v := ?v85) rfl (by kernel_rfl) (by kernel_rfl) (by kernel_rfl) (fun _ _ _ h => h) (Or.inl ⟨by rfl, ?hy85⟩) (by assumption) ?_; (case hy85 => (intro x' hxx; obtain ⟨e0, e1, e2, e3, e4, e5⟩ := C8.out x' hxx; go_simp; try with_reducible rfl)))
                              change wpAnyH _ _ _ _ _ _ _ (Act.put _ (some 92) _) _
                              simp only [Act.put, List.setIfInBounds_toArray, List.set_cons_zero, List.set_cons_succ]
                              first | (refine wpAnyH_take (i := 23) (v := undef) rfl (by kernel_rfl) (by kernel_rfl) (by kernel_rfl) (fun _ _ _ h => h) (Or.inr ⟨by rfl, rfl⟩) (by assumption) ?_) | (refine wpAnyH_take (i := 23) (v := ?v86) rfl (by kernel_rfl) (by kernel_rfl) (by kernel_rfl) (fun _ _ _ h => h) (Or.inl ⟨by rfl, ?hy86⟩) (by assumption) ?_; (case hy86 => (intro x' hxx; obtain ⟨e0, e1, e2, e3, e4, e5⟩ := C8.out x' hxx; go_simp; try with_reducible rfl)))
                              change wpAnyH _ _ _ _ _ _ _ (Act.put _ (some 93) _) _
                              simp only [Act.put, List.setIfInBounds_toArray, List.set_cons_zero, List.set_cons_succ]
                              first | (refine wpAnyH_take (i := 24) (v := undef) rfl (by kernel_rfl) (by kernel_rfl) (by kernel_rfl) (fun _ _ _ h => h) (Or.inr ⟨by rfl, rfl⟩) (by assumption) ?_) | (refine wpAnyH_take (i := 24) (v := ?v87) rfl (by kernel_rfl) (by kernel_rfl) (by kernel_rfl) (fun _ _ _ h => h) (Or.inl ⟨by rfl, ?hy87⟩) (by assumption) ?_; (case hy87 => (intro x' hxx; obtain ⟨e0, e1, e2, e3, e4, e5⟩ := C8.out x' hxx; go_simp; try with_reducible rfl)))
                              change wpAnyH _ _ _ _ _ _ _ (Act.put _ (some 94) _) _
                              simp only [Act.put, List.setIfInBounds_toArray, List.set_cons_zero, List.set_cons_succ]
                              first | (refine wpAnyH_take (i := 25) (v := undef) rfl (by kernel_rfl) (by kernel_rfl) (by kernel_rfl) (fun _ _ _ h => h) (Or.inr ⟨by rfl, rfl⟩) (by assumption) ?_) | (refine wpAnyH_take (i := 25) (v := ?v88) rfl (by kernel_rfl) (by kernel_rfl) (by kernel_rfl) (fun _ _ _ h => h) (Or.inl ⟨by rfl, ?hy88⟩) (by assumption) ?_; (case hy88 => (intro x' hxx; obtain ⟨e0, e1, e2, e3, e4, e5⟩ := C8.out x' hxx; go_simp; try with_reducible rfl)))
                              change wpAnyH _ _ _ _ _ _ _ (Act.put _ (some 95) _) _
                              simp only [Act.put, List.setIfInBounds_toArray, List.set_cons_zero, List.set_cons_succ]
                              first | (refine wpAnyH_take (i := 26) (v := undef) rfl (by kernel_rfl) (by kernel_rfl) (by kernel_rfl) (fun _ _ _ h => h) (Or.inr ⟨by rfl, rfl⟩) (by assumption) ?_) | (refine wpAnyH_take (i := 26) (v := ?v89) rfl (by kernel_rfl) (by kernel_rfl) (by kernel_rfl) (fun _ _ _ h => h) (Or.inl ⟨by rfl, ?hy89⟩) (by assumption) ?_; (case hy89 => (intro x' hxx; obtain ⟨e0, e1, e2, e3, e4, e5⟩ := C8.out x' hxx; go_simp; try with_reducible rfl)))
                              change wpAnyH _ _ _ _ _ _ _ (Act.put _ (some 96) _) _
                              simp only [Act.put, List.setIfInBounds_toArray, List.set_cons_zero, List.set_cons_succ]
                              first | (refine wpAnyH_take (i := 27) (v := undef) rfl (by kernel_rfl) (by kernel_rfl) (by kernel_rfl) (fun _ _ _ h => h) (Or.inr ⟨by rfl, rfl⟩) (by assumption) ?_) | (refine wpAnyH_take (i := 27) (v := ?v90) rfl (by kernel_rfl) (by kernel_rfl) (by kernel_rfl) (fun _ _ _ h => h) (Or.inl ⟨by rfl, ?hy90⟩) (by assumption) ?_; (case hy90 => (intro x' hxx; obtain ⟨e0, e1, e2, e3, e4, e5⟩ := C8.out x' hxx; go_simp; try with_reducible rfl)))
                              change wpAnyH _ _ _ _ _ _ _ (Act.put _ (some 97) _) _
                              simp only [Act.put, List.setIfInBounds_toArray, List.set_cons_zero, List.set_cons_succ]
                              first | (refine wpAnyH_take (i := 28) (v := undef) rfl (by kernel_rfl) (by kernel_rfl) (by kernel_rfl) (fun _ _ _ h => h) (Or.inr ⟨by rfl, rfl⟩) (by assumption) ?_) | (refine wpAnyH_take (i := 28) (v := ?v91) rfl (by kernel_rfl) (by kernel_rfl) (by kernel_rfl) (fun _ _ _ h => h) (Or.inl ⟨by rfl, ?hy91⟩) (by assumption) ?_; (case hy91 => (intro x' hxx; obtain ⟨e0, e1, e2, e3, e4, e5⟩ := C8.out x' hxx; go_simp; try with_reducible rfl)))
                              change wpAnyH _ _ _ _ _ _ _ (Act.put _ (some 98) _) _
                              simp only [Act.put, List.setIfInBounds_toArray, List.set_cons_zero, List.set_cons_succ]
                              first | (refine wpAnyH_take (i := 29) (v := undef) rfl (by kernel_rfl) (by kernel_rfl) (by kernel_rfl) (fun _ _ _ h => h) (Or.inr ⟨by rfl, rfl⟩) (by assumption) ?_) | (refine wpAnyH_take (i := 29) (v := ?v92) rfl (by kernel_rfl) (by kernel_rfl) (by kernel_rfl) (fun _ _ _ h => h) (Or.inl ⟨by rfl, ?hy92⟩) (by assumption) ?_; (case hy92 => (intro x' hxx; obtain ⟨e0, e1, e2, e3, e4, e5⟩ := C8.out x' hxx; go_simp; try with_reducible rfl)))
                              change wpAnyH _ _ _ _ _ _ _ (Act.put _ (some 99) _) _
                              simp only [Act.put, List.setIfInBounds_toArray, List.set_cons_zero, List.set_cons_succ]
                              first | (refine wpAnyH_take (i := 30) (v := undef) rfl (by kernel_rfl) (by kernel_rfl) (by kernel_rfl) (fun _ _ _ h => h) (Or.inr ⟨by rfl, rfl⟩) (by assumption) ?_) | (refine wpAnyH_take (i := 30) (v := ?v93) rfl (by kernel_rfl) (by kernel_rfl) (by kernel_rfl) (fun _ _ _ h => h) (Or.inl ⟨by rfl, ?hy93⟩) (by assumption) ?_; (case hy93 => (intro x' hxx; obtain ⟨e0, e1, e2, e3, e4, e5⟩ := C8.out x' hxx; go_simp; try with_reducible rfl)))
                              change wpAnyH _ _ _ _ _ _ _ (Act.put _ (some 100) _) _
                              simp only [Act.put, List.setIfInBounds_toArray, List.set_cons_zero, List.set_cons_succ]
                              refine wpAnyH_done (by kernel_rfl) ?_ _
                              refine NoPanic.normal ?_
                              clear hH
                              go_wp2_with fail
                              go_ret
                              exact ⟨by first | rfl | simp, HBR.out.drew⟩
                            · obtain ⟨en, rfl⟩ : ∃ en : Nat, e = (en : Int) := ⟨e.toNat, by omega⟩
                              have b3d : decide ((en : Int) < 0) = false := by simp
                              by_cases b4 : (ln : Int) ≤ (en : Int)
                              · obtain rfl : r = false := by
                                  have h2 := HLN.out
                                  have h3 : decide (0 ≤ (en : Int) ∧ (en : Int) < ((g.edges.getD (xn : Int).toNat []).length : Int)) = false := by simp only [Int.toNat_natCast]; rw [decide_eq_false_iff_not]; omega
                                  have : stepOk g l i = false := by unfold stepOk nodeB; rw [← HX.out, ← HEE.out, h3]; simp
                                  rw [HR3.out, List.all_eq_false.2 ⟨i, by simpa using hlt, by simp [this]⟩]; simp
                                have b4d : decide ((ln : Int) ≤ (en : Int)) = true := by simp; omega
                                have b4e : decide (ln ≤ en) = true := by simp; omega
                                clear HR3
                                go_wp2_with fail
                                refine wp_region_noPanic ?_
                                refine wp_region_held_drew (S := fun w' => Below wi.heap.size wi w') (by kernel_rfl) (Below.refl _ _).drew (fun hH => ?_)
                                first | (refine wpAnyH_take (i := 0) (v := undef) rfl (by kernel_rfl) (by kernel_rfl) (by kernel_rfl) (fun _ _ _ h => h) (Or.inr ⟨by rfl, rfl⟩) (by assumption) ?_) | (refine wpAnyH_take (i := 0) (v := ?v94) rfl (by kernel_rfl) (by kernel_rfl) (by kernel_rfl) (fun _ _ _ h => h) (Or.inl ⟨by rfl, ?hy94⟩) (by assumption) ?_; (case hy94 => (intro x' hxx; obtain ⟨e0, e1, e2, e3, e4, e5⟩ := C8.out x' hxx; go_simp; try with_reducible rfl)))
                                change wpAnyH _ _ _ _ _ _ _ (Act.put _ (some 70) _) _
                                simp only [Act.put, List.setIfInBounds_toArray, List.set_cons_zero, List.set_cons_succ]
                                first | (refine wpAnyH_take (i := 1) (v := undef) rfl (by kernel_rfl) (by kernel_rfl) (by kernel_rfl) (fun _ _ _ h => h) (Or.inr ⟨by rfl, rfl⟩) (by assumption) ?_) | (refine wpAnyH_take (i := 1) (v := ?v95) rfl (by kernel_rfl) (by kernel_rfl) (by kernel_rfl) (fun _ _ _ h => h) (Or.inl ⟨by rfl, ?hy95⟩) (by assumption) ?_; (case hy95 => (intro x' hxx; obtain ⟨e0, e1, e2, e3, e4, e5⟩ := C8.out x' hxx; go_simp; try with_reducible rfl)))
                                change wpAnyH _ _ _ _ _ _ _ (Act.put _ (some 71) _) _
                                simp only [Act.put, List.setIfInBounds_toArray, List.set_cons_zero, List.set_cons_succ]
                                first | (refine wpAnyH_take (i := 2) (v := undef) rfl (by kernel_rfl) (by kernel_rfl) (by kernel_rfl) (fun _ _ _ h => h) (Or.inr ⟨by rfl, rfl⟩) (by assumption) ?_) | (refine wpAnyH_take (i := 2) (v := ?v96) rfl (by kernel_rfl) (by kernel_rfl) (by kernel_rfl) (fun _ _ _ h => h) (Or.inl ⟨by rfl, ?hy96⟩) (by assumption) ?_; (case hy96 => (intro x' hxx; obtain ⟨e0, e1, e2, e3, e4, e5⟩ := C8.out x' hxx; go_simp; try with_reducible rfl)))
                                change wpAnyH _ _ _ _ _ _ _ (Act.put _ (some 72) _) _
                                simp only [Act.put, List.setIfInBounds_toArray, List.set_cons_zero, List.set_cons_succ]
                                first | (refine wpAnyH_take (i := 3) (v := undef) rfl (by kernel_rfl) (by kernel_rfl) (by kernel_rfl) (fun _ _ _ h => h) (Or.inr ⟨by rfl, rfl⟩) (by assumption) ?_) | (refine wpAnyH_take (i := 3) (v := ?v97) rfl (by kernel_rfl) (by kernel_rfl) (by kernel_rfl) (fun _ _ _ h => h) (Or.inl ⟨by rfl, ?hy97⟩) (by assumption) ?_; (case hy97 => (intro x' hxx; obtain ⟨e0, e1, e2, e3, e4, e5⟩ := C8.out x' hxx; go_simp; try with_reducible rfl)))
                                change wpAnyH _ _ _ _ _ _ _ (Act.put _ (some 73) _) _
                                simp only [Act.put, List.setIfInBounds_toArray, List.set_cons_zero, List.set_cons_succ]
                                first | (refine wpAnyH_take (i := 4) (v := undef) rfl (by kernel_rfl) (by kernel_rfl) (by kernel_rfl) (fun _ _ _ h => h) (Or.inr ⟨by rfl, rfl⟩) (by assumption) ?_) | (refine wpAnyH_take (i := 4) (v := ?v98) rfl (by kernel_rfl) (by kernel_rfl) (by kernel_rfl) (fun _ _ _ h => h) (Or.inl ⟨by rfl, ?hy98⟩) (by assumption) ?_; (case hy98 => (intro x' hxx; obtain ⟨e0, e1, e2, e3, e4, e5⟩ := C8.out x' hxx; go_simp; try with_reducible rfl)))
                                change wpAnyH _ _ _ _ _ _ _ (Act.put _ (some 74) _) _
                                simp only [Act.put, List.setIfInBounds_toArray, List.set_cons_zero, List.set_cons_succ]
                                first | (refine wpAnyH_take (i := 5) (v := undef) rfl (by kernel_rfl) (by kernel_rfl) (by kernel_rfl) (fun _ _ _ h => h) (Or.inr ⟨by rfl, rfl⟩) (by assumption) ?_) | (refine wpAnyH_take (i := 5) (v := ?v99) rfl (by kernel_rfl) (by kernel_rfl) (by kernel_rfl) (fun _ _ _ h => h) (Or.inl ⟨by rfl, ?hy99⟩) (by assumption) ?_; (case hy99 => (intro x' hxx; obtain ⟨e0, e1, e2, e3, e4, e5⟩ := C8.out x' hxx; go_simp; try with_reducible rfl)))
                                change wpAnyH _ _ _ _ _ _ _ (Act.put _ (some 75) _) _
                                simp only [Act.put, List.setIfInBounds_toArray, List.set_cons_zero, List.set_cons_succ]
                                first | (refine wpAnyH_take (i := 6) (v := undef) rfl (by kernel_rfl) (by kernel_rfl) (by kernel_rfl) (fun _ _ _ h => h) (Or.inr ⟨by rfl, rfl⟩) (by assumption) ?_) | (refine wpAnyH_take (i := 6) (v := ?v100) rfl (by kernel_rfl) (by kernel_rfl) (by kernel_rfl) (fun _ _ _ h => h) (Or.inl ⟨by rfl, ?hy100⟩) (by assumption) ?_; (case hy100 => (intro x' hxx; obtain ⟨e0, e1, e2, e3, e4, e5⟩ := C8.out x' hxx; go_simp; try with_reducible rfl)))
                                change wpAnyH _ _ _ _ _ _ _ (Act.put _ (some 76) _) _
                                simp only [Act.put, List.setIfInBounds_toArray, List.set_cons_zero, List.set_cons_succ]
                                first | (refine wpAnyH_take (i := 7) (v := undef) rfl (by kernel_rfl) (by kernel_rfl) (by kernel_rfl) (fun _ _ _ h => h) (Or.inr ⟨by rfl, rfl⟩) (by assumption) ?_) | (refine wpAnyH_take (i := 7) (v := ?v101) rfl (by kernel_rfl) (by kernel_rfl) (by kernel_rfl) (fun _ _ _ h => h) (Or.inl ⟨by rfl, ?hy101⟩) (by assumption) ?_; (case hy101 => (intro x' hxx; obtain ⟨e0, e1, e2, e3, e4, e5⟩ := C8.out x' hxx; go_simp; try with_reducible rfl)))
                                change wpAnyH _ _ _ _ _ _ _ (Act.put _ (some 77) _) _
                                simp only [Act.put, List.setIfInBounds_toArray, List.set_cons_zero, List.set_cons_succ]
                                first | (refine wpAnyH_take (i := 8) (v := undef) rfl (by kernel_rfl) (by kernel_rfl) (by kernel_rfl) (fun _ _ _ h => h) (Or.inr ⟨by rfl, rfl⟩) (by assumption) ?_) | (refine wpAnyH_take (i := 8) (v := ?v102) rfl (by kernel_rfl) (by kernel_rfl) (by kernel_rfl) (fun _ _ _ h => h) (Or.inl ⟨by rfl, ?hy102⟩) (by assumption) ?_; (case hy102 => (intro x' hxx; obtain ⟨e0, e1, e2, e3, e4, e5⟩ := C8.out x' hxx; go_simp; try with_reducible rfl)))
                                change wpAnyH _ _ _ _ _ _ _ (Act.put _ (some 78) _) _
                                simp only [Act.put, List.setIfInBounds_toArray, List.set_cons_zero, List.set_cons_succ]
                                first | (refine wpAnyH_take (i := 9) (v := undef) rfl (by kernel_rfl) (by kernel_rfl) (by kernel_rfl) (fun _ _ _ h => h) (Or.inr ⟨by rfl, rfl⟩) (by assumption) ?_) | (refine wpAnyH_take (i := 9) (v := ?v103) rfl (by kernel_rfl) (by kernel_rfl) (by kernel_rfl) (fun _ _ _ h => h) (Or.inl ⟨by rfl, ?hy103⟩) (by assumption) ?_; (case hy103 => (intro x' hxx; obtain ⟨e0, e1, e2, e3, e4, e5⟩ := C8.out x' hxx; go_simp; try with_reducible rfl)))
                                change wpAnyH _ _ _ _ _ _ _ (Act.put _ (some 79) _) _
                                simp only [Act.put, List.setIfInBounds_toArray, List.set_cons_zero, List.set_cons_succ]
                                first | (refine wpAnyH_take (i := 10) (v := undef) rfl (by kernel_rfl) (by kernel_rfl) (by kernel_rfl) (fun _ _ _ h => h) (Or.inr ⟨by rfl, rfl⟩) (by assumption) ?_) | (refine wpAnyH_take (i := 10) (v := ?v104) rfl (by kernel_rfl) (by kernel_rfl) (by kernel_rfl) (fun _ _ _ h => h) (Or.inl ⟨by rfl, ?hy104⟩) (by assumption) ?_; (case hy104 => (intro x' hxx; obtain ⟨e0, e1, e2, e3, e4, e5⟩ := C8.out x' hxx; go_simp; try with_reducible rfl)))
                                change wpAnyH _ _ _ _ _ _ _ (Act.put _ (some 80) _) _
                                simp only [Act.put, List.setIfInBounds_toArray, List.set_cons_zero, List.set_cons_succ]
                                first | (refine wpAnyH_take (i := 11) (v := undef) rfl (by kernel_rfl) (by kernel_rfl) (by kernel_rfl) (fun _ _ _ h => h) (Or.inr ⟨by rfl, rfl⟩) (by assumption) ?_) | (refine wpAnyH_take (i := 11) (v := ?v105) rfl (by kernel_rfl) (by kernel_rfl) (by kernel_rfl) (fun _ _ _ h => h) (Or.inl ⟨by rfl, ?hy105⟩) (by assumption) ?_; (case hy105 => (intro x' hxx; obtain ⟨e0, e1, e2, e3, e4, e5⟩ := C8.out x' hxx; go_simp; try with_reducible rfl)))
                                change wpAnyH _ _ _ _ _ _ _ (Act.put _ (some 81) _) _
                                simp only [Act.put, List.setIfInBounds_toArray, List.set_cons_zero, List.set_cons_succ]
                                first | (refine wpAnyH_take (i := 12) (v := undef) rfl (by kernel_rfl) (by kernel_rfl) (by kernel_rfl) (fun _ _ _ h => h) (Or.inr ⟨by rfl, rfl⟩) (by assumption) ?_) | (refine wpAnyH_take (i := 12) (v := ?v106) rfl (by kernel_rfl) (by kernel_rfl) (by kernel_rfl) (fun _ _ _ h => h) (Or.inl ⟨by rfl, ?hy106⟩) (by assumption) ?_; (case hy106 => (intro x' hxx; obtain ⟨e0, e1, e2, e3, e4, e5⟩ := C8.out x' hxx; go_simp; try with_reducible rfl)))
                                change wpAnyH _ _ _ _ _ _ _ (Act.put _ (some 82) _) _
                                simp only [Act.put, List.setIfInBounds_toArray, List.set_cons_zero, List.set_cons_succ]
                                first | (refine wpAnyH_take (i := 13) (v := undef) rfl (by kernel_rfl) (by kernel_rfl) (by kernel_rfl) (fun _ _ _ h => h) (Or.inr ⟨by rfl, rfl⟩) (by assumption) ?_) | (refine wpAnyH_take (i := 13) (v := ?v107) rfl (by kernel_rfl) (by kernel_rfl) (by kernel_rfl) (fun _ _ _ h => h) (Or.inl ⟨by rfl, ?hy107⟩) (by assumption) ?_; (case hy107 => (intro x' hxx; obtain ⟨e0, e1, e2, e3, e4, e5⟩ := C8.out x' hxx; go_simp; try with_reducible rfl)))
                                change wpAnyH _ _ _ _ _ _ _ (Act.put _ (some 83) _) _
                                simp only [Act.put, List.setIfInBounds_toArray, List.set_cons_zero, List.set_cons_succ]
                                first | (refine wpAnyH_take (i := 14) (v := undef) rfl (by kernel_rfl) (by kernel_rfl) (by kernel_rfl) (fun _ _ _ h => h) (Or.inr ⟨by rfl, rfl⟩) (by assumption) ?_) | (refine wpAnyH_take (i := 14) (v := ?v108) rfl (by kernel_rfl) (by kernel_rfl) (by kernel_rfl) (fun _ _ _ h => h) (Or.inl ⟨by rfl, ?hy108⟩) (by assumption) ?_; (case hy108 => (intro x' hxx; obtain ⟨e0, e1, e2, e3, e4, e5⟩ := C8.out x' hxx; go_simp; try with_reducible rfl)))
                                change wpAnyH _ _ _ _ _ _ _ (Act.put _ (some 84) _) _
                                simp only [Act.put, List.setIfInBounds_toArray, List.set_cons_zero, List.set_cons_succ]
                                first | (refine wpAnyH_take (i := 15) (v := undef) rfl (by kernel_rfl) (by kernel_rfl) (by kernel_rfl) (fun _ _ _ h => h) (Or.inr ⟨by rfl, rfl⟩) (by assumption) ?_) | (refine wpAnyH_take (i := 15) (v := ?v109) rfl (by kernel_rfl) (by kernel_rfl) (by kernel_rfl) (fun _ _ _ h => h) (Or.inl ⟨by rfl, ?hy109⟩) (by assumption) ?_; (case hy109 => (intro x' hxx; obtain ⟨e0, e1, e2, e3, e4, e5⟩ := C8.out x' hxx; go_simp; try with_reducible rfl)))
                                change wpAnyH _ _ _ _ _ _ _ (Act.put _ (some 85) _) _
                                simp only [Act.put, List.setIfInBounds_toArray, List.set_cons_zero, List.set_cons_succ]
                                first | (refine wpAnyH_take (i := 16) (v := undef) rfl (by kernel_rfl) (by kernel_rfl) (by kernel_rfl) (fun _ _ _ h => h) (Or.inr ⟨by rfl, rfl⟩) (by assumption) ?_) | (refine wpAnyH_take (i := 16) (v := ?v110) rfl (by kernel_rfl) (by kernel_rfl) (by kernel_rfl) (fun _ _ _ h => h) (Or.inl ⟨by rfl, ?hy110⟩) (by assumption) ?_; (case hy110 => (intro x' hxx; obtain ⟨e0, e1, e2, e3, e4, e5⟩ := C8.out x' hxx; go_simp; try with_reducible rfl)))
                                change wpAnyH _ _ _ _ _ _ _ (Act.put _ (some 86) _) _
                                simp only [Act.put, List.setIfInBounds_toArray, List.set_cons_zero, List.set_cons_succ]
                                first | (refine wpAnyH_take (i := 17) (v := undef) rfl (by kernel_rfl) (by kernel_rfl) (by kernel_rfl) (fun _ _ _ h => h) (Or.inr ⟨by rfl, rfl⟩) (by assumption) ?_) | (refine wpAnyH_take (i := 17) (v := ?v111) rfl (by kernel_rfl) (by kernel_rfl) (by kernel_rfl) (fun _ _ _ h => h) (Or.inl ⟨by rfl, ?hy111⟩) (by assumption) ?_; (case hy111 => (intro x' hxx; obtain ⟨e0, e1, e2, e3, e4, e5⟩ := C8.out x' hxx; go_simp; try with_reducible rfl)))
                                change wpAnyH _ _ _ _ _ _ _ (Act.put _ (some 87) _) _
                                simp only [Act.put, List.setIfInBounds_toArray, List.set_cons_zero, List.set_cons_succ]
                                first | (refine wpAnyH_take (i := 18) (v := undef) rfl (by kernel_rfl) (by kernel_rfl) (by kernel_rfl) (fun _ _ _ h => h) (Or.inr ⟨by rfl, rfl⟩) (by assumption) ?_) | (refine wpAnyH_take (i := 18) (v := ?v112) rfl (by kernel_rfl) (by kernel_rfl) (by kernel_rfl) (fun _ _ _ h => h) (Or.inl ⟨by rfl, ?hy112⟩) (by assumption) ?_; (case hy112 => (intro x' hxx; obtain ⟨e0, e1, e2, e3, e4, e5⟩ := C8.out x' hxx; go_simp; try with_reducible rfl)))
                                change wpAnyH _ _ _ _ _ _ _ (Act.put _ (some 88) _) _
                                simp only [Act.put, List.setIfInBounds_toArray, List.set_cons_zero, List.set_cons_succ]
                                first | (refine wpAnyH_take (i := 19) (v := undef) rfl (by kernel_rfl) (by kernel_rfl) (by kernel_rfl) (fun _ _ _ h => h) (Or.inr ⟨by rfl, rfl⟩) (by assumption) ?_) | (refine wpAnyH_take (i := 19) (v := ?v113) rfl (by kernel_rfl) (by kernel_rfl) (by kernel_rfl) (fun _ _ _ h => h) (Or.inl ⟨by rfl, ?hy113⟩) (by assumption) ?_; (case hy113 => (intro x' hxx; obtain ⟨e0, e1, e2, e3, e4, e5⟩ := C8.out x' hxx; go_simp; try with_reducible rfl)))
                                change wpAnyH _ _ _ _ _ _ _ (Act.put _ (some 89) _) _
                                simp only [Act.put, List.setIfInBounds_toArray, List.set_cons_zero, List.set_cons_succ]
                                first | (refine wpAnyH_take (i := 20) (v := undef) rfl (by kernel_rfl) (by kernel_rfl) (by kernel_rfl) (fun _ _ _ h => h) (Or.inr ⟨by rfl, rfl⟩) (by assumption) ?_) | (refine wpAnyH_take (i := 20) (v := ?v114) rfl (by kernel_rfl) (by kernel_rfl) (by kernel_rfl) (fun _ _ _ h => h) (Or.inl ⟨by rfl, ?hy114⟩) (by assumption) ?_; (case hy114 => (intro x' hxx; obtain ⟨e0, e1, e2, e3, e4, e5⟩ := C8.out x' hxx; go_simp; try with_reducible rfl)))
                                change wpAnyH _ _ _ _ _ _ _ (Act.put _ (some 90) _) _
                                simp only [Act.put, List.setIfInBounds_toArray, List.set_cons_zero, List.set_cons_succ]
                                first | (refine wpAnyH_take (i := 21) (v := undef) rfl (by kernel_rfl) (by kernel_rfl) (by kernel_rfl) (fun _ _ _ h => h) (Or.inr ⟨by rfl, rfl⟩) (by assumption) ?_) | (refine wpAnyH_take (i := 21) (v := ?v115) rfl (by kernel_rfl) (by kernel_rfl) (by kernel_rfl) (fun _ _ _ h => h) (Or.inl ⟨by rfl, ?hy115⟩) (by assumption) ?_; (case hy115 => (intro x' hxx; obtain ⟨e0, e1, e2, e3, e4, e5⟩ := C8.out x' hxx; go_simp; try with_reducible rfl)))
                                change wpAnyH _ _ _ _ _ _ _ (Act.put _ (some 91) _) _
                                simp only [Act.put, List.setIfInBounds_toArray, List.set_cons_zero, List.set_cons_succ]
                                first | (refine wpAnyH_take (i := 22) (v := undef) rfl (by kernel_rfl) (by kernel_rfl) (by kernel_rfl) (fun _ _ _ h => h) (Or.inr ⟨by rfl, rfl⟩) (by assumption) ?_) | (refine wpAnyH_take (i := 22) (v := ?v116) rfl (by kernel_rfl) (by kernel_rfl) (by kernel_rfl) (fun _ _ _ h => h) (Or.inl ⟨by rfl, ?hy116⟩) (by assumption) ?_; (case hy116 => (intro x' hxx; obtain ⟨e0, e1, e2, e3, e4, e5⟩ := C8.out x' hxx; go_simp; try with_reducible rfl)))
                                change wpAnyH _ _ _ _ _ _ _ (Act.put _ (some 92) _) _
                                simp only [Act.put, List.setIfInBounds_toArray, List.set_cons_zero, List.set_cons_succ]
                                first | (refine wpAnyH_take (i := 23) (v := undef) rfl (by kernel_rfl) (by kernel_rfl) (by kernel_rfl) (fun _ _ _ h => h) (Or.inr ⟨by rfl, rfl⟩) (by assumption) ?_) | (refine wpAnyH_take (i := 23) (v := ?v117) rfl (by kernel_rfl) (by kernel_rfl) (by kernel_rfl) (fun _ _ _ h => h) (Or.inl ⟨by rfl, ?hy117⟩) (by assumption) ?_; (case hy117 => (intro x' hxx; obtain ⟨e0, e1, e2, e3, e4, e5⟩ := C8.out x' hxx; go_simp; try with_reducible rfl)))
                                change wpAnyH _ _ _ _ _ _ _ (Act.put _ (some 93) _) _
                                simp only [Act.put, List.setIfInBounds_toArray, List.set_cons_zero, List.set_cons_succ]
                                first | (refine wpAnyH_take (i := 24) (v := undef) rfl (by kernel_rfl) (by kernel_rfl) (by kernel_rfl) (fun _ _ _ h => h) (Or.inr ⟨by rfl, rfl⟩) (by assumption) ?_) | (refine wpAnyH_take (i := 24) (v := ?v118) rfl (by kernel_rfl) (by kernel_rfl) (by kernel_rfl) (fun _ _ _ h => h) (Or.inl ⟨by rfl, ?hy118⟩) (by assumption) ?_; (case hy118 => (intro x' hxx; obtain ⟨e0, e1, e2, e3, e4, e5⟩ := C8.out x' hxx; go_simp; try with_reducible rfl)))
                                change wpAnyH _ _ _ _ _ _ _ (Act.put _ (some 94) _) _
                                simp only [Act.put, List.setIfInBounds_toArray, List.set_cons_zero, List.set_cons_succ]
                                first | (refine wpAnyH_take (i := 25) (v := undef) rfl (by kernel_rfl) (by kernel_rfl) (by kernel_rfl) (fun _ _ _ h => h) (Or.inr ⟨by rfl, rfl⟩) (by assumption) ?_) | (refine wpAnyH_take (i := 25) (v := ?v119) rfl (by kernel_rfl) (by kernel_rfl) (by kernel_rfl) (fun _ _ _ h => h) (Or.inl ⟨by rfl, ?hy119⟩) (by assumption) ?_; (case hy119 => (intro x' hxx; obtain ⟨e0, e1, e2, e3, e4, e5⟩ := C8.out x' hxx; go_simp; try with_reducible rfl)))
                                change wpAnyH _ _ _ _ _ _ _ (Act.put _ (some 95) _) _
                                simp only [Act.put, List.setIfInBounds_toArray, List.set_cons_zero, List.set_cons_succ]
                                first | (refine wpAnyH_take (i := 26) (v := undef) rfl (by kernel_rfl) (by kernel_rfl) (by kernel_rfl) (fun _ _ _ h => h) (Or.inr ⟨by rfl, rfl⟩) (by assumption) ?_) | (refine wpAnyH_take (i := 26) (v := ?v120) rfl (by kernel_rfl) (by kernel_rfl) (by kernel_rfl) (fun _ _ _ h => h) (Or.inl ⟨by rfl, ?hy120⟩) (by assumption) ?_; (case hy120 => (intro x' hxx; obtain ⟨e0, e1, e2, e3, e4, e5⟩ := C8.out x' hxx; go_simp; try with_reducible rfl)))
                                change wpAnyH _ _ _ _ _ _ _ (Act.put _ (some 96) _) _
                                simp only [Act.put, List.setIfInBounds_toArray, List.set_cons_zero, List.set_cons_succ]
                                first | (refine wpAnyH_take (i := 27) (v := undef) rfl (by kernel_rfl) (by kernel_rfl) (by kernel_rfl) (fun _ _ _ h => h) (Or.inr ⟨by rfl, rfl⟩) (by assumption) ?_) | (refine wpAnyH_take (i := 27) (v := ?v121) rfl (by kernel_rfl) (by kernel_rfl) (by kernel_rfl) (fun _ _ _ h => h) (Or.inl ⟨by rfl, ?hy121⟩) (by assumption) ?_; (case hy121 => (intro x' hxx; obtain ⟨e0, e1, e2, e3, e4, e5⟩ := C8.out x' hxx; go_simp; try with_reducible rfl)))
                                change wpAnyH _ _ _ _ _ _ _ (Act.put _ (some 97) _) _
                                simp only [Act.put, List.setIfInBounds_toArray, List.set_cons_zero, List.set_cons_succ]
                                first | (refine wpAnyH_take (i := 28) (v := undef) rfl (by kernel_rfl) (by kernel_rfl) (by kernel_rfl) (fun _ _ _ h => h) (Or.inr ⟨by rfl, rfl⟩) (by assumption) ?_) | (refine wpAnyH_take (i := 28) (v := ?v122) rfl (by kernel_rfl) (by kernel_rfl) (by kernel_rfl) (fun _ _ _ h => h) (Or.inl ⟨by rfl, ?hy122⟩) (by assumption) ?_; (case hy122 => (intro x' hxx; obtain ⟨e0, e1, e2, e3, e4, e5⟩ := C8.out x' hxx; go_simp; try with_reducible rfl)))
                                change wpAnyH _ _ _ _ _ _ _ (Act.put _ (some 98) _) _
                                simp only [Act.put, List.setIfInBounds_toArray, List.set_cons_zero, List.set_cons_succ]
                                first | (refine wpAnyH_take (i := 29) (v := undef) rfl (by kernel_rfl) (by kernel_rfl) (by kernel_rfl) (fun _ _ _ h => h) (Or.inr ⟨by rfl, rfl⟩) (by assumption) ?_) | (refine wpAnyH_take (i := 29) (v := ?v123) rfl (by kernel_rfl) (by kernel_rfl) (by kernel_rfl) (fun _ _ _ h => h) (Or.inl ⟨by rfl, ?hy123⟩) (by assumption) ?_; (case hy123 => (intro x' hxx; obtain ⟨e0, e1, e2, e3, e4, e5⟩ := C8.out x' hxx; go_simp; try with_reducible rfl)))
                                change wpAnyH _ _ _ _ _ _ _ (Act.put _ (some 99) _) _
                                simp only [Act.put, List.setIfInBounds_toArray, List.set_cons_zero, List.set_cons_succ]
                                first | (refine wpAnyH_take (i := 30) (v := undef) rfl (by kernel_rfl) (by kernel_rfl) (by kernel_rfl) (fun _ _ _ h => h) (Or.inr ⟨by rfl, rfl⟩) (by assumption) ?_) | (refine wpAnyH_take (i := 30) (v := ?v124) rfl (by kernel_rfl) (by kernel_rfl) (by kernel_rfl) (fun _ _ _ h => h) (Or.inl ⟨by rfl, ?hy124⟩) (by assumption) ?_; (case hy124 => (intro x' hxx; obtain ⟨e0, e1, e2, e3, e4, e5⟩ := C8.out x' hxx; go_simp; try with_reducible rfl)))
                                change wpAnyH _ _ _ _ _ _ _ (Act.put _ (some 100) _) _
                                simp only [Act.put, List.setIfInBounds_toArray, List.set_cons_zero, List.set_cons_succ]
                                refine wpAnyH_done (by kernel_rfl) ?_ _
                                refine NoPanic.normal ?_
                                clear hH
                                go_wp2_with fail
                                go_ret
                                exact ⟨by first | rfl | simp, HBR.out.drew⟩
                              · have b4d : decide ((ln : Int) ≤ (en : Int)) = false := by simp; omega
                                have b4e : decide (ln ≤ en) = false := by simp; omega
                                go_wp2_with fail
                                refine wp_region_noPanic ?_
                                refine wp_region_held_drew (S := fun w' => Below wi.heap.size wi w') (by kernel_rfl) (Below.refl _ _).drew (fun hH => ?_)
                                first | (refine wpAnyH_take (i := 0) (v := undef) rfl (by kernel_rfl) (by kernel_rfl) (by kernel_rfl) (fun _ _ _ h => h) (Or.inr ⟨by rfl, rfl⟩) (by assumption) ?_) | (refine wpAnyH_take (i := 0) (v := ?v125) rfl (by kernel_rfl) (by kernel_rfl) (by kernel_rfl) (fun _ _ _ h => h) (Or.inl ⟨by rfl, ?hy125⟩) (by assumption) ?_; (case hy125 => (intro x' hxx; obtain ⟨e0, e1, e2, e3, e4, e5⟩ := C8.out x' hxx; go_simp; try with_reducible rfl)))
                                change wpAnyH _ _ _ _ _ _ _ (Act.put _ (some 70) _) _
                                simp only [Act.put, List.setIfInBounds_toArray, List.set_cons_zero, List.set_cons_succ]
                                first | (refine wpAnyH_take (i := 1) (v := undef) rfl (by kernel_rfl) (by kernel_rfl) (by kernel_rfl) (fun _ _ _ h => h) (Or.inr ⟨by rfl, rfl⟩) (by assumption) ?_) | (refine wpAnyH_take (i := 1) (v := ?v126) rfl (by kernel_rfl) (by kernel_rfl) (by kernel_rfl) (fun _ _ _ h => h) (Or.inl ⟨by rfl, ?hy126⟩) (by assumption) ?_; (case hy126 => (intro x' hxx; obtain ⟨e0, e1, e2, e3, e4, e5⟩ := C8.out x' hxx; go_simp; try with_reducible rfl)))
                                change wpAnyH _ _ _ _ _ _ _ (Act.put _ (some 71) _) _
                                simp only [Act.put, List.setIfInBounds_toArray, List.set_cons_zero, List.set_cons_succ]
                                first | (refine wpAnyH_take (i := 2) (v := undef) rfl (by kernel_rfl) (by kernel_rfl) (by kernel_rfl) (fun _ _ _ h => h) (Or.inr ⟨by rfl, rfl⟩) (by assumption) ?_) | (refine wpAnyH_take (i := 2) (v := ?v127) rfl (by kernel_rfl) (by kernel_rfl) (by kernel_rfl) (fun _ _ _ h => h) (Or.inl ⟨by rfl, ?hy127⟩) (by assumption) ?_; (case hy127 => (intro x' hxx; obtain ⟨e0, e1, e2, e3, e4, e5⟩ := C8.out x' hxx; go_simp; try with_reducible rfl)))
                                change wpAnyH _ _ _ _ _ _ _ (Act.put _ (some 72) _) _
                                simp only [Act.put, List.setIfInBounds_toArray, List.set_cons_zero, List.set_cons_succ]
                                first | (refine wpAnyH_take (i := 3) (v := undef) rfl (by kernel_rfl) (by kernel_rfl) (by kernel_rfl) (fun _ _ _ h => h) (Or.inr ⟨by rfl, rfl⟩) (by assumption) ?_) | (refine wpAnyH_take (i := 3) (v := ?v128) rfl (by kernel_rfl) (by kernel_rfl) (by kernel_rfl) (fun _ _ _ h => h) (Or.inl ⟨by rfl, ?hy128⟩) (by assumption) ?_; (case hy128 => (intro x' hxx; obtain ⟨e0, e1, e2, e3, e4, e5⟩ := C8.out x' hxx; go_simp; try with_reducible rfl)))
                                change wpAnyH _ _ _ _ _ _ _ (Act.put _ (some 73) _) _
                                simp only [Act.put, List.setIfInBounds_toArray, List.set_cons_zero, List.set_cons_succ]
                                first | (refine wpAnyH_take (i := 4) (v := undef) rfl (by kernel_rfl) (by kernel_rfl) (by kernel_rfl) (fun _ _ _ h => h) (Or.inr ⟨by rfl, rfl⟩) (by assumption) ?_) | (refine wpAnyH_take (i := 4) (v := ?v129) rfl (by kernel_rfl) (by kernel_rfl) (by kernel_rfl) (fun _ _ _ h => h) (Or.inl ⟨by rfl, ?hy129⟩) (by assumption) ?_; (case hy129 => (intro x' hxx; obtain ⟨e0, e1, e2, e3, e4, e5⟩ := C8.out x' hxx; go_simp; try with_reducible rfl)))
                                change wpAnyH _ _ _ _ _ _ _ (Act.put _ (some 74) _) _
                                simp only [Act.put, List.setIfInBounds_toArray, List.set_cons_zero, List.set_cons_succ]
                                first | (refine wpAnyH_take (i := 5) (v := undef) rfl (by kernel_rfl) (by kernel_rfl) (by kernel_rfl) (fun _ _ _ h => h) (Or.inr ⟨by rfl, rfl⟩) (by assumption) ?_) | (refine wpAnyH_take (i := 5) (v := ?v130) rfl (by kernel_rfl) (by kernel_rfl) (by kernel_rfl) (fun _ _ _ h => h) (Or.inl ⟨by rfl, ?hy130⟩) (by assumption) ?_; (case hy130 => (intro x' hxx; obtain ⟨e0, e1, e2, e3, e4, e5⟩ := C8.out x' hxx; go_simp; try with_reducible rfl)))
                                change wpAnyH _ _ _ _ _ _ _ (Act.put _ (some 75) _) _
                                simp only [Act.put, List.setIfInBounds_toArray, List.set_cons_zero, List.set_cons_succ]
                                first | (refine wpAnyH_take (i := 6) (v := undef) rfl (by kernel_rfl) (by kernel_rfl) (by kernel_rfl) (fun _ _ _ h => h) (Or.inr ⟨by rfl, rfl⟩) (by assumption) ?_) | (refine wpAnyH_take (i := 6) (v := ?v131) rfl (by kernel_rfl) (by kernel_rfl) (by kernel_rfl) (fun _ _ _ h => h) (Or.inl ⟨by rfl, ?hy131⟩) (by assumption) ?_; (case hy131 => (intro x' hxx; obtain ⟨e0, e1, e2, e3, e4, e5⟩ := C8.out x' hxx; go_simp; try with_reducible rfl)))
                                change wpAnyH _ _ _ _ _ _ _ (Act.put _ (some 76) _) _
                                simp only [Act.put, List.setIfInBounds_toArray, List.set_cons_zero, List.set_cons_succ]
                                first | (refine wpAnyH_take (i := 7) (v := undef) rfl (by kernel_rfl) (by kernel_rfl) (by kernel_rfl) (fun _ _ _ h => h) (Or.inr ⟨by rfl, rfl⟩) (by assumption) ?_) | (refine wpAnyH_take (i := 7) (v := ?v132) rfl (by kernel_rfl) (by kernel_rfl) (by kernel_rfl) (fun _ _ _ h => h) (Or.inl ⟨by rfl, ?hy132⟩) (by assumption) ?_; (case hy132 => (intro x' hxx; obtain ⟨e0, e1, e2, e3, e4, e5⟩ := C8.out x' hxx; go_simp; try with_reducible rfl)))
                                change wpAnyH _ _ _ _ _ _ _ (Act.put _ (some 77) _) _
                                simp only [Act.put, List.setIfInBounds_toArray, List.set_cons_zero, List.set_cons_succ]
                                first | (refine wpAnyH_take (i := 8) (v := undef) rfl (by kernel_rfl) (by kernel_rfl) (by kernel_rfl) (fun _ _ _ h => h) (Or.inr ⟨by rfl, rfl⟩) (by assumption) ?_) | (refine wpAnyH_take (i := 8) (v := ?v133) rfl (by kernel_rfl) (by kernel_rfl) (by kernel_rfl) (fun _ _ _ h => h) (Or.inl ⟨by rfl, ?hy133⟩) (by assumption) ?_; (case hy133 => (intro x' hxx; obtain ⟨e0, e1, e2, e3, e4, e5⟩ := C8.out x' hxx; go_simp; try with_reducible rfl)))
                                change wpAnyH _ _ _ _ _ _ _ (Act.put _ (some 78) _) _
                                simp only [Act.put, List.setIfInBounds_toArray, List.set_cons_zero, List.set_cons_succ]
                                first | (refine wpAnyH_take (i := 9) (v := undef) rfl (by kernel_rfl) (by kernel_rfl) (by kernel_rfl) (fun _ _ _ h => h) (Or.inr ⟨by rfl, rfl⟩) (by assumption) ?_) | (refine wpAnyH_take (i := 9) (v := ?v134) rfl (by kernel_rfl) (by kernel_rfl) (by kernel_rfl) (fun _ _ _ h => h) (Or.inl ⟨by rfl, ?hy134⟩) (by assumption) ?_; (case hy134 => (intro x' hxx; obtain ⟨e0, e1, e2, e3, e4, e5⟩ := C8.out x' hxx; go_simp; try with_reducible rfl)))
                                change wpAnyH _ _ _ _ _ _ _ (Act.put _ (some 79) _) _
                                simp only [Act.put, List.setIfInBounds_toArray, List.set_cons_zero, List.set_cons_succ]
                                first | (refine wpAnyH_take (i := 10) (v := undef) rfl (by kernel_rfl) (by kernel_rfl) (by kernel_rfl) (fun _ _ _ h => h) (Or.inr ⟨by rfl, rfl⟩) (by assumption) ?_) | (refine wpAnyH_take (i := 10) (v := ?v135) rfl (by kernel_rfl) (by kernel_rfl) (by kernel_rfl) (fun _ _ _ h => h) (Or.inl ⟨by rfl, ?hy135⟩) (by assumption) ?_; (case hy135 => (intro x' hxx; obtain ⟨e0, e1, e2, e3, e4, e5⟩ := C8.out x' hxx; go_simp; try with_reducible rfl)))
                                change wpAnyH _ _ _ _ _ _ _ (Act.put _ (some 80) _) _
                                simp only [Act.put, List.setIfInBounds_toArray, List.set_cons_zero, List.set_cons_succ]
                                first | (refine wpAnyH_take (i := 11) (v := undef) rfl (by kernel_rfl) (by kernel_rfl) (by kernel_rfl) (fun _ _ _ h => h) (Or.inr ⟨by rfl, rfl⟩) (by assumption) ?_) | (refine wpAnyH_take (i := 11) (v := ?v136) rfl (by kernel_rfl) (by kernel_rfl) (by kernel_rfl) (fun _ _ _ h => h) (Or.inl ⟨by rfl, ?hy136⟩) (by assumption) ?_; (case hy136 => (intro x' hxx; obtain ⟨e0, e1, e2, e3, e4, e5⟩ := C8.out x' hxx; go_simp; try with_reducible rfl)))
                                change wpAnyH _ _ _ _ _ _ _ (Act.put _ (some 81) _) _
                                simp only [Act.put, List.setIfInBounds_toArray, List.set_cons_zero, List.set_cons_succ]
                                first | (refine wpAnyH_take (i := 12) (v := undef) rfl (by kernel_rfl) (by kernel_rfl) (by kernel_rfl) (fun _ _ _ h => h) (Or.inr ⟨by rfl, rfl⟩) (by assumption) ?_) | (refine wpAnyH_take (i := 12) (v := ?v137) rfl (by kernel_rfl) (by kernel_rfl) (by kernel_rfl) (fun _ _ _ h => h) (Or.inl ⟨by rfl, ?hy137⟩) (by assumption) ?_; (case hy137 => (intro x' hxx; obtain ⟨e0, e1, e2, e3, e4, e5⟩ := C8.out x' hxx; go_simp; try with_reducible rfl)))
                                change wpAnyH _ _ _ _ _ _ _ (Act.put _ (some 82) _) _
                                simp only [Act.put, List.setIfInBounds_toArray, List.set_cons_zero, List.set_cons_succ]
                                first | (refine wpAnyH_take (i := 13) (v := undef) rfl (by kernel_rfl) (by kernel_rfl) (by kernel_rfl) (fun _ _ _ h => h) (Or.inr ⟨by rfl, rfl⟩) (by assumption) ?_) | (refine wpAnyH_take (i := 13) (v := ?v138) rfl (by kernel_rfl) (by kernel_rfl) (by kernel_rfl) (fun _ _ _ h => h) (Or.inl ⟨by rfl, ?hy138⟩) (by assumption) ?_; (case hy138 => (intro x' hxx; obtain ⟨e0, e1, e2, e3, e4, e5⟩ := C8.out x' hxx; go_simp; try with_reducible rfl)))
                                change wpAnyH _ _ _ _ _ _ _ (Act.put _ (some 83) _) _
                                simp only [Act.put, List.setIfInBounds_toArray, List.set_cons_zero, List.set_cons_succ]
                                first | (refine wpAnyH_take (i := 14) (v := undef) rfl (by kernel_rfl) (by kernel_rfl) (by kernel_rfl) (fun _ _ _ h => h) (Or.inr ⟨by rfl, rfl⟩) (by assumption) ?_) | (refine wpAnyH_take (i := 14) (v := ?v139) rfl (by kernel_rfl) (by kernel_rfl) (by kernel_rfl) (fun _ _ _ h => h) (Or.inl ⟨by rfl, ?hy139⟩) (by assumption) ?_; (case hy139 => (intro x' hxx; obtain ⟨e0, e1, e2, e3, e4, e5⟩ := C8.out x' hxx; go_simp; try with_reducible rfl)))
                                change wpAnyH _ _ _ _ _ _ _ (Act.put _ (some 84) _) _
                                simp only [Act.put, List.setIfInBounds_toArray, List.set_cons_zero, List.set_cons_succ]
                                first | (refine wpAnyH_take (i := 15) (v := undef) rfl (by kernel_rfl) (by kernel_rfl) (by kernel_rfl) (fun _ _ _ h => h) (Or.inr ⟨by rfl, rfl⟩) (by assumption) ?_) | (refine wpAnyH_take (i := 15) (v := ?v140) rfl (by kernel_rfl) (by kernel_rfl) (by kernel_rfl) (fun _ _ _ h => h) (Or.inl ⟨by rfl, ?hy140⟩) (by assumption) ?_; (case hy140 => (intro x' hxx; obtain ⟨e0, e1, e2, e3, e4, e5⟩ := C8.out x' hxx; go_simp; try with_reducible rfl)))
                                change wpAnyH _ _ _ _ _ _ _ (Act.put _ (some 85) _) _
                                simp only [Act.put, List.setIfInBounds_toArray, List.set_cons_zero, List.set_cons_succ]
                                first | (refine wpAnyH_take (i := 16) (v := undef) rfl (by kernel_rfl) (by kernel_rfl) (by kernel_rfl) (fun _ _ _ h => h) (Or.inr ⟨by rfl, rfl⟩) (by assumption) ?_) | (refine wpAnyH_take (i := 16) (v := ?v141) rfl (by kernel_rfl) (by kernel_rfl) (by kernel_rfl) (fun _ _ _ h => h) (Or.inl ⟨by rfl, ?hy141⟩) (by assumption) ?_; (case hy141 => (intro x' hxx; obtain ⟨e0, e1, e2, e3, e4, e5⟩ := C8.out x' hxx; go_simp; try with_reducible rfl)))
                                change wpAnyH _ _ _ _ _ _ _ (Act.put _ (some 86) _) _
                                simp only [Act.put, List.setIfInBounds_toArray, List.set_cons_zero, List.set_cons_succ]
                                first | (refine wpAnyH_take (i := 17) (v := undef) rfl (by kernel_rfl) (by kernel_rfl) (by kernel_rfl) (fun _ _ _ h => h) (Or.inr ⟨by rfl, rfl⟩) (by assumption) ?_) | (refine wpAnyH_take (i := 17) (v := ?v142) rfl (by kernel_rfl) (by kernel_rfl) (by kernel_rfl) (fun _ _ _ h => h) (Or.inl ⟨by rfl, ?hy142⟩) (by assumption) ?_; (case hy142 => (intro x' hxx; obtain ⟨e0, e1, e2, e3, e4, e5⟩ := C8.out x' hxx; go_simp; try with_reducible rfl)))
                                change wpAnyH _ _ _ _ _ _ _ (Act.put _ (some 87) _) _
                                simp only [Act.put, List.setIfInBounds_toArray, List.set_cons_zero, List.set_cons_succ]
                                first | (refine wpAnyH_take (i := 18) (v := undef) rfl (by kernel_rfl) (by kernel_rfl) (by kernel_rfl) (fun _ _ _ h => h) (Or.inr ⟨by rfl, rfl⟩) (by assumption) ?_) | (refine wpAnyH_take (i := 18) (v := ?v143) rfl (by kernel_rfl) (by kernel_rfl) (by kernel_rfl) (fun _ _ _ h => h) (Or.inl ⟨by rfl, ?hy143⟩) (by assumption) ?_; (case hy143 => (intro x' hxx; obtain ⟨e0, e1, e2, e3, e4, e5⟩ := C8.out x' hxx; go_simp; try with_reducible rfl)))
                                change wpAnyH _ _ _ _ _ _ _ (Act.put _ (some 88) _) _
                                simp only [Act.put, List.setIfInBounds_toArray, List.set_cons_zero, List.set_cons_succ]
                                first | (refine wpAnyH_take (i := 19) (v := undef) rfl (by kernel_rfl) (by kernel_rfl) (by kernel_rfl) (fun _ _ _ h => h) (Or.inr ⟨by rfl, rfl⟩) (by assumption) ?_) | (refine wpAnyH_take (i := 19) (v := ?v144) rfl (by kernel_rfl) (by kernel_rfl) (by kernel_rfl) (fun _ _ _ h => h) (Or.inl ⟨by rfl, ?hy144⟩) (by assumption) ?_; (case hy144 => (intro x' hxx; obtain ⟨e0, e1, e2, e3, e4, e5⟩ := C8.out x' hxx; go_simp; try with_reducible rfl)))
                                change wpAnyH _ _ _ _ _ _ _ (Act.put _ (some 89) _) _
                                simp only [Act.put, List.setIfInBounds_toArray, List.set_cons_zero, List.set_cons_succ]
                                first | (refine wpAnyH_take (i := 20) (v := undef) rfl (by kernel_rfl) (by kernel_rfl) (by kernel_rfl) (fun _ _ _ h => h) (Or.inr ⟨by rfl, rfl⟩) (by assumption) ?_) | (refine wpAnyH_take (i := 20) (v := ?v145) rfl (by kernel_rfl) (by kernel_rfl) (by kernel_rfl) (fun _ _ _ h => h) (Or.inl ⟨by rfl, ?hy145⟩) (by assumption) ?_; (case hy145 => (intro x' hxx; obtain ⟨e0, e1, e2, e3, e4, e5⟩ := C8.out x' hxx; go_simp; try with_reducible rfl)))
                                change wpAnyH _ _ _ _ _ _ _ (Act.put _ (some 90) _) _
                                simp only [Act.put, List.setIfInBounds_toArray, List.set_cons_zero, List.set_cons_succ]
                                first | (refine wpAnyH_take (i := 21) (v := undef) rfl (by kernel_rfl) (by kernel_rfl) (by kernel_rfl) (fun _ _ _ h => h) (Or.inr ⟨by rfl, rfl⟩) (by assumption) ?_) | (refine wpAnyH_take (i := 21) (v := ?v146) rfl (by kernel_rfl) (by kernel_rfl) (by kernel_rfl) (fun _ _ _ h => h) (Or.inl ⟨by rfl, ?hy146⟩) (by assumption) ?_; (case hy146 => (intro x' hxx; obtain ⟨e0, e1, e2, e3, e4, e5⟩ := C8.out x' hxx; go_simp; try with_reducible rfl)))
                                change wpAnyH _ _ _ _ _ _ _ (Act.put _ (some 91) _) _
                                simp only [Act.put, List.setIfInBounds_toArray, List.set_cons_zero, List.set_cons_succ]
                                first | (refine wpAnyH_take (i := 22) (v := undef) rfl (by kernel_rfl) (by kernel_rfl) (by kernel_rfl) (fun _ _ _ h => h) (Or.inr ⟨by rfl, rfl⟩) (by assumption) ?_) | (refine wpAnyH_take (i := 22) (v := ?v147) rfl (by kernel_rfl) (by kernel_rfl) (by kernel_rfl) (fun _ _ _ h => h) (Or.inl ⟨by rfl, ?hy147⟩) (by assumption) ?_; (case hy147 => (intro x' hxx; obtain ⟨e0, e1, e2, e3, e4, e5⟩ := C8.out x' hxx; go_simp; try with_reducible rfl)))
                                change wpAnyH _ _ _ _ _ _ _ (Act.put _ (some 92) _) _
                                simp only [Act.put, List.setIfInBounds_toArray, List.set_cons_zero, List.set_cons_succ]
                                first | (refine wpAnyH_take (i := 23) (v := undef) rfl (by kernel_rfl) (by kernel_rfl) (by kernel_rfl) (fun _ _ _ h => h) (Or.inr ⟨by rfl, rfl⟩) (by assumption) ?_) | (refine wpAnyH_take (i := 23) (v := ?v148) rfl (by kernel_rfl) (by kernel_rfl) (by kernel_rfl) (fun _ _ _ h => h) (Or.inl ⟨by rfl, ?hy148⟩) (by assumption) ?_; (case hy148 => (intro x' hxx; obtain ⟨e0, e1, e2, e3, e4, e5⟩ := C8.out x' hxx; go_simp; try with_reducible rfl)))
                                change wpAnyH _ _ _ _ _ _ _ (Act.put _ (some 93) _) _
                                simp only [Act.put, List.setIfInBounds_toArray, List.set_cons_zero, List.set_cons_succ]
                                first | (refine wpAnyH_take (i := 24) (v := undef) rfl (by kernel_rfl) (by kernel_rfl) (by kernel_rfl) (fun _ _ _ h => h) (Or.inr ⟨by rfl, rfl⟩) (by assumption) ?_) | (refine wpAnyH_take (i := 24) (v := ?v149) rfl (by kernel_rfl) (by kernel_rfl) (by kernel_rfl) (fun _ _ _ h => h) (Or.inl ⟨by rfl, ?hy149⟩) (by assumption) ?_; (case hy149 => (intro x' hxx; obtain ⟨e0, e1, e2, e3, e4, e5⟩ := C8.out x' hxx; go_simp; try with_reducible rfl)))
                                change wpAnyH _ _ _ _ _ _ _ (Act.put _ (some 94) _) _
                                simp only [Act.put, List.setIfInBounds_toArray, List.set_cons_zero, List.set_cons_succ]
                                first | (refine wpAnyH_take (i := 25) (v := undef) rfl (by kernel_rfl) (by kernel_rfl) (by kernel_rfl) (fun _ _ _ h => h) (Or.inr ⟨by rfl, rfl⟩) (by assumption) ?_) | (refine wpAnyH_take (i := 25) (v := ?v150) rfl (by kernel_rfl) (by kernel_rfl) (by kernel_rfl) (fun _ _ _ h => h) (Or.inl ⟨by rfl, ?hy150⟩) (by assumption) ?_; (case hy150 => (intro x' hxx; obtain ⟨e0, e1, e2, e3, e4, e5⟩ := C8.out x' hxx; go_simp; try with_reducible rfl)))
                                change wpAnyH _ _ _ _ _ _ _ (Act.put _ (some 95) _) _
                                simp only [Act.put, List.setIfInBounds_toArray, List.set_cons_zero, List.set_cons_succ]
                                first | (refine wpAnyH_take (i := 26) (v := undef) rfl (by kernel_rfl) (by kernel_rfl) (by kernel_rfl) (fun _ _ _ h => h) (Or.inr ⟨by rfl, rfl⟩) (by assumption) ?_) | (refine wpAnyH_take (i := 26) (v := ?v151) rfl (by kernel_rfl) (by kernel_rfl) (by kernel_rfl) (fun _ _ _ h => h) (Or.inl ⟨by rfl, ?hy151⟩) (by assumption) ?_; (case hy151 => (intro x' hxx; obtain ⟨e0, e1, e2, e3, e4, e5⟩ := C8.out x' hxx; go_simp; try with_reducible rfl)))
                                change wpAnyH _ _ _ _ _ _ _ (Act.put _ (some 96) _) _
                                simp only [Act.put, List.setIfInBounds_toArray, List.set_cons_zero, List.set_cons_succ]
                                first | (refine wpAnyH_take (i := 27) (v := undef) rfl (by kernel_rfl) (by kernel_rfl) (by kernel_rfl) (fun _ _ _ h => h) (Or.inr ⟨by rfl, rfl⟩) (by assumption) ?_) | (refine wpAnyH_take (i := 27) (v := ?v152) rfl (by kernel_rfl) (by kernel_rfl) (by kernel_rfl) (fun _ _ _ h => h) (Or.inl ⟨by rfl, ?hy152⟩) (by assumption) ?_; (case hy152 => (intro x' hxx; obtain ⟨e0, e1, e2, e3, e4, e5⟩ := C8.out x' hxx; go_simp; try with_reducible rfl)))
                                change wpAnyH _ _ _ _ _ _ _ (Act.put _ (some 97) _) _
                                simp only [Act.put, List.setIfInBounds_toArray, List.set_cons_zero, List.set_cons_succ]
                                first | (refine wpAnyH_take (i := 28) (v := undef) rfl (by kernel_rfl) (by kernel_rfl) (by kernel_rfl) (fun _ _ _ h => h) (Or.inr ⟨by rfl, rfl⟩) (by assumption) ?_) | (refine wpAnyH_take (i := 28) (v := ?v153) rfl (by kernel_rfl) (by kernel_rfl) (by kernel_rfl) (fun _ _ _ h => h) (Or.inl ⟨by rfl, ?hy153⟩) (by assumption) ?_; (case hy153 => (intro x' hxx; obtain ⟨e0, e1, e2, e3, e4, e5⟩ := C8.out x' hxx; go_simp; try with_reducible rfl)))
                                change wpAnyH _ _ _ _ _ _ _ (Act.put _ (some 98) _) _
                                simp only [Act.put, List.setIfInBounds_toArray, List.set_cons_zero, List.set_cons_succ]
                                first | (refine wpAnyH_take (i := 29) (v := undef) rfl (by kernel_rfl) (by kernel_rfl) (by kernel_rfl) (fun _ _ _ h => h) (Or.inr ⟨by rfl, rfl⟩) (by assumption) ?_) | (refine wpAnyH_take (i := 29) (v := ?v154) rfl (by kernel_rfl) (by kernel_rfl) (by kernel_rfl) (fun _ _ _ h => h) (Or.inl ⟨by rfl, ?hy154⟩) (by assumption) ?_; (case hy154 => (intro x' hxx; obtain ⟨e0, e1, e2, e3, e4, e5⟩ := C8.out x' hxx; go_simp; try with_reducible rfl)))
                                change wpAnyH _ _ _ _ _ _ _ (Act.put _ (some 99) _) _
                                simp only [Act.put, List.setIfInBounds_toArray, List.set_cons_zero, List.set_cons_succ]
                                first | (refine wpAnyH_take (i := 30) (v := undef) rfl (by kernel_rfl) (by kernel_rfl) (by kernel_rfl) (fun _ _ _ h => h) (Or.inr ⟨by rfl, rfl⟩) (by assumption) ?_) | (refine wpAnyH_take (i := 30) (v := ?v155) rfl (by kernel_rfl) (by kernel_rfl) (by kernel_rfl) (fun _ _ _ h => h) (Or.inl ⟨by rfl, ?hy155⟩) (by assumption) ?_; (case hy155 => (intro x' hxx; obtain ⟨e0, e1, e2, e3, e4, e5⟩ := C8.out x' hxx; go_simp; try with_reducible rfl)))
                                change wpAnyH _ _ _ _ _ _ _ (Act.put _ (some 100) _) _
                                simp only [Act.put, List.setIfInBounds_toArray, List.set_cons_zero, List.set_cons_succ]
                                refine wpAnyH_done (by kernel_rfl) ?_ _
                                refine NoPanic.normal ?_
                                clear hH
                                have HB1 : Hid (Below w.heap.size w wi.drew) := HBR.out.drew
                                have HBX1 : Hid (Below wl.heap.size wl wi.drew) := HBX2.out.drew
                                have HEK1 := Lib.hid (hid_ek_drew HEK.out)
                                replace c0' : wi.drew.cell? _ = _ := c0'
                                replace c2' : wi.drew.cell? _ = _ := c2'
                                replace d0' : wi.drew.cell? _ = _ := d0'
                                replace d1' : wi.drew.cell? _ = _ := d1'
                                replace d2' : wi.drew.cell? _ = _ := d2'
                                replace hfc : wi.drew.cell? _ = _ := hfc
                                replace hec : wi.drew.cell? _ = _ := hec
                                clear C8 HBR HBX2 HEK hnc
                                obtain ⟨W1, hW1⟩ : ∃ W1, W1 = wi.drew := ⟨_, rfl⟩
                                rw [← hW1] at HB1 HBX1 HEK1 c0' c2' d0' d1' d2' hfc hec ⊢
                                clear hW1
                                obtain ⟨nx, hnx⟩ : ∃ nx : Nat, nx = l.nextOf i := ⟨_, rfl⟩
                                have HNX := Lib.hid hnx
                                have hnx2 : nx = if i + 1 < f then i + 1 else bn := by rw [hnx]; unfold LassoD.nextOf; rw [← Hn.out, ← Hbk.out]; simp
                                clear hnx
                                have hnxl : nx < f := by rw [hnx2]; split <;> omega
                                have hbnI : (bn : Int) < (f : Int) := by omega
                                have hnodes : ∀ q, q < f → W1.cell? ⟨nb, no + q, none⟩ = some (.int .i64 (l.nodes.getD q 0)) := by
                                  intro q hq
                                  obtain ⟨-, b', o', e', hb', hc', -⟩ := HNO.out.part q (by rw [← Hn.out]; exact hq)
                                  cases e'
                                  exact (HB1.out.cell (p := ⟨nb, no + q, none⟩) hb').trans hc'
                                obtain ⟨y0, hy0⟩ : ∃ y0, y0 = l.nodes.getD bn 0 := ⟨_, rfl⟩
                                have hnb := hnodes bn hbn
                                rw [← hy0] at hnb
                                have HY0 := Lib.hid hy0
                                clear hy0
                                obtain ⟨-, qb, qo, rfl, -, q1, q2⟩ := HEK1.out.part en (by rw [← HLN.out]; omega)
                                obtain ⟨et, het⟩ : ∃ et, et = ((g.edges.getD xn []).getD en default).to := ⟨_, rfl⟩
                                obtain ⟨em, hem⟩ : ∃ em, em = ((g.edges.getD xn []).getD en default).marks := ⟨_, rfl⟩
                                rw [← het] at q1
                                rw [← hem] at q2
                                have HET := Lib.hid het
                                have HEM := Lib.hid hem
                                clear het hem
                                have henI : (en : Int) < (ln : Int) := by omega
                                by_cases b5 : (i : Int) + 1 < (f : Int)
                                · have hnx3 : nx = i + 1 := by rw [hnx2, if_pos (by omega)]
                                  have hn2 := hnodes (i + 1) (by omega)
                                  obtain ⟨y1, hy1⟩ : ∃ y1, y1 = l.nodes.getD (i + 1) 0 := ⟨_, rfl⟩
                                  rw [← hy1] at hn2
                                  have HY1 := Lib.hid hy1
                                  have HN3 := Lib.hid hnx3
                                  have hi1 : (0 : Int) ≤ (i : Int) + 1 := by omega
                                  clear hnx2 hnx3 hy1 hnodes
                                  as_aux_lemma =>
                                    have HY : Hid (y1 = l.nodes.getD nx 0) := by rw [Hid, HY1.out, HN3.out]
                                    by_cases b6 : et = y1
                                    · have b6' : ((et : Int) != y1) = false := by simp [b6]
                                      have HB6 := Lib.hid b6
                                      clear b6
                                      have hst : stepOk g l i = true := by
                                        have h2 := HLN.out
                                        unfold stepOk nodeB GraphD.edgeAt; rw [← HX.out, ← HEE.out, ← HNX.out, ← HY.out, ← HNN.out]; simp only [Int.toNat_natCast, Bool.and_eq_true, decide_eq_true_eq]; have h3 := HET.out; have h4 := HB6.out; exact ⟨⟨⟨by omega, by omega⟩, ⟨by omega, by omega⟩⟩, by rw [← h3]; exact h4⟩
                                      have HST := Lib.hid hst
                                      clear hst
                                      by_cases b7 : (bn : Int) ≤ (i : Int)
                                      · have b7' : (i : Int) ≥ (bn : Int) := b7
                                        go_wp2_with fail
                                        go_quiet (fail)
                                        go_wp2_with fail
                                        go_quiet (fail)
                                        go_wp2_with fail
                                        go_roundg (f - (i + 1))
                                        case measure => rw [HG.out]; omega
                                        case rel => exact ⟨i + 1, by omega, rfl, by simp, by show _ = Value.int .i64 (if _ then _ else _); rw [if_pos (by rw [← Hbk.out]; omega), ← HMT.out, ← HX.out, ← HEE.out]; unfold GraphD.edgeAt; simp only [Int.toNat_natCast]; rw [← HEM.out], fun j hj => by
                                          by_cases he : j = i
                                          · subst he; exact HST.out
                                          · exact HJ.out j (by omega), by first | exact drewN_below (drewN_below HB1.out _) _ | exact drewN_below HB1.out _, by first | exact drewN_below (drewN_below HBX1.out _) _ | exact drewN_below HBX1.out _⟩
                                      · have b7' : ¬ (i : Int) ≥ (bn : Int) := b7
                                        go_wp2_with fail
                                        go_quiet (fail)
                                        go_wp2_with fail
                                        go_roundg (f - (i + 1))
                                        case measure => rw [HG.out]; omega
                                        case rel => exact ⟨i + 1, by omega, rfl, by simp, by show _ = Value.int .i64 (if _ then _ else _); rw [if_neg (by rw [← Hbk.out]; omega), ← HMT.out], fun j hj => by
                                          by_cases he : j = i
                                          · subst he; exact HST.out
                                          · exact HJ.out j (by omega), by first | exact drewN_below HB1.out _ | exact drewN_below HB1.out _, by first | exact drewN_below HBX1.out _ | exact drewN_below HBX1.out _⟩
                                    · have b6' : ((et : Int) != y1) = true := by simp [b6]
                                      have HB6 := Lib.hid b6
                                      clear b6
                                      obtain rfl : r = false := by
                                        have : stepOk g l i = false := by
                                          have h2 : decide ((g.edgeAt (xn : Int) (en : Int)).to = l.nodes.getD (l.nextOf i) 0) = false := by rw [decide_eq_false_iff_not]; unfold GraphD.edgeAt; simp only [Int.toNat_natCast]; rw [← HNX.out, ← HY.out, ← HET.out]; exact HB6.out
                                          unfold stepOk; rw [← HX.out, ← HEE.out, h2]; simp
                                        rw [HR3.out, List.all_eq_false.2 ⟨i, by simpa using hlt, by simp [this]⟩]; simp
                                      clear HR3
                                      go_wp2_with fail
                                      go_quiet (fail)
                                      go_wp2_with fail
                                      go_ret
                                      exact ⟨by first | rfl | simp, drewN_below HB1.out _⟩
                                · have hnx3 : nx = bn := by rw [hnx2, if_neg (by omega)]
                                  have HN3 := Lib.hid hnx3
                                  clear hnx2 hnx3 hnodes
                                  as_aux_lemma =>
                                    have HY : Hid (y0 = l.nodes.getD nx 0) := by rw [Hid, HY0.out, HN3.out]
                                    by_cases b6 : et = y0
                                    · have b6' : ((et : Int) != y0) = false := by simp [b6]
                                      have HB6 := Lib.hid b6
                                      clear b6
                                      have hst : stepOk g l i = true := by
                                        have h2 := HLN.out
                                        unfold stepOk nodeB GraphD.edgeAt; rw [← HX.out, ← HEE.out, ← HNX.out, ← HY.out, ← HNN.out]; simp only [Int.toNat_natCast, Bool.and_eq_true, decide_eq_true_eq]; have h3 := HET.out; have h4 := HB6.out; exact ⟨⟨⟨by omega, by omega⟩, ⟨by omega, by omega⟩⟩, by rw [← h3]; exact h4⟩
                                      have HST := Lib.hid hst
                                      clear hst
                                      by_cases b7 : (bn : Int) ≤ (i : Int)
                                      · have b7' : (i : Int) ≥ (bn : Int) := b7
                                        go_wp2_with fail
                                        go_quiet (fail)
                                        go_wp2_with fail
                                        go_quiet (fail)
                                        go_wp2_with fail
                                        go_roundg (f - (i + 1))
                                        case measure => rw [HG.out]; omega
                                        case rel => exact ⟨i + 1, by omega, rfl, by simp, by show _ = Value.int .i64 (if _ then _ else _); rw [if_pos (by rw [← Hbk.out]; omega), ← HMT.out, ← HX.out, ← HEE.out]; unfold GraphD.edgeAt; simp only [Int.toNat_natCast]; rw [← HEM.out], fun j hj => by
                                          by_cases he : j = i
                                          · subst he; exact HST.out
                                          · exact HJ.out j (by omega), by first | exact drewN_below (drewN_below HB1.out _) _ | exact drewN_below HB1.out _, by first | exact drewN_below (drewN_below HBX1.out _) _ | exact drewN_below HBX1.out _⟩
                                      · have b7' : ¬ (i : Int) ≥ (bn : Int) := b7
                                        exact absurd b5 (by omega)
                                    · have b6' : ((et : Int) != y0) = true := by simp [b6]
                                      have HB6 := Lib.hid b6
                                      clear b6
                                      obtain rfl : r = false := by
                                        have : stepOk g l i = false := by
                                          have h2 : decide ((g.edgeAt (xn : Int) (en : Int)).to = l.nodes.getD (l.nextOf i) 0) = false := by rw [decide_eq_false_iff_not]; unfold GraphD.edgeAt; simp only [Int.toNat_natCast]; rw [← HNX.out, ← HY.out, ← HET.out]; exact HB6.out
                                          unfold stepOk; rw [← HX.out, ← HEE.out, h2]; simp
                                        rw [HR3.out, List.all_eq_false.2 ⟨i, by simpa using hlt, by simp [this]⟩]; simp
                                      clear HR3
                                      go_wp2_with fail
                                      go_quiet (fail)
                                      go_wp2_with fail
                                      go_ret
                                      exact ⟨by first | rfl | simp, drewN_below HB1.out _⟩
                    · as_aux_lemma =>
                        obtain rfl : i = f := by omega
                        have hall : (List.range i).all (stepOk g l) = true := by rw [List.all_eq_true]; intro j hj; exact HJ.out j (by simpa using hj)
                        have hr3 : r = (bb && decide (bits .and .i64 mt (2 ^ m.toNat - 1) = 2 ^ m.toNat - 1)) := by rw [HR3.out, hall, HMT.out, Hm.out]; simp
                        have HR4 := Lib.hid hr3
                        have hm1 : 0 ≤ m ∧ m ≤ 40 := by have h := HGR.out; unfold GraphD.right at h; simp only [Bool.and_eq_true, decide_eq_true_eq] at h; rw [Hm.out]; omega
                        obtain ⟨mn, rfl⟩ : ∃ mn : Nat, m = (mn : Int) := ⟨m.toNat, by omega⟩
                        have hmn : mn ≤ 40 := by omega
                        clear hall hr3 HR3 hm1 hlt
                        cases bb
                        · obtain rfl : r = false := by rw [HR4.out]; simp
                          go_wp2_with fail
                          go_quiet (fail)
                          go_wp2_with fail
                          go_ret
                          exact ⟨by first | rfl | simp, drewN_below HBR.out _⟩
                        · go_wp2_with fail
                          go_quiet (fail)
                          go_wp2_with fail
                          go_ret
                          refine ⟨?_, drewN_below HBR.out _⟩
                          try simp only [Array.getD_eq_getD_getElem?, List.getElem?_toArray, List.getElem?_cons_succ, List.getElem?_cons_zero, Option.getD_some]
                          try rw [mask64 mn hmn]
                          rw [HR4.out]
                          simp only [Int.toNat_natCast]
                          rfl
      · have e2' : decide (f = n) = false := by simp [b2]
        have b2' : ((f : Int) != (n : Int)) = true := by rw [bne_iff_ne]; omega
        clear b2
        obtain rfl : r = false := by rw [HACC.out, HHEAD.out, e1', e2']; simp
        clear HACC HHEAD
        go_wp2_with fail
        go_ret
        exact ⟨by first | rfl | simp, HBW.out⟩
end Go.Proofs.Ytoojalcfojflhaa
