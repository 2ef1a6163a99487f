/- WordSteps: whatever numbers: what lasts is so here, and at the next place; no condition. -/
import Derived.Test.YtidnpdkibndpkaaStepsL
namespace Go.Proofs.Ytidnpdkibndpkaa
open Go.RowKit

set_option maxRecDepth 100000 in
set_option maxHeartbeats 8000000 in
theorem wordSteps_walk (w : World) (v0 : Value) (l0 : List Int) (h0 : NumsAt w .u8 v0 l0) (v1 : Value) (l1 : List Int) (h1 : NumsAt w .u8 v1 l1) (v2 : Value) (l2 : List Int) (h2 : NumsAt w .u8 v2 l2) (back : Int) (hw : (Lit.int .u8 back).wf = true) :
    Calls Try.prog 6 #[v0, v1, v2, .int .u8 back] w (fun e w' => e = .returned (.bool true) ∧ Below w.heap.size w w') := by
  have hb0 : 0 ≤ back ∧ back ≤ 255 := by simp [Lit.wf, IntKind.min, IntKind.max, IntKind.signed, IntKind.bits] at hw; omega
  obtain ⟨hb0, hb1⟩ := hb0
  have hm0 := fun W (hW : Below w.heap.size w W) => made_any W v0 l0 (h0.below hW)
  have hm1 := fun W (hW : Below w.heap.size w W) => made_any W v1 l1 (h1.below hW)
  have hmw := fun W (hW : Below w.heap.size w W) (d : Nat) (f : Form) (kv : Value) (h : FormAt W d f kv) (hs : f.size ≤ 1000) => madeW_any W d f kv v2 l2 back hb0 hb1 h hs (h2.below hW)
  obtain ⟨a0, c0, rfl, -⟩ := h0
  obtain ⟨a1, c1, rfl, -⟩ := h1
  obtain ⟨a2, c2, rfl, -⟩ := h2
  have HM0 := Lib.hid hm0
  have HM1 := Lib.hid hm1
  have HMW := Lib.hid hmw
  clear hm0 hm1 hmw hw
  go_enter Try.func6, Try.ntmps6
  go_wp2_with fail
  refine (awake_any _).mono ?_
  rintro e w1 ⟨rfl, hba⟩
  have HB1 := Lib.hid hba
  clear hba
  go_wp2_with fail
  refine (HM0.out w1 HB1.out).mono ?_
  rintro e w2 ⟨f, fa, fn, fc, rfl, hf, hfo, hfs, hbb⟩
  obtain ⟨fa', fc', he, hfl⟩ := hf.slice
  cases he
  have HB2 : Hid (Below w.heap.size w w2) := below_then HB1.out hbb
  have HF2 := Lib.hid hf
  have HFO := Lib.hid (show f.okD 6 = true ∧ f.size ≤ 41 from ⟨hfo, hfs⟩)
  clear hf hfo hfs hbb HM0 HB1
  obtain ⟨fk, ⟨f1, f2, f3, f4⟩, fl⟩ := f
  simp only [Form.kids] at hfl HF2
  unfold formV
  simp only [Form.kind, Form.prop, Form.kids]
  go_wp2_with fail
  refine (HM1.out w2 HB2.out).mono ?_
  rintro e w3 ⟨g, ga, gn, gc, rfl, hg, hgo, hgs, hbb⟩
  obtain ⟨ga', gc', he, hgl⟩ := hg.slice
  cases he
  have HB3 : Hid (Below w.heap.size w w3) := below_then HB2.out hbb
  have HF3 := Lib.hid (HF2.out.below hbb)
  have HG3 := Lib.hid hg
  have HGO := Lib.hid (show g.okD 6 = true ∧ g.size ≤ 41 from ⟨hgo, hgs⟩)
  clear hg hgo hgs hbb HM1 HB2 HF2
  obtain ⟨gk, ⟨g1, g2, g3, g4⟩, gl⟩ := g
  simp only [Form.kids] at hgl HG3
  unfold formV
  simp only [Form.kind, Form.prop, Form.kids]
  go_upto_region 5 with fail
  have hB := boxes_below w3 (.cells #[.int .i64 fk, .int .i64 f1, .int .i64 f2, .int .i64 f3, .int .i64 f4, .slice fa fl.length fc] 26) (.cells #[.int .i64 gk, .int .i64 g1, .int .i64 g2, .int .i64 g3, .int .i64 g4, .slice ga gl.length gc] 26)
  have hx1 := boxes_first w3 (.cells #[.int .i64 fk, .int .i64 f1, .int .i64 f2, .int .i64 f3, .int .i64 f4, .slice fa fl.length fc] 26) (.cells #[.int .i64 gk, .int .i64 g1, .int .i64 g2, .int .i64 g3, .int .i64 g4, .slice ga gl.length gc] 26)
  have hx2 := boxes_second w3 (.cells #[.int .i64 fk, .int .i64 f1, .int .i64 f2, .int .i64 f3, .int .i64 f4, .slice fa fl.length fc] 26) (.cells #[.int .i64 gk, .int .i64 g1, .int .i64 g2, .int .i64 g3, .int .i64 g4, .slice ga gl.length gc] 26)
  have HBW : Hid (Below w.heap.size w _) := below_then HB3.out hB
  have HFW : Hid (FormAt _ 6 (Form.mk fk ⟨f1, f2, f3, f4⟩ fl) (.slice fa fl.length fc)) := HF3.out.below hB
  have HGW : Hid (FormAt _ 6 (Form.mk gk ⟨g1, g2, g3, g4⟩ gl) (.slice ga gl.length gc)) := HG3.out.below hB
  have H1 := Lib.hid hx1
  have H2 := Lib.hid hx2
  clear hB hx1 hx2 HF3 HG3 HB3
  obtain ⟨A, hA⟩ : ∃ A, A = w3.heap.size := ⟨_, rfl⟩
  rw [← hA] at H1 H2 ⊢
  clear hA
  generalize World.alloc _ _ = W at HBW HFW HGW H1 H2 ⊢
  have c0 := cell_of_block H1.out 0
  have c1 := cell_of_block H1.out 1
  have c2 := cell_of_block H1.out 2
  have c3 := cell_of_block H1.out 3
  have c4 := cell_of_block H1.out 4
  have c5 := cell_of_block H1.out 5
  have d0 := cell_of_block H2.out 0
  have d1 := cell_of_block H2.out 1
  have d2 := cell_of_block H2.out 2
  have d3 := cell_of_block H2.out 3
  have d4 := cell_of_block H2.out 4
  have d5 := cell_of_block H2.out 5
  simp only [List.getElem?_toArray, List.getElem?_cons_zero, List.getElem?_cons_succ] at c0 c1 c2 c3 c4 c5 d0 d1 d2 d3 d4 d5
  have cF : ∀ x : World, Below W.heap.size W x → x.cell? ⟨A, 0, none⟩ = some (.int .i64 fk) ∧ x.cell? ⟨A, 1, none⟩ = some (.int .i64 f1) ∧ x.cell? ⟨A, 2, none⟩ = some (.int .i64 f2) ∧ x.cell? ⟨A, 3, none⟩ = some (.int .i64 f3) ∧ x.cell? ⟨A, 4, none⟩ = some (.int .i64 f4) ∧ x.cell? ⟨A, 5, none⟩ = some (.slice fa fl.length fc) :=
    fun x hx => ⟨cells_kept hx _ _ c0, cells_kept hx _ _ c1, cells_kept hx _ _ c2, cells_kept hx _ _ c3, cells_kept hx _ _ c4, cells_kept hx _ _ c5⟩
  have cG : ∀ x : World, Below W.heap.size W x → x.cell? ⟨A + 1, 0, none⟩ = some (.int .i64 gk) ∧ x.cell? ⟨A + 1, 1, none⟩ = some (.int .i64 g1) ∧ x.cell? ⟨A + 1, 2, none⟩ = some (.int .i64 g2) ∧ x.cell? ⟨A + 1, 3, none⟩ = some (.int .i64 g3) ∧ x.cell? ⟨A + 1, 4, none⟩ = some (.int .i64 g4) ∧ x.cell? ⟨A + 1, 5, none⟩ = some (.slice ga gl.length gc) :=
    fun x hx => ⟨cells_kept hx _ _ d0, cells_kept hx _ _ d1, cells_kept hx _ _ d2, cells_kept hx _ _ d3, cells_kept hx _ _ d4, cells_kept hx _ _ d5⟩
  have CF := Lib.hid cF
  have CG := Lib.hid cG
  clear cF cG c0 c1 c2 c3 c4 c5 d0 d1 d2 d3 d4 d5
  refine wp_region_noPanic ?_
  refine wp_region_held_drew (S := fun w' => Below W.heap.size W w') (by kernel_rfl) (Below.refl _ _).drew (fun hH => ?_)
  refine wpAnyH_take (i := 0) (v := .agg #[.int .i64 fk, .int .i64 f1, .int .i64 f2, .int .i64 f3, .int .i64 f4, .slice fa fl.length fc]) rfl (by kernel_rfl) (by kernel_rfl) (by kernel_rfl) (fun _ _ _ h => h) (Or.inl ⟨by rfl, ?_⟩) (by assumption) ?_
  · intro x hx
    obtain ⟨e0, e1, e2, e3, e4, e5⟩ := CF.out x hx
    go_simp
  change wpAnyH _ _ _ _ _ _ _ (Act.put _ (some 37) _) _
  simp only [Act.put, List.setIfInBounds_toArray, List.set_cons_zero, List.set_cons_succ]
  refine wpAnyH_take (i := 1) (v := .agg #[.int .i64 gk, .int .i64 g1, .int .i64 g2, .int .i64 g3, .int .i64 g4, .slice ga gl.length gc]) rfl (by kernel_rfl) (by kernel_rfl) (by kernel_rfl) (fun _ _ _ h => h) (Or.inl ⟨by rfl, ?_⟩) (by assumption) ?_
  · intro x hx
    obtain ⟨e0, e1, e2, e3, e4, e5⟩ := CG.out x hx
    go_simp
  change wpAnyH _ _ _ _ _ _ _ (Act.put _ (some 38) _) _
  simp only [Act.put, List.setIfInBounds_toArray, List.set_cons_zero, List.set_cons_succ]
  refine wpAnyH_take (i := 3) (v := .agg #[.int .i64 fk, .int .i64 f1, .int .i64 f2, .int .i64 f3, .int .i64 f4, .slice fa fl.length fc]) rfl (by kernel_rfl) (by kernel_rfl) (by kernel_rfl) (fun _ _ _ h => h) (Or.inl ⟨by rfl, ?_⟩) (by assumption) ?_
  · intro x hx
    obtain ⟨e0, e1, e2, e3, e4, e5⟩ := CF.out x hx
    go_simp
  change wpAnyH _ _ _ _ _ _ _ (Act.put _ (some 40) _) _
  simp only [Act.put, List.setIfInBounds_toArray, List.set_cons_zero, List.set_cons_succ]
  refine wpAnyH_take (i := 4) (v := .agg #[.int .i64 gk, .int .i64 g1, .int .i64 g2, .int .i64 g3, .int .i64 g4, .slice ga gl.length gc]) rfl (by kernel_rfl) (by kernel_rfl) (by kernel_rfl) (fun _ _ _ h => h) (Or.inl ⟨by rfl, ?_⟩) (by assumption) ?_
  · intro x hx
    obtain ⟨e0, e1, e2, e3, e4, e5⟩ := CG.out x hx
    go_simp
  change wpAnyH _ _ _ _ _ _ _ (Act.put _ (some 41) _) _
  simp only [Act.put, List.setIfInBounds_toArray, List.set_cons_zero, List.set_cons_succ]
  refine wpAnyH_take (i := 6) (v := .agg #[.int .i64 fk, .int .i64 f1, .int .i64 f2, .int .i64 f3, .int .i64 f4, .slice fa fl.length fc]) rfl (by kernel_rfl) (by kernel_rfl) (by kernel_rfl) (fun _ _ _ h => h) (Or.inl ⟨by rfl, ?_⟩) (by assumption) ?_
  · intro x hx
    obtain ⟨e0, e1, e2, e3, e4, e5⟩ := CF.out x hx
    go_simp
  change wpAnyH _ _ _ _ _ _ _ (Act.put _ (some 43) _) _
  simp only [Act.put, List.setIfInBounds_toArray, List.set_cons_zero, List.set_cons_succ]
  refine wpAnyH_take (i := 8) (v := .agg #[.int .i64 fk, .int .i64 f1, .int .i64 f2, .int .i64 f3, .int .i64 f4, .slice fa fl.length fc]) rfl (by kernel_rfl) (by kernel_rfl) (by kernel_rfl) (fun _ _ _ h => h) (Or.inl ⟨by rfl, ?_⟩) (by assumption) ?_
  · intro x hx
    obtain ⟨e0, e1, e2, e3, e4, e5⟩ := CF.out x hx
    go_simp
  change wpAnyH _ _ _ _ _ _ _ (Act.put _ (some 45) _) _
  simp only [Act.put, List.setIfInBounds_toArray, List.set_cons_zero, List.set_cons_succ]
  generalize hA0 : Act.mk _ _ = ac0
  refine chain_at (L0 := #[true, true, false, true, true, false, true, false, true, false, false, false, false, false, false, false, false, false]) (cs := [2, 5, 7, 9]) (bs := [10, 11, 12, 13]) (obj := fun _ => .cells #[.int .i64 0, .int .i64 0, .int .i64 0, .int .i64 0, .int .i64 0, .slice none 0 0] 26) 4 W.heap.size
    (J := fun m U ac x => Below W.heap.size W x ∧ (∀ b, U b → W.heap.size ≤ b ∧ b < x.heap.size) ∧ (match m with
      | 0 => ac = ac0
      | 1 => ∃ q0a q0n q0c, ac = (ac0.put (some 39) (.agg #[.int .i64 9, .int .i64 0, .int .i64 0, .int .i64 0, .int .i64 0, .slice q0a q0n q0c])) ∧ FormAtP (fun b => ¬ U b) x 7 (Form.mk 9 ⟨0, 0, 0, 0⟩ [(Form.mk fk ⟨f1, f2, f3, f4⟩ fl), (Form.mk gk ⟨g1, g2, g3, g4⟩ gl)]) (.slice q0a q0n q0c)
      | 2 => ∃ q0a q0n q0c q1a q1n q1c, ac = ((ac0.put (some 39) (.agg #[.int .i64 9, .int .i64 0, .int .i64 0, .int .i64 0, .int .i64 0, .slice q0a q0n q0c])).put (some 42) (.agg #[.int .i64 10, .int .i64 0, .int .i64 0, .int .i64 0, .int .i64 0, .slice q1a q1n q1c])) ∧ FormAtP (fun b => ¬ U b) x 7 (Form.mk 9 ⟨0, 0, 0, 0⟩ [(Form.mk fk ⟨f1, f2, f3, f4⟩ fl), (Form.mk gk ⟨g1, g2, g3, g4⟩ gl)]) (.slice q0a q0n q0c) ∧ FormAtP (fun b => ¬ U b) x 7 (Form.mk 10 ⟨0, 0, 0, 0⟩ [(Form.mk fk ⟨f1, f2, f3, f4⟩ fl), (Form.mk gk ⟨g1, g2, g3, g4⟩ gl)]) (.slice q1a q1n q1c)
      | 3 => ∃ q0a q0n q0c q1a q1n q1c q2a q2n q2c, ac = (((ac0.put (some 39) (.agg #[.int .i64 9, .int .i64 0, .int .i64 0, .int .i64 0, .int .i64 0, .slice q0a q0n q0c])).put (some 42) (.agg #[.int .i64 10, .int .i64 0, .int .i64 0, .int .i64 0, .int .i64 0, .slice q1a q1n q1c])).put (some 44) (.agg #[.int .i64 11, .int .i64 0, .int .i64 0, .int .i64 0, .int .i64 0, .slice q2a q2n q2c])) ∧ FormAtP (fun b => ¬ U b) x 7 (Form.mk 9 ⟨0, 0, 0, 0⟩ [(Form.mk fk ⟨f1, f2, f3, f4⟩ fl), (Form.mk gk ⟨g1, g2, g3, g4⟩ gl)]) (.slice q0a q0n q0c) ∧ FormAtP (fun b => ¬ U b) x 7 (Form.mk 10 ⟨0, 0, 0, 0⟩ [(Form.mk fk ⟨f1, f2, f3, f4⟩ fl), (Form.mk gk ⟨g1, g2, g3, g4⟩ gl)]) (.slice q1a q1n q1c) ∧ FormAtP (fun b => ¬ U b) x 7 (Form.mk 11 ⟨0, 0, 0, 0⟩ [(Form.mk fk ⟨f1, f2, f3, f4⟩ fl)]) (.slice q2a q2n q2c)
      | _ => ∃ q0a q0n q0c q1a q1n q1c q2a q2n q2c q3a q3n q3c, ac = ((((ac0.put (some 39) (.agg #[.int .i64 9, .int .i64 0, .int .i64 0, .int .i64 0, .int .i64 0, .slice q0a q0n q0c])).put (some 42) (.agg #[.int .i64 10, .int .i64 0, .int .i64 0, .int .i64 0, .int .i64 0, .slice q1a q1n q1c])).put (some 44) (.agg #[.int .i64 11, .int .i64 0, .int .i64 0, .int .i64 0, .int .i64 0, .slice q2a q2n q2c])).put (some 46) (.agg #[.int .i64 12, .int .i64 0, .int .i64 0, .int .i64 0, .int .i64 0, .slice q3a q3n q3c])) ∧ FormAtP (fun b => ¬ U b) x 7 (Form.mk 9 ⟨0, 0, 0, 0⟩ [(Form.mk fk ⟨f1, f2, f3, f4⟩ fl), (Form.mk gk ⟨g1, g2, g3, g4⟩ gl)]) (.slice q0a q0n q0c) ∧ FormAtP (fun b => ¬ U b) x 7 (Form.mk 10 ⟨0, 0, 0, 0⟩ [(Form.mk fk ⟨f1, f2, f3, f4⟩ fl), (Form.mk gk ⟨g1, g2, g3, g4⟩ gl)]) (.slice q1a q1n q1c) ∧ FormAtP (fun b => ¬ U b) x 7 (Form.mk 11 ⟨0, 0, 0, 0⟩ [(Form.mk fk ⟨f1, f2, f3, f4⟩ fl)]) (.slice q2a q2n q2c) ∧ FormAtP (fun b => ¬ U b) x 7 (Form.mk 12 ⟨0, 0, 0, 0⟩ [(Form.mk fk ⟨f1, f2, f3, f4⟩ fl)]) (.slice q3a q3n q3c)))
    (by kernel_rfl) rfl (by kernel_rfl) (by kernel_rfl) (by kernel_rfl) (by kernel_rfl) (fun _ _ _ _ _ h => h) (fun m U ac x h => h.1) ?_ ?_ ?_ ?_ ?_ ?_
  · exact ⟨(Below.refl _ _).drew, fun _ h => h.elim, rfl⟩
  · exact Nat.le_refl _
  · rintro m U ac x o ⟨h1, h2, h3⟩
    have hb : Below x.heap.size x (x.alloc o) := (Below.refl _ _).alloc (Nat.le_refl _) _
    have hsz := h1.size
    refine ⟨below_then h1 hb, ?_, ?_⟩
    · rintro b (h | rfl)
      · have := h2 b h; rw [World.size_alloc]; omega
      · rw [World.size_alloc]; omega
    · match m, h3 with
      | 0, h => exact h
      | 1, ⟨q0a, q0n, q0c, e, h0⟩ => exact ⟨q0a, q0n, q0c, e, h0.beside o⟩
      | 2, ⟨q0a, q0n, q0c, q1a, q1n, q1c, e, h0, h1⟩ => exact ⟨q0a, q0n, q0c, q1a, q1n, q1c, e, h0.beside o, h1.beside o⟩
      | 3, ⟨q0a, q0n, q0c, q1a, q1n, q1c, q2a, q2n, q2c, e, h0, h1, h2⟩ => exact ⟨q0a, q0n, q0c, q1a, q1n, q1c, q2a, q2n, q2c, e, h0.beside o, h1.beside o, h2.beside o⟩
      | m + 4, ⟨q0a, q0n, q0c, q1a, q1n, q1c, q2a, q2n, q2c, q3a, q3n, q3c, e, h0, h1, h2, h3⟩ => exact ⟨q0a, q0n, q0c, q1a, q1n, q1c, q2a, q2n, q2c, q3a, q3n, q3c, e, h0.beside o, h1.beside o, h2.beside o, h3.beside o⟩
  · intro j hj K ac x hK
    have hj' : j = 0 ∨ j = 1 ∨ j = 2 ∨ j = 3 := by simp at hj; omega
    rcases hj' with rfl | rfl | rfl | rfl
    · refine wpOp_step rfl (fun K' hK' => ?_)
      go_simp
      exact hK' _ _ hK
    · refine wpOp_step rfl (fun K' hK' => ?_)
      go_simp
      exact hK' _ _ hK
    · refine wpOp_step rfl (fun K' hK' => ?_)
      go_simp
      exact hK' _ _ hK
    · refine wpOp_step rfl (fun K' hK' => ?_)
      go_simp
      exact hK' _ _ hK
  · rintro m hm U ac x ⟨h1, h2, h3⟩ hU
    have hm' : m = 0 ∨ m = 1 ∨ m = 2 ∨ m = 3 := by simp at hm; omega
    have hF := HFW.out.apart h1 (fun b h => (h2 b h).1)
    have hG := HGW.out.apart h1 (fun b h => (h2 b h).1)
    rcases hm' with rfl | rfl | rfl | rfl
    · obtain rfl : ac = ac0 := h3
      subst hA0
      refine wpOp_step rfl (fun K' hK' => ?_)
      go_simp
      refine (mkTwoP_any (fun b => ¬ U b) x 6 9 (Form.mk fk ⟨f1, f2, f3, f4⟩ fl) (Form.mk gk ⟨g1, g2, g3, g4⟩ gl) _ _ hF hG).mono ?_
      rintro e x1 ⟨q0a, q0n, q0c, rfl, hn, hb⟩
      refine hK' _ _ ⟨⟨below_then h1 hb, fun b h => ⟨(h2 b h).1, Nat.lt_of_lt_of_le (h2 b h).2 hb.size⟩, q0a, q0n, q0c, rfl, hn.fresh hU⟩, hb⟩
    · obtain ⟨q0a, q0n, q0c, rfl, h0q⟩ := h3
      subst hA0
      refine wpOp_step rfl (fun K' hK' => ?_)
      go_simp
      refine (mkTwoP_any (fun b => ¬ U b) x 6 10 (Form.mk fk ⟨f1, f2, f3, f4⟩ fl) (Form.mk gk ⟨g1, g2, g3, g4⟩ gl) _ _ hF hG).mono ?_
      rintro e x1 ⟨q1a, q1n, q1c, rfl, hn, hb⟩
      refine hK' _ _ ⟨⟨below_then h1 hb, fun b h => ⟨(h2 b h).1, Nat.lt_of_lt_of_le (h2 b h).2 hb.size⟩, q0a, q0n, q0c, q1a, q1n, q1c, rfl, h0q.then hb, hn.fresh hU⟩, hb⟩
    · obtain ⟨q0a, q0n, q0c, q1a, q1n, q1c, rfl, h0q, h1q⟩ := h3
      subst hA0
      refine wpOp_step rfl (fun K' hK' => ?_)
      go_simp
      refine (mkOneP_any (fun b => ¬ U b) x 6 11 (Form.mk fk ⟨f1, f2, f3, f4⟩ fl) _ hF).mono ?_
      rintro e x1 ⟨q2a, q2n, q2c, rfl, hn, hb⟩
      refine hK' _ _ ⟨⟨below_then h1 hb, fun b h => ⟨(h2 b h).1, Nat.lt_of_lt_of_le (h2 b h).2 hb.size⟩, q0a, q0n, q0c, q1a, q1n, q1c, q2a, q2n, q2c, rfl, h0q.then hb, h1q.then hb, hn.fresh hU⟩, hb⟩
    · obtain ⟨q0a, q0n, q0c, q1a, q1n, q1c, q2a, q2n, q2c, rfl, h0q, h1q, h2q⟩ := h3
      subst hA0
      refine wpOp_step rfl (fun K' hK' => ?_)
      go_simp
      refine (mkOneP_any (fun b => ¬ U b) x 6 12 (Form.mk fk ⟨f1, f2, f3, f4⟩ fl) _ hF).mono ?_
      rintro e x1 ⟨q3a, q3n, q3c, rfl, hn, hb⟩
      refine hK' _ _ ⟨⟨below_then h1 hb, fun b h => ⟨(h2 b h).1, Nat.lt_of_lt_of_le (h2 b h).2 hb.size⟩, q0a, q0n, q0c, q1a, q1n, q1c, q2a, q2n, q2c, q3a, q3n, q3c, rfl, h0q.then hb, h1q.then hb, h2q.then hb, hn.fresh hU⟩, hb⟩
  · rintro B U ac x ⟨h1, h2, q0a, q0n, q0c, q1a, q1n, q1c, q2a, q2n, q2c, q3a, q3n, q3c, rfl, h0q, h1q, h2q, h3q⟩ hB hBd
    subst hA0
    obtain ⟨C0, hC0, u0, hCW0, z0⟩ : ∃ D, B 0 = D ∧ U D ∧ W.heap.size ≤ D ∧ x.heap[D]? = some (.cells #[.int .i64 0, .int .i64 0, .int .i64 0, .int .i64 0, .int .i64 0, .slice none 0 0] 26) := ⟨B 0, rfl, hB 0 (by simp)⟩
    obtain ⟨C1, hC1, u1, hCW1, z1⟩ : ∃ D, B 1 = D ∧ U D ∧ W.heap.size ≤ D ∧ x.heap[D]? = some (.cells #[.int .i64 0, .int .i64 0, .int .i64 0, .int .i64 0, .int .i64 0, .slice none 0 0] 26) := ⟨B 1, rfl, hB 1 (by simp)⟩
    obtain ⟨C2, hC2, u2, hCW2, z2⟩ : ∃ D, B 2 = D ∧ U D ∧ W.heap.size ≤ D ∧ x.heap[D]? = some (.cells #[.int .i64 0, .int .i64 0, .int .i64 0, .int .i64 0, .int .i64 0, .slice none 0 0] 26) := ⟨B 2, rfl, hB 2 (by simp)⟩
    obtain ⟨C3, hC3, u3, hCW3, z3⟩ : ∃ D, B 3 = D ∧ U D ∧ W.heap.size ≤ D ∧ x.heap[D]? = some (.cells #[.int .i64 0, .int .i64 0, .int .i64 0, .int .i64 0, .int .i64 0, .slice none 0 0] 26) := ⟨B 3, rfl, hB 3 (by simp)⟩
    have ne01 : C0 ≠ C1 := fun e => by have := hBd 0 1 (by simp) (by simp) (hC0.trans (e.trans hC1.symm)); omega
    have ne02 : C0 ≠ C2 := fun e => by have := hBd 0 2 (by simp) (by simp) (hC0.trans (e.trans hC2.symm)); omega
    have ne03 : C0 ≠ C3 := fun e => by have := hBd 0 3 (by simp) (by simp) (hC0.trans (e.trans hC3.symm)); omega
    have ne12 : C1 ≠ C2 := fun e => by have := hBd 1 2 (by simp) (by simp) (hC1.trans (e.trans hC2.symm)); omega
    have ne13 : C1 ≠ C3 := fun e => by have := hBd 1 3 (by simp) (by simp) (hC1.trans (e.trans hC3.symm)); omega
    have ne23 : C2 ≠ C3 := fun e => by have := hBd 2 3 (by simp) (by simp) (hC2.trans (e.trans hC3.symm)); omega
    change wpAnyH _ _ _ _ _ 4 _ (Act.put (Act.put (Act.put (Act.put (Act.put (Act.put (Act.put (Act.put _ (some 39) _) (some 42) _) (some 44) _) (some 46) _) (some 12) (.pointer (some ⟨B 0, 0, none⟩))) (some 13) (.pointer (some ⟨B 1, 0, none⟩))) (some 14) (.pointer (some ⟨B 2, 0, none⟩))) (some 15) (.pointer (some ⟨B 3, 0, none⟩))) x
    rw [hC0, hC1, hC2, hC3]
    simp only [Act.put, List.setIfInBounds_toArray, List.set_cons_zero, List.set_cons_succ]
    have hl0 := lt_of_block z0
    have hl1 := lt_of_block z1
    have hl2 := lt_of_block z2
    have hl3 := lt_of_block z3
    have HZ0 := Lib.hid z0
    have HZ1 := Lib.hid z1
    have HZ2 := Lib.hid z2
    have HZ3 := Lib.hid z3
    have HX := Lib.hid h1
    have HN0 := Lib.hid h0q
    have HN1 := Lib.hid h1q
    have HN2 := Lib.hid h2q
    have HN3 := Lib.hid h3q
    have HU := Lib.hid (show U C0 ∧ U C1 ∧ U C2 ∧ U C3 from ⟨u0, u1, u2, u3⟩)
    clear h1 h2 u0 u1 u2 u3 z0 z1 z2 z3 h0q h1q h2q h3q hB hBd hC0 hC1 hC2 hC3
    obtain ⟨x0, hx0⟩ : ∃ x0, x0 = x := ⟨_, rfl⟩
    have HI : Hid (Below W.heap.size W x) := HX.out
    have zz0 := HZ0.out
    obtain ⟨hs, hi⟩ := store6 zz0 (.int .i64 9) (.int .i64 0) (.int .i64 0) (.int .i64 0) (.int .i64 0) (.slice q0a q0n q0c)
    have q0 := cell_of_block zz0 0
    have q1 := cell_of_block zz0 1
    have q2 := cell_of_block zz0 2
    have q3 := cell_of_block zz0 3
    have q4 := cell_of_block zz0 4
    have q5 := cell_of_block zz0 5
    simp only [List.getElem?_toArray, List.getElem?_cons_zero, List.getElem?_cons_succ] at q0 q1 q2 q3 q4 q5
    have qf : ∀ j, x.frozen? ⟨C0, j, none⟩ = false := fun j => free_of_block zz0 j
    have HS := Lib.hid hs
    have HI2 := Lib.hid hi
    clear hs hi zz0 HZ0
    refine wpAnyH_ready (rs := [14]) (by kernel_rfl) (by simp) ?_
    refine AllReadyH.cons rfl (fun K hK => ?_) AllReadyH.nil
    go_simp
    generalize World.setCell _ _ _ = y0 at HS HI2 ⊢
    have hB0 : Below W.heap.size W y0 := HI.out.trans (HI2.out.below HI.out.size (fun b hb => by omega))
    refine hK.out _ _ hB0 (fun _ => ?_)
    clear hK K q0 q1 q2 q3 q4 q5 qf
    replace HZ1 := Lib.hid ((HI2.out.block C1 hl1 (fun e => by omega)).trans HZ1.out)
    replace HZ2 := Lib.hid ((HI2.out.block C2 hl2 (fun e => by omega)).trans HZ2.out)
    replace HZ3 := Lib.hid ((HI2.out.block C3 hl3 (fun e => by omega)).trans HZ3.out)
    have HC0 := Lib.hid HS.out
    replace hl0 := Nat.lt_of_lt_of_le hl0 HI2.out.size
    replace HN0 := Lib.hid (HN0.out.since HI2.out (fun k hk e => hk (e ▸ HU.out.1)))
    replace hl1 := Nat.lt_of_lt_of_le hl1 HI2.out.size
    replace HN1 := Lib.hid (HN1.out.since HI2.out (fun k hk e => hk (e ▸ HU.out.1)))
    replace hl2 := Nat.lt_of_lt_of_le hl2 HI2.out.size
    replace HN2 := Lib.hid (HN2.out.since HI2.out (fun k hk e => hk (e ▸ HU.out.1)))
    replace hl3 := Nat.lt_of_lt_of_le hl3 HI2.out.size
    replace HN3 := Lib.hid (HN3.out.since HI2.out (fun k hk e => hk (e ▸ HU.out.1)))
    replace HI := Lib.hid hB0
    clear HS HI2 hB0
    have zz1 := HZ1.out
    obtain ⟨hs, hi⟩ := store6 zz1 (.int .i64 10) (.int .i64 0) (.int .i64 0) (.int .i64 0) (.int .i64 0) (.slice q1a q1n q1c)
    have q0 := cell_of_block zz1 0
    have q1 := cell_of_block zz1 1
    have q2 := cell_of_block zz1 2
    have q3 := cell_of_block zz1 3
    have q4 := cell_of_block zz1 4
    have q5 := cell_of_block zz1 5
    simp only [List.getElem?_toArray, List.getElem?_cons_zero, List.getElem?_cons_succ] at q0 q1 q2 q3 q4 q5
    have qf : ∀ j, y0.frozen? ⟨C1, j, none⟩ = false := fun j => free_of_block zz1 j
    have HS := Lib.hid hs
    have HI2 := Lib.hid hi
    clear hs hi zz1 HZ1
    refine wpAnyH_ready (rs := [15]) (by kernel_rfl) (by simp) ?_
    refine AllReadyH.cons rfl (fun K hK => ?_) AllReadyH.nil
    go_simp
    generalize World.setCell _ _ _ = y1 at HS HI2 ⊢
    have hB1 : Below W.heap.size W y1 := HI.out.trans (HI2.out.below HI.out.size (fun b hb => by omega))
    refine hK.out _ _ hB1 (fun _ => ?_)
    clear hK K q0 q1 q2 q3 q4 q5 qf
    replace HC0 := Lib.hid ((HI2.out.block C0 hl0 (fun e => by omega)).trans HC0.out)
    replace HZ2 := Lib.hid ((HI2.out.block C2 hl2 (fun e => by omega)).trans HZ2.out)
    replace HZ3 := Lib.hid ((HI2.out.block C3 hl3 (fun e => by omega)).trans HZ3.out)
    have HC1 := Lib.hid HS.out
    replace hl0 := Nat.lt_of_lt_of_le hl0 HI2.out.size
    replace HN0 := Lib.hid (HN0.out.since HI2.out (fun k hk e => hk (e ▸ HU.out.2.1)))
    replace hl1 := Nat.lt_of_lt_of_le hl1 HI2.out.size
    replace HN1 := Lib.hid (HN1.out.since HI2.out (fun k hk e => hk (e ▸ HU.out.2.1)))
    replace hl2 := Nat.lt_of_lt_of_le hl2 HI2.out.size
    replace HN2 := Lib.hid (HN2.out.since HI2.out (fun k hk e => hk (e ▸ HU.out.2.1)))
    replace hl3 := Nat.lt_of_lt_of_le hl3 HI2.out.size
    replace HN3 := Lib.hid (HN3.out.since HI2.out (fun k hk e => hk (e ▸ HU.out.2.1)))
    replace HI := Lib.hid hB1
    clear HS HI2 hB1
    have zz2 := HZ2.out
    obtain ⟨hs, hi⟩ := store6 zz2 (.int .i64 11) (.int .i64 0) (.int .i64 0) (.int .i64 0) (.int .i64 0) (.slice q2a q2n q2c)
    have q0 := cell_of_block zz2 0
    have q1 := cell_of_block zz2 1
    have q2 := cell_of_block zz2 2
    have q3 := cell_of_block zz2 3
    have q4 := cell_of_block zz2 4
    have q5 := cell_of_block zz2 5
    simp only [List.getElem?_toArray, List.getElem?_cons_zero, List.getElem?_cons_succ] at q0 q1 q2 q3 q4 q5
    have qf : ∀ j, y1.frozen? ⟨C2, j, none⟩ = false := fun j => free_of_block zz2 j
    have HS := Lib.hid hs
    have HI2 := Lib.hid hi
    clear hs hi zz2 HZ2
    refine wpAnyH_ready (rs := [16]) (by kernel_rfl) (by simp) ?_
    refine AllReadyH.cons rfl (fun K hK => ?_) AllReadyH.nil
    go_simp
    generalize World.setCell _ _ _ = y2 at HS HI2 ⊢
    have hB2 : Below W.heap.size W y2 := HI.out.trans (HI2.out.below HI.out.size (fun b hb => by omega))
    refine hK.out _ _ hB2 (fun _ => ?_)
    clear hK K q0 q1 q2 q3 q4 q5 qf
    replace HC0 := Lib.hid ((HI2.out.block C0 hl0 (fun e => by omega)).trans HC0.out)
    replace HC1 := Lib.hid ((HI2.out.block C1 hl1 (fun e => by omega)).trans HC1.out)
    replace HZ3 := Lib.hid ((HI2.out.block C3 hl3 (fun e => by omega)).trans HZ3.out)
    have HC2 := Lib.hid HS.out
    replace hl0 := Nat.lt_of_lt_of_le hl0 HI2.out.size
    replace HN0 := Lib.hid (HN0.out.since HI2.out (fun k hk e => hk (e ▸ HU.out.2.2.1)))
    replace hl1 := Nat.lt_of_lt_of_le hl1 HI2.out.size
    replace HN1 := Lib.hid (HN1.out.since HI2.out (fun k hk e => hk (e ▸ HU.out.2.2.1)))
    replace hl2 := Nat.lt_of_lt_of_le hl2 HI2.out.size
    replace HN2 := Lib.hid (HN2.out.since HI2.out (fun k hk e => hk (e ▸ HU.out.2.2.1)))
    replace hl3 := Nat.lt_of_lt_of_le hl3 HI2.out.size
    replace HN3 := Lib.hid (HN3.out.since HI2.out (fun k hk e => hk (e ▸ HU.out.2.2.1)))
    replace HI := Lib.hid hB2
    clear HS HI2 hB2
    have zz3 := HZ3.out
    obtain ⟨hs, hi⟩ := store6 zz3 (.int .i64 12) (.int .i64 0) (.int .i64 0) (.int .i64 0) (.int .i64 0) (.slice q3a q3n q3c)
    have q0 := cell_of_block zz3 0
    have q1 := cell_of_block zz3 1
    have q2 := cell_of_block zz3 2
    have q3 := cell_of_block zz3 3
    have q4 := cell_of_block zz3 4
    have q5 := cell_of_block zz3 5
    simp only [List.getElem?_toArray, List.getElem?_cons_zero, List.getElem?_cons_succ] at q0 q1 q2 q3 q4 q5
    have qf : ∀ j, y2.frozen? ⟨C3, j, none⟩ = false := fun j => free_of_block zz3 j
    have HS := Lib.hid hs
    have HI2 := Lib.hid hi
    clear hs hi zz3 HZ3
    refine wpAnyH_ready (rs := [17]) (by kernel_rfl) (by simp) ?_
    refine AllReadyH.cons rfl (fun K hK => ?_) AllReadyH.nil
    go_simp
    generalize World.setCell _ _ _ = y3 at HS HI2 ⊢
    have hB3 : Below W.heap.size W y3 := HI.out.trans (HI2.out.below HI.out.size (fun b hb => by omega))
    refine hK.out _ _ hB3 (fun _ => ?_)
    clear hK K q0 q1 q2 q3 q4 q5 qf
    replace HC0 := Lib.hid ((HI2.out.block C0 hl0 (fun e => by omega)).trans HC0.out)
    replace HC1 := Lib.hid ((HI2.out.block C1 hl1 (fun e => by omega)).trans HC1.out)
    replace HC2 := Lib.hid ((HI2.out.block C2 hl2 (fun e => by omega)).trans HC2.out)
    have HC3 := Lib.hid HS.out
    replace hl0 := Nat.lt_of_lt_of_le hl0 HI2.out.size
    replace HN0 := Lib.hid (HN0.out.since HI2.out (fun k hk e => hk (e ▸ HU.out.2.2.2)))
    replace hl1 := Nat.lt_of_lt_of_le hl1 HI2.out.size
    replace HN1 := Lib.hid (HN1.out.since HI2.out (fun k hk e => hk (e ▸ HU.out.2.2.2)))
    replace hl2 := Nat.lt_of_lt_of_le hl2 HI2.out.size
    replace HN2 := Lib.hid (HN2.out.since HI2.out (fun k hk e => hk (e ▸ HU.out.2.2.2)))
    replace hl3 := Nat.lt_of_lt_of_le hl3 HI2.out.size
    replace HN3 := Lib.hid (HN3.out.since HI2.out (fun k hk e => hk (e ▸ HU.out.2.2.2)))
    replace HI := Lib.hid hB3
    clear HS HI2 hB3
    refine wpAnyH_done (by kernel_rfl) ?_ _
    refine NoPanic.normal ?_
    go_wp2_with fail
    have HB7 := Lib.hid HI.out
    have HBX : Hid (Below w.heap.size w y3) := below_then HBW.out HB7.out
    have HF7 : Hid (FormAt y3 6 (Form.mk fk ⟨f1, f2, f3, f4⟩ fl) (.slice fa fl.length fc)) := HFW.out.below HB7.out
    have HG7 : Hid (FormAt y3 6 (Form.mk gk ⟨g1, g2, g3, g4⟩ gl) (.slice ga gl.length gc)) := HGW.out.below HB7.out
    have HM0 := Lib.hid HN0.out.at_
    have HM1 := Lib.hid HN1.out.at_
    have HM2 := Lib.hid HN2.out.at_
    have HM3 := Lib.hid HN3.out.at_
    obtain ⟨cf0, cf1, cf2, cf3, cf4, cf5⟩ := CF.out y3 HB7.out
    obtain ⟨cg0, cg1, cg2, cg3, cg4, cg5⟩ := CG.out y3 HB7.out
    have cu0 := cell_of_block HC0.out 0
    have cu1 := cell_of_block HC0.out 1
    have cu2 := cell_of_block HC0.out 2
    have cu3 := cell_of_block HC0.out 3
    have cu4 := cell_of_block HC0.out 4
    have cu5 := cell_of_block HC0.out 5
    have cr0 := cell_of_block HC1.out 0
    have cr1 := cell_of_block HC1.out 1
    have cr2 := cell_of_block HC1.out 2
    have cr3 := cell_of_block HC1.out 3
    have cr4 := cell_of_block HC1.out 4
    have cr5 := cell_of_block HC1.out 5
    have ca0 := cell_of_block HC2.out 0
    have ca1 := cell_of_block HC2.out 1
    have ca2 := cell_of_block HC2.out 2
    have ca3 := cell_of_block HC2.out 3
    have ca4 := cell_of_block HC2.out 4
    have ca5 := cell_of_block HC2.out 5
    have ce0 := cell_of_block HC3.out 0
    have ce1 := cell_of_block HC3.out 1
    have ce2 := cell_of_block HC3.out 2
    have ce3 := cell_of_block HC3.out 3
    have ce4 := cell_of_block HC3.out 4
    have ce5 := cell_of_block HC3.out 5
    simp only [List.getElem?_toArray, List.getElem?_cons_zero, List.getElem?_cons_succ] at cu0 cu1 cu2 cu3 cu4 cu5 cr0 cr1 cr2 cr3 cr4 cr5 ca0 ca1 ca2 ca3 ca4 ca5 ce0 ce1 ce2 ce3 ce4 ce5
    clear HC0 HC1 HC2 HC3 CF CG HFW HGW HB7 HBW HN0 HN1 HN2 HN3 HU H1 H2 hH HX HI hl0 hl1 hl2 hl3 hCW0 hCW1 hCW2 hCW3 ne01 ne02 ne03 ne12 ne13 ne23 hx0
    go_cut [16] (fun s16 w' => ∃ P, s16 = .slice (some ⟨P, 0, none⟩) 4 4 ∧ Hid (PairsAt w' P (stepsL (Form.mk fk ⟨f1, f2, f3, f4⟩ fl) (Form.mk gk ⟨g1, g2, g3, g4⟩ gl)) (stepsR (Form.mk fk ⟨f1, f2, f3, f4⟩ fl) (Form.mk gk ⟨g1, g2, g3, g4⟩ gl)) 4) ∧ Hid (Below y3.heap.size y3 w'))
    case first =>
      have hx : ∀ a v, y3.cell? a = some v → y3.drew.cell? a = some v := fun _ _ h => h
      have hB_0 : Below y3.heap.size y3 y3.drew := (Below.refl _ _).drew
      go_region_held3 (fun w' => w'.cell? ⟨A, 0, none⟩ = some (.int .i64 fk) ∧ w'.cell? ⟨A, 1, none⟩ = some (.int .i64 f1) ∧ w'.cell? ⟨A, 2, none⟩ = some (.int .i64 f2) ∧ w'.cell? ⟨A, 3, none⟩ = some (.int .i64 f3) ∧ w'.cell? ⟨A, 4, none⟩ = some (.int .i64 f4) ∧ w'.cell? ⟨A, 5, none⟩ = some (.slice fa fl.length fc) ∧ w'.cell? ⟨A + 1, 0, none⟩ = some (.int .i64 gk) ∧ w'.cell? ⟨A + 1, 1, none⟩ = some (.int .i64 g1) ∧ w'.cell? ⟨A + 1, 2, none⟩ = some (.int .i64 g2) ∧ w'.cell? ⟨A + 1, 3, none⟩ = some (.int .i64 g3) ∧ w'.cell? ⟨A + 1, 4, none⟩ = some (.int .i64 g4) ∧ w'.cell? ⟨A + 1, 5, none⟩ = some (.slice ga gl.length gc) ∧ w'.cell? ⟨C0, 0, none⟩ = some (.int .i64 9) ∧ w'.cell? ⟨C0, 1, none⟩ = some (.int .i64 0) ∧ w'.cell? ⟨C0, 2, none⟩ = some (.int .i64 0) ∧ w'.cell? ⟨C0, 3, none⟩ = some (.int .i64 0) ∧ w'.cell? ⟨C0, 4, none⟩ = some (.int .i64 0) ∧ w'.cell? ⟨C0, 5, none⟩ = some (.slice q0a q0n q0c) ∧ w'.cell? ⟨C1, 0, none⟩ = some (.int .i64 10) ∧ w'.cell? ⟨C1, 1, none⟩ = some (.int .i64 0) ∧ w'.cell? ⟨C1, 2, none⟩ = some (.int .i64 0) ∧ w'.cell? ⟨C1, 3, none⟩ = some (.int .i64 0) ∧ w'.cell? ⟨C1, 4, none⟩ = some (.int .i64 0) ∧ w'.cell? ⟨C1, 5, none⟩ = some (.slice q1a q1n q1c) ∧ w'.cell? ⟨C2, 0, none⟩ = some (.int .i64 11) ∧ w'.cell? ⟨C2, 1, none⟩ = some (.int .i64 0) ∧ w'.cell? ⟨C2, 2, none⟩ = some (.int .i64 0) ∧ w'.cell? ⟨C2, 3, none⟩ = some (.int .i64 0) ∧ w'.cell? ⟨C2, 4, none⟩ = some (.int .i64 0) ∧ w'.cell? ⟨C2, 5, none⟩ = some (.slice q2a q2n q2c) ∧ w'.cell? ⟨C3, 0, none⟩ = some (.int .i64 12) ∧ w'.cell? ⟨C3, 1, none⟩ = some (.int .i64 0) ∧ w'.cell? ⟨C3, 2, none⟩ = some (.int .i64 0) ∧ w'.cell? ⟨C3, 3, none⟩ = some (.int .i64 0) ∧ w'.cell? ⟨C3, 4, none⟩ = some (.int .i64 0) ∧ w'.cell? ⟨C3, 5, none⟩ = some (.slice q3a q3n q3c)) (first | exact ⟨hx _ _ cf0, hx _ _ cf1, hx _ _ cf2, hx _ _ cf3, hx _ _ cf4, hx _ _ cf5, hx _ _ cg0, hx _ _ cg1, hx _ _ cg2, hx _ _ cg3, hx _ _ cg4, hx _ _ cg5, hx _ _ cu0, hx _ _ cu1, hx _ _ cu2, hx _ _ cu3, hx _ _ cu4, hx _ _ cu5, hx _ _ cr0, hx _ _ cr1, hx _ _ cr2, hx _ _ cr3, hx _ _ cr4, hx _ _ cr5, hx _ _ ca0, hx _ _ ca1, hx _ _ ca2, hx _ _ ca3, hx _ _ ca4, hx _ _ ca5, hx _ _ ce0, hx _ _ ce1, hx _ _ ce2, hx _ _ ce3, hx _ _ ce4, hx _ _ ce5⟩ | exact ⟨al _ _ (hx _ _ cf0), al _ _ (hx _ _ cf1), al _ _ (hx _ _ cf2), al _ _ (hx _ _ cf3), al _ _ (hx _ _ cf4), al _ _ (hx _ _ cf5), al _ _ (hx _ _ cg0), al _ _ (hx _ _ cg1), al _ _ (hx _ _ cg2), al _ _ (hx _ _ cg3), al _ _ (hx _ _ cg4), al _ _ (hx _ _ cg5), al _ _ (hx _ _ cu0), al _ _ (hx _ _ cu1), al _ _ (hx _ _ cu2), al _ _ (hx _ _ cu3), al _ _ (hx _ _ cu4), al _ _ (hx _ _ cu5), al _ _ (hx _ _ cr0), al _ _ (hx _ _ cr1), al _ _ (hx _ _ cr2), al _ _ (hx _ _ cr3), al _ _ (hx _ _ cr4), al _ _ (hx _ _ cr5), al _ _ (hx _ _ ca0), al _ _ (hx _ _ ca1), al _ _ (hx _ _ ca2), al _ _ (hx _ _ ca3), al _ _ (hx _ _ ca4), al _ _ (hx _ _ ca5), al _ _ (hx _ _ ce0), al _ _ (hx _ _ ce1), al _ _ (hx _ _ ce2), al _ _ (hx _ _ ce3), al _ _ (hx _ _ ce4), al _ _ (hx _ _ ce5)⟩ | go_keep) (first | (go_at_call 14; refine (mkTwoL_any y72 8 6 (Form.mk fk ⟨f1, f2, f3, f4⟩ fl) (Form.mk 8 ⟨0, 0, 0, 0⟩ [(Form.mk 12 ⟨0, 0, 0, 0⟩ [(Form.mk fk ⟨f1, f2, f3, f4⟩ fl)])]) _ _ ((HF7.out.below hB72).le (by omega)) hf72).mono ?_; rintro e y73 ⟨ra73, rn73, rc73, rfl, hf73, hb73⟩; have hB73 : Below y3.heap.size y3 y73 := below_then hB72 hb73; have hx : ∀ a v, y3.cell? a = some v → y73.cell? a = some v := cells_kept hB73; have al : ∀ {o : Obj} a v, y73.cell? a = some v → (y73.alloc o).cell? a = some v := cells_kept ((Below.refl _ _).alloc (Nat.le_refl _) _)) | (go_at_call 13; refine (mkOneL_any y67 7 8 (Form.mk 12 ⟨0, 0, 0, 0⟩ [(Form.mk fk ⟨f1, f2, f3, f4⟩ fl)]) _ (HM3.out.below hB67)).mono ?_; rintro e y72 ⟨ra72, rn72, rc72, rfl, hf72, hb72⟩; have hB72 : Below y3.heap.size y3 y72 := below_then hB67 hb72; have hx : ∀ a v, y3.cell? a = some v → y72.cell? a = some v := cells_kept hB72; have al : ∀ {o : Obj} a v, y72.cell? a = some v → (y72.alloc o).cell? a = some v := cells_kept ((Below.refl _ _).alloc (Nat.le_refl _) _)) | (go_at_call 14; refine (mkTwoL_any y66 8 5 (Form.mk fk ⟨f1, f2, f3, f4⟩ fl) (Form.mk 8 ⟨0, 0, 0, 0⟩ [(Form.mk 11 ⟨0, 0, 0, 0⟩ [(Form.mk fk ⟨f1, f2, f3, f4⟩ fl)])]) _ _ ((HF7.out.below hB66).le (by omega)) hf66).mono ?_; rintro e y67 ⟨ra67, rn67, rc67, rfl, hf67, hb67⟩; have hB67 : Below y3.heap.size y3 y67 := below_then hB66 hb67; have hx : ∀ a v, y3.cell? a = some v → y67.cell? a = some v := cells_kept hB67; have al : ∀ {o : Obj} a v, y67.cell? a = some v → (y67.alloc o).cell? a = some v := cells_kept ((Below.refl _ _).alloc (Nat.le_refl _) _)) | (go_at_call 13; refine (mkOneL_any y61 7 8 (Form.mk 11 ⟨0, 0, 0, 0⟩ [(Form.mk fk ⟨f1, f2, f3, f4⟩ fl)]) _ (HM2.out.below hB61)).mono ?_; rintro e y66 ⟨ra66, rn66, rc66, rfl, hf66, hb66⟩; have hB66 : Below y3.heap.size y3 y66 := below_then hB61 hb66; have hx : ∀ a v, y3.cell? a = some v → y66.cell? a = some v := cells_kept hB66; have al : ∀ {o : Obj} a v, y66.cell? a = some v → (y66.alloc o).cell? a = some v := cells_kept ((Below.refl _ _).alloc (Nat.le_refl _) _)) | (go_at_call 14; refine (mkTwoL_any y60 9 5 (Form.mk gk ⟨g1, g2, g3, g4⟩ gl) (Form.mk 6 ⟨0, 0, 0, 0⟩ [(Form.mk fk ⟨f1, f2, f3, f4⟩ fl), (Form.mk 8 ⟨0, 0, 0, 0⟩ [(Form.mk 10 ⟨0, 0, 0, 0⟩ [(Form.mk fk ⟨f1, f2, f3, f4⟩ fl), (Form.mk gk ⟨g1, g2, g3, g4⟩ gl)])])]) _ _ ((HG7.out.below hB60).le (by omega)) hf60).mono ?_; rintro e y61 ⟨ra61, rn61, rc61, rfl, hf61, hb61⟩; have hB61 : Below y3.heap.size y3 y61 := below_then hB60 hb61; have hx : ∀ a v, y3.cell? a = some v → y61.cell? a = some v := cells_kept hB61; have al : ∀ {o : Obj} a v, y61.cell? a = some v → (y61.alloc o).cell? a = some v := cells_kept ((Below.refl _ _).alloc (Nat.le_refl _) _)) | (go_at_call 14; refine (mkTwoL_any y59 8 6 (Form.mk fk ⟨f1, f2, f3, f4⟩ fl) (Form.mk 8 ⟨0, 0, 0, 0⟩ [(Form.mk 10 ⟨0, 0, 0, 0⟩ [(Form.mk fk ⟨f1, f2, f3, f4⟩ fl), (Form.mk gk ⟨g1, g2, g3, g4⟩ gl)])]) _ _ ((HF7.out.below hB59).le (by omega)) hf59).mono ?_; rintro e y60 ⟨ra60, rn60, rc60, rfl, hf60, hb60⟩; have hB60 : Below y3.heap.size y3 y60 := below_then hB59 hb60; have hx : ∀ a v, y3.cell? a = some v → y60.cell? a = some v := cells_kept hB60; have al : ∀ {o : Obj} a v, y60.cell? a = some v → (y60.alloc o).cell? a = some v := cells_kept ((Below.refl _ _).alloc (Nat.le_refl _) _)) | (go_at_call 13; refine (mkOneL_any y53 7 8 (Form.mk 10 ⟨0, 0, 0, 0⟩ [(Form.mk fk ⟨f1, f2, f3, f4⟩ fl), (Form.mk gk ⟨g1, g2, g3, g4⟩ gl)]) _ (HM1.out.below hB53)).mono ?_; rintro e y59 ⟨ra59, rn59, rc59, rfl, hf59, hb59⟩; have hB59 : Below y3.heap.size y3 y59 := below_then hB53 hb59; have hx : ∀ a v, y3.cell? a = some v → y59.cell? a = some v := cells_kept hB59; have al : ∀ {o : Obj} a v, y59.cell? a = some v → (y59.alloc o).cell? a = some v := cells_kept ((Below.refl _ _).alloc (Nat.le_refl _) _)) | (go_at_call 14; refine (mkTwoL_any y52 9 6 (Form.mk gk ⟨g1, g2, g3, g4⟩ gl) (Form.mk 5 ⟨0, 0, 0, 0⟩ [(Form.mk fk ⟨f1, f2, f3, f4⟩ fl), (Form.mk 8 ⟨0, 0, 0, 0⟩ [(Form.mk 9 ⟨0, 0, 0, 0⟩ [(Form.mk fk ⟨f1, f2, f3, f4⟩ fl), (Form.mk gk ⟨g1, g2, g3, g4⟩ gl)])])]) _ _ ((HG7.out.below hB52).le (by omega)) hf52).mono ?_; rintro e y53 ⟨ra53, rn53, rc53, rfl, hf53, hb53⟩; have hB53 : Below y3.heap.size y3 y53 := below_then hB52 hb53; have hx : ∀ a v, y3.cell? a = some v → y53.cell? a = some v := cells_kept hB53; have al : ∀ {o : Obj} a v, y53.cell? a = some v → (y53.alloc o).cell? a = some v := cells_kept ((Below.refl _ _).alloc (Nat.le_refl _) _)) | (go_at_call 14; refine (mkTwoL_any y51 8 5 (Form.mk fk ⟨f1, f2, f3, f4⟩ fl) (Form.mk 8 ⟨0, 0, 0, 0⟩ [(Form.mk 9 ⟨0, 0, 0, 0⟩ [(Form.mk fk ⟨f1, f2, f3, f4⟩ fl), (Form.mk gk ⟨g1, g2, g3, g4⟩ gl)])]) _ _ ((HF7.out.below hB51).le (by omega)) hf51).mono ?_; rintro e y52 ⟨ra52, rn52, rc52, rfl, hf52, hb52⟩; have hB52 : Below y3.heap.size y3 y52 := below_then hB51 hb52; have hx : ∀ a v, y3.cell? a = some v → y52.cell? a = some v := cells_kept hB52; have al : ∀ {o : Obj} a v, y52.cell? a = some v → (y52.alloc o).cell? a = some v := cells_kept ((Below.refl _ _).alloc (Nat.le_refl _) _)) | (go_at_call 13; refine (mkOneL_any _ 7 8 (Form.mk 9 ⟨0, 0, 0, 0⟩ [(Form.mk fk ⟨f1, f2, f3, f4⟩ fl), (Form.mk gk ⟨g1, g2, g3, g4⟩ gl)]) _ (HM0.out.below hB_0)).mono ?_; rintro e y51 ⟨ra51, rn51, rc51, rfl, hf51, hb51⟩; have hB51 : Below y3.heap.size y3 y51 := below_then hB_0 hb51; have hx : ∀ a v, y3.cell? a = some v → y51.cell? a = some v := cells_kept hB51; have al : ∀ {o : Obj} a v, y51.cell? a = some v → (y51.alloc o).cell? a = some v := cells_kept ((Below.refl _ _).alloc (Nat.le_refl _) _)))
      go_wp2_with fail
      go_meet
      case rel => exact ⟨_, rfl, pairs_of (l := [(((Form.mk 9 ⟨0, 0, 0, 0⟩ [(Form.mk fk ⟨f1, f2, f3, f4⟩ fl), (Form.mk gk ⟨g1, g2, g3, g4⟩ gl)]), .slice q0a q0n q0c), ((Form.mk 6 ⟨0, 0, 0, 0⟩ [(Form.mk gk ⟨g1, g2, g3, g4⟩ gl), (Form.mk 5 ⟨0, 0, 0, 0⟩ [(Form.mk fk ⟨f1, f2, f3, f4⟩ fl), (Form.mk 8 ⟨0, 0, 0, 0⟩ [(Form.mk 9 ⟨0, 0, 0, 0⟩ [(Form.mk fk ⟨f1, f2, f3, f4⟩ fl), (Form.mk gk ⟨g1, g2, g3, g4⟩ gl)])])])]), .slice ra53 rn53 rc53)), (((Form.mk 10 ⟨0, 0, 0, 0⟩ [(Form.mk fk ⟨f1, f2, f3, f4⟩ fl), (Form.mk gk ⟨g1, g2, g3, g4⟩ gl)]), .slice q1a q1n q1c), ((Form.mk 5 ⟨0, 0, 0, 0⟩ [(Form.mk gk ⟨g1, g2, g3, g4⟩ gl), (Form.mk 6 ⟨0, 0, 0, 0⟩ [(Form.mk fk ⟨f1, f2, f3, f4⟩ fl), (Form.mk 8 ⟨0, 0, 0, 0⟩ [(Form.mk 10 ⟨0, 0, 0, 0⟩ [(Form.mk fk ⟨f1, f2, f3, f4⟩ fl), (Form.mk gk ⟨g1, g2, g3, g4⟩ gl)])])])]), .slice ra61 rn61 rc61)), (((Form.mk 11 ⟨0, 0, 0, 0⟩ [(Form.mk fk ⟨f1, f2, f3, f4⟩ fl)]), .slice q2a q2n q2c), ((Form.mk 5 ⟨0, 0, 0, 0⟩ [(Form.mk fk ⟨f1, f2, f3, f4⟩ fl), (Form.mk 8 ⟨0, 0, 0, 0⟩ [(Form.mk 11 ⟨0, 0, 0, 0⟩ [(Form.mk fk ⟨f1, f2, f3, f4⟩ fl)])])]), .slice ra67 rn67 rc67)), (((Form.mk 12 ⟨0, 0, 0, 0⟩ [(Form.mk fk ⟨f1, f2, f3, f4⟩ fl)]), .slice q3a q3n q3c), ((Form.mk 6 ⟨0, 0, 0, 0⟩ [(Form.mk fk ⟨f1, f2, f3, f4⟩ fl), (Form.mk 8 ⟨0, 0, 0, 0⟩ [(Form.mk 12 ⟨0, 0, 0, 0⟩ [(Form.mk fk ⟨f1, f2, f3, f4⟩ fl)])])]), .slice ra73 rn73 rc73))]) (heap_alloc_new y73 _) (by
          intro q hq
          simp only [List.mem_cons, List.not_mem_nil, or_false] at hq
          rcases hq with rfl | rfl | rfl | rfl
          · exact ⟨(((HM0.out.below hB73).below (Below.alloc (Below.refl _ _) (Nat.le_refl _) _)).le (by omega)), (((((((((hf53.below hb59).below hb60).below hb61).below hb66).below hb67).below hb72).below hb73).below (Below.alloc (Below.refl _ _) (Nat.le_refl _) _)).le (by omega))⟩
          · exact ⟨(((HM1.out.below hB73).below (Below.alloc (Below.refl _ _) (Nat.le_refl _) _)).le (by omega)), ((((((hf61.below hb66).below hb67).below hb72).below hb73).below (Below.alloc (Below.refl _ _) (Nat.le_refl _) _)).le (by omega))⟩
          · exact ⟨(((HM2.out.below hB73).below (Below.alloc (Below.refl _ _) (Nat.le_refl _) _)).le (by omega)), ((((hf67.below hb72).below hb73).below (Below.alloc (Below.refl _ _) (Nat.le_refl _) _)).le (by omega))⟩
          · exact ⟨(((HM3.out.below hB73).below (Below.alloc (Below.refl _ _) (Nat.le_refl _) _)).le (by omega)), ((hf73.below (Below.alloc (Below.refl _ _) (Nat.le_refl _) _)).le (by omega))⟩
        ) (by
          intro i hi
          have h5 : i = 0 ∨ i = 1 ∨ i = 2 ∨ i = 3 := by simp only [List.length_cons, List.length_nil] at hi; omega
          rcases h5 with rfl | rfl | rfl | rfl <;> exact ⟨rfl, rfl⟩), hB73.alloc hB73.size _⟩
    case rest =>
      obtain ⟨P, rfl, HP, HBC⟩ := hcut
      have HBY : Hid (Below w.heap.size w wc) := below_then HBX.out HBC.out
      have hpack := fun i l back p q hp hq ls hls bk hbk => steps_pack (Form.mk fk ⟨f1, f2, f3, f4⟩ fl) (Form.mk gk ⟨g1, g2, g3, g4⟩ gl) HFO.out.1 HGO.out.1 HFO.out.2 HGO.out.2 i l back p q hp hq ls hls bk hbk
      obtain ⟨X, hX⟩ : ∃ X, X = stepsL (Form.mk fk ⟨f1, f2, f3, f4⟩ fl) (Form.mk gk ⟨g1, g2, g3, g4⟩ gl) := ⟨_, rfl⟩
      obtain ⟨Y, hY⟩ : ∃ Y, Y = stepsR (Form.mk fk ⟨f1, f2, f3, f4⟩ fl) (Form.mk gk ⟨g1, g2, g3, g4⟩ gl) := ⟨_, rfl⟩
      simp only [← hX, ← hY] at HP hpack
      have HPACK := Lib.hid hpack
      clear hpack hX hY HFO HGO HF7 HG7 HM0 HM1 HM2 HM3 HBX HBC cf0 cf1 cf2 cf3 cf4 cf5 cg0 cg1 cg2 cg3 cg4 cg5 cu0 cu1 cu2 cu3 cu4 cu5 cr0 cr1 cr2 cr3 cr4 cr5 ca0 ca1 ca2 ca3 ca4 ca5 ce0 ce1 ce2 ce3 ce4 ce5
      obtain ⟨wd, rfl⟩ : ∃ wd : World, wd = wc := ⟨_, rfl⟩
      go_wp2_with fail
      go_loopg [17] 4 (fun gg s17 wr => ∃ i : Nat, i ≤ 4 ∧ Hid (gg = 4 - i) ∧ s17 = .int .i64 i ∧ Hid (PairsAt wr P X Y 4) ∧ Hid (Below w.heap.size w wr))
      case atStart => exact ⟨0, by omega, rfl, rfl, HP.out, HBY.out⟩
      case round =>
        obtain ⟨i, hi, HG, rfl, HPR2, HBR⟩ := hrel
        obtain ⟨wi, rfl⟩ : ∃ wi : World, wi = wr := ⟨_, rfl⟩
        clear HP HBY
        by_cases hlt : i < 4
        · have hlt0 : (0 : Int) ≤ (i : Int) := by omega
          have hlt5 : (i : Int) < 4 := by omega
          obtain ⟨xv, yv, fx, fy, cx, cy⟩ := HPR2.out.2 i hlt
          obtain ⟨p, hp⟩ : ∃ p, p = (X i).props := ⟨_, rfl⟩
          obtain ⟨q, hq⟩ : ∃ q, q = (Y i).props := ⟨_, rfl⟩
          obtain ⟨ls, hls⟩ : ∃ ls, ls = (List.range (lettersN l2)).map (letterOf l2 p.length) := ⟨_, rfl⟩
          obtain ⟨bk, hbk⟩ : ∃ bk, bk = back % (lettersN l2 : Int) := ⟨_, rfl⟩
          obtain ⟨hfit, hpn, hqp, hp200, hq200, hln, hwd, hc1, hc2, htl, hsx, hsy⟩ := HPACK.out i l2 back p q hp hq ls hls bk hbk
          obtain ⟨n, hn⟩ : ∃ n, n = ls.length := ⟨_, rfl⟩
          obtain ⟨lx, hlx⟩ : ∃ lx, lx = tl (X i) ls bk := ⟨_, rfl⟩
          obtain ⟨x, hx⟩ : ∃ x, x = X i := ⟨_, rfl⟩
          obtain ⟨y, hy⟩ : ∃ y, y = Y i := ⟨_, rfl⟩
          rw [← hx] at fx cx hp hc1 htl hsx hlx
          rw [← hy] at fy cy hq hfit hc2 htl hsy
          obtain ⟨xa, xc, rfl, hxl⟩ := fx.slice
          obtain ⟨ya, yc, rfl, hyl⟩ := fy.slice
          have hr0 := fun W (hW : Below wi.heap.size wi W) => (refRight_any W 12 y _ (fy.below hW)).mono fun e w' (h : e = .returned (.bool y.fits) ∧ Below W.heap.size W w') => (show e = .returned (.bool true) ∧ Below W.heap.size W w' from by rw [← hfit]; exact h)
          have hm0 := fun W (hW : Below wi.heap.size wi W) => ((HMW.out W (below_then HBR.out hW) 12 x _ (fx.below hW) hsx).mono fun _ _ h => TellsWord.toL (ls := ls) (bk := bk) h (by rw [hls, hp]) hbk)
          have hpx0 := fun W (hW : Below wi.heap.size wi W) => (rprops_any 12 W x _ (fx.below hW) (by omega))
          have hpy0 := fun W (hW : Below wi.heap.size wi W) => (rprops_any 12 W y _ (fy.below hW) (by omega))
          have htx0 := fun W (la : Option Addr) (n lc : Nat) (hW : Below wi.heap.size wi W) (hlt : LettersAt W (.slice la n lc) ls) => (truthR_any W 12 x _ _ ls bk (fx.below hW) hlt).mono fun _ _ h => TellsRes.toL (l' := lx) (c' := 0) h hlx hc1.symm
          have hty0 := fun W (la : Option Addr) (n lc : Nat) (hW : Below wi.heap.size wi W) (hlt : LettersAt W (.slice la n lc) (ls.map (reletter p q))) => (truthR_any W 12 y _ _ _ bk (fy.below hW) hlt).mono fun _ _ h => TellsRes.toL (l' := lx) (c' := 0) h (hlx.trans htl) hc2.symm
          rw [← hp] at hpx0
          rw [← hq] at hpy0
          have HR := Lib.hid hr0
          have HM := Lib.hid hm0
          have HPX := Lib.hid hpx0
          have HPY := Lib.hid hpy0
          have HTX := Lib.hid htx0
          have HTY := Lib.hid hty0
          have HPN := Lib.hid hpn
          have HQP := Lib.hid hqp
          have HWD := Lib.hid hwd
          have h8 : 1 ≤ n ∧ n ≤ 8 := by omega
          have HLN := Lib.hid hn
          clear hr0 hm0 hpx0 hpy0 htx0 hty0 hpn hqp hwd hfit hln hc1 hc2 htl hsx hsy fx fy hp hq hls hbk hlx hx hy hn
          obtain ⟨xk, ⟨x1, x2, x3, x4⟩, xl⟩ := x
          obtain ⟨yk, ⟨y1, y2, y3, y4⟩, yl⟩ := y
          have cx0 := cx 0 (by omega)
          have cx1 := cx 1 (by omega)
          have cx2 := cx 2 (by omega)
          have cx3 := cx 3 (by omega)
          have cx4 := cx 4 (by omega)
          have cx5 := cx 5 (by omega)
          have cy0 := cy 0 (by omega)
          have cy1 := cy 1 (by omega)
          have cy2 := cy 2 (by omega)
          have cy3 := cy 3 (by omega)
          have cy4 := cy 4 (by omega)
          have cy5 := cy 5 (by omega)
          unfold formV at HR HM HPX HPY HTX HTY
          simp only [Form.kids, formCells, Form.kind, Form.prop, Nat.add_zero, List.getElem?_cons_zero, List.getElem?_cons_succ] at hxl hyl cx0 cx1 cx2 cx3 cx4 cx5 cy0 cy1 cy2 cy3 cy4 cy5 HR HM HPX HPY HTX HTY
          clear cx cy hlt
          go_wp2_with fail
          refine (HR.out wi (Below.refl _ _)).mono ?_
          rintro e wa ⟨rfl, hb1⟩
          replace cx0 := cells_kept hb1 _ _ cx0
          replace cx1 := cells_kept hb1 _ _ cx1
          replace cx2 := cells_kept hb1 _ _ cx2
          replace cx3 := cells_kept hb1 _ _ cx3
          replace cx4 := cells_kept hb1 _ _ cx4
          replace cx5 := cells_kept hb1 _ _ cx5
          replace cy0 := cells_kept hb1 _ _ cy0
          replace cy1 := cells_kept hb1 _ _ cy1
          replace cy2 := cells_kept hb1 _ _ cy2
          replace cy3 := cells_kept hb1 _ _ cy3
          replace cy4 := cells_kept hb1 _ _ cy4
          replace cy5 := cells_kept hb1 _ _ cy5
          have HB1 := Lib.hid hb1
          clear hb1 HR
          go_wp2_with fail
          refine (HM.out wa HB1.out).mono ?_
          rintro e wb ⟨la, nn, lc, rfl, hlt, hb2⟩
          replace cx0 := cells_kept hb2 _ _ cx0
          replace cx1 := cells_kept hb2 _ _ cx1
          replace cx2 := cells_kept hb2 _ _ cx2
          replace cx3 := cells_kept hb2 _ _ cx3
          replace cx4 := cells_kept hb2 _ _ cx4
          replace cx5 := cells_kept hb2 _ _ cx5
          replace cy0 := cells_kept hb2 _ _ cy0
          replace cy1 := cells_kept hb2 _ _ cy1
          replace cy2 := cells_kept hb2 _ _ cy2
          replace cy3 := cells_kept hb2 _ _ cy3
          replace cy4 := cells_kept hb2 _ _ cy4
          replace cy5 := cells_kept hb2 _ _ cy5
          obtain ⟨la', lc', hle, -⟩ := hlt.slice
          have hnl : nn = ls.length := by injection hle
          obtain rfl : nn = n := hnl.trans HLN.out.symm
          have HB2 : Hid (Below wi.heap.size wi wb) := below_then HB1.out hb2
          have HLT := Lib.hid hlt
          clear hb2 HB1 HM hlt hle hnl
          go_upto_region 12 with fail
          have hT := heap_alloc_new wb (.cells #[.slice la nn lc, .int .i64 bk] 29)
          have hBT : Below wb.heap.size wb (wb.alloc (.cells #[.slice la nn lc, .int .i64 bk] 29)) := (Below.refl _ _).alloc (Nat.le_refl _) _
          obtain ⟨T, hTd⟩ : ∃ T, T = wb.heap.size := ⟨_, rfl⟩
          rw [← hTd] at hT ⊢
          generalize World.alloc _ _ = wt at hT hBT ⊢
          replace cx0 := cells_kept hBT _ _ cx0
          replace cx1 := cells_kept hBT _ _ cx1
          replace cx2 := cells_kept hBT _ _ cx2
          replace cx3 := cells_kept hBT _ _ cx3
          replace cx4 := cells_kept hBT _ _ cx4
          replace cx5 := cells_kept hBT _ _ cx5
          replace cy0 := cells_kept hBT _ _ cy0
          replace cy1 := cells_kept hBT _ _ cy1
          replace cy2 := cells_kept hBT _ _ cy2
          replace cy3 := cells_kept hBT _ _ cy3
          replace cy4 := cells_kept hBT _ _ cy4
          replace cy5 := cells_kept hBT _ _ cy5
          have HT := Lib.hid hT
          have HB3 : Hid (Below wi.heap.size wi wt) := below_then HB2.out hBT
          have HL3 : Hid (LettersAt wt (.slice la nn lc) ls) := HLT.out.below hBT
          clear hT hBT hTd HB2 HLT
          go_cut [19, 20] (fun s19 s20 w' => ∃ pa pc qa qc, s19 = .slice pa p.length pc ∧ s20 = .slice qa q.length qc ∧ Hid (PropsAt w' (.slice pa p.length pc) p) ∧ Hid (PropsAt w' (.slice qa q.length qc) q) ∧ Hid (Below wt.heap.size wt w'))
          case first =>
            have hx : ∀ a v, wt.cell? a = some v → wt.drew.cell? a = some v := fun _ _ h => h
            have hd : Below wi.heap.size wi wt.drew := Below.drew HB3.out
            have hd0 : Below wt.heap.size wt wt.drew := Below.drew (Below.refl _ _)
            go_region_held3 (fun w' => w'.cell? ⟨P, i * 12, none⟩ = some (.int .i64 xk) ∧ w'.cell? ⟨P, i * 12 + 1, none⟩ = some (.int .i64 x1) ∧ w'.cell? ⟨P, i * 12 + 2, none⟩ = some (.int .i64 x2) ∧ w'.cell? ⟨P, i * 12 + 3, none⟩ = some (.int .i64 x3) ∧ w'.cell? ⟨P, i * 12 + 4, none⟩ = some (.int .i64 x4) ∧ w'.cell? ⟨P, i * 12 + 5, none⟩ = some (.slice xa xl.length xc) ∧ w'.cell? ⟨P, i * 12 + 6, none⟩ = some (.int .i64 yk) ∧ w'.cell? ⟨P, i * 12 + 6 + 1, none⟩ = some (.int .i64 y1) ∧ w'.cell? ⟨P, i * 12 + 6 + 2, none⟩ = some (.int .i64 y2) ∧ w'.cell? ⟨P, i * 12 + 6 + 3, none⟩ = some (.int .i64 y3) ∧ w'.cell? ⟨P, i * 12 + 6 + 4, none⟩ = some (.int .i64 y4) ∧ w'.cell? ⟨P, i * 12 + 6 + 5, none⟩ = some (.slice ya yl.length yc)) (first | exact ⟨hx _ _ cx0, hx _ _ cx1, hx _ _ cx2, hx _ _ cx3, hx _ _ cx4, hx _ _ cx5, hx _ _ cy0, hx _ _ cy1, hx _ _ cy2, hx _ _ cy3, hx _ _ cy4, hx _ _ cy5⟩ | go_keep) (first | (go_at_call 18; refine (HPY.out r1 hd1).mono ?_; rintro e r2 ⟨qv, rfl, ho2, hb2⟩; have hd2 : Below wt.heap.size wt r2 := below_then hd01 hb2; have hx : ∀ a v, wt.cell? a = some v → r2.cell? a = some v := fun a v h => cells_kept hb2 a v (hx a v h)) | (go_at_call 18; refine (HPX.out _ hd).mono ?_; rintro e r1 ⟨pv, rfl, ho1, hb1⟩; have hd1 : Below wi.heap.size wi r1 := below_then hd hb1; have hd01 : Below wt.heap.size wt r1 := below_then hd0 hb1; have hx : ∀ a v, wt.cell? a = some v → r1.cell? a = some v := fun a v h => cells_kept hb1 a v h))
            unfold PropsOwn at ho1 ho2
            have hp1 := (PropsAt.of_row ho1).below hb2
            have hp2 := PropsAt.of_row ho2
            obtain ⟨pa, pc, rfl, -, -⟩ := row_slice ho1
            obtain ⟨qa, qc, rfl, -, -⟩ := row_slice ho2
            have HP1 := Lib.hid hp1
            have HP2 := Lib.hid hp2
            have HD2 := Lib.hid hd2
            clear ho1 ho2 hp1 hp2 hb1 hb2 hx hd hd0 hd1 hd01 hd2
            go_wp2_with fail
            go_meet
            case rel => exact ⟨_, _, _, _, rfl, rfl, HP1.out, HP2.out, HD2.out⟩
          case rest =>
            obtain ⟨pa, pc, qa, qc, rfl, rfl, HPA, HQA, HBC⟩ := hcut
            obtain ⟨z2, rfl⟩ : ∃ z2 : World, z2 = wc := ⟨_, rfl⟩
            replace cx0 := cells_kept HBC.out _ _ cx0
            replace cx1 := cells_kept HBC.out _ _ cx1
            replace cx2 := cells_kept HBC.out _ _ cx2
            replace cx3 := cells_kept HBC.out _ _ cx3
            replace cx4 := cells_kept HBC.out _ _ cx4
            replace cx5 := cells_kept HBC.out _ _ cx5
            replace cy0 := cells_kept HBC.out _ _ cy0
            replace cy1 := cells_kept HBC.out _ _ cy1
            replace cy2 := cells_kept HBC.out _ _ cy2
            replace cy3 := cells_kept HBC.out _ _ cy3
            replace cy4 := cells_kept HBC.out _ _ cy4
            replace cy5 := cells_kept HBC.out _ _ cy5
            have HTZ : Hid (z2.heap[T]? = _) := (HBC.out.block T (lt_of_block HT.out)).trans HT.out
            have HBZ : Hid (Below wi.heap.size wi z2) := below_then HB3.out HBC.out
            have HLZ : Hid (LettersAt z2 (.slice la nn lc) ls) := HL3.out.below HBC.out
            have HPZ : Hid (PairsAt z2 P X Y 4) := HPR2.out.below HBZ.out
            have ct0 := cell_of_block HTZ.out 0
            have ct1 := cell_of_block HTZ.out 1
            simp only [List.getElem?_toArray, List.getElem?_cons_zero, List.getElem?_cons_succ] at ct0 ct1
            have HCX : Hid (∀ W, Below z2.heap.size z2 W → (W.cell? ⟨P, i * 12, none⟩ = some (.int .i64 xk) ∧ W.cell? ⟨P, i * 12 + 1, none⟩ = some (.int .i64 x1) ∧ W.cell? ⟨P, i * 12 + 2, none⟩ = some (.int .i64 x2) ∧ W.cell? ⟨P, i * 12 + 3, none⟩ = some (.int .i64 x3) ∧ W.cell? ⟨P, i * 12 + 4, none⟩ = some (.int .i64 x4) ∧ W.cell? ⟨P, i * 12 + 5, none⟩ = some (.slice xa xl.length xc)) ∧ (W.cell? ⟨P, i * 12 + 6, none⟩ = some (.int .i64 yk) ∧ W.cell? ⟨P, i * 12 + 6 + 1, none⟩ = some (.int .i64 y1) ∧ W.cell? ⟨P, i * 12 + 6 + 2, none⟩ = some (.int .i64 y2) ∧ W.cell? ⟨P, i * 12 + 6 + 3, none⟩ = some (.int .i64 y3) ∧ W.cell? ⟨P, i * 12 + 6 + 4, none⟩ = some (.int .i64 y4) ∧ W.cell? ⟨P, i * 12 + 6 + 5, none⟩ = some (.slice ya yl.length yc)) ∧ W.cell? ⟨T, 0, none⟩ = some (.slice la nn lc) ∧ W.cell? ⟨T, 1, none⟩ = some (.int .i64 bk)) := fun W hW => ⟨⟨cells_kept hW _ _ cx0, cells_kept hW _ _ cx1, cells_kept hW _ _ cx2, cells_kept hW _ _ cx3, cells_kept hW _ _ cx4, cells_kept hW _ _ cx5⟩, ⟨cells_kept hW _ _ cy0, cells_kept hW _ _ cy1, cells_kept hW _ _ cy2, cells_kept hW _ _ cy3, cells_kept hW _ _ cy4, cells_kept hW _ _ cy5⟩, cells_kept hW _ _ ct0, cells_kept hW _ _ ct1⟩
            clear cx0 cx1 cx2 cx3 cx4 cx5 cy0 cy1 cy2 cy3 cy4 cy5 HT HBC HB3 HL3 HPR2 HPX HPY
            go_wp2_with fail
            have hV := heap_alloc_new z2 (.cells #[.slice none 0 0, .int .i64 bk] 29)
            have hBV : Below z2.heap.size z2 (z2.alloc (.cells #[.slice none 0 0, .int .i64 bk] 29)) := (Below.refl _ _).alloc (Nat.le_refl _) _
            obtain ⟨V, hVd⟩ : ∃ V, V = z2.heap.size := ⟨_, rfl⟩
            rw [← hVd] at hV ⊢
            have HVD := Lib.hid hVd
            clear hVd ct0 ct1
            generalize World.alloc _ _ = wv at hV hBV ⊢
            have HV := Lib.hid hV
            have HBV := Lib.hid hBV
            clear hV hBV
            go_loopg [22] nn (fun gg s22 wr => ∃ (j : Nat) (svs : List Value) (oa : Option Addr) (oc : Nat), s22 = .int .i64 j ∧ Hid (gg + j = nn) ∧ Hid (svs.length = j) ∧ j ≤ nn ∧ Hid (wr.heap[V]? = some (.cells #[.slice oa j oc, .int .i64 bk] 29 (0, 0))) ∧ Hid (wr.ownsRow (V + 1) 41 1 (.slice oa j oc) j svs) ∧ Hid (∀ k, k < j → ∃ B', wr.ownsRow B' 4 1 (svs.getD k (.bool false)) q.length ((reletter p q (ls.getD k [])).map Value.bool)) ∧ Hid (Below z2.heap.size z2 wr))
            case atStart => exact ⟨0, [], none, 0, rfl, by rw [Hid]; omega, rfl, by omega, HV.out, World.ownsRow_nil _ _ _ _, fun j hj => by omega, HBV.out⟩
            case round =>
              obtain ⟨j, svs, oa, oc, rfl, HGJ, HSL, hjn, HWR, HOR, HLR, HBJ⟩ := hrel
              obtain ⟨wj, rfl⟩ : ∃ wj : World, wj = wr := ⟨_, rfl⟩
              clear HV HBV
              obtain ⟨ex, ey, et0, et1⟩ := HCX.out wj HBJ.out
              by_cases hjl : j < nn
              · have hjl' : (j : Int) < (nn : Int) := by omega
                obtain ⟨lt, hlt⟩ : ∃ lt, lt = ls.getD j [] := ⟨_, rfl⟩
                have HLT := Lib.hid hlt
                clear hlt ex ey et1
                go_wp2_with fail
                have hrow0 : (wj.alloc (.cells #[] 4)).ownsRow wj.heap.size 4 1 (.slice (some ⟨wj.heap.size, 0, none⟩) 0 0) 0 (((q.take 0).map (valAt p lt)).map Value.bool) := ⟨rfl, .inr ⟨wj.heap.size, 0, #[], rfl, Nat.le_refl _, heap_alloc_new wj _, Nat.le_refl _, Nat.zero_le _, rfl, rfl⟩⟩
                have HROW0 := Lib.hid hrow0
                have HBA : Hid (Below wj.heap.size wj (wj.alloc (.cells #[] 4))) := (Below.refl _ _).alloc (Nat.le_refl _) _
                clear hrow0 et0
                go_loopg [23, 24] q.length (fun gg s23 s24 wx => ∃ (x : Nat) (ra : Option Addr) (rc : Nat), x ≤ q.length ∧ Hid (gg = q.length - x) ∧ s23 = .slice ra x rc ∧ s24 = .int .i64 x ∧ Hid (wx.ownsRow wj.heap.size 4 1 (.slice ra x rc) x (((q.take x).map (valAt p lt)).map Value.bool)) ∧ Hid (Below wj.heap.size wj wx))
                case atStart => exact ⟨0, _, _, Nat.zero_le _, rfl, rfl, rfl, HROW0.out, HBA.out⟩
                case round =>
                  obtain ⟨x, ra, rc, hxq, HGX, rfl, rfl, HXR, HBX⟩ := hrel
                  obtain ⟨wx, rfl⟩ : ∃ wx : World, wx = wr := ⟨_, rfl⟩
                  clear HROW0 HBA
                  by_cases hxl2 : x < q.length
                  · have hxl3 : (x : Int) < (q.length : Int) := by omega
                    go_wp2_with fail
                    go_loopg [23, 25] p.length (fun gg s23 s25 wy => ∃ (y m : Nat) (ra : Option Addr) (rc : Nat), y ≤ p.length ∧ Hid (gg = p.length - y) ∧ s23 = .slice ra m rc ∧ s25 = .int .i64 y ∧ m ≤ x + 1 ∧ Hid (m = x + (if p.idxOf (q.getD x default) < y then 1 else 0)) ∧ Hid (wy.ownsRow wj.heap.size 4 1 (.slice ra m rc) m ((rowAt p q lt x y).map Value.bool)) ∧ Hid (Below wj.heap.size wj wy))
                    case atStart => exact ⟨0, x, ra, rc, Nat.zero_le _, rfl, rfl, rfl, by omega, by rw [Hid, if_neg (Nat.not_lt_zero _)]; rfl, by rw [Hid, rowAt_zero]; exact HXR.out, HBX.out⟩
                    case round =>
                      obtain ⟨y, m, ra, rc, hyp, HGY, rfl, rfl, hmx, HMD, HYR, HBY⟩ := hrel
                      obtain ⟨wy, rfl⟩ : ∃ wy : World, wy = wr := ⟨_, rfl⟩
                      clear HXR HBX
                      by_cases hyl2 : y < p.length
                      · have hyl3 : (y : Int) < (p.length : Int) := by omega
                        have HBZY : Hid (Below z2.heap.size z2 wy) := below_then HBJ.out HBY.out
                        obtain ⟨pa', pc', hpe, hpcell⟩ := (HPA.out.below HBZY.out).cells
                        obtain ⟨pb, po, e1, hpb, ep0, ep1, ep2, ep3⟩ := hpcell y hyl2
                        obtain rfl : pa = pa' := by injection hpe
                        subst e1
                        obtain ⟨qa', qc', hqe, hqcell⟩ := (HQA.out.below HBZY.out).cells
                        obtain ⟨qb, qo, e2, hqb, eq0, eq1, eq2, eq3⟩ := hqcell x hxl2
                        obtain rfl : qa = qa' := by injection hqe
                        subst e2
                        obtain ⟨pp, hpp⟩ : ∃ pp, pp = p.getD y default := ⟨_, rfl⟩
                        obtain ⟨qq, hqq⟩ : ∃ qq, qq = q.getD x default := ⟨_, rfl⟩
                        rw [← hpp] at ep0 ep1 ep2 ep3
                        rw [← hqq] at eq0 eq1 eq2 eq3
                        have HPP := Lib.hid hpp
                        have HQQ := Lib.hid hqq
                        clear hpp hqq hpe hqe hpcell hqcell hpb hqb
                        obtain ⟨u1, u2, u3, u4⟩ := pp
                        obtain ⟨t1, t2, t3, t4⟩ := qq
                        simp only [] at ep0 ep1 ep2 ep3 eq0 eq1 eq2 eq3
                        have hgd := prop_guard
                        by_cases he : (⟨u1, u2, u3, u4⟩ : PropD) = ⟨t1, t2, t3, t4⟩
                        · have heq := prop_eq true (decide_eq_true he)
                          have hhit := rowAt_hit lt HPN.out (x := x) (q := q) hyl2 (by rw [← HPP.out, ← HQQ.out]; exact he)
                          have HHIT := Lib.hid hhit
                          clear he hhit
                          obtain ⟨-, -, et0, -⟩ := HCX.out wy HBZY.out
                          obtain ⟨la', lc', hle, -, hlx⟩ := HLZ.out.below HBZY.out
                          obtain ⟨lb, lo, kv, e3, hlb, ek, hkb⟩ := hlx j (by have := HLN.out; omega)
                          obtain rfl : la = la' := by injection hle
                          subst e3
                          rw [← HLT.out] at hkb
                          have hltl : lt.length = p.length := by rw [HLT.out]; exact HWD.out j (by have := HLN.out; omega)
                          obtain ⟨ka, kc, rfl, -, hkc⟩ := hkb
                          obtain ⟨kb, ko, rfl, hkb2, ekb⟩ := hkc y (by omega)
                          rw [hltl] at ek
                          obtain ⟨bt, hbt⟩ : ∃ bt, bt = lt.getD y false := ⟨_, rfl⟩
                          rw [← hbt] at ekb
                          have HBT := Lib.hid hbt
                          have hmx0 : m = x := by have := HMD.out; rw [if_neg (by have := HHIT.out.2; omega)] at this; exact this
                          subst hmx0
                          clear hbt hltl hle hlx hlb hkb2 hkc
                          go_wp2_with fail
                          go_quiet (fail)
                          generalize hwz : World.drewN wy _ = wz
                          have hbz : Below wy.heap.size wy wz := by rw [← hwz]; exact drewN_below (Below.refl _ _) _
                          clear hwz ep0 ep1 ep2 ep3 eq0 eq1 eq2 eq3
                          replace et0 := cells_kept hbz _ _ et0
                          replace ek := cells_kept hbz _ _ ek
                          replace ekb := cells_kept hbz _ _ ekb
                          have HZR := Lib.hid (row_below HYR.out hbz)
                          have HBZ4 : Hid (Below wj.heap.size wj wz) := below_then HBY.out hbz
                          have hzx := HBZ4.out.size
                          clear hbz
                          go_wp2_with (at_builtin; go_must (refine wpList_append_at_ _ rfl _ _ 41 rfl 4 (.bool false) 1 1 Try.underlying41 bool_info rfl (by decide) wj.heap.size (.slice ra m rc) m ((rowAt p q lt m y).map Value.bool) rfl (HZR.out.alloc _) ⟨wz.heap.size, 0, none⟩ 1 1 [.bool bt] rfl rfl (cells_new wz _ _) (by simp [Value.oneCell']) (by unfold maxLen; omega) (by omega) (by simp; omega) ?_); intro xa' xc' w4 hown4 hxc1 hxc2 hS4 hloc4 _)
                          have HOWN4 : Hid (w4.ownsRow wj.heap.size 4 1 (.slice xa' (m + 1) xc') (m + 1) ((rowAt p q lt m (y + 1)).map Value.bool)) := by rw [Hid, HHIT.out.1, List.map_append, ← HBT.out]; exact hown4
                          have HB44 : Hid (Below wj.heap.size wj w4) := (HBZ4.out.alloc hzx _).trans (hS4.below (by simp; omega) (fun k hk => (HZR.out.lt k hk).1))
                          clear hown4 hS4 hloc4 HZR HBZ4 HYR HBY
                          go_roundg (p.length - (y + 1))
                          case measure => rw [HGY.out]; omega
                          case rel => exact ⟨y + 1, m + 1, xa', xc', by omega, rfl, rfl, by simp, by omega, by rw [Hid, if_pos (by have := HHIT.out.2; omega)], HOWN4.out, HB44.out⟩
                        · have heq := prop_eq false (decide_eq_false he)
                          have hmiss := rowAt_miss lt (x := x) (q := q) hyl2 (by rw [← HPP.out, ← HQQ.out]; exact he)
                          have HMISS := Lib.hid hmiss
                          clear he hmiss
                          go_wp2_with fail
                          go_quiet (fail)
                          generalize hwz : World.drewN wy _ = wz
                          have hbz : Below wy.heap.size wy wz := by rw [← hwz]; exact drewN_below (Below.refl _ _) _
                          clear hwz ep0 ep1 ep2 ep3 eq0 eq1 eq2 eq3
                          have HZR : Hid (wz.ownsRow wj.heap.size 4 1 (.slice ra m rc) m ((rowAt p q lt x (y + 1)).map Value.bool)) := by rw [Hid, HMISS.out.1]; exact row_below HYR.out hbz
                          have HBZ4 : Hid (Below wj.heap.size wj wz) := below_then HBY.out hbz
                          clear hbz HYR HBY
                          go_wp2_with fail
                          go_roundg (p.length - (y + 1))
                          case measure => rw [HGY.out]; omega
                          case rel => exact ⟨y + 1, m, ra, rc, by omega, rfl, rfl, by simp, by omega, by rw [Hid]; simp only [HMISS.out.2]; exact HMD.out, HZR.out, HBZ4.out⟩
                      · obtain rfl : y = p.length := by omega
                        have hfull := rowAt_full lt hxl2 (HQP.out _ (by rw [List.getD_eq_getElem?_getD, List.getElem?_eq_getElem hxl2]; exact List.getElem_mem hxl2))
                        have hm1 : m = x + 1 := by have := HMD.out; rw [if_pos hfull.2] at this; exact this
                        have HYF : Hid (wy.ownsRow wj.heap.size 4 1 (.slice ra m rc) m (((q.take (x + 1)).map (valAt p lt)).map Value.bool)) := by rw [Hid, ← hfull.1]; exact HYR.out
                        subst hm1
                        clear hfull HYR HMD hyl2 hmx
                        go_wp2_with fail
                        go_roundg (q.length - (x + 1))
                        case measure => rw [HGX.out]; omega
                        case rel => exact ⟨x + 1, ra, rc, by omega, rfl, rfl, by simp, HYF.out, HBY.out⟩
                  · obtain rfl : x = q.length := by omega
                    have HXF : Hid (wx.ownsRow wj.heap.size 4 1 (.slice ra q.length rc) q.length ((reletter p q (ls.getD j [])).map Value.bool)) := by rw [Hid, ← HLT.out, ← reletter_take]; exact HXR.out
                    have hzx := HBX.out.size
                    have hVj := lt_of_block HWR.out
                    have hWx := (HBX.out.block V hVj).trans HWR.out
                    have v0 := cell_of_block hWx 0
                    have vf := free_of_block hWx 0
                    simp only [List.getElem?_toArray, List.getElem?_cons_zero] at v0
                    have HOX := Lib.hid (row_below HOR.out HBX.out)
                    have HWX := Lib.hid hWx
                    have hoi := row_slice HOR.out
                    obtain ⟨oa2, oc2, hoe, hoc1, hoc2⟩ := hoi
                    unfold maxLen at hoc2
                    cases hoe
                    clear hWx HXR hxl2
                    have v1 := fun o => (Below.cell ((Below.refl _ _).alloc (Nat.le_refl _) o) (World.block_lt_of_cell? wx _ v0)).trans v0
                    go_wp2_with (at_builtin; go_must (refine wpList_append_at_ _ rfl _ _ 27 rfl 41 (.slice none 0 0) 1 24 Try.underlying27 letters_info rfl (by decide) (V + 1) (.slice oa j oc) j svs rfl (HOX.out.alloc _) ⟨wx.heap.size, 0, none⟩ 1 1 [.slice ra q.length rc] rfl rfl (cells_new wx _ _) (by simp [Value.oneCell']) (by unfold maxLen; omega) (by omega) (by simp; omega) ?_); intro oa' oc' w4 hown4 hxc1 hxc2 hS4 hloc4 _; have hW4 := (hS4.block V (by simp; omega) (fun e => by have := (HOX.out.lt V e).1; omega)).trans ((Below.heap_alloc _ _ _ (by omega)).trans HWX.out); have v4 := cell_of_block hW4 0; have v4f := free_of_block hW4 0; simp only [List.getElem?_toArray, List.getElem?_cons_zero] at v4)
                    have hrows := rows_round (g := fun k => reletter p q (ls.getD k [])) (V := .slice oa' (j + 1) oc') HLR.out HSL.out HBX.out HXF.out HOX.out hW4 hS4
                    have hset : (w4.setCell ⟨V, 0, none⟩ (.slice oa' (j + 1) oc')).heap[V]? = some (.cells #[.slice oa' (j + 1) oc', .int .i64 bk] 29 (0, 0)) := by
                      have := set_of_block hW4 0 (.slice oa' (j + 1) oc')
                      simpa using this
                    have G1 := Lib.hid hrows
                    have G2 := Lib.hid hset
                    have G3 := Lib.hid (ownsRow_setCell_below (a := ⟨V, 0, none⟩) hown4 (by simp) (.slice oa' (j + 1) oc'))
                    have G4 : Hid (Below z2.heap.size z2 (w4.setCell ⟨V, 0, none⟩ (.slice oa' (j + 1) oc'))) := by
                      have hz1 := HBJ.out.size
                      have hb4 : Below wj.heap.size wj (wx.alloc (.cells #[.slice ra q.length rc] 41)) := HBX.out.alloc hzx _
                      have hb5 : Below z2.heap.size z2 w4 := (HBJ.out.trans (hb4.mono hz1)).trans (hS4.below (by simp; omega) (fun k hk => by have := (HOX.out.lt k hk).1; have := HVD.out; omega))
                      exact hb5.setCell (by rw [HVD.out]; exact Nat.le_refl _) _
                    clear hrows hset hown4 hS4 hloc4 hW4
                    go_roundg (nn - (j + 1))
                    case measure => have := HGJ.out; omega
                    case rel => exact ⟨j + 1, svs ++ [Value.slice ra q.length rc], oa', oc', by simp, by rw [Hid]; omega, by rw [Hid, List.length_append, HSL.out]; rfl, by omega, G2.out, G3.out, G1.out, G4.out⟩
              · obtain rfl : j = nn := by omega
                have hlv : LettersAt wj (.slice oa j oc) (ls.map (reletter p q)) := rows_letters HOR.out HSL.out HLN.out.symm rfl HLR.out
                have HLV := Lib.hid hlv
                have HLX := Lib.hid (HLZ.out.below HBJ.out)
                have HBI : Hid (Below wi.heap.size wi wj) := below_then HBZ.out HBJ.out
                have HPJ : Hid (PairsAt wj P X Y 4) := HPZ.out.below HBJ.out
                have cv0 := cell_of_block HWR.out 0
                have cv1 := cell_of_block HWR.out 1
                simp only [List.getElem?_toArray, List.getElem?_cons_zero, List.getElem?_cons_succ] at cv0 cv1
                obtain ⟨ex0, ex1, ex2, ex3, ex4, ex5⟩ := ex
                obtain ⟨ey0, ey1, ey2, ey3, ey4, ey5⟩ := ey
                clear hlv HOR HSL HLR HWR HLZ HBZ HPZ HPA HQA HCX HBJ HVD HGJ hjl HWD HQP HPN HLN h8 hjn
                go_wp2_with fail
                go_cut [26, 27] (fun s1 s2 w' => ∃ sa n sc, s1 = .slice sa n sc ∧ s2 = .int .i64 0 ∧ Hid (BoolsAt w' s1 lx) ∧ Hid (Below wj.heap.size wj w'))
                case first =>
                  have hx : ∀ a v, wj.cell? a = some v → wj.drew.cell? a = some v := fun _ _ h => h
                  have hd : Below wj.heap.size wj wj.drew := Below.drew (Below.refl _ _)
                  go_region_held3 (fun w' => w'.cell? ⟨P, i * 12, none⟩ = some (.int .i64 xk) ∧ w'.cell? ⟨P, i * 12 + 1, none⟩ = some (.int .i64 x1) ∧ w'.cell? ⟨P, i * 12 + 2, none⟩ = some (.int .i64 x2) ∧ w'.cell? ⟨P, i * 12 + 3, none⟩ = some (.int .i64 x3) ∧ w'.cell? ⟨P, i * 12 + 4, none⟩ = some (.int .i64 x4) ∧ w'.cell? ⟨P, i * 12 + 5, none⟩ = some (.slice xa xl.length xc) ∧ w'.cell? ⟨T, 0, none⟩ = some (.slice la j lc) ∧ w'.cell? ⟨T, 1, none⟩ = some (.int .i64 bk)) (first | exact ⟨hx _ _ ex0, hx _ _ ex1, hx _ _ ex2, hx _ _ ex3, hx _ _ ex4, hx _ _ ex5, hx _ _ et0, hx _ _ et1⟩ | go_keep) (first | (go_at_call 15; refine (HTX.out _ _ _ _ (Below.drew HBI.out) (HLX.out.below hd)).mono ?_; rintro e r2 ⟨sa, sn, sc, rfl, hbs, hb2⟩; have hd2 : Below wj.heap.size wj r2 := below_then hd hb2; have hx : ∀ a v, wj.cell? a = some v → r2.cell? a = some v := fun a v h => cells_kept hb2 a v (hx a v h)))
                  have HBS := Lib.hid hbs
                  have HD2 := Lib.hid hd2
                  clear hbs hb2 hd hd2 hx
                  go_wp2_with fail
                  go_meet
                  case rel => exact ⟨_, _, _, rfl, rfl, HBS.out, HD2.out⟩
                case rest =>
                  obtain ⟨sa1, sn1, sc1, rfl, rfl, HS1, HBC1⟩ := hcut
                  obtain ⟨wk, rfl⟩ : ∃ wk : World, wk = wc := ⟨_, rfl⟩
                  replace ey0 := cells_kept HBC1.out _ _ ey0
                  replace ey1 := cells_kept HBC1.out _ _ ey1
                  replace ey2 := cells_kept HBC1.out _ _ ey2
                  replace ey3 := cells_kept HBC1.out _ _ ey3
                  replace ey4 := cells_kept HBC1.out _ _ ey4
                  replace ey5 := cells_kept HBC1.out _ _ ey5
                  replace cv0 := cells_kept HBC1.out _ _ cv0
                  replace cv1 := cells_kept HBC1.out _ _ cv1
                  have HLV2 := Lib.hid (HLV.out.below HBC1.out)
                  have HPK : Hid (PairsAt wk P X Y 4) := HPJ.out.below HBC1.out
                  have HBK : Hid (Below wi.heap.size wi wk) := below_then HBI.out HBC1.out
                  clear HLV HLX HPJ HBI HBC1 HTX ex0 ex1 ex2 ex3 ex4 ex5 et0 et1
                  have HBI := HBK
                  go_wp2_with fail
                  go_cut [28, 29] (fun s1 s2 w' => ∃ sa n sc, s1 = .slice sa n sc ∧ s2 = .int .i64 0 ∧ Hid (BoolsAt w' s1 lx) ∧ Hid (Below wk.heap.size wk w'))
                  case first =>
                    have hx : ∀ a v, wk.cell? a = some v → wk.drew.cell? a = some v := fun _ _ h => h
                    have hd : Below wk.heap.size wk wk.drew := Below.drew (Below.refl _ _)
                    go_region_held3 (fun w' => w'.cell? ⟨P, i * 12 + 6, none⟩ = some (.int .i64 yk) ∧ w'.cell? ⟨P, i * 12 + 6 + 1, none⟩ = some (.int .i64 y1) ∧ w'.cell? ⟨P, i * 12 + 6 + 2, none⟩ = some (.int .i64 y2) ∧ w'.cell? ⟨P, i * 12 + 6 + 3, none⟩ = some (.int .i64 y3) ∧ w'.cell? ⟨P, i * 12 + 6 + 4, none⟩ = some (.int .i64 y4) ∧ w'.cell? ⟨P, i * 12 + 6 + 5, none⟩ = some (.slice ya yl.length yc) ∧ w'.cell? ⟨V, 0, none⟩ = some (.slice oa j oc) ∧ w'.cell? ⟨V, 1, none⟩ = some (.int .i64 bk)) (first | exact ⟨hx _ _ ey0, hx _ _ ey1, hx _ _ ey2, hx _ _ ey3, hx _ _ ey4, hx _ _ ey5, hx _ _ cv0, hx _ _ cv1⟩ | go_keep) (first | (go_at_call 15; refine (HTY.out _ _ _ _ (Below.drew HBI.out) (HLV2.out.below hd)).mono ?_; rintro e r2 ⟨sa, sn, sc, rfl, hbs, hb2⟩; have hd2 : Below wk.heap.size wk r2 := below_then hd hb2; have hx : ∀ a v, wk.cell? a = some v → r2.cell? a = some v := fun a v h => cells_kept hb2 a v (hx a v h)))
                    have HBS := Lib.hid hbs
                    have HD2 := Lib.hid hd2
                    clear hbs hb2 hd hd2 hx
                    go_wp2_with fail
                    go_meet
                    case rel => exact ⟨_, _, _, rfl, rfl, HBS.out, HD2.out⟩
                  case rest =>
                    obtain ⟨sa2, sn2, sc2, rfl, rfl, HS2, HBC2⟩ := hcut
                    obtain ⟨wl, rfl⟩ : ∃ wl : World, wl = wc := ⟨_, rfl⟩
                    have HS1l : Hid (BoolsAt wl (.slice sa1 sn1 sc1) lx) := HS1.out.below HBC2.out
                    have HPL : Hid (PairsAt wl P X Y 4) := HPK.out.below HBC2.out
                    have HBL : Hid (Below w.heap.size w wl) := below_then HBR.out (below_then HBK.out HBC2.out)
                    clear HS1 HPK HBK HBI HBC2 HTY HLV2 ey0 ey1 ey2 ey3 ey4 ey5 cv0 cv1 HBR
                    go_wp2_with fail
                    refine (sameL_true HS1l.out HS2.out).mono ?_
                    rintro e wm ⟨rfl, hbm⟩
                    have HPM : Hid (PairsAt wm P X Y 4) := HPL.out.below hbm
                    have HBM : Hid (Below w.heap.size w wm) := below_then HBL.out hbm
                    clear hbm HPL HBL HS1l HS2
                    go_wp2_with fail
                    go_roundg (4 - (i + 1))
                    case measure => have := HG.out; omega
                    case rel => exact ⟨i + 1, by omega, rfl, by simp, HPM.out, HBM.out⟩
        · have hi5 : i = 4 := by omega
          subst hi5
          clear hlt hi
          go_wp2_with fail
          go_ret
          exact ⟨rfl, HBR.out⟩
end Go.Proofs.Ytidnpdkibndpkaa
