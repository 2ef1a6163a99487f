/- WordTurned: whatever numbers: what is turned is the other way round, of the formulas and words that they make; no condition. -/
import Derived.Test.YtidnpdkibndpkaaPairs
namespace Go.Proofs.Ytidnpdkibndpkaa
open Go.RowKit

set_option maxRecDepth 100000 in
set_option maxHeartbeats 8000000 in
theorem wordTurned_walk (w : World) (v0 : Value) (l0 : List Int) (h0 : NumsAt w .u8 v0 l0) (v1 : Value) (l1 : List Int) (h1 : NumsAt w .u8 v1 l1) (v2 : Value) (l2 : List Int) (h2 : NumsAt w .u8 v2 l2) (back : Int) (hw : (Lit.int .u8 back).wf = true) :
    Calls Try.prog 5 #[v0, v1, v2, .int .u8 back] w (fun e w' => e = .returned (.bool true) ∧ Below w.heap.size w w') := by
  have hb0 : 0 ≤ back ∧ back ≤ 255 := by simp [Lit.wf, IntKind.min, IntKind.max, IntKind.signed, IntKind.bits] at hw; omega
  obtain ⟨hb0, hb1⟩ := hb0
  have hm0 := fun W (hW : Below w.heap.size w W) => made_any W v0 l0 (h0.below hW)
  have hm1 := fun W (hW : Below w.heap.size w W) => made_any W v1 l1 (h1.below hW)
  have hmw := fun W (hW : Below w.heap.size w W) (d : Nat) (f : Form) (kv : Value) (h : FormAt W d f kv) (hs : f.size ≤ 1000) => madeW_any W d f kv v2 l2 back hb0 hb1 h hs (h2.below hW)
  obtain ⟨a0, c0, rfl, -⟩ := h0
  obtain ⟨a1, c1, rfl, -⟩ := h1
  obtain ⟨a2, c2, rfl, -⟩ := h2
  have HM0 := Lib.hid hm0
  have HM1 := Lib.hid hm1
  have HMW := Lib.hid hmw
  clear hm0 hm1 hmw hw
  go_enter Try.func5, Try.ntmps5
  go_wp2_with fail
  refine (awake_any _).mono ?_
  rintro e w1 ⟨rfl, hba⟩
  have HB1 := Lib.hid hba
  clear hba
  go_wp2_with fail
  refine (HM0.out w1 HB1.out).mono ?_
  rintro e w2 ⟨f, fa, fn, fc, rfl, hf, hfo, hfs, hbb⟩
  obtain ⟨fa', fc', he, hfl⟩ := hf.slice
  cases he
  have HB2 : Hid (Below w.heap.size w w2) := below_then HB1.out hbb
  have HF2 := Lib.hid hf
  have HFO := Lib.hid (show f.okD 6 = true ∧ f.size ≤ 41 from ⟨hfo, hfs⟩)
  clear hf hfo hfs hbb HM0 HB1
  obtain ⟨fk, ⟨f1, f2, f3, f4⟩, fl⟩ := f
  simp only [Form.kids] at hfl HF2
  unfold formV
  simp only [Form.kind, Form.prop, Form.kids]
  go_wp2_with fail
  refine (HM1.out w2 HB2.out).mono ?_
  rintro e w3 ⟨g, ga, gn, gc, rfl, hg, hgo, hgs, hbb⟩
  obtain ⟨ga', gc', he, hgl⟩ := hg.slice
  cases he
  have HB3 : Hid (Below w.heap.size w w3) := below_then HB2.out hbb
  have HF3 := Lib.hid (HF2.out.below hbb)
  have HG3 := Lib.hid hg
  have HGO := Lib.hid (show g.okD 6 = true ∧ g.size ≤ 41 from ⟨hgo, hgs⟩)
  clear hg hgo hgs hbb HM1 HB2 HF2
  obtain ⟨gk, ⟨g1, g2, g3, g4⟩, gl⟩ := g
  simp only [Form.kids] at hgl HG3
  unfold formV
  simp only [Form.kind, Form.prop, Form.kids]
  go_upto_region 5 with fail
  have hB := boxes_below w3 (.cells #[.int .i64 fk, .int .i64 f1, .int .i64 f2, .int .i64 f3, .int .i64 f4, .slice fa fl.length fc] 26) (.cells #[.int .i64 gk, .int .i64 g1, .int .i64 g2, .int .i64 g3, .int .i64 g4, .slice ga gl.length gc] 26)
  have hx1 := boxes_first w3 (.cells #[.int .i64 fk, .int .i64 f1, .int .i64 f2, .int .i64 f3, .int .i64 f4, .slice fa fl.length fc] 26) (.cells #[.int .i64 gk, .int .i64 g1, .int .i64 g2, .int .i64 g3, .int .i64 g4, .slice ga gl.length gc] 26)
  have hx2 := boxes_second w3 (.cells #[.int .i64 fk, .int .i64 f1, .int .i64 f2, .int .i64 f3, .int .i64 f4, .slice fa fl.length fc] 26) (.cells #[.int .i64 gk, .int .i64 g1, .int .i64 g2, .int .i64 g3, .int .i64 g4, .slice ga gl.length gc] 26)
  have HBW : Hid (Below w.heap.size w _) := below_then HB3.out hB
  have HFW : Hid (FormAt _ 6 (Form.mk fk ⟨f1, f2, f3, f4⟩ fl) (.slice fa fl.length fc)) := HF3.out.below hB
  have HGW : Hid (FormAt _ 6 (Form.mk gk ⟨g1, g2, g3, g4⟩ gl) (.slice ga gl.length gc)) := HG3.out.below hB
  have H1 := Lib.hid hx1
  have H2 := Lib.hid hx2
  clear hB hx1 hx2 HF3 HG3 HB3
  obtain ⟨A, hA⟩ : ∃ A, A = w3.heap.size := ⟨_, rfl⟩
  rw [← hA] at H1 H2 ⊢
  clear hA
  generalize World.alloc _ _ = W at HBW HFW HGW H1 H2 ⊢
  have c0 := cell_of_block H1.out 0
  have c1 := cell_of_block H1.out 1
  have c2 := cell_of_block H1.out 2
  have c3 := cell_of_block H1.out 3
  have c4 := cell_of_block H1.out 4
  have c5 := cell_of_block H1.out 5
  have d0 := cell_of_block H2.out 0
  have d1 := cell_of_block H2.out 1
  have d2 := cell_of_block H2.out 2
  have d3 := cell_of_block H2.out 3
  have d4 := cell_of_block H2.out 4
  have d5 := cell_of_block H2.out 5
  simp only [List.getElem?_toArray, List.getElem?_cons_zero, List.getElem?_cons_succ] at c0 c1 c2 c3 c4 c5 d0 d1 d2 d3 d4 d5
  have cF : ∀ x : World, Below W.heap.size W x → x.cell? ⟨A, 0, none⟩ = some (.int .i64 fk) ∧ x.cell? ⟨A, 1, none⟩ = some (.int .i64 f1) ∧ x.cell? ⟨A, 2, none⟩ = some (.int .i64 f2) ∧ x.cell? ⟨A, 3, none⟩ = some (.int .i64 f3) ∧ x.cell? ⟨A, 4, none⟩ = some (.int .i64 f4) ∧ x.cell? ⟨A, 5, none⟩ = some (.slice fa fl.length fc) :=
    fun x hx => ⟨cells_kept hx _ _ c0, cells_kept hx _ _ c1, cells_kept hx _ _ c2, cells_kept hx _ _ c3, cells_kept hx _ _ c4, cells_kept hx _ _ c5⟩
  have cG : ∀ x : World, Below W.heap.size W x → x.cell? ⟨A + 1, 0, none⟩ = some (.int .i64 gk) ∧ x.cell? ⟨A + 1, 1, none⟩ = some (.int .i64 g1) ∧ x.cell? ⟨A + 1, 2, none⟩ = some (.int .i64 g2) ∧ x.cell? ⟨A + 1, 3, none⟩ = some (.int .i64 g3) ∧ x.cell? ⟨A + 1, 4, none⟩ = some (.int .i64 g4) ∧ x.cell? ⟨A + 1, 5, none⟩ = some (.slice ga gl.length gc) :=
    fun x hx => ⟨cells_kept hx _ _ d0, cells_kept hx _ _ d1, cells_kept hx _ _ d2, cells_kept hx _ _ d3, cells_kept hx _ _ d4, cells_kept hx _ _ d5⟩
  have CF := Lib.hid cF
  have CG := Lib.hid cG
  clear cF cG c0 c1 c2 c3 c4 c5 d0 d1 d2 d3 d4 d5
  refine wp_region_noPanic ?_
  refine wp_region_held_drew (S := fun w' => Below W.heap.size W w') (by kernel_rfl) (Below.refl _ _).drew (fun hH => ?_)
  refine wpAnyH_take (i := 0) (v := .agg #[.int .i64 fk, .int .i64 f1, .int .i64 f2, .int .i64 f3, .int .i64 f4, .slice fa fl.length fc]) rfl (by kernel_rfl) (by kernel_rfl) (by kernel_rfl) (fun _ _ _ h => h) (Or.inl ⟨by rfl, ?_⟩) (by assumption) ?_
  · intro x hx
    obtain ⟨e0, e1, e2, e3, e4, e5⟩ := CF.out x hx
    go_simp
  change wpAnyH _ _ _ _ _ _ _ (Act.put _ (some 27) _) _
  simp only [Act.put, List.setIfInBounds_toArray, List.set_cons_zero, List.set_cons_succ]
  refine wpAnyH_take (i := 2) (v := .agg #[.int .i64 gk, .int .i64 g1, .int .i64 g2, .int .i64 g3, .int .i64 g4, .slice ga gl.length gc]) rfl (by kernel_rfl) (by kernel_rfl) (by kernel_rfl) (fun _ _ _ h => h) (Or.inl ⟨by rfl, ?_⟩) (by assumption) ?_
  · intro x hx
    obtain ⟨e0, e1, e2, e3, e4, e5⟩ := CG.out x hx
    go_simp
  change wpAnyH _ _ _ _ _ _ _ (Act.put _ (some 29) _) _
  simp only [Act.put, List.setIfInBounds_toArray, List.set_cons_zero, List.set_cons_succ]
  generalize hA0 : Act.mk _ _ = a0
  refine chain_at (L0 := #[true, false, true, false, false, false, false, false]) (cs := [1, 3]) (bs := [4, 5]) (obj := fun _ => .cells #[.int .i64 0, .int .i64 0, .int .i64 0, .int .i64 0, .int .i64 0, .slice none 0 0] 26) 2 W.heap.size
    (J := fun m U ac x => Below W.heap.size W x ∧ (∀ b, U b → W.heap.size ≤ b ∧ b < x.heap.size) ∧ (match m with
      | 0 => ac = a0
      | 1 => ∃ na nn nc, ac = a0.put (some 28) (formV (no (Form.mk fk ⟨f1, f2, f3, f4⟩ fl)) (.slice na nn nc)) ∧ FormAtP (fun b => ¬ U b) x 7 (no (Form.mk fk ⟨f1, f2, f3, f4⟩ fl)) (.slice na nn nc)
      | _ => ∃ na nn nc ma mn mc, ac = (a0.put (some 28) (formV (no (Form.mk fk ⟨f1, f2, f3, f4⟩ fl)) (.slice na nn nc))).put (some 30) (formV (no (Form.mk gk ⟨g1, g2, g3, g4⟩ gl)) (.slice ma mn mc)) ∧ FormAtP (fun b => ¬ U b) x 7 (no (Form.mk fk ⟨f1, f2, f3, f4⟩ fl)) (.slice na nn nc) ∧ FormAtP (fun b => ¬ U b) x 7 (no (Form.mk gk ⟨g1, g2, g3, g4⟩ gl)) (.slice ma mn mc)))
    (by kernel_rfl) rfl (by kernel_rfl) (by kernel_rfl) (by kernel_rfl) (by kernel_rfl) (fun _ _ _ _ _ h => h) (fun m U ac x h => h.1) ?_ ?_ ?_ ?_ ?_ ?_
  · exact ⟨(Below.refl _ _).drew, fun _ h => h.elim, rfl⟩
  · exact Nat.le_refl _
  · rintro m U ac x o ⟨h1, h2, h3⟩
    have hb : Below x.heap.size x (x.alloc o) := (Below.refl _ _).alloc (Nat.le_refl _) _
    have hsz := h1.size
    refine ⟨below_then h1 hb, ?_, ?_⟩
    · rintro b (h | rfl)
      · have := h2 b h; rw [World.size_alloc]; omega
      · rw [World.size_alloc]; omega
    · match m, h3 with
      | 0, h => exact h
      | 1, ⟨na, nn, nc, e, h⟩ => exact ⟨na, nn, nc, e, h.beside o⟩
      | m + 2, ⟨na, nn, nc, ma, mn, mc, e, h, h'⟩ => exact ⟨na, nn, nc, ma, mn, mc, e, h.beside o, h'.beside o⟩
  · intro j hj K ac x hK
    have hj' : j = 0 ∨ j = 1 := by simp at hj; omega
    rcases hj' with rfl | rfl
    · refine wpOp_step rfl (fun K' hK' => ?_)
      go_simp
      exact hK' _ _ hK
    · refine wpOp_step rfl (fun K' hK' => ?_)
      go_simp
      exact hK' _ _ hK
  · rintro m hm U ac x ⟨h1, h2, h3⟩ hU
    have hm' : m = 0 ∨ m = 1 := by simp at hm; omega
    rcases hm' with rfl | rfl
    · obtain rfl : ac = a0 := h3
      subst hA0
      refine wpOp_step rfl (fun K' hK' => ?_)
      go_simp
      refine (mkOneP_any (fun b => ¬ U b) x 6 4 (Form.mk fk ⟨f1, f2, f3, f4⟩ fl) _ (HFW.out.apart h1 (fun b h => (h2 b h).1))).mono ?_
      rintro e x1 ⟨na, nn, nc, rfl, hn, hb⟩
      refine hK' _ _ ⟨⟨below_then h1 hb, fun b h => ⟨(h2 b h).1, Nat.lt_of_lt_of_le (h2 b h).2 hb.size⟩, na, nn, nc, rfl, hn.fresh hU⟩, hb⟩
    · obtain ⟨na, nn, nc, rfl, hn⟩ := h3
      subst hA0
      refine wpOp_step rfl (fun K' hK' => ?_)
      go_simp
      refine (mkOneP_any (fun b => ¬ U b) x 6 4 (Form.mk gk ⟨g1, g2, g3, g4⟩ gl) _ (HGW.out.apart h1 (fun b h => (h2 b h).1))).mono ?_
      rintro e x1 ⟨ma, mn, mc, rfl, hm, hb⟩
      refine hK' _ _ ⟨⟨below_then h1 hb, fun b h => ⟨(h2 b h).1, Nat.lt_of_lt_of_le (h2 b h).2 hb.size⟩, na, nn, nc, ma, mn, mc, rfl, hn.then hb, hm.fresh hU⟩, hb⟩
  · rintro B U ac x ⟨h1, h2, na, nn, nc, ma, mn, mc, rfl, hn, hm⟩ hB hBd
    subst hA0
    obtain ⟨C, hC, u0, hCW, z0⟩ : ∃ C, B 0 = C ∧ U C ∧ W.heap.size ≤ C ∧ x.heap[C]? = some (.cells #[.int .i64 0, .int .i64 0, .int .i64 0, .int .i64 0, .int .i64 0, .slice none 0 0] 26) := ⟨B 0, rfl, hB 0 (by simp)⟩
    obtain ⟨D, hD, u1, hDW, z1⟩ : ∃ D, B 1 = D ∧ U D ∧ W.heap.size ≤ D ∧ x.heap[D]? = some (.cells #[.int .i64 0, .int .i64 0, .int .i64 0, .int .i64 0, .int .i64 0, .slice none 0 0] 26) := ⟨B 1, rfl, hB 1 (by simp)⟩
    have hne : C ≠ D := fun e => by have := hBd 0 1 (by simp) (by simp) (hC.trans (e.trans hD.symm)); omega
    change wpAnyH _ _ _ _ _ 2 _ (Act.put (Act.put (Act.put (Act.put _ (some 28) _) (some 30) _) (some 12) (.pointer (some ⟨B 0, 0, none⟩))) (some 13) (.pointer (some ⟨B 1, 0, none⟩))) x
    rw [hC, hD]
    simp only [Act.put, List.setIfInBounds_toArray, List.set_cons_zero, List.set_cons_succ]
    have hCx := lt_of_block z0
    have hDx := lt_of_block z1
    obtain ⟨hs6, hi6⟩ := store6 z0 (.int .i64 4) (.int .i64 0) (.int .i64 0) (.int .i64 0) (.int .i64 0) (.slice na nn nc)
    obtain ⟨hs7, hi7⟩ := store6 ((hi6.block D hDx (by omega)).trans z1) (.int .i64 4) (.int .i64 0) (.int .i64 0) (.int .i64 0) (.int .i64 0) (.slice ma mn mc)
    have HZ1 := Lib.hid z1
    have HS6 := Lib.hid hs6
    have HI6 := Lib.hid hi6
    have HS7 := Lib.hid hs7
    have HI7 := Lib.hid hi7
    have q0 := cell_of_block z0 0
    have q1 := cell_of_block z0 1
    have q2 := cell_of_block z0 2
    have q3 := cell_of_block z0 3
    have q4 := cell_of_block z0 4
    have q5 := cell_of_block z0 5
    simp only [List.getElem?_toArray, List.getElem?_cons_zero, List.getElem?_cons_succ] at q0 q1 q2 q3 q4 q5
    have qf : ∀ j, x.frozen? ⟨C, j, none⟩ = false := fun j => free_of_block z0 j
    have HX := Lib.hid h1
    have HN := Lib.hid hn
    have HMM := Lib.hid hm
    have HU := Lib.hid (show U C ∧ U D from ⟨u0, u1⟩)
    clear hs6 hi6 hs7 hi7 h1 h2 hn hm u0 u1 z0 z1 hB hBd hC hD
    refine wpAnyH_ready (rs := [6]) (by kernel_rfl) (by simp) ?_
    refine AllReadyH.cons rfl (fun K hK => ?_) AllReadyH.nil
    unfold formV
    simp only [Form.kind, Form.prop]
    go_simp
    generalize World.setCell _ _ _ = x6 at HS6 HI6 HS7 HI7 ⊢
    have hB6 : Below W.heap.size W x6 := HX.out.trans (HI6.out.below HX.out.size (fun b hb => by omega))
    refine hK.out _ _ hB6 (fun _ => ?_)
    clear hK K q0 q1 q2 q3 q4 q5 qf hB6
    have hz7 := (HI6.out.block D hDx (fun e => hne e.symm)).trans HZ1.out
    have q0 := cell_of_block hz7 0
    have q1 := cell_of_block hz7 1
    have q2 := cell_of_block hz7 2
    have q3 := cell_of_block hz7 3
    have q4 := cell_of_block hz7 4
    have q5 := cell_of_block hz7 5
    simp only [List.getElem?_toArray, List.getElem?_cons_zero, List.getElem?_cons_succ] at q0 q1 q2 q3 q4 q5
    have qf : ∀ j, x6.frozen? ⟨D, j, none⟩ = false := fun j => free_of_block hz7 j
    clear hz7
    refine wpAnyH_ready (rs := [7]) (by kernel_rfl) (by simp) ?_
    refine AllReadyH.cons rfl (fun K hK => ?_) AllReadyH.nil
    go_simp
    generalize World.setCell _ _ _ = x7 at HS7 HI7 ⊢
    have hD6 : D < x6.heap.size := Nat.lt_of_lt_of_le hDx HI6.out.size
    have hB7 : Below W.heap.size W x7 := (HX.out.trans (HI6.out.below HX.out.size (fun b hb => by omega))).trans (HI7.out.below (Nat.le_trans HX.out.size HI6.out.size) (fun b hb => by omega))
    refine hK.out _ _ hB7 (fun _ => ?_)
    clear hK K q0 q1 q2 q3 q4 q5 qf
    have HB7 : Hid (Below W.heap.size W x7) := hB7
    have HN7 : Hid (FormAt x7 7 _ _) := ((HN.out.since HI6.out (fun k hk e => hk (e ▸ HU.out.1))).since HI7.out (fun k hk e => hk (e ▸ HU.out.2))).at_
    have HM7 : Hid (FormAt x7 7 _ _) := ((HMM.out.since HI6.out (fun k hk e => hk (e ▸ HU.out.1))).since HI7.out (fun k hk e => hk (e ▸ HU.out.2))).at_
    have HC7 : Hid (x7.heap[C]? = _) := (HI7.out.block C (Nat.lt_of_lt_of_le hCx HI6.out.size) (fun e => hne e)).trans HS6.out
    clear hB7 hD6 HN HMM HI6 HI7 HS6 HX HZ1 HU
    refine wpAnyH_done (by kernel_rfl) ?_ _
    refine NoPanic.normal ?_
    have HF7 : Hid (FormAt x7 6 (Form.mk fk ⟨f1, f2, f3, f4⟩ fl) (.slice fa fl.length fc)) := HFW.out.below HB7.out
    have HG7 : Hid (FormAt x7 6 (Form.mk gk ⟨g1, g2, g3, g4⟩ gl) (.slice ga gl.length gc)) := HGW.out.below HB7.out
    obtain ⟨cf0, cf1, cf2, cf3, cf4, cf5⟩ := CF.out x7 HB7.out
    obtain ⟨cg0, cg1, cg2, cg3, cg4, cg5⟩ := CG.out x7 HB7.out
    have cn0 := cell_of_block HC7.out 0
    have cn1 := cell_of_block HC7.out 1
    have cn2 := cell_of_block HC7.out 2
    have cn3 := cell_of_block HC7.out 3
    have cn4 := cell_of_block HC7.out 4
    have cn5 := cell_of_block HC7.out 5
    have cm0 := cell_of_block HS7.out 0
    have cm1 := cell_of_block HS7.out 1
    have cm2 := cell_of_block HS7.out 2
    have cm3 := cell_of_block HS7.out 3
    have cm4 := cell_of_block HS7.out 4
    have cm5 := cell_of_block HS7.out 5
    simp only [List.getElem?_toArray, List.getElem?_cons_zero, List.getElem?_cons_succ] at cn0 cn1 cn2 cn3 cn4 cn5 cm0 cm1 cm2 cm3 cm4 cm5
    have HBX : Hid (Below w.heap.size w x7) := below_then HBW.out HB7.out
    clear HC7 HS7 CF CG HFW HGW HB7 HBW H1 H2 hH
    go_wp2_with fail
    go_cut [14] (fun s14 w' => ∃ P, s14 = .slice (some ⟨P, 0, none⟩) 5 5 ∧ Hid (PairsAt w' P (turnedL (Form.mk fk ⟨f1, f2, f3, f4⟩ fl) (Form.mk gk ⟨g1, g2, g3, g4⟩ gl)) (turnedR (Form.mk fk ⟨f1, f2, f3, f4⟩ fl) (Form.mk gk ⟨g1, g2, g3, g4⟩ gl)) 5) ∧ Hid (Below x7.heap.size x7 w'))
    case first =>
      have hx : ∀ a v, x7.cell? a = some v → x7.drew.cell? a = some v := fun _ _ h => h
      have hB_0 : Below x7.heap.size x7 x7.drew := (Below.refl _ _).drew
      go_region_held3 (fun w' => w'.cell? ⟨A, 0, none⟩ = some (.int .i64 fk) ∧ w'.cell? ⟨A, 1, none⟩ = some (.int .i64 f1) ∧ w'.cell? ⟨A, 2, none⟩ = some (.int .i64 f2) ∧ w'.cell? ⟨A, 3, none⟩ = some (.int .i64 f3) ∧ w'.cell? ⟨A, 4, none⟩ = some (.int .i64 f4) ∧ w'.cell? ⟨A, 5, none⟩ = some (.slice fa fl.length fc) ∧ w'.cell? ⟨A + 1, 0, none⟩ = some (.int .i64 gk) ∧ w'.cell? ⟨A + 1, 1, none⟩ = some (.int .i64 g1) ∧ w'.cell? ⟨A + 1, 2, none⟩ = some (.int .i64 g2) ∧ w'.cell? ⟨A + 1, 3, none⟩ = some (.int .i64 g3) ∧ w'.cell? ⟨A + 1, 4, none⟩ = some (.int .i64 g4) ∧ w'.cell? ⟨A + 1, 5, none⟩ = some (.slice ga gl.length gc) ∧ w'.cell? ⟨C, 0, none⟩ = some (.int .i64 4) ∧ w'.cell? ⟨C, 1, none⟩ = some (.int .i64 0) ∧ w'.cell? ⟨C, 2, none⟩ = some (.int .i64 0) ∧ w'.cell? ⟨C, 3, none⟩ = some (.int .i64 0) ∧ w'.cell? ⟨C, 4, none⟩ = some (.int .i64 0) ∧ w'.cell? ⟨C, 5, none⟩ = some (.slice na nn nc) ∧ w'.cell? ⟨D, 0, none⟩ = some (.int .i64 4) ∧ w'.cell? ⟨D, 1, none⟩ = some (.int .i64 0) ∧ w'.cell? ⟨D, 2, none⟩ = some (.int .i64 0) ∧ w'.cell? ⟨D, 3, none⟩ = some (.int .i64 0) ∧ w'.cell? ⟨D, 4, none⟩ = some (.int .i64 0) ∧ w'.cell? ⟨D, 5, none⟩ = some (.slice ma mn mc)) (first | exact ⟨hx _ _ cf0, hx _ _ cf1, hx _ _ cf2, hx _ _ cf3, hx _ _ cf4, hx _ _ cf5, hx _ _ cg0, hx _ _ cg1, hx _ _ cg2, hx _ _ cg3, hx _ _ cg4, hx _ _ cg5, hx _ _ cn0, hx _ _ cn1, hx _ _ cn2, hx _ _ cn3, hx _ _ cn4, hx _ _ cn5, hx _ _ cm0, hx _ _ cm1, hx _ _ cm2, hx _ _ cm3, hx _ _ cm4, hx _ _ cm5⟩ | exact ⟨al _ _ (hx _ _ cf0), al _ _ (hx _ _ cf1), al _ _ (hx _ _ cf2), al _ _ (hx _ _ cf3), al _ _ (hx _ _ cf4), al _ _ (hx _ _ cf5), al _ _ (hx _ _ cg0), al _ _ (hx _ _ cg1), al _ _ (hx _ _ cg2), al _ _ (hx _ _ cg3), al _ _ (hx _ _ cg4), al _ _ (hx _ _ cg5), al _ _ (hx _ _ cn0), al _ _ (hx _ _ cn1), al _ _ (hx _ _ cn2), al _ _ (hx _ _ cn3), al _ _ (hx _ _ cn4), al _ _ (hx _ _ cn5), al _ _ (hx _ _ cm0), al _ _ (hx _ _ cm1), al _ _ (hx _ _ cm2), al _ _ (hx _ _ cm3), al _ _ (hx _ _ cm4), al _ _ (hx _ _ cm5)⟩ | go_keep) (first | (go_at_call 14; refine (mkTwoL_any y61 7 6 (no (Form.mk fk ⟨f1, f2, f3, f4⟩ fl)) (no (Form.mk gk ⟨g1, g2, g3, g4⟩ gl)) _ _ (HN7.out.below hB61) (HM7.out.below hB61)).mono ?_; rintro e y64 ⟨ra64, rn64, rc64, rfl, hf64, hb64⟩; have hB64 : Below x7.heap.size x7 y64 := below_then hB61 hb64; have hx : ∀ a v, x7.cell? a = some v → y64.cell? a = some v := cells_kept hB64; have al : ∀ {o : Obj} a v, y64.cell? a = some v → (y64.alloc o).cell? a = some v := cells_kept ((Below.refl _ _).alloc (Nat.le_refl _) _)) | (go_at_call 13; refine (mkOneL_any y60 7 4 (Form.mk 5 ⟨0, 0, 0, 0⟩ [(Form.mk fk ⟨f1, f2, f3, f4⟩ fl), (Form.mk gk ⟨g1, g2, g3, g4⟩ gl)]) _ hf60).mono ?_; rintro e y61 ⟨ra61, rn61, rc61, rfl, hf61, hb61⟩; have hB61 : Below x7.heap.size x7 y61 := below_then hB60 hb61; have hx : ∀ a v, x7.cell? a = some v → y61.cell? a = some v := cells_kept hB61; have al : ∀ {o : Obj} a v, y61.cell? a = some v → (y61.alloc o).cell? a = some v := cells_kept ((Below.refl _ _).alloc (Nat.le_refl _) _)) | (go_at_call 14; refine (mkTwoL_any y56 6 5 (Form.mk fk ⟨f1, f2, f3, f4⟩ fl) (Form.mk gk ⟨g1, g2, g3, g4⟩ gl) _ _ (HF7.out.below hB56) (HG7.out.below hB56)).mono ?_; rintro e y60 ⟨ra60, rn60, rc60, rfl, hf60, hb60⟩; have hB60 : Below x7.heap.size x7 y60 := below_then hB56 hb60; have hx : ∀ a v, x7.cell? a = some v → y60.cell? a = some v := cells_kept hB60; have al : ∀ {o : Obj} a v, y60.cell? a = some v → (y60.alloc o).cell? a = some v := cells_kept ((Below.refl _ _).alloc (Nat.le_refl _) _)) | (go_at_call 14; refine (mkTwoL_any y53 7 6 (no (Form.mk fk ⟨f1, f2, f3, f4⟩ fl)) (Form.mk gk ⟨g1, g2, g3, g4⟩ gl) _ _ (HN7.out.below hB53) ((HG7.out.below hB53).le (by omega))).mono ?_; rintro e y56 ⟨ra56, rn56, rc56, rfl, hf56, hb56⟩; have hB56 : Below x7.heap.size x7 y56 := below_then hB53 hb56; have hx : ∀ a v, x7.cell? a = some v → y56.cell? a = some v := cells_kept hB56; have al : ∀ {o : Obj} a v, y56.cell? a = some v → (y56.alloc o).cell? a = some v := cells_kept ((Below.refl _ _).alloc (Nat.le_refl _) _)) | (go_at_call 14; refine (mkTwoL_any y49 6 7 (Form.mk fk ⟨f1, f2, f3, f4⟩ fl) (Form.mk gk ⟨g1, g2, g3, g4⟩ gl) _ _ (HF7.out.below hB49) (HG7.out.below hB49)).mono ?_; rintro e y53 ⟨ra53, rn53, rc53, rfl, hf53, hb53⟩; have hB53 : Below x7.heap.size x7 y53 := below_then hB49 hb53; have hx : ∀ a v, x7.cell? a = some v → y53.cell? a = some v := cells_kept hB53; have al : ∀ {o : Obj} a v, y53.cell? a = some v → (y53.alloc o).cell? a = some v := cells_kept ((Below.refl _ _).alloc (Nat.le_refl _) _)) | (go_at_call 13; refine (mkOneL_any y47 7 8 (no (Form.mk fk ⟨f1, f2, f3, f4⟩ fl)) _ (HN7.out.below hB47)).mono ?_; rintro e y49 ⟨ra49, rn49, rc49, rfl, hf49, hb49⟩; have hB49 : Below x7.heap.size x7 y49 := below_then hB47 hb49; have hx : ∀ a v, x7.cell? a = some v → y49.cell? a = some v := cells_kept hB49; have al : ∀ {o : Obj} a v, y49.cell? a = some v → (y49.alloc o).cell? a = some v := cells_kept ((Below.refl _ _).alloc (Nat.le_refl _) _)) | (go_at_call 13; refine (mkOneL_any y46 7 4 (Form.mk 8 ⟨0, 0, 0, 0⟩ [(Form.mk fk ⟨f1, f2, f3, f4⟩ fl)]) _ hf46).mono ?_; rintro e y47 ⟨ra47, rn47, rc47, rfl, hf47, hb47⟩; have hB47 : Below x7.heap.size x7 y47 := below_then hB46 hb47; have hx : ∀ a v, x7.cell? a = some v → y47.cell? a = some v := cells_kept hB47; have al : ∀ {o : Obj} a v, y47.cell? a = some v → (y47.alloc o).cell? a = some v := cells_kept ((Below.refl _ _).alloc (Nat.le_refl _) _)) | (go_at_call 13; refine (mkOneL_any y43 6 8 (Form.mk fk ⟨f1, f2, f3, f4⟩ fl) _ (HF7.out.below hB43)).mono ?_; rintro e y46 ⟨ra46, rn46, rc46, rfl, hf46, hb46⟩; have hB46 : Below x7.heap.size x7 y46 := below_then hB43 hb46; have hx : ∀ a v, x7.cell? a = some v → y46.cell? a = some v := cells_kept hB46; have al : ∀ {o : Obj} a v, y46.cell? a = some v → (y46.alloc o).cell? a = some v := cells_kept ((Below.refl _ _).alloc (Nat.le_refl _) _)) | (go_at_call 13; refine (mkOneL_any y41 7 11 (no (Form.mk fk ⟨f1, f2, f3, f4⟩ fl)) _ (HN7.out.below hB41)).mono ?_; rintro e y43 ⟨ra43, rn43, rc43, rfl, hf43, hb43⟩; have hB43 : Below x7.heap.size x7 y43 := below_then hB41 hb43; have hx : ∀ a v, x7.cell? a = some v → y43.cell? a = some v := cells_kept hB43; have al : ∀ {o : Obj} a v, y43.cell? a = some v → (y43.alloc o).cell? a = some v := cells_kept ((Below.refl _ _).alloc (Nat.le_refl _) _)) | (go_at_call 13; refine (mkOneL_any y40 7 4 (Form.mk 12 ⟨0, 0, 0, 0⟩ [(Form.mk fk ⟨f1, f2, f3, f4⟩ fl)]) _ hf40).mono ?_; rintro e y41 ⟨ra41, rn41, rc41, rfl, hf41, hb41⟩; have hB41 : Below x7.heap.size x7 y41 := below_then hB40 hb41; have hx : ∀ a v, x7.cell? a = some v → y41.cell? a = some v := cells_kept hB41; have al : ∀ {o : Obj} a v, y41.cell? a = some v → (y41.alloc o).cell? a = some v := cells_kept ((Below.refl _ _).alloc (Nat.le_refl _) _)) | (go_at_call 13; refine (mkOneL_any y37 6 12 (Form.mk fk ⟨f1, f2, f3, f4⟩ fl) _ (HF7.out.below hB37)).mono ?_; rintro e y40 ⟨ra40, rn40, rc40, rfl, hf40, hb40⟩; have hB40 : Below x7.heap.size x7 y40 := below_then hB37 hb40; have hx : ∀ a v, x7.cell? a = some v → y40.cell? a = some v := cells_kept hB40; have al : ∀ {o : Obj} a v, y40.cell? a = some v → (y40.alloc o).cell? a = some v := cells_kept ((Below.refl _ _).alloc (Nat.le_refl _) _)) | (go_at_call 14; refine (mkTwoL_any y34 7 10 (no (Form.mk fk ⟨f1, f2, f3, f4⟩ fl)) (no (Form.mk gk ⟨g1, g2, g3, g4⟩ gl)) _ _ (HN7.out.below hB34) (HM7.out.below hB34)).mono ?_; rintro e y37 ⟨ra37, rn37, rc37, rfl, hf37, hb37⟩; have hB37 : Below x7.heap.size x7 y37 := below_then hB34 hb37; have hx : ∀ a v, x7.cell? a = some v → y37.cell? a = some v := cells_kept hB37; have al : ∀ {o : Obj} a v, y37.cell? a = some v → (y37.alloc o).cell? a = some v := cells_kept ((Below.refl _ _).alloc (Nat.le_refl _) _)) | (go_at_call 13; refine (mkOneL_any y33 7 4 (Form.mk 9 ⟨0, 0, 0, 0⟩ [(Form.mk fk ⟨f1, f2, f3, f4⟩ fl), (Form.mk gk ⟨g1, g2, g3, g4⟩ gl)]) _ hf33).mono ?_; rintro e y34 ⟨ra34, rn34, rc34, rfl, hf34, hb34⟩; have hB34 : Below x7.heap.size x7 y34 := below_then hB33 hb34; have hx : ∀ a v, x7.cell? a = some v → y34.cell? a = some v := cells_kept hB34; have al : ∀ {o : Obj} a v, y34.cell? a = some v → (y34.alloc o).cell? a = some v := cells_kept ((Below.refl _ _).alloc (Nat.le_refl _) _)) | (go_at_call 14; refine (mkTwoL_any _ 6 9 (Form.mk fk ⟨f1, f2, f3, f4⟩ fl) (Form.mk gk ⟨g1, g2, g3, g4⟩ gl) _ _ (HF7.out.below hB_0) (HG7.out.below hB_0)).mono ?_; rintro e y33 ⟨ra33, rn33, rc33, rfl, hf33, hb33⟩; have hB33 : Below x7.heap.size x7 y33 := below_then hB_0 hb33; have hx : ∀ a v, x7.cell? a = some v → y33.cell? a = some v := cells_kept hB33; have al : ∀ {o : Obj} a v, y33.cell? a = some v → (y33.alloc o).cell? a = some v := cells_kept ((Below.refl _ _).alloc (Nat.le_refl _) _)))
      go_wp2_with fail
      go_meet
      case rel => exact ⟨_, rfl, pairs_of (l := [(((Form.mk 4 ⟨0, 0, 0, 0⟩ [(Form.mk 9 ⟨0, 0, 0, 0⟩ [(Form.mk fk ⟨f1, f2, f3, f4⟩ fl), (Form.mk gk ⟨g1, g2, g3, g4⟩ gl)])]), .slice ra34 rn34 rc34), ((Form.mk 10 ⟨0, 0, 0, 0⟩ [(no (Form.mk fk ⟨f1, f2, f3, f4⟩ fl)), (no (Form.mk gk ⟨g1, g2, g3, g4⟩ gl))]), .slice ra37 rn37 rc37)), (((Form.mk 4 ⟨0, 0, 0, 0⟩ [(Form.mk 12 ⟨0, 0, 0, 0⟩ [(Form.mk fk ⟨f1, f2, f3, f4⟩ fl)])]), .slice ra41 rn41 rc41), ((Form.mk 11 ⟨0, 0, 0, 0⟩ [(no (Form.mk fk ⟨f1, f2, f3, f4⟩ fl))]), .slice ra43 rn43 rc43)), (((Form.mk 4 ⟨0, 0, 0, 0⟩ [(Form.mk 8 ⟨0, 0, 0, 0⟩ [(Form.mk fk ⟨f1, f2, f3, f4⟩ fl)])]), .slice ra47 rn47 rc47), ((Form.mk 8 ⟨0, 0, 0, 0⟩ [(no (Form.mk fk ⟨f1, f2, f3, f4⟩ fl))]), .slice ra49 rn49 rc49)), (((Form.mk 7 ⟨0, 0, 0, 0⟩ [(Form.mk fk ⟨f1, f2, f3, f4⟩ fl), (Form.mk gk ⟨g1, g2, g3, g4⟩ gl)]), .slice ra53 rn53 rc53), ((Form.mk 6 ⟨0, 0, 0, 0⟩ [(no (Form.mk fk ⟨f1, f2, f3, f4⟩ fl)), (Form.mk gk ⟨g1, g2, g3, g4⟩ gl)]), .slice ra56 rn56 rc56)), (((Form.mk 4 ⟨0, 0, 0, 0⟩ [(Form.mk 5 ⟨0, 0, 0, 0⟩ [(Form.mk fk ⟨f1, f2, f3, f4⟩ fl), (Form.mk gk ⟨g1, g2, g3, g4⟩ gl)])]), .slice ra61 rn61 rc61), ((Form.mk 6 ⟨0, 0, 0, 0⟩ [(no (Form.mk fk ⟨f1, f2, f3, f4⟩ fl)), (no (Form.mk gk ⟨g1, g2, g3, g4⟩ gl))]), .slice ra64 rn64 rc64))]) (heap_alloc_new y64 _) (by
          intro q hq
          simp only [List.mem_cons, List.not_mem_nil, or_false] at hq
          rcases hq with rfl | rfl | rfl | rfl | rfl
          · exact ⟨((((((((((((((hf34.below hb37).below hb40).below hb41).below hb43).below hb46).below hb47).below hb49).below hb53).below hb56).below hb60).below hb61).below hb64).below (Below.alloc (Below.refl _ _) (Nat.le_refl _) _)).le (by omega)), (((((((((((((hf37.below hb40).below hb41).below hb43).below hb46).below hb47).below hb49).below hb53).below hb56).below hb60).below hb61).below hb64).below (Below.alloc (Below.refl _ _) (Nat.le_refl _) _)).le (by omega))⟩
          · exact ⟨(((((((((((hf41.below hb43).below hb46).below hb47).below hb49).below hb53).below hb56).below hb60).below hb61).below hb64).below (Below.alloc (Below.refl _ _) (Nat.le_refl _) _)).le (by omega)), ((((((((((hf43.below hb46).below hb47).below hb49).below hb53).below hb56).below hb60).below hb61).below hb64).below (Below.alloc (Below.refl _ _) (Nat.le_refl _) _)).le (by omega))⟩
          · exact ⟨((((((((hf47.below hb49).below hb53).below hb56).below hb60).below hb61).below hb64).below (Below.alloc (Below.refl _ _) (Nat.le_refl _) _)).le (by omega)), (((((((hf49.below hb53).below hb56).below hb60).below hb61).below hb64).below (Below.alloc (Below.refl _ _) (Nat.le_refl _) _)).le (by omega))⟩
          · exact ⟨((((((hf53.below hb56).below hb60).below hb61).below hb64).below (Below.alloc (Below.refl _ _) (Nat.le_refl _) _)).le (by omega)), (((((hf56.below hb60).below hb61).below hb64).below (Below.alloc (Below.refl _ _) (Nat.le_refl _) _)).le (by omega))⟩
          · exact ⟨(((hf61.below hb64).below (Below.alloc (Below.refl _ _) (Nat.le_refl _) _)).le (by omega)), ((hf64.below (Below.alloc (Below.refl _ _) (Nat.le_refl _) _)).le (by omega))⟩
        ) (by
          intro i hi
          have h5 : i = 0 ∨ i = 1 ∨ i = 2 ∨ i = 3 ∨ i = 4 := by simp only [List.length_cons, List.length_nil] at hi; omega
          rcases h5 with rfl | rfl | rfl | rfl | rfl <;> exact ⟨rfl, rfl⟩), hB64.alloc hB64.size _⟩
    case rest =>
      obtain ⟨P, rfl, HP, HBC⟩ := hcut
      have HBY : Hid (Below w.heap.size w wc) := below_then HBX.out HBC.out
      have hlaw := fun i ls bk => turned_law (Form.mk fk ⟨f1, f2, f3, f4⟩ fl) (Form.mk gk ⟨g1, g2, g3, g4⟩ gl) HFO.out.1 HGO.out.1 HFO.out.2 HGO.out.2 i ls bk
      have hprops := fun i => turned_props (Form.mk fk ⟨f1, f2, f3, f4⟩ fl) (Form.mk gk ⟨g1, g2, g3, g4⟩ gl) i
      have hsz := fun i => (show (turnedL (Form.mk fk ⟨f1, f2, f3, f4⟩ fl) (Form.mk gk ⟨g1, g2, g3, g4⟩ gl) i).size ≤ 1000 ∧ (turnedR (Form.mk fk ⟨f1, f2, f3, f4⟩ fl) (Form.mk gk ⟨g1, g2, g3, g4⟩ gl) i).size ≤ 1000 from ⟨Nat.le_trans (turnedL_ok _ _ HFO.out.1 HGO.out.1 HFO.out.2 HGO.out.2 i).2 (by omega), Nat.le_trans (turnedR_ok _ _ HFO.out.1 HGO.out.1 HFO.out.2 HGO.out.2 i).2 (by omega)⟩)
      obtain ⟨X, hX⟩ : ∃ X, X = turnedL (Form.mk fk ⟨f1, f2, f3, f4⟩ fl) (Form.mk gk ⟨g1, g2, g3, g4⟩ gl) := ⟨_, rfl⟩
      obtain ⟨Y, hY⟩ : ∃ Y, Y = turnedR (Form.mk fk ⟨f1, f2, f3, f4⟩ fl) (Form.mk gk ⟨g1, g2, g3, g4⟩ gl) := ⟨_, rfl⟩
      simp only [← hX, ← hY] at HP hlaw hprops hsz
      have HLAW := Lib.hid hlaw
      have HPR := Lib.hid hprops
      have HSZ := Lib.hid hsz
      clear hlaw hprops hsz hX hY HFO HGO HF7 HG7 HN7 HM7 HBX HBC cf0 cf1 cf2 cf3 cf4 cf5 cg0 cg1 cg2 cg3 cg4 cg5 cn0 cn1 cn2 cn3 cn4 cn5 cm0 cm1 cm2 cm3 cm4 cm5
      obtain ⟨wd, rfl⟩ : ∃ wd : World, wd = wc := ⟨_, rfl⟩
      go_wp2_with fail
      go_loopg [15] 5 (fun gg s15 wr => ∃ i : Nat, i ≤ 5 ∧ Hid (gg = 5 - i) ∧ s15 = .int .i64 i ∧ Hid (PairsAt wr P X Y 5) ∧ Hid (Below w.heap.size w wr))
      case atStart => exact ⟨0, by omega, rfl, rfl, HP.out, HBY.out⟩
      case round =>
        obtain ⟨i, hi, HG, rfl, HPR2, HBR⟩ := hrel
        obtain ⟨wi, rfl⟩ : ∃ wi : World, wi = wr := ⟨_, rfl⟩
        clear HP HBY
        by_cases hlt : i < 5
        · have hlt0 : (0 : Int) ≤ (i : Int) := by omega
          have hlt5 : (i : Int) < 5 := by omega
          obtain ⟨xv, yv, fx, fy, cx, cy⟩ := HPR2.out.2 i hlt
          have hl := fun ls bk => HLAW.out i ls bk
          have hp := HPR.out i
          have hz := HSZ.out i
          obtain ⟨x, hx⟩ : ∃ x, x = X i := ⟨_, rfl⟩
          obtain ⟨y, hy⟩ : ∃ y, y = Y i := ⟨_, rfl⟩
          rw [← hx] at fx cx hp hz
          rw [← hy] at fy cy hp hz
          simp only [← hx, ← hy] at hl
          clear hx hy
          obtain ⟨xa, xc, rfl, hxl⟩ := fx.slice
          obtain ⟨ya, yc, rfl, hyl⟩ := fy.slice
          obtain ⟨m, hm⟩ : ∃ m, m = x.props.length := ⟨_, rfl⟩
          obtain ⟨ls, hls⟩ : ∃ ls, ls = (List.range (lettersN l2)).map (letterOf l2 m) := ⟨_, rfl⟩
          obtain ⟨bk, hbk⟩ : ∃ bk, bk = back % (lettersN l2 : Int) := ⟨_, rfl⟩
          obtain ⟨lx, hlx⟩ : ∃ lx, lx = tl x ls bk := ⟨_, rfl⟩
          obtain ⟨cr, hcr⟩ : ∃ cr, cr = tc x ls bk := ⟨_, rfl⟩
          have hmx := fun W (hW : Below wi.heap.size wi W) => ((HMW.out W (below_then HBR.out hW) 12 x _ (fx.below hW) hz.1).mono fun _ _ h => TellsWord.toL (ls := ls) (bk := bk) h (by rw [hls, hm]) hbk)
          have htx := fun W (la : Option Addr) (n lc : Nat) (hW : Below wi.heap.size wi W) (hlt : LettersAt W (.slice la n lc) ls) => (truthR_any W 12 x _ _ ls bk (fx.below hW) hlt).mono fun _ _ h => TellsRes.toL (l' := lx) (c' := cr) h (by rw [hlx]) (by rw [hcr])
          have hmy := fun W (hW : Below wi.heap.size wi W) => ((HMW.out W (below_then HBR.out hW) 12 y _ (fy.below hW) hz.2).mono fun _ _ h => TellsWord.toL (ls := ls) (bk := bk) h (by rw [hls, hm, hp]) hbk)
          have hty := fun W (la : Option Addr) (n lc : Nat) (hW : Below wi.heap.size wi W) (hlt : LettersAt W (.slice la n lc) ls) => (truthR_any W 12 y _ _ ls bk (fy.below hW) hlt).mono fun _ _ h => TellsRes.toL (l' := lx) (c' := cr) h (by rw [hlx, (hl ls bk).1]) (by rw [hcr, (hl ls bk).2])
          have HMX := Lib.hid hmx
          have HMY := Lib.hid hmy
          have HTX := Lib.hid htx
          have HTY := Lib.hid hty
          clear hmx hmy htx hty hl hp hz fx fy hm hls hbk hlx hcr
          obtain ⟨xk, ⟨x1, x2, x3, x4⟩, xl⟩ := x
          obtain ⟨yk, ⟨y1, y2, y3, y4⟩, yl⟩ := y
          have cx0 := cx 0 (by omega)
          have cx1 := cx 1 (by omega)
          have cx2 := cx 2 (by omega)
          have cx3 := cx 3 (by omega)
          have cx4 := cx 4 (by omega)
          have cx5 := cx 5 (by omega)
          have cy0 := cy 0 (by omega)
          have cy1 := cy 1 (by omega)
          have cy2 := cy 2 (by omega)
          have cy3 := cy 3 (by omega)
          have cy4 := cy 4 (by omega)
          have cy5 := cy 5 (by omega)
          unfold formV at HMX HMY HTX HTY
          simp only [Form.kids, formCells, Form.kind, Form.prop, Nat.add_zero, List.getElem?_cons_zero, List.getElem?_cons_succ] at hxl hyl cx0 cx1 cx2 cx3 cx4 cx5 cy0 cy1 cy2 cy3 cy4 cy5 HMX HMY HTX HTY
          have HY : Hid (∀ a v, wi.cell? a = some v → ∀ x : World, Below wi.heap.size wi x → x.cell? a = some v) := fun a v h x hb => cells_kept hb a v h
          clear cx cy hlt
          go_wp2_with fail
          go_cut [16, 17] (fun s1 s2 w' => ∃ sa n sc, s1 = .slice sa n sc ∧ s2 = .int .i64 cr ∧ Hid (BoolsAt w' s1 lx) ∧ Hid (Below wi.heap.size wi w'))
          case first =>
            have hx : ∀ a v, wi.cell? a = some v → wi.drew.cell? a = some v := fun _ _ h => h
            have hd : Below wi.heap.size wi wi.drew := Below.drew (Below.refl _ _)
            go_region_held3 (fun w' => w'.cell? ⟨P, i * 12, none⟩ = some (.int .i64 xk) ∧ w'.cell? ⟨P, i * 12 + 1, none⟩ = some (.int .i64 x1) ∧ w'.cell? ⟨P, i * 12 + 2, none⟩ = some (.int .i64 x2) ∧ w'.cell? ⟨P, i * 12 + 3, none⟩ = some (.int .i64 x3) ∧ w'.cell? ⟨P, i * 12 + 4, none⟩ = some (.int .i64 x4) ∧ w'.cell? ⟨P, i * 12 + 5, none⟩ = some (.slice xa xl.length xc)) (first | exact ⟨hx _ _ cx0, hx _ _ cx1, hx _ _ cx2, hx _ _ cx3, hx _ _ cx4, hx _ _ cx5⟩ | go_keep) (first | (go_at_call 15; refine (HTX.out r1 _ _ _ hd1 hls).mono ?_; rintro e r2 ⟨sa, sn, sc, rfl, hbs, hb2⟩; have hd2 : Below wi.heap.size wi r2 := below_then hd1 hb2; have hx : ∀ a v, wi.cell? a = some v → r2.cell? a = some v := fun a v h => cells_kept hb2 a v (hx a v h)) | (go_at_call 12; refine (HMX.out _ hd).mono ?_; rintro e r1 ⟨la, ln, lc, rfl, hls, hb1⟩; have hd1 : Below wi.heap.size wi r1 := below_then hd hb1; have hx : ∀ a v, wi.cell? a = some v → r1.cell? a = some v := fun a v h => cells_kept hb1 a v h))
            have HBS := Lib.hid hbs
            have HB12 := Lib.hid hd2
            clear hbs hb1 hb2 hls hx hd hd1 hd2
            go_wp2_with fail
            go_meet
            case rel => exact ⟨_, _, _, rfl, rfl, HBS.out, HB12.out⟩
          case rest =>
            obtain ⟨sa1, sn1, sc1, rfl, rfl, HS1, HBC1⟩ := hcut
            obtain ⟨wj, rfl⟩ : ∃ wj : World, wj = wc := ⟨_, rfl⟩
            replace cy0 := HY.out _ _ cy0 wj HBC1.out
            replace cy1 := HY.out _ _ cy1 wj HBC1.out
            replace cy2 := HY.out _ _ cy2 wj HBC1.out
            replace cy3 := HY.out _ _ cy3 wj HBC1.out
            replace cy4 := HY.out _ _ cy4 wj HBC1.out
            replace cy5 := HY.out _ _ cy5 wj HBC1.out
            clear HY cx0 cx1 cx2 cx3 cx4 cx5 HMX HTX
            go_wp2_with fail
            go_cut [18, 19] (fun s1 s2 w' => ∃ sa n sc, s1 = .slice sa n sc ∧ s2 = .int .i64 cr ∧ Hid (BoolsAt w' s1 lx) ∧ Hid (Below wi.heap.size wi w') ∧ Hid (BoolsAt w' (.slice sa1 sn1 sc1) lx))
            case first =>
              have hx : ∀ a v, wj.cell? a = some v → wj.drew.cell? a = some v := fun _ _ h => h
              have hd : Below wi.heap.size wi wj.drew := Below.drew HBC1.out
              go_region_held3 (fun w' => w'.cell? ⟨P, i * 12 + 6, none⟩ = some (.int .i64 yk) ∧ w'.cell? ⟨P, i * 12 + 6 + 1, none⟩ = some (.int .i64 y1) ∧ w'.cell? ⟨P, i * 12 + 6 + 2, none⟩ = some (.int .i64 y2) ∧ w'.cell? ⟨P, i * 12 + 6 + 3, none⟩ = some (.int .i64 y3) ∧ w'.cell? ⟨P, i * 12 + 6 + 4, none⟩ = some (.int .i64 y4) ∧ w'.cell? ⟨P, i * 12 + 6 + 5, none⟩ = some (.slice ya yl.length yc)) (first | exact ⟨hx _ _ cy0, hx _ _ cy1, hx _ _ cy2, hx _ _ cy3, hx _ _ cy4, hx _ _ cy5⟩ | go_keep) (first | (go_at_call 15; refine (HTY.out r1 _ _ _ hd1 hls).mono ?_; rintro e r2 ⟨sa, sn, sc, rfl, hbs, hb2⟩; have hd2 : Below wi.heap.size wi r2 := below_then hd1 hb2; have hx : ∀ a v, wj.cell? a = some v → r2.cell? a = some v := fun a v h => cells_kept hb2 a v (hx a v h)) | (go_at_call 12; refine (HMY.out _ hd).mono ?_; rintro e r1 ⟨la, ln, lc, rfl, hls, hb1⟩; have hd1 : Below wi.heap.size wi r1 := below_then hd hb1; have hx : ∀ a v, wj.cell? a = some v → r1.cell? a = some v := fun a v h => cells_kept hb1 a v h))
              have HBS := Lib.hid hbs
              have HS1x : Hid (BoolsAt r2 (.slice sa1 sn1 sc1) lx) := ((HS1.out.below (Below.drew (Below.refl _ _))).below hb1).below hb2
              have HB12 := Lib.hid hd2
              clear hbs hb1 hb2 hls hx hd hd1 hd2
              go_wp2_with fail
              go_meet
              case rel => exact ⟨_, _, _, rfl, rfl, HBS.out, HB12.out, HS1x.out⟩
            case rest =>
              obtain ⟨sa2, sn2, sc2, rfl, rfl, HS2, HBC2, HS1k⟩ := hcut
              obtain ⟨wk, rfl⟩ : ∃ wk : World, wk = wc := ⟨_, rfl⟩
              have hcc : (cr != cr) = false := by simp
              go_wp2_with fail
              refine (sameL_true HS1k.out HS2.out).mono ?_
              rintro e wl ⟨rfl, hbl⟩
              have HPL : Hid (PairsAt wl P X Y 5) := HPR2.out.below (below_then HBC2.out hbl)
              have HBL : Hid (Below w.heap.size w wl) := below_then HBR.out (below_then HBC2.out hbl)
              clear hbl HS1k HS2 HBC2 HBR HPR2
              go_wp2_with fail
              go_roundg (5 - (i + 1))
              case measure => have := HG.out; omega
              case rel => exact ⟨i + 1, by omega, rfl, by simp, HPL.out, HBL.out⟩
        · have hi5 : i = 5 := by omega
          subst hi5
          clear hlt hi
          go_wp2_with fail
          go_ret
          exact ⟨rfl, HBR.out⟩
end Go.Proofs.Ytidnpdkibndpkaa
