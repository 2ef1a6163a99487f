/- WordAny: whatever formula and word: where it is so is what the document says, or both refuse; no condition. -/
import Derived.Test.YtidnpdkibndpkaaOpenW
namespace Go.Proofs.Ytidnpdkibndpkaa
open Go.RowKit

set_option maxRecDepth 100000 in
set_option maxHeartbeats 2000000 in
theorem wordAny_walk (w : World) (d : Nat) (f : Form) (kv lv : Value) (ls : List (List Bool)) (bk : Int) (h : FormAt w d f kv) (hl : LettersAt w lv ls) :
    Calls Try.prog 3 #[formV f kv, .agg #[lv, .int .i64 bk]] w (fun e w' => e = .returned (.bool true) ∧ Below w.heap.size w w') := by
  obtain ⟨ka, kc, rfl, hkl⟩ := h.slice
  obtain ⟨la, lc, rfl, hll⟩ := hl.slice
  have hs := fun W (hW : Below w.heap.size w W) => sameW_any W d f _ _ ls bk (h.below hW) (hl.below hW)
  have hb := fun W (hW : Below w.heap.size w W) => big_any d W f _ 250 (h.below hW) (by omega) (by omega)
  have HS := Lib.hid hs
  have HBG := Lib.hid hb
  clear hs hb h hl
  obtain ⟨k, ⟨p1, p2, p3, p4⟩, kids⟩ := f
  simp only [Form.kids] at hkl HS HBG ⊢
  unfold formV at *
  simp only [Form.kind, Form.prop] at HS HBG ⊢
  have hB := boxes_below w (.cells #[.int .i64 k, .int .i64 p1, .int .i64 p2, .int .i64 p3, .int .i64 p4, .slice ka kids.length kc] 26) (.cells #[.slice la ls.length lc, .int .i64 bk] 29)
  have h1 := boxes_first w (.cells #[.int .i64 k, .int .i64 p1, .int .i64 p2, .int .i64 p3, .int .i64 p4, .slice ka kids.length kc] 26) (.cells #[.slice la ls.length lc, .int .i64 bk] 29)
  have h2 := boxes_second w (.cells #[.int .i64 k, .int .i64 p1, .int .i64 p2, .int .i64 p3, .int .i64 p4, .slice ka kids.length kc] 26) (.cells #[.slice la ls.length lc, .int .i64 bk] 29)
  have HB := Lib.hid hB
  have H1 := Lib.hid h1
  have H2 := Lib.hid h2
  clear hB h1 h2
  go_enter Try.func3, Try.ntmps3
  go_upto_region 1 with fail
  generalize hW : World.alloc _ _ = W at HB H1 H2 ⊢
  clear hW
  have c0 := cell_of_block H1.out 0
  have c1 := cell_of_block H1.out 1
  have c2 := cell_of_block H1.out 2
  have c3 := cell_of_block H1.out 3
  have c4 := cell_of_block H1.out 4
  have c5 := cell_of_block H1.out 5
  have d0 := cell_of_block H2.out 0
  have d1 := cell_of_block H2.out 1
  simp only [List.getElem?_toArray, List.getElem?_cons_zero, List.getElem?_cons_succ] at c0 c1 c2 c3 c4 c5 d0 d1
  clear H1 H2
  go_wp2_with fail
  refine (awake_any _).mono ?_
  rintro e w1 ⟨rfl, hb1⟩
  have hx : ∀ a v, W.cell? a = some v → w1.cell? a = some v := fun a v h => (hb1.cell (World.block_lt_of_cell? _ _ h)).trans h
  replace c0 := hx _ _ c0
  replace c1 := hx _ _ c1
  replace c2 := hx _ _ c2
  replace c3 := hx _ _ c3
  replace c4 := hx _ _ c4
  replace c5 := hx _ _ c5
  replace d0 := hx _ _ d0
  replace d1 := hx _ _ d1
  have HB1 : Hid (Below w.heap.size w w1) := below_then HB.out hb1
  clear hx hb1 HB
  go_wp2_with fail
  refine (HBG.out _ HB1.out).mono ?_
  rintro e w2 ⟨r, rfl, hr1, hr2, hb2⟩
  have hx : ∀ a v, w1.cell? a = some v → w2.cell? a = some v := fun a v h => (hb2.cell (World.block_lt_of_cell? _ _ h)).trans h
  replace c0 := hx _ _ c0
  replace c1 := hx _ _ c1
  replace c2 := hx _ _ c2
  replace c3 := hx _ _ c3
  replace c4 := hx _ _ c4
  replace c5 := hx _ _ c5
  replace d0 := hx _ _ d0
  replace d1 := hx _ _ d1
  have HB2 : Hid (Below w.heap.size w w2) := below_then HB1.out hb2
  clear hx hb2 HB1
  by_cases a1 : r < 0
  · go_wp2_with fail
    go_ret
    exact ⟨by first | rfl | simp, HB2.out⟩
  · by_cases a2 : (30 : Int) < (ls.length : Int)
    · go_wp2_with fail
      go_ret
      exact ⟨by first | rfl | simp, HB2.out⟩
    · go_wp2_with fail
      refine (HS.out _ HB2.out).mono ?_
      rintro e w3 ⟨rfl, hb3⟩
      have HB3 : Hid (Below w.heap.size w w3) := below_then HB2.out hb3
      clear hb3 c0 c1 c2 c3 c4 c5 d0 d1
      go_wp2_with fail
      go_ret
      exact ⟨by first | rfl | simp, HB3.out⟩
end Go.Proofs.Ytidnpdkibndpkaa
namespace Go.Proofs.Ytidnpdkibndpkaa.wordAny
open Go.ChangeShapes Go.WideShapes Go.ChangeAt Go.RowKit
open Go.ChangeMaps (open_string shut_string)

theorem own : ownKnob Try.prog.godebug = none := by kernel_rfl
theorem laidOut : laidOutB Try.prog = true := by kernel_rfl

set_option maxRecDepth 100000 in
theorem lifted (os : Os) (started : os.Started) (H : Type) (enc : TypeId × Value → H) :
    ReturnsInHanded {} Try.checked os 3 .any (Rows.wordAnySpec.pre6 enc Try.prog Try.f3 Rows.wordAnyRow.domain false) (Rows.wordAnySpec.post enc Try.prog Try.f3 false true false false) := by
  refine returnsInHanded_of_change (C := Try.checked) own started (by kernel_rfl) Try.func3
    (ChangeSpec.witness6 (enc := enc) (C := Try.checked) false ⟨#[], #[.agg #[.int .i64 0, .int .i64 0, .int .i64 0, .int .i64 0, .int .i64 0, .slice none 0 0], .agg #[.slice none 0 0, .int .i64 0]], []⟩ 8 (by kernel_rfl) (by kernel_rfl) (by kernel_rfl) (by kernel_rfl)) ?_
  intro W base args ds gs before hval0 hW hcnd _
  have hval : ∀ (j : Nat) t v, Try.f3.params[j]? = some t → args[j]? = some v → Value.okWide Try.prog W .any base t v := hval0
  have hW' := hW
  obtain ⟨p, q, hA0, hV, rfl, hfz, hnd⟩ := hW
  have hA : DataW.TrodAll enc Try.prog W 0 (fun _ => true) true Try.f3.params.toList args.toList ds p := hA0
  rw [Try.params3] at hA hval
  obtain ⟨v0, vs0, d0, ds0, p0, q0, hargs, rfl, rfl, h0, r0⟩ := trodAll_cons hA
  obtain ⟨v1, vs1, d1, ds1, p1, q1, rfl, rfl, rfl, h1, r1⟩ := trodAll_cons r0
  obtain ⟨rfl, rfl, rfl⟩ := trodAll_nil r1
  obtain rfl : args = #[v0, v1] := by cases args; simp_all
  obtain ⟨rfl, rfl⟩ := trodVars_none hV
  obtain ⟨n0, f0, kv0, rfl, w0⟩ := open_form (hval 0 26 v0 rfl rfl) h0
  obtain ⟨lv1, ls1, bk1, rfl, w1⟩ := open_word (hval 1 29 v1 rfl rfl) h1
  have k0 := h0
  have lt0 : ∀ x ∈ p0, x.block < W.heap.size := by obtain ⟨m, hm⟩ := k0; exact DataW.trod_lt m _ _ _ hm
  have k1 := h1
  have lt1 : ∀ x ∈ p1, x.block < W.heap.size := by obtain ⟨m, hm⟩ := k1; exact DataW.trod_lt m _ _ _ hm
  clear hA0 hval0
  refine (wordAny_walk W n0 f0 kv0 lv1 ls1 bk1 w0 w1).mono fun e W' ⟨he, bel⟩ => ?_
  subst he
  exact ⟨_, rfl, _, _, _, [], _, [], hW', trodAll_mk1 (shut_bool Try.underlying4 _), (trodAll_cons_mk (Below.trod laidOut (by kernel_rfl) (of_decide_eq_true (by kernel_rfl)) k0 bel lt0) (trodAll_cons_mk (Below.trod laidOut (by kernel_rfl) (of_decide_eq_true (by kernel_rfl)) k1 bel lt1) trodAll_mk0)), rfl, bel.frame _, fun h => by cases h⟩

theorem over : Rows.wordAnyRow.holds Try.pinned (OpenSpec.ofChange Rows.wordAnySpec) :=
  OpenClaim.holds_of_wide 3 Try.f3 rfl rfl rfl rfl rfl rfl rfl ⟨rfl, rfl, rfl, rfl, rfl⟩ rfl rfl rfl rfl rfl (by kernel_rfl) Try.func3 (by kernel_rfl)
    (of_decide_eq_true (by kernel_rfl)) (by unfold Func.isWrapper; first | (rw [if_pos (by decide +kernel)]; kernel_rfl) | (rw [if_neg (by decide +kernel)]; exact ⟨rfl, rfl⟩))
    (fun os started H enc _ => lifted os started H enc)
end Go.Proofs.Ytidnpdkibndpkaa.wordAny
namespace Go.Proofs.Ytidnpdkibndpkaa
/-- The statement. -/
theorem wordAny_holds : Rows.WordAnySaid := wordAny.over
#print axioms wordAny_holds
end Go.Proofs.Ytidnpdkibndpkaa
