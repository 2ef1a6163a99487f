/- What moves do in states that are come to: the walk. -/
import Derived.Test.YtliajkheeniljaaGreatDoorQPMoves
import Derived.Test.YtliajkheeniljaaGreatDoorQSameL
import Derived.Test.YtliajkheeniljaaGreatDoorQShort
set_option linter.all false
namespace Go.Proofs.YtliajkheeniljaaGreatDoor
open Go.RowKit
set_option maxRecDepth 100000
set_option maxHeartbeats 16000000
theorem machS_ok {c : CodeD} (h : codeOk c = true) (q : Int) (_h0 : 0 ≤ q) : mayOk c (machS q) = true := by
 unfold mayOk machS
 simp only [Bool.and_eq_true, decide_eq_true_eq]
 have h1 := Int.emod_nonneg q (show (3 : Int) ≠ 0 by omega)
 have h2 := Int.emod_lt_of_pos q (show (0 : Int) < 3 by omega)
 have h3 := Int.emod_nonneg (q / 3) (show (3 : Int) ≠ 0 by omega)
 have h4 := Int.emod_lt_of_pos (q / 3) (show (0 : Int) < 3 by omega)
 exact ⟨⟨⟨⟨h, by omega⟩, by omega⟩, by omega⟩, by omega⟩
theorem stepWalk_any (w : World) (sv : Value) (l0 : List Int) (hn : NumsAt w .u8 sv l0) (q : Int) (qw : (Lit.int .u8 q).wf = true) (wv : Value) (lw : List Int) (hw : NumsAt w .u8 wv lw) (k1 : Int) (kw1 : (Lit.int .u8 k1).wf = true) (k2 : Int) (kw2 : (Lit.int .u8 k2).wf = true) (k3 : Int) (kw3 : (Lit.int .u8 k3).wf = true) :
  Calls Tryz.prog 4 #[sv, .int .u8 q, wv, .int .u8 k1, .int .u8 k2, .int .u8 k3] w fun e w' => e = .returned (.bool true) ∧ Below w.heap.size w w' := by
 obtain ⟨q0, q1⟩ := u8_in qw
 have HN := qh hn
 have HW := qh hw
 obtain ⟨sa, sc, rfl, -⟩ : ∃ a c, sv = .slice a l0.length c ∧ True := by obtain ⟨a, c, h, -⟩ := hn; exact ⟨a, c, h, trivial⟩
 obtain ⟨wa, wc, rfl, -⟩ : ∃ a c, wv = .slice a lw.length c ∧ True := by obtain ⟨a, c, h, -⟩ := hw; exact ⟨a, c, h, trivial⟩
 generalize l0.length = ln at HN ⊢
 generalize lw.length = wn at HW ⊢
 clear hn hw qw kw1 kw2 kw3
 go_enter Tryz.func4, Tryz.ntmps4
 have HB0 : Hid (Below w.heap.size w w) := Below.refl _ _
 have HLQ : Hid (0 ≤ q ∧ q ≤ 255) := ⟨q0, q1⟩
 go_upto_region 2 with (first | (go_at_call 22; go_must (refine (machine_any W2 q HLQ.out.1 HLQ.out.2).mono ?_); rintro en W3 ⟨rfl, hb⟩; (have HB3 := qh (qbt HB2.out hb)); (have HC3 := qh (SliceR.below (RowR.stays 3) HC2.out hb)); clear hb; unfold machV) | (go_at_call 20; go_must (refine (HM4.out).mono ?_); rintro en W2 ⟨⟨c, ta, tc, css, rfl, hok, hrow⟩, hb⟩; (have HOK := qh hok); (have HC2 := qh hrow.slice); (have HB2 := qh (qbt HB1.out hb)); clear hrow hok hb HM4; unfold codeV) | (go_at_call 21; go_must (refine (kinds_any w).mono ?_); rintro en W1 ⟨⟨kv, rfl, hks⟩, hb⟩; (have HB1 := qh (qbt HB0.out hb)); (have HM4 := qh (made4_any W1 _ l0 (HN.out.below (qbt HB0.out hb)) kv kindsL hks (by decide) (by decide) kinds_ok)); clear hks hb))
 have hmay := machS_ok HOK.out q q0
 have hlenC := codeOk_bounds HOK.out
 obtain ⟨m, hm⟩ : ∃ m, m = machS q := ⟨_, rfl⟩
 have hmV : m.model = q % 3 ∧ m.bound = 1 + q / 3 % 3 := by rw [hm]; exact ⟨rfl, rfl⟩
 rw [← hm] at hmay
 obtain ⟨C, hC⟩ : ∃ C, C = c := ⟨_, rfl⟩
 obtain ⟨M, hM⟩ : ∃ M, M = m := ⟨_, rfl⟩
 rw [← hM] at hmay
 rw [← hC] at hmay hlenC HC3
 obtain ⟨vars, hvars⟩ : ∃ v, v = C.vars := ⟨_, rfl⟩
 obtain ⟨dom, hdom⟩ : ∃ v, v = C.domain := ⟨_, rfl⟩
 obtain ⟨mo, hmo⟩ : ∃ v, v = M.model := ⟨_, rfl⟩
 obtain ⟨bo, hbo⟩ : ∃ v, v = M.bound := ⟨_, rfl⟩
 obtain ⟨cn, hcn⟩ : ∃ n, n = C.threads.length := ⟨_, rfl⟩
 have HCV : Hid (C.vars = vars ∧ C.domain = dom ∧ M.model = mo ∧ M.bound = bo) := ⟨hvars.symm, hdom.symm, hmo.symm, hbo.symm⟩
 simp only [← hC, ← hm, ← hM, ← hvars, ← hdom, ← hmo, ← hbo, ← hcn, show (machS q).model = mo by rw [hmo, hM, hm], show (machS q).bound = bo by rw [hbo, hM, hm]]
 have hc3 := HC3.out
 rw [← hcn] at hc3 hlenC
 have hB := ((Below.refl W3.heap.size W3).alloc (Nat.le_refl _) (.cells #[.int .i64 vars, .int .i64 dom, .slice ta cn tc] 24)).alloc (by simp) (.cells #[.int .i64 mo, .int .i64 bo] 26)
 have H1 := qh (boxes_first W3 (.cells #[.int .i64 vars, .int .i64 dom, .slice ta cn tc] 24) (.cells #[.int .i64 mo, .int .i64 bo] 26))
 have H2 := qh (boxes_second W3 (.cells #[.int .i64 vars, .int .i64 dom, .slice ta cn tc] 24) (.cells #[.int .i64 mo, .int .i64 bo] 26))
 have HC := qh (SliceR.below (RowR.stays 3) hc3 hB)
 have HB := qh (qbt HB3.out hB)
 have HMAY := qh hmay
 have HCN := qh hcn
 have HLC := qh hlenC
 clear hB hmay hcn hlenC hC hM hm hmV hc3 HC3 HC2 HB3 HB2 HB1 HB0 HOK HN HLQ hvars hdom hmo hbo
 generalize World.alloc (World.alloc W3 _) _ = V at HB H1 H2 HC ⊢
 generalize W3.heap.size = gx at H1 H2 ⊢
 have HW2 := qh (HW.out.below HB.out)
 clear HW
 have HCC : Hid (∀ y, Below V.heap.size V y → y.cell? ⟨gx, 0, none⟩ = some (.int .i64 vars) ∧ y.cell? ⟨gx, 1, none⟩ = some (.int .i64 dom) ∧ y.cell? ⟨gx, 2, none⟩ = some (.slice ta cn tc) ∧ y.cell? ⟨gx + 1, 0, none⟩ = some (.int .i64 mo) ∧ y.cell? ⟨gx + 1, 1, none⟩ = some (.int .i64 bo)) := fun y hy => ⟨qck hy _ _ (qcb H1.out 0), qck hy _ _ (qcb H1.out 1), qck hy _ _ (qcb H1.out 2), qck hy _ _ (qcb H2.out 0), qck hy _ _ (qcb H2.out 1)⟩
 have hsame := fun y hy s tv mv hs hb k t v => same_any y C (.slice ta cn tc) 3 hy M s tv mv hs hb ⟨k, t, v⟩
 unfold codeV machV stateV moveV at hsame
 simp only [HCV.out.1, HCV.out.2.1, HCV.out.2.2.1, HCV.out.2.2.2] at hsame
 have HSAME := qh hsame
 clear hsame
 refine wp_region_noPanic ?_
 refine wp_region_held_drew (S := fun x => Below V.heap.size V x) (by kernel_rfl) ((Below.refl _ _).drew) (fun hH => ?_)
 refine qrH 0 rfl (fun K hK => ?_)
 go_simp
 refine (awake7_any V.drew).mono ?_
 rintro e hw0 ⟨rfl, hb⟩
 have hHh0 : Below V.heap.size V hw0 := qbt hH hb
 refine hK.out _ _ hHh0 (fun _ => ?_)
 clear hK K hb hH
 refine qta 1 21 ?vh1 rfl ?hyh1 ?_
 case hyh1 => (intro x h; have e := HCC.out x h; go_simp <;> rfl)
 simp only [Act.put, qz1, qz2, qz3]
 refine qta 2 22 ?vh2 rfl ?hyh2 ?_
 case hyh2 => (intro x h; have e := HCC.out x h; go_simp <;> rfl)
 simp only [Act.put, qz1, qz2, qz3]
 refine qta 3 23 ?vh3 rfl ?hyh3 ?_
 case hyh3 => (intro x h; have e := HCC.out x h; go_simp <;> rfl)
 simp only [Act.put, qz1, qz2, qz3]
 refine qta 4 24 ?vh4 rfl ?hyh4 ?_
 case hyh4 => (intro x h; have e := HCC.out x h; go_simp <;> rfl)
 simp only [Act.put, qz1, qz2, qz3]
 refine qta 5 25 ?vh5 rfl ?hyh5 ?_
 case hyh5 => (intro x h; have e := HCC.out x h; go_simp <;> rfl)
 simp only [Act.put, qz1, qz2, qz3]
 refine qta 6 26 ?vh6 rfl ?hyh6 ?_
 case hyh6 => (intro x h; have e := HCC.out x h; go_simp <;> rfl)
 simp only [Act.put, qz1, qz2, qz3]
 refine qta 8 28 ?vh7 rfl ?hyh7 ?_
 case hyh7 => (intro x h; have e := HCC.out x h; go_simp <;> rfl)
 simp only [Act.put, qz1, qz2, qz3]
 refine qta 9 29 ?vh8 rfl ?hyh8 ?_
 case hyh8 => (intro x h; have e := HCC.out x h; go_simp <;> rfl)
 simp only [Act.put, qz1, qz2, qz3]
 refine qta 10 30 ?vh9 rfl ?hyh9 ?_
 case hyh9 => (intro x h; have e := HCC.out x h; go_simp <;> rfl)
 simp only [Act.put, qz1, qz2, qz3]
 refine qta 11 31 ?vh10 rfl ?hyh10 ?_
 case hyh10 => (intro x h; have e := HCC.out x h; go_simp <;> rfl)
 simp only [Act.put, qz1, qz2, qz3]
 refine qta 12 32 ?vh11 rfl ?hyh11 ?_
 case hyh11 => (intro x h; have e := HCC.out x h; go_simp <;> rfl)
 simp only [Act.put, qz1, qz2, qz3]
 refine qta 13 33 ?vh12 rfl ?hyh12 ?_
 case hyh12 => (intro x h; have e := HCC.out x h; go_simp <;> rfl)
 simp only [Act.put, qz1, qz2, qz3]
 refine qta 14 34 ?vh13 rfl ?hyh13 ?_
 case hyh13 => (intro x h; have e := HCC.out x h; go_simp <;> rfl)
 simp only [Act.put, qz1, qz2, qz3]
 refine qta 15 35 ?vh14 rfl ?hyh14 ?_
 case hyh14 => (intro x h; have e := HCC.out x h; go_simp <;> rfl)
 simp only [Act.put, qz1, qz2, qz3]
 refine qta 16 36 ?vh15 rfl ?hyh15 ?_
 case hyh15 => (intro x h; have e := HCC.out x h; go_simp <;> rfl)
 simp only [Act.put, qz1, qz2, qz3]
 refine qta 17 37 ?vh16 rfl ?hyh16 ?_
 case hyh16 => (intro x h; have e := HCC.out x h; go_simp <;> rfl)
 simp only [Act.put, qz1, qz2, qz3]
 refine qta 18 38 ?vh17 rfl ?hyh17 ?_
 case hyh17 => (intro x h; have e := HCC.out x h; go_simp <;> rfl)
 simp only [Act.put, qz1, qz2, qz3]
 refine qrH 7 rfl (fun K hK => ?_)
 go_simp
 have hwk := walk_any hw0 C (.slice ta cn tc) 3 (SliceR.below (RowR.stays 3) HC.out hHh0) M (.slice wa wn wc) lw (HW2.out.below hHh0)
 unfold codeV machV at hwk
 rw [HCV.out.1, HCV.out.2.1, HCV.out.2.2.1, HCV.out.2.2.2] at hwk
 refine hwk.mono ?_
 clear hwk
 rintro e hw7 ⟨⟨s, tv, yv, rfl, hcome, haw⟩, hb⟩
 have HCOME := qh hcome
 have HST := qh haw.now
 clear haw hcome
 have hHh7 : Below V.heap.size V hw7 := qbt hHh0 hb
 refine hK.out _ _ hHh7 (fun _ => ?_)
 clear hK K hb hHh0
 refine qrH 19 rfl (fun K hK => ?_)
 go_simp
 refine (HSAME.out hw7 (SliceR.below (RowR.stays 3) HC.out hHh7) s _ _ (HST.out) (fun j hj => by have := HCOME.out.bufs j hj; omega) _ _ _).mono ?_
 rintro e hw19 ⟨rfl, hb⟩
 have hHh19 : Below V.heap.size V hw19 := qbt hHh7 hb
 refine hK.out _ _ hHh19 (fun _ => ?_)
 clear hK K hb hHh7
 refine qta 20 40 ?vh18 rfl ?hyh18 ?_
 case hyh18 => (intro x h; have e := HCC.out x h; go_simp <;> rfl)
 simp only [Act.put, qz1, qz2, qz3]
 refine qta 21 12 ?vh19 rfl ?hyh19 ?_
 case hyh19 => (intro x h; have e := HCC.out x h; go_simp <;> rfl)
 simp only [Act.put, qz1, qz2, qz3]
 refine wpAnyH_done (by kernel_rfl) ?_ _
 refine NoPanic.normal ?_
 have HEND := qh (HB.out.trans (Below.mono hHh19 HB.out.size))
 go_wp2_with fail
 go_ret
 exact ⟨rfl, HEND.out⟩
end Go.Proofs.YtliajkheeniljaaGreatDoor
