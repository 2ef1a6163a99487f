/- What a move leads to fits; what it leaves: the walk. -/
import Derived.Test.YtliajkheeniljaaGreatDoorZfWalk7
import Derived.Test.YtliajkheeniljaaGreatDoorZfShort
set_option linter.all false
namespace Go.Proofs.YtliajkheeniljaaGreatDoor
open Go.RowKit
set_option maxRecDepth 100000
set_option maxHeartbeats 16000000
structure FitL (V X : World) (gs : Nat) (c : CodeD) (m : MachD) (s : StateD) (ta : Option Addr) (tn tc : Nat) (ma : Option Addr) (mn mc : Nat) : Prop where
 since : Since (fun k => k = gs) V X
 box : X.heap[gs]? = some (.cells #[.slice ta tn tc, .slice ma mn mc, .bool s.bad] 30 (0, 0))
 st : StateAt X s (.slice ta tn tc) (.slice ma mn mc)
 come : Come c m 3 s
 lt : gs < V.heap.size
theorem FitL.later {V X Y : World} {gs : Nat} {c : CodeD} {m : MachD} {s : StateD} {ta ma : Option Addr} {tn tc mn mc : Nat} (h : FitL V X gs c m s ta tn tc ma mn mc) (hb : Below X.heap.size X Y) : FitL V Y gs c m s ta tn tc ma mn mc :=
 ⟨h.since.trans (since_of (fun _ => False) hb) (fun _ h => h.elim), (hb.block _ (qlb h.box)).trans h.box, h.st.below hb, h.come, h.lt⟩
theorem FitL.put {V X Y : World} {gs : Nat} {c : CodeD} {m : MachD} {s t : StateD} {x : MoveD} {ta ma ta' ma' : Option Addr} {tn tc mn mc tn' tc' mn' mc' : Nat} (h : FitL V X gs c m s ta tn tc ma mn mc) (hx : x ∈ movesS c m s 3) (ht : t = (doS c m s x 3).1) (hb : Below X.heap.size X Y) (hst : StateAt Y t (.slice ta' tn' tc') (.slice ma' mn' mc')) :
  FitL V (setAll Y gs 0 [.slice ta' tn' tc', .slice ma' mn' mc', .bool t.bad]) gs c m t ta' tn' tc' ma' mn' mc' := by
 have h2 := h.later hb
 have hs := setAll_since (g := gs) [.slice ta' tn' tc', .slice ma' mn' mc', .bool t.bad] Y 0
 refine ⟨h2.since.trans hs (fun _ h => .inl h), setAll_new (cs := [.slice ta tn tc, .slice ma mn mc, .bool s.bad]) _ rfl h2.box, state_off hst h2.box hs, ?_, h.lt⟩
 rw [ht]
 exact .step h.come hx
theorem nums_part {w : World} {k : IntKind} {a : Option Addr} {n cap : Nat} {l : List Int} (h : NumsAt w k (.slice a n cap) l) (j : Nat) (hj : j < l.length) : ∃ b off, a = some ⟨b, off, none⟩ ∧ b < w.heap.size ∧ w.cell? ⟨b, off + j, none⟩ = some (.int k (l.getD j 0)) := by
 obtain ⟨a', cap', e, -, -, h4⟩ := h
 cases e
 exact h4 j hj
theorem nums_in {w : World} {sv : Value} {l : List Int} (h : NumsAt w .u8 sv l) (j : Nat) (hj : j < l.length) : 0 ≤ l.getD j 0 ∧ l.getD j 0 ≤ 255 := by
 obtain ⟨_, _, -, -, h3, -⟩ := h
 exact u8_in (h3 _ (getD_mem hj))
theorem stepFits_any (w : World) (sv : Value) (l0 : List Int) (hn : NumsAt w .u8 sv l0) (q : Int) (qw : (Lit.int .u8 q).wf = true) (wv : Value) (lw : List Int) (hw : NumsAt w .u8 wv lw) :
  Calls Tryz.prog 6 #[sv, .int .u8 q, wv] w fun e w' => e = .returned (.bool true) ∧ Below w.heap.size w w' := by
 obtain ⟨q0, q1⟩ := u8_in qw
 have HN := qh hn
 have HW := qh hw
 obtain ⟨sa, sc, rfl, -⟩ : ∃ a c, sv = .slice a l0.length c ∧ True := by obtain ⟨a, c, h, -⟩ := hn; exact ⟨a, c, h, trivial⟩
 obtain ⟨wa, wc, rfl, -⟩ : ∃ a c, wv = .slice a lw.length c ∧ True := by obtain ⟨a, c, h, -⟩ := hw; exact ⟨a, c, h, trivial⟩
 generalize l0.length = ln0 at HN ⊢
 obtain ⟨ln, hln⟩ : ∃ n, n = lw.length := ⟨_, rfl⟩
 rw [← hln] at HW ⊢
 have HLN := qh hln
 clear hn hw qw hln
 go_enter Tryz.func6, Tryz.ntmps6
 go_upto_region 4 with (go_at_call 15; go_must (refine (awake7_any w).mono ?_); rintro en W0 ⟨rfl, hb⟩; (have HBA := qh hb); clear hb)
 have HB0 : Hid (Below w.heap.size w W0) := HBA.out
 have HLQ : Hid (0 ≤ q ∧ q ≤ 255) := ⟨q0, q1⟩
 go_upto_region 5 with (first | (go_at_call 22; go_must (refine (machine_any W2 q HLQ.out.1 HLQ.out.2).mono ?_); rintro en W3 ⟨rfl, hb⟩; (have HB3 := qh (qbt HB2.out hb)); (have HC3 := qh (SliceR.below (RowR.stays 3) HC2.out hb)); clear hb; unfold machV) | (go_at_call 20; go_must (refine (HM4.out).mono ?_); rintro en W2 ⟨⟨c, ta, tc, css, rfl, hok, hrow⟩, hb⟩; (have HOK := qh hok); (have HC2 := qh hrow.slice); (have HB2 := qh (qbt HB1.out hb)); clear hrow hok hb HM4; unfold codeV) | (go_at_call 21; go_must (refine (kinds_any W0).mono ?_); rintro en W1 ⟨⟨kv, rfl, hks⟩, hb⟩; (have HB1 := qh (qbt HB0.out hb)); (have HM4 := qh (made4_any W1 _ l0 (HN.out.below (qbt HB0.out hb)) kv kindsL hks (by decide) (by decide) kinds_ok)); clear hks hb))
 have hmay := machS_ok HOK.out q q0
 have hlenC := codeOk_bounds HOK.out
 obtain ⟨m, hm⟩ : ∃ m, m = machS q := ⟨_, rfl⟩
 have hmV : m.model = q % 3 ∧ m.bound = 1 + q / 3 % 3 := by rw [hm]; exact ⟨rfl, rfl⟩
 rw [← hm] at hmay
 obtain ⟨C, hC⟩ : ∃ C, C = c := ⟨_, rfl⟩
 obtain ⟨M, hM⟩ : ∃ M, M = m := ⟨_, rfl⟩
 rw [← hM] at hmay
 rw [← hC] at hmay hlenC HC3
 obtain ⟨vars, hvars⟩ : ∃ v, v = C.vars := ⟨_, rfl⟩
 obtain ⟨dom, hdom⟩ : ∃ v, v = C.domain := ⟨_, rfl⟩
 obtain ⟨mo, hmo⟩ : ∃ v, v = M.model := ⟨_, rfl⟩
 obtain ⟨bo, hbo⟩ : ∃ v, v = M.bound := ⟨_, rfl⟩
 obtain ⟨cn, hcn⟩ : ∃ n, n = C.threads.length := ⟨_, rfl⟩
 have HCV : Hid (C.vars = vars ∧ C.domain = dom ∧ M.model = mo ∧ M.bound = bo) := ⟨hvars.symm, hdom.symm, hmo.symm, hbo.symm⟩
 simp only [← hC, ← hm, ← hM, ← hvars, ← hdom, ← hmo, ← hbo, ← hcn, show (machS q).model = mo by rw [hmo, hM, hm], show (machS q).bound = bo by rw [hbo, hM, hm]]
 have hc3 := HC3.out
 rw [← hcn] at hc3 hlenC
 have hB := ((Below.refl W3.heap.size W3).alloc (Nat.le_refl _) (.cells #[.int .i64 vars, .int .i64 dom, .slice ta cn tc] 24)).alloc (by simp) (.cells #[.int .i64 mo, .int .i64 bo] 26)
 have H1 := qh (boxes_first W3 (.cells #[.int .i64 vars, .int .i64 dom, .slice ta cn tc] 24) (.cells #[.int .i64 mo, .int .i64 bo] 26))
 have H2 := qh (boxes_second W3 (.cells #[.int .i64 vars, .int .i64 dom, .slice ta cn tc] 24) (.cells #[.int .i64 mo, .int .i64 bo] 26))
 have HC := qh (SliceR.below (RowR.stays 3) hc3 hB)
 have HB := qh (qbt HB3.out hB)
 have HMAY := qh hmay
 have HCN := qh hcn
 have HLC := qh hlenC
 clear hB hmay hcn hlenC hC hM hm hmV hc3 HC3 HC2 HB3 HB2 HB1 HB0 HOK HN HLQ hvars hdom hmo hbo
 generalize World.alloc (World.alloc W3 _) _ = V at HB H1 H2 HC ⊢
 generalize W3.heap.size = gx at H1 H2 ⊢
 have HW2 := qh (HW.out.below HB.out)
 clear HW
 have HCC : Hid (∀ y, Below V.heap.size V y → y.cell? ⟨gx, 0, none⟩ = some (.int .i64 vars) ∧ y.cell? ⟨gx, 1, none⟩ = some (.int .i64 dom) ∧ y.cell? ⟨gx, 2, none⟩ = some (.slice ta cn tc) ∧ y.cell? ⟨gx + 1, 0, none⟩ = some (.int .i64 mo) ∧ y.cell? ⟨gx + 1, 1, none⟩ = some (.int .i64 bo)) := fun y hy => ⟨qck hy _ _ (qcb H1.out 0), qck hy _ _ (qcb H1.out 1), qck hy _ _ (qcb H1.out 2), qck hy _ _ (qcb H2.out 0), qck hy _ _ (qcb H2.out 1)⟩
 have hln63 : ln ≤ 9223372036854775807 := by obtain ⟨a, c, h, h2, -⟩ := HW2.out; have := HLN.out; omega
 -- the contracts, at this code and machine
 have hmv := fun y hy s tv mv hs hb => pmoves_any y C (.slice ta cn tc) 3 hy M s tv mv hs hb
 have hdo := fun y hy s tv mv hs hb k t v => pdo_any y C (.slice ta cn tc) 3 hy M s tv mv hs hb ⟨k, t, v⟩
 have hft := fun y hy s tv mv hs hb => pfits_any y C (.slice ta cn tc) 3 hy M s tv mv hs hb
 have hst := pstart_own V C (.slice ta cn tc) 3 HC.out
 unfold codeV machV at hmv hft
 unfold codeV machV moveV at hdo
 unfold codeV at hst
 simp only [HCV.out.1, HCV.out.2.1, HCV.out.2.2.1, HCV.out.2.2.2] at hmv hdo hft
 rw [HCV.out.1, HCV.out.2.1] at hst
 have HMV := qh hmv
 have HDO := qh hdo
 have HFT := qh hft
 have HSTA := qh hst
 clear hmv hdo hft hst
 obtain ⟨c0, c1, c2, -, -⟩ := HCC.out V (Below.refl _ _)
 go_upto_region 6 with (go_at_call 18; go_must (refine HSTA.out.mono ?_); rintro en X1 ⟨⟨tv, yv, rfl, haw⟩, hb⟩; (have HST1 := qh haw.now); (have HX1 := qh hb); (obtain ⟨xa, xc, rfl, -⟩ := SliceR.slice haw.now.threads); (obtain ⟨ya, yc, rfl, -⟩ := SliceR.slice haw.now.mem); clear hb haw; unfold stateV)
 clear c0 c1 c2
 obtain ⟨s0, hs0⟩ : ∃ s, s = startS C := ⟨_, rfl⟩
 have hcome : Come C M 3 s0 := by rw [hs0]; exact .start
 rw [← hs0] at HST1 ⊢
 have HCOME := qh hcome
 clear hs0 hcome
 have hbx := HX1.out.alloc HX1.out.size (.cells #[.slice xa s0.threads.length xc, .slice ya s0.mem.length yc, .bool s0.bad] 30)
 have HG1 := qh (qhn X1 (.cells #[.slice xa s0.threads.length xc, .slice ya s0.mem.length yc, .bool s0.bad] 30))
 have HST2 := qh (HST1.out.below ((Below.refl X1.heap.size X1).alloc (Nat.le_refl _) (.cells #[.slice xa s0.threads.length xc, .slice ya s0.mem.length yc, .bool s0.bad] 30)))
 have HX2 := qh hbx
 have hgs : V.heap.size ≤ X1.heap.size := HX1.out.size
 clear hbx HST1 HX1 HSTA
 generalize World.alloc X1 _ = X2 at HG1 HST2 HX2 ⊢
 obtain ⟨gs, hgs2⟩ : ∃ g, g = X1.heap.size := ⟨_, rfl⟩
 rw [← hgs2] at HG1 hgs ⊢
 have HGS : Hid (gx ≠ gs ∧ gx + 1 ≠ gs ∧ V.heap.size ≤ gs) := ⟨by have := qlb H1.out; omega, by have := qlb H2.out; omega, hgs⟩
 clear hgs hgs2
 have HL0 : Hid (FitL X2 X2 gs C M s0 xa s0.threads.length xc ya s0.mem.length yc) := ⟨Since.refl _ _, HG1.out, HST2.out, HCOME.out, qlb HG1.out⟩
 clear HG1 HST2 HCOME
 -- what stays while the state's block turns
 have HSB : Hid (∀ y, Since (fun k => k = gs) X2 y → Below w.heap.size w y ∧ RowsAt 3 y (.slice ta cn tc) C.threads ∧ NumsAt y .u8 (.slice wa ln wc) lw) := fun y hy => by
  have hby : Below V.heap.size V y := HX2.out.trans (hy.below HX2.out.size (fun k e => by rw [e]; exact HGS.out.2.2))
  exact ⟨HB.out.trans (hby.mono HB.out.size), SliceR.below (RowR.stays 3) HC.out hby, HW2.out.below hby⟩
 have HCK : Hid (∀ y, Since (fun k => k = gs) X2 y → y.cell? ⟨gx, 0, none⟩ = some (.int .i64 vars) ∧ y.cell? ⟨gx, 1, none⟩ = some (.int .i64 dom) ∧ y.cell? ⟨gx, 2, none⟩ = some (.slice ta cn tc) ∧ y.cell? ⟨gx + 1, 0, none⟩ = some (.int .i64 mo) ∧ y.cell? ⟨gx + 1, 1, none⟩ = some (.int .i64 bo)) := fun y hy =>
  HCC.out y (HX2.out.trans (hy.below HX2.out.size (fun k e => by rw [e]; exact HGS.out.2.2)))
 clear HCC H1 H2 HX2
 go_wp2_with fail
 go_loopg [11] (31) (fun gg s11 wr => ∃ (i : Nat) (s : StateD) (ta ma : Option Addr) (tn tc mn mc : Nat), i ≤ ln ∧ i ≤ 30 ∧ Hid (gg = 31 - i) ∧ s11 = .int .i64 i ∧ Hid (FitL X2 wr gs C M s ta tn tc ma mn mc))
 case atStart => exact ⟨0, s0, xa, ya, _, xc, _, yc, Nat.zero_le _, by omega, rfl, rfl, HL0.out⟩
 case round =>
  obtain ⟨i, s, ra, ma, rn, rc, mn, mc, hi, hi30, HG, rfl, HL⟩ := hrel
  obtain ⟨wo, rfl⟩ : ∃ wo : World, wo = wr := ⟨_, rfl⟩
  clear HL0
  by_cases hlt : i < ln ∧ i < 30
  rotate_left
  ·have HEND := qh (HSB.out wo HL.out.since).1
   by_cases hl1 : i < ln
   ·obtain rfl : i = 30 := by omega
    have hl1I : ((30 : Nat) : Int) < (ln : Int) := by omega
    have hl1J : (30 : Int) < (ln : Int) := by omega
    go_wp2_with fail
    go_ret
    exact ⟨rfl, HEND.out⟩
   ·obtain rfl : ln = i := by omega
    go_wp2_with fail
    go_ret
    exact ⟨rfl, HEND.out⟩
  obtain ⟨hl1, hl2⟩ := hlt
  have hl1I : (i : Int) < (ln : Int) := by omega
  have hl2I : (i : Int) < 30 := by omega
  have htn : s.threads.length = rn := by obtain ⟨a, c, e, -⟩ := SliceR.slice HL.out.st.threads; cases e; rfl
  have hmn : s.mem.length = mn := by obtain ⟨a, c, e, -⟩ := SliceR.slice HL.out.st.mem; cases e; rfl
  have hbuf : ∀ j, j < s.threads.length → (s.threads.getD j default).buf.length ≤ 1000000 := fun j hj => by have := HL.out.come.bufs j hj; omega
  obtain ⟨bd, hbd⟩ : ∃ b, b = s.bad := ⟨_, rfl⟩
  have hbox := HL.out.box
  rw [← hbd] at hbox
  have b0 : wo.cell? ⟨gs, 0, none⟩ = some (.slice ra rn rc) := qcb hbox 0
  have b1 : wo.cell? ⟨gs, 1, none⟩ = some (.slice ma mn mc) := qcb hbox 1
  have b2 : wo.cell? ⟨gs, 2, none⟩ = some (.bool bd) := qcb hbox 2
  obtain ⟨c0, c1, c2, e0, e1⟩ := HCK.out wo HL.out.since
  have hmv := HMV.out wo (HSB.out wo HL.out.since).2.1 s _ _ HL.out.st hbuf
  unfold stateV at hmv
  rw [← hbd] at hmv
  have HMVI := qh hmv
  have HBD := qh hbd
  have HBUF := qh hbuf
  have HTN := qh htn
  clear hmv hbd hbuf hbox htn hmn
  go_upto_region 10 with (go_at_call 24; go_must (refine HMVI.out.mono ?_); rintro en Y ⟨⟨va, vc, rfl, hro⟩, hb⟩; (have HRO := qh (moves_of hro)); (have HLY := qh (HL.out.later hb)); clear hro hb b0 b1 b2 c0 c1 c2 e0 e1)
  obtain ⟨ms, hms⟩ : ∃ ms, ms = movesS C M s 3 := ⟨_, rfl⟩
  have hro := HRO.out
  rw [← hms] at hro ⊢
  have HMAT := qh hro
  have HMS := qh hms
  obtain ⟨mq, hmq⟩ : ∃ n, n = ms.length := ⟨_, rfl⟩
  rw [← hmq] at hro ⊢
  have HMQ := qh hmq
  have hmq1 : mq ≤ 9223372036854775807 := by obtain ⟨a, cap, e, h, -⟩ := hro; omega
  clear hms hro hmq HRO HMVI HL
  by_cases h0 : mq = 0
  ·subst h0
   have HEND := qh (HSB.out Y HLY.out.since).1
   go_wp2_with fail
   go_ret
   exact ⟨rfl, HEND.out⟩
  have h0I : ((mq : Int) == 0) = false := by rw [beq_eq_false_iff_ne]; omega
  have hq0 : (0 : Int) < (mq : Int) := by omega
  obtain ⟨lb, lo, hla, -, hlx⟩ := nums_part (HSB.out Y HLY.out.since).2.2 i (by rw [← HLN.out]; exact hl1)
  subst hla
  have hwf := nums_in HW2.out i (by rw [← HLN.out]; exact hl1)
  generalize lw.getD i 0 = x at hlx hwf
  obtain ⟨lr1, lr2⟩ := hwf
  obtain ⟨r, hr⟩ : ∃ r : Nat, x % (mq : Int) = (r : Int) := ⟨(x % (mq : Int)).toNat, by have := Int.emod_nonneg x (show (mq : Int) ≠ 0 by omega); omega⟩
  have hrq : r < mq := by have := Int.emod_lt_of_pos x hq0; omega
  have hrqI : (r : Int) < (mq : Int) := by omega
  obtain ⟨mb, mof, hva, -, g0, g1, g2⟩ := MovesAt.part HMAT.out r (by rw [← HMQ.out]; exact hrq)
  subst hva
  have hmem : ms.getD r default ∈ ms := getD_mem (by rw [← HMQ.out]; exact hrq)
  generalize ms.getD r default = mx at g0 g1 g2 hmem
  rw [HMS.out] at hmem
  obtain ⟨ix, hlaw⟩ := move_law hmem
  have hdoI := fun y (hy : Below Y.heap.size Y y) => HDO.out y (SliceR.below (RowR.stays 3) (HSB.out Y HLY.out.since).2.1 hy) s _ _ (HLY.out.st.below hy) HBUF.out mx.kind mx.thread mx.var
  have hok := moves_ok hmem
  unfold stateV at hdoI
  rw [← HBD.out] at hdoI
  obtain ⟨t, ht⟩ : ∃ t, t = (doS C M s mx 3).1 := ⟨_, rfl⟩
  have hdr : doS C M s ⟨mx.kind, mx.thread, mx.var⟩ 3 = (t, 0) := by rw [ht, ← hok]
  rw [hdr] at hdoI
  rw [← ht] at hlaw
  have HDOI := qh hdoI
  have HMEM := qh hmem
  have HTE := qh ht
  have HLAW := qh hlaw
  have htm : x.tmod (mq : Int) = (r : Int) := by rw [Int.tmod_eq_emod_of_nonneg lr1]; exact hr
  have hwx := wrap_u8 lr1 lr2
  have hthr := hlaw.thread
  obtain ⟨kd, th, vr⟩ := mx
  simp only [] at g0 g1 g2 hthr HDOI
  subst hthr
  have HA := qh ((Below.refl Y.heap.size Y).alloc (Nat.le_refl _) (.cells #[.int .i64 kd, .int .i64 (ix : Int), .int .i64 vr] 32))
  have HGX := qh (qhn Y (.cells #[.int .i64 kd, .int .i64 (ix : Int), .int .i64 vr] 32))
  clear hdoI hmem hr ht hlaw hdr hok
  go_upto_region 13 with fail
  clear hlx g0 g1 g2 h0I hq0 htm hwx hrqI
  generalize World.alloc Y _ = Y2 at HA HGX ⊢
  obtain ⟨gm, hgm⟩ : ∃ g, g = Y.heap.size := ⟨_, rfl⟩
  rw [← hgm] at HGX ⊢
  clear hgm
  have HLZ := qh (HLY.out.later HA.out)
  have hbox := HLZ.out.box
  rw [← HBD.out] at hbox
  have b0 : Y2.cell? ⟨gs, 0, none⟩ = some (.slice ra rn rc) := qcb hbox 0
  have b1 : Y2.cell? ⟨gs, 1, none⟩ = some (.slice ma mn mc) := qcb hbox 1
  have b2 : Y2.cell? ⟨gs, 2, none⟩ = some (.bool bd) := qcb hbox 2
  obtain ⟨c0, c1, c2, e0, e1⟩ := HCK.out Y2 HLZ.out.since
  have g0 := qcb HGX.out 0
  have g1 := qcb HGX.out 1
  have g2 := qcb HGX.out 2
  clear hbox
  go_upto_region 14 with (go_at_call 25; go_must (refine (HDOI.out Y2 HA.out).mono ?_); rintro en Z ⟨hb, xa', xn', xc', ya', yn', yc', rfl, hfo⟩; (have HTS := qh (hfo.now (HLY.out.st.below HA.out))); (have HZ := qh hb); clear hb hfo)
  clear b0 b1 b2 c0 c1 c2 e0 e1 g0 g1 g2
  have hxn : t.threads.length = xn' := by obtain ⟨a, c, e, -⟩ := SliceR.slice HTS.out.threads; cases e; rfl
  have hxl : xn' = rn := by rw [← hxn, HLAW.out.len]; exact HTN.out
  subst hxl
  obtain ⟨tb, htb⟩ : ∃ b, b = t.bad := ⟨_, rfl⟩
  rw [← htb]
  have HTB := qh htb
  have HXN := qh hxn
  have hA2 := (Below.refl Z.heap.size Z).alloc (Nat.le_refl _) (.cells #[.slice xa' xn' xc', .slice ya' yn' yc', .bool tb] 30)
  have HGT := qh (qhn Z (.cells #[.slice xa' xn' xc', .slice ya' yn' yc', .bool tb] 30))
  have HTS2 := qh (HTS.out.below hA2)
  have HLT := qh ((HLZ.out.later HZ.out).later hA2)
  have HGX2 := qh ((hA2.block gm (Nat.lt_of_lt_of_le (qlb HGX.out) HZ.out.size)).trans ((HZ.out.block gm (qlb HGX.out)).trans HGX.out))
  clear htb hxn hA2 HTS HZ HLZ HLY HGX HA HDOI HMAT HMQ
  generalize World.alloc Z _ = U at HGT HTS2 HLT HGX2 ⊢
  generalize Z.heap.size = gt at HGT ⊢
  have HRU := qh (HSB.out U HLT.out.since).2.1
  have hfit := fun y (hy : Below U.heap.size U y) => HFT.out y (SliceR.below (RowR.stays 3) HRU.out hy) t _ _ (HTS2.out.below hy) (fun j hj => by have := do_bufs (c := C) (m := M) (s := s) (x := ⟨kd, (ix : Int), vr⟩) (d := 3) j (by rw [← HTE.out]; exact hj); rw [← HTE.out] at this; omega)
  unfold stateV at hfit
  rw [← HTB.out, HLAW.out.fits] at hfit
  have HFITI := qh hfit
  have z0 : decide ((ix : Int) < 0) = false := decide_eq_false (by omega)
  have hix : ix < xn' := by have := HLAW.out.lt; rw [HTN.out] at this; exact this
  have z1 : decide ((xn' : Int) ≤ (ix : Int)) = false := decide_eq_false (by omega)
  have hx4 : xn' ≤ 4 := by
   have h1 := (fits_iff.1 HLAW.out.fits).2.1
   have h2 := HLC.out.2.2.2.2.2
   have h3 := HCN.out
   have h4 := HXN.out
   omega
  have HCU : Hid (∀ y, Below U.heap.size U y → (y.cell? ⟨gx, 0, none⟩ = some (.int .i64 vars) ∧ y.cell? ⟨gx, 1, none⟩ = some (.int .i64 dom) ∧ y.cell? ⟨gx, 2, none⟩ = some (.slice ta cn tc) ∧ y.cell? ⟨gx + 1, 0, none⟩ = some (.int .i64 mo) ∧ y.cell? ⟨gx + 1, 1, none⟩ = some (.int .i64 bo)) ∧ (y.cell? ⟨gs, 0, none⟩ = some (.slice ra xn' rc) ∧ y.cell? ⟨gs, 2, none⟩ = some (.bool bd)) ∧ (y.cell? ⟨gt, 0, none⟩ = some (.slice xa' xn' xc') ∧ y.cell? ⟨gt, 1, none⟩ = some (.slice ya' yn' yc') ∧ y.cell? ⟨gt, 2, none⟩ = some (.bool tb)) ∧ y.cell? ⟨gm, 1, none⟩ = some (.int .i64 (ix : Int))) := fun y hy => by
   have h := (HLT.out.later hy)
   have hbox := h.box
   rw [← HBD.out] at hbox
   exact ⟨HCK.out y h.since, ⟨qcb hbox 0, qcb hbox 2⟩, ⟨qck hy _ _ (qcb HGT.out 0), qck hy _ _ (qcb HGT.out 1), qck hy _ _ (qcb HGT.out 2)⟩, qck hy _ _ (qcb HGX2.out 1)⟩
  clear hfit
  go_cut [105] (fun s105 w' => s105 = .bool false ∧ Hid (Below U.heap.size U w'))
  case first =>
   obtain ⟨⟨c0, c1, c2, e0, e1⟩, ⟨b0, b2⟩, ⟨t0, t1, t2⟩, g1⟩ := HCU.out U (Below.refl _ _)
   have hbb : bd = true → tb = true := fun e => by rw [HTB.out]; exact HLAW.out.bad (by rw [← HBD.out]; exact e)
   cases bd with
   | true =>
    have htb := hbb rfl
    subst htb
    clear hbb
    go_wp2_with (go_at_call 26; go_must (refine (HFITI.out U (Below.refl _ _)).mono ?_); rintro en U2 ⟨rfl, hb⟩; (have HU2 := qh hb); (obtain ⟨⟨p0, p1, p2, p3, p4⟩, ⟨p5, p6⟩, ⟨p7, p8, p9⟩, p10⟩ := HCU.out U2 hb); clear hb c0 c1 c2 e0 e1 b0 b2 t0 t1 t2 g1)
    go_meet
    case rel => exact ⟨congrArg Value.bool (decide_eq_false (by omega)), HU2.out⟩
   | false =>
    clear hbb
    go_wp2_with (go_at_call 26; go_must (refine (HFITI.out U (Below.refl _ _)).mono ?_); rintro en U2 ⟨rfl, hb⟩; (have HU2 := qh hb); (obtain ⟨⟨p0, p1, p2, p3, p4⟩, ⟨p5, p6⟩, ⟨p7, p8, p9⟩, p10⟩ := HCU.out U2 hb); clear hb c0 c1 c2 e0 e1 b0 b2 t0 t1 t2 g1)
    go_meet
    case rel => exact ⟨congrArg Value.bool (decide_eq_false (by omega)), HU2.out⟩
  case rest =>
   obtain ⟨rfl, HUB⟩ := hcut
   obtain ⟨U3, rfl⟩ : ∃ Y : World, Y = wc := ⟨_, rfl⟩
   clear z0 z1
   go_wp2_with fail
   go_loopg [16] xn' (fun gg s16 wr => ∃ j : Nat, j ≤ xn' ∧ Hid (gg = xn' - j) ∧ s16 = .int .i64 j ∧ Hid (Below U.heap.size U wr))
   case atStart => exact ⟨0, Nat.zero_le _, rfl, rfl, HUB.out⟩
   case round =>
    obtain ⟨j, hj, HG2, rfl, HBJ⟩ := hrel
    obtain ⟨u0, rfl⟩ : ∃ wo : World, wo = wr := ⟨_, rfl⟩
    obtain ⟨⟨c0, c1, c2, e0, e1⟩, ⟨b0, b2⟩, ⟨t0, t1, t2⟩, g1⟩ := HCU.out u0 HBJ.out
    by_cases hjl : j < xn'
    rotate_left
    ·obtain rfl : xn' = j := by omega
     have hbox := (HLT.out.later HBJ.out).box
     have f0 := qfb hbox 0
     have f1 := qfb hbox 1
     have f2 := qfb hbox 2
     have b1 := qcb hbox 1
     have hput := (HLT.out.later HBJ.out).put (Y := u0) HMEM.out HTE.out (Below.refl _ _) (HTS2.out.below HBJ.out)
     rw [← HTB.out] at hput
     have HPUT := qh hput
     clear hbox hput
     go_wp2_with fail
     go_roundg (31 - (i + 1))
     case measure => rw [HG.out]; omega
     case rel => exact ⟨i + 1, t, xa', ya', _, xc', yn', yc', by omega, by omega, rfl, by simp, HPUT.out⟩
    have hjlI : (j : Int) < (xn' : Int) := by omega
    have hst := (HLT.out.later HBJ.out).st
    have hts := HTS2.out.below HBJ.out
    obtain ⟨ab, ao, aba, abc, hae, -, ar, a0, a1, a2, a3, a4, a5, -⟩ := ThreadsAt.part hst.threads j (by rw [HTN.out]; exact hjl)
    subst hae
    obtain ⟨bb, bo_, bba, bbc, hbe, -, br, d0, d1, d2, d3, d4, d5, -⟩ := ThreadsAt.part hts.threads j (by rw [HXN.out]; exact hjl)
    subst hbe
    have hoth : ¬ j = ix → t.threads.getD j default = s.threads.getD j default := fun e => HLAW.out.others j e
    have hsc : mo = 0 → (t.threads.getD j default).buf.length = 0 := fun e => by
     rw [fits_sc HLAW.out.fits (by rw [HCV.out.2.2.1]; exact e) (by rw [HXN.out]; exact hjl)]; rfl
    generalize s.threads.getD j default = A at ar a0 a1 a2 a3 a4 a5 hoth
    generalize t.threads.getD j default = B at br d0 d1 d2 d3 d4 d5 hoth hsc
    obtain ⟨apc, areg, abuf⟩ := A
    obtain ⟨bpc, breg, bbuf⟩ := B
    obtain ⟨x0, x1, x2, x3, rfl⟩ := four_of ar
    obtain ⟨y0, y1, y2, y3, rfl⟩ := four_of br
    simp only [List.getD_cons_zero, List.getD_cons_succ] at a0 a1 a2 a3 a4 a5 d0 d1 d2 d3 d4 d5 hsc
    have hsame : ¬ j = ix → apc = bpc ∧ x0 = y0 ∧ x1 = y1 ∧ x2 = y2 ∧ x3 = y3 ∧ abuf.length = bbuf.length := fun e => by
     have h := hoth e
     simp only [ThreadD.mk.injEq, List.cons.injEq, and_true] at h
     obtain ⟨rfl, ⟨rfl, rfl, rfl, rfl⟩, rfl⟩ := h
     exact ⟨rfl, rfl, rfl, rfl, rfl, rfl⟩
    have HSAME := qh hsame
    have HSC := qh hsc
    obtain ⟨al, hal⟩ : ∃ n, n = abuf.length := ⟨_, rfl⟩
    obtain ⟨bl, hbl⟩ : ∃ n, n = bbuf.length := ⟨_, rfl⟩
    rw [← hal] at a5 HSAME
    rw [← hbl] at d5 HSAME HSC
    have CJ : Hid (∀ y, Below u0.heap.size u0 y → y.cell? ⟨gs, 0, none⟩ = some (.slice (some ⟨ab, ao, none⟩) xn' rc) ∧ y.cell? ⟨gt, 0, none⟩ = some (.slice (some ⟨bb, bo_, none⟩) xn' xc') ∧ y.cell? ⟨ab, ao + j * 6, none⟩ = some (.int .i64 apc) ∧ y.cell? ⟨ab, ao + j * 6 + 1, none⟩ = some (.int .i64 x0) ∧ y.cell? ⟨ab, ao + j * 6 + 2, none⟩ = some (.int .i64 x1) ∧ y.cell? ⟨ab, ao + j * 6 + 3, none⟩ = some (.int .i64 x2) ∧ y.cell? ⟨ab, ao + j * 6 + 4, none⟩ = some (.int .i64 x3) ∧ y.cell? ⟨ab, ao + j * 6 + 5, none⟩ = some (.slice aba al abc) ∧
      y.cell? ⟨bb, bo_ + j * 6, none⟩ = some (.int .i64 bpc) ∧ y.cell? ⟨bb, bo_ + j * 6 + 1, none⟩ = some (.int .i64 y0) ∧ y.cell? ⟨bb, bo_ + j * 6 + 2, none⟩ = some (.int .i64 y1) ∧ y.cell? ⟨bb, bo_ + j * 6 + 3, none⟩ = some (.int .i64 y2) ∧ y.cell? ⟨bb, bo_ + j * 6 + 4, none⟩ = some (.int .i64 y3) ∧ y.cell? ⟨bb, bo_ + j * 6 + 5, none⟩ = some (.slice bba bl bbc)) := fun y hy =>
     ⟨qck hy _ _ b0, qck hy _ _ t0, qck hy _ _ a0, qck hy _ _ a1, qck hy _ _ a2, qck hy _ _ a3, qck hy _ _ a4, qck hy _ _ a5, qck hy _ _ d0, qck hy _ _ d1, qck hy _ _ d2, qck hy _ _ d3, qck hy _ _ d4, qck hy _ _ d5⟩
    clear hst hts a0 a1 a2 a3 a4 a5 d0 d1 d2 d3 d4 d5 hoth hsc hsame ar br hal hbl c0 c1 c2 e0 e1 b2 t1 t2 g1
    go_upto_region 19 with fail
    clear b0 t0
    go_cut [17, 18] (fun s17 s18 w' => ∃ (g h : Nat), s17 = .pointer (some ⟨g, 0, none⟩) ∧ s18 = .pointer (some ⟨h, 0, none⟩) ∧ Hid (w'.heap[g]? = some (.cells #[.int .i64 apc, .int .i64 x0, .int .i64 x1, .int .i64 x2, .int .i64 x3, .slice aba al abc] 48 (0, 0))) ∧ Hid (w'.heap[h]? = some (.cells #[.int .i64 bpc, .int .i64 y0, .int .i64 y1, .int .i64 y2, .int .i64 y3, .slice bba bl bbc] 48 (0, 0))) ∧ Hid (Below u0.heap.size u0 w'))
    case first =>
     refine wp_region_noPanic ?_
     refine wp_region_held_drew (S := fun x => Below u0.heap.size u0 x) (by kernel_rfl) (Below.refl _ _).drew (fun _ => ?_)
     obtain ⟨V1t, hV1⟩ : ∃ V1, V1 = u0.drew := ⟨_, rfl⟩
     have hT0t : Hid (Loc u0 V1t []) := by rw [hV1]; exact (Loc.start _).drew
     rw [← hV1]
     clear hV1
     refine qtk 0 113 ?vt1 rfl ?hyt1 (hT0t.out.below) ?_
     case hyt1 => (intro _ _; go_simp <;> rfl)
     simp only [Act.put, qz1, qz2, qz3]
     refine qtk 1 114 ?vt2 rfl ?hyt2 (hT0t.out.below) ?_
     case hyt2 => (intro x h; have e := CJ.out x h; go_simp <;> rfl)
     simp only [Act.put, qz1, qz2, qz3]
     refine qtk 2 115 ?vt3 rfl ?hyt3 (hT0t.out.below) ?_
     case hyt3 => (intro _ _; go_simp <;> rfl)
     simp only [Act.put, qz1, qz2, qz3]
     refine qtk 3 116 ?vt4 rfl ?hyt4 (hT0t.out.below) ?_
     case hyt4 => (intro _ _; go_simp <;> rfl)
     simp only [Act.put, qz1, qz2, qz3]
     refine qtk 4 117 ?vt5 rfl ?hyt5 (hT0t.out.below) ?_
     case hyt5 => (intro x h; have e := CJ.out x h; go_simp <;> rfl)
     simp only [Act.put, qz1, qz2, qz3]
     refine qtk 5 118 ?vt6 rfl ?hyt6 (hT0t.out.below) ?_
     case hyt6 => (intro _ _; go_simp <;> rfl)
     simp only [Act.put, qz1, qz2, qz3]
     refine qtk 6 119 ?vt7 rfl ?hyt7 (hT0t.out.below) ?_
     case hyt7 => (intro x h; have e := CJ.out x h; go_simp <;> rfl)
     simp only [Act.put, qz1, qz2, qz3]
     refine qtk 7 120 ?vt8 rfl ?hyt8 (hT0t.out.below) ?_
     case hyt8 => (intro _ _; go_simp <;> rfl)
     simp only [Act.put, qz1, qz2, qz3]
     refine qtk 8 121 ?vt9 rfl ?hyt9 (hT0t.out.below) ?_
     case hyt9 => (intro _ _; go_simp <;> rfl)
     simp only [Act.put, qz1, qz2, qz3]
     refine qtk 9 122 ?vt10 rfl ?hyt10 (hT0t.out.below) ?_
     case hyt10 => (intro x h; have e := CJ.out x h; go_simp <;> rfl)
     simp only [Act.put, qz1, qz2, qz3]
     refine wpAnyH_ready (rs := [10, 11]) (by kernel_rfl) (by simp) ?_
     refine AllReadyH.cons rfl (fun K hK => ?_) (AllReadyH.cons rfl (fun K hK => ?_) AllReadyH.nil)
     ·skip
      go_simp
      have hTt1 := hT0t.out.alloc 48 [.int .i64 0, .int .i64 0, .int .i64 0, .int .i64 0, .int .i64 0, .slice none 0 0]
      refine hK.out _ _ hTt1.below (fun _ => ?_)
      obtain ⟨gat, hgat⟩ : ∃ n, n = V1t.heap.size := ⟨_, rfl⟩
      rw [← hgat] at hTt1 ⊢
      clear hgat
      generalize World.alloc V1t _ = Xt2 at hTt1 ⊢
      replace hTt1 := qh hTt1
      clear hK K
      refine qrH 11 rfl (fun K hK => ?_)
      go_simp
      have ne_gat_gbt : gat ≠ Xt2.heap.size := hTt1.out.ne_new (List.mem_cons_self ..)
      have hTt3 := hTt1.out.alloc 48 [.int .i64 0, .int .i64 0, .int .i64 0, .int .i64 0, .int .i64 0, .slice none 0 0]
      refine hK.out _ _ hTt3.below (fun _ => ?_)
      obtain ⟨gbt, hgbt⟩ : ∃ n, n = Xt2.heap.size := ⟨_, rfl⟩
      rw [← hgbt] at hTt3 ne_gat_gbt ⊢
      clear hgbt
      replace ne_gat_gbt := qh ne_gat_gbt
      generalize World.alloc Xt2 _ = Xt4 at hTt3 ⊢
      replace hTt3 := qh hTt3
      clear hK K
      refine qrH 12 rfl (fun K hK => ?_)
      obtain ⟨hn, -⟩ := hTt3.out.news (gat, 48, [.int .i64 0, .int .i64 0, .int .i64 0, .int .i64 0, .int .i64 0, .slice none 0 0]) (List.mem_cons_of_mem _ (List.mem_cons_self ..))
      have d0 := qcb hn 0
      have f0 := qfb hn 0
      have d1 := qcb hn 1
      have f1 := qfb hn 1
      have d2 := qcb hn 2
      have f2 := qfb hn 2
      have d3 := qcb hn 3
      have f3 := qfb hn 3
      have d4 := qcb hn 4
      have f4 := qfb hn 4
      have d5 := qcb hn 5
      have f5 := qfb hn 5
      clear hn
      have hTt5 := hTt3.out.store (g := gat) (t := 48) (cs := [.int .i64 0, .int .i64 0, .int .i64 0, .int .i64 0, .int .i64 0, .slice none 0 0]) (List.mem_cons_of_mem _ (List.mem_cons_self ..)) [.int .i64 apc, .int .i64 x0, .int .i64 x1, .int .i64 x2, .int .i64 x3, .slice aba al abc] rfl
      replace hTt5 := qh hTt5
      go_simp
      clear d0 f0 d1 f1 d2 f2 d3 f3 d4 f4 d5 f5
      refine hK.out _ (setAll Xt4 gat 0 [.int .i64 apc, .int .i64 x0, .int .i64 x1, .int .i64 x2, .int .i64 x3, .slice aba al abc]) hTt5.out.below (fun _ => ?_)
      generalize setAll Xt4 gat 0 _ = Xt6 at hTt5 ⊢
      clear hK K
      refine qrH 13 rfl (fun K hK => ?_)
      obtain ⟨hn, -⟩ := hTt5.out.news (gbt, 48, [.int .i64 0, .int .i64 0, .int .i64 0, .int .i64 0, .int .i64 0, .slice none 0 0]) (mem_upd (List.mem_cons_self ..) (Ne.symm ne_gat_gbt.out))
      have d0 := qcb hn 0
      have f0 := qfb hn 0
      have d1 := qcb hn 1
      have f1 := qfb hn 1
      have d2 := qcb hn 2
      have f2 := qfb hn 2
      have d3 := qcb hn 3
      have f3 := qfb hn 3
      have d4 := qcb hn 4
      have f4 := qfb hn 4
      have d5 := qcb hn 5
      have f5 := qfb hn 5
      clear hn
      have hTt7 := hTt5.out.store (g := gbt) (t := 48) (cs := [.int .i64 0, .int .i64 0, .int .i64 0, .int .i64 0, .int .i64 0, .slice none 0 0]) (mem_upd (List.mem_cons_self ..) (Ne.symm ne_gat_gbt.out)) [.int .i64 bpc, .int .i64 y0, .int .i64 y1, .int .i64 y2, .int .i64 y3, .slice bba bl bbc] rfl
      replace hTt7 := qh hTt7
      go_simp
      clear d0 f0 d1 f1 d2 f2 d3 f3 d4 f4 d5 f5
      refine hK.out _ (setAll Xt6 gbt 0 [.int .i64 bpc, .int .i64 y0, .int .i64 y1, .int .i64 y2, .int .i64 y3, .slice bba bl bbc]) hTt7.out.below (fun _ => ?_)
      generalize setAll Xt6 gbt 0 _ = Xt8 at hTt7 ⊢
      clear hK K
      refine wpAnyH_done (by kernel_rfl) ?_ _
      refine NoPanic.normal ?_
      obtain ⟨hga, -⟩ := hTt7.out.news (gat, 48, [.int .i64 apc, .int .i64 x0, .int .i64 x1, .int .i64 x2, .int .i64 x3, .slice aba al abc]) (mem_upd (upd_mem (List.mem_cons_of_mem _ (List.mem_cons_self ..))) ne_gat_gbt.out)
      obtain ⟨hgb, -⟩ := hTt7.out.news (gbt, 48, [.int .i64 bpc, .int .i64 y0, .int .i64 y1, .int .i64 y2, .int .i64 y3, .slice bba bl bbc]) (upd_mem (mem_upd (List.mem_cons_self ..) (Ne.symm ne_gat_gbt.out)))
      have HQA := qh hga
      have HQB := qh hgb
      clear hga hgb
      go_wp2_with fail
      go_meet
      case rel => exact ⟨gat, gbt, rfl, rfl, HQA.out, HQB.out, hTt7.out.below⟩
     ·skip
      go_simp
      have hTt9 := hT0t.out.alloc 48 [.int .i64 0, .int .i64 0, .int .i64 0, .int .i64 0, .int .i64 0, .slice none 0 0]
      refine hK.out _ _ hTt9.below (fun _ => ?_)
      obtain ⟨gbt, hgbt⟩ : ∃ n, n = V1t.heap.size := ⟨_, rfl⟩
      rw [← hgbt] at hTt9 ⊢
      clear hgbt
      generalize World.alloc V1t _ = Xt10 at hTt9 ⊢
      replace hTt9 := qh hTt9
      clear hK K
      refine qrH 10 rfl (fun K hK => ?_)
      go_simp
      have ne_gbt_gat : gbt ≠ Xt10.heap.size := hTt9.out.ne_new (List.mem_cons_self ..)
      have hTt11 := hTt9.out.alloc 48 [.int .i64 0, .int .i64 0, .int .i64 0, .int .i64 0, .int .i64 0, .slice none 0 0]
      refine hK.out _ _ hTt11.below (fun _ => ?_)
      obtain ⟨gat, hgat⟩ : ∃ n, n = Xt10.heap.size := ⟨_, rfl⟩
      rw [← hgat] at hTt11 ne_gbt_gat ⊢
      clear hgat
      replace ne_gbt_gat := qh ne_gbt_gat
      generalize World.alloc Xt10 _ = Xt12 at hTt11 ⊢
      replace hTt11 := qh hTt11
      clear hK K
      refine qrH 12 rfl (fun K hK => ?_)
      obtain ⟨hn, -⟩ := hTt11.out.news (gat, 48, [.int .i64 0, .int .i64 0, .int .i64 0, .int .i64 0, .int .i64 0, .slice none 0 0]) (List.mem_cons_self ..)
      have d0 := qcb hn 0
      have f0 := qfb hn 0
      have d1 := qcb hn 1
      have f1 := qfb hn 1
      have d2 := qcb hn 2
      have f2 := qfb hn 2
      have d3 := qcb hn 3
      have f3 := qfb hn 3
      have d4 := qcb hn 4
      have f4 := qfb hn 4
      have d5 := qcb hn 5
      have f5 := qfb hn 5
      clear hn
      have hTt13 := hTt11.out.store (g := gat) (t := 48) (cs := [.int .i64 0, .int .i64 0, .int .i64 0, .int .i64 0, .int .i64 0, .slice none 0 0]) (List.mem_cons_self ..) [.int .i64 apc, .int .i64 x0, .int .i64 x1, .int .i64 x2, .int .i64 x3, .slice aba al abc] rfl
      replace hTt13 := qh hTt13
      go_simp
      clear d0 f0 d1 f1 d2 f2 d3 f3 d4 f4 d5 f5
      refine hK.out _ (setAll Xt12 gat 0 [.int .i64 apc, .int .i64 x0, .int .i64 x1, .int .i64 x2, .int .i64 x3, .slice aba al abc]) hTt13.out.below (fun _ => ?_)
      generalize setAll Xt12 gat 0 _ = Xt14 at hTt13 ⊢
      clear hK K
      refine qrH 13 rfl (fun K hK => ?_)
      obtain ⟨hn, -⟩ := hTt13.out.news (gbt, 48, [.int .i64 0, .int .i64 0, .int .i64 0, .int .i64 0, .int .i64 0, .slice none 0 0]) (mem_upd (List.mem_cons_of_mem _ (List.mem_cons_self ..)) ne_gbt_gat.out)
      have d0 := qcb hn 0
      have f0 := qfb hn 0
      have d1 := qcb hn 1
      have f1 := qfb hn 1
      have d2 := qcb hn 2
      have f2 := qfb hn 2
      have d3 := qcb hn 3
      have f3 := qfb hn 3
      have d4 := qcb hn 4
      have f4 := qfb hn 4
      have d5 := qcb hn 5
      have f5 := qfb hn 5
      clear hn
      have hTt15 := hTt13.out.store (g := gbt) (t := 48) (cs := [.int .i64 0, .int .i64 0, .int .i64 0, .int .i64 0, .int .i64 0, .slice none 0 0]) (mem_upd (List.mem_cons_of_mem _ (List.mem_cons_self ..)) ne_gbt_gat.out) [.int .i64 bpc, .int .i64 y0, .int .i64 y1, .int .i64 y2, .int .i64 y3, .slice bba bl bbc] rfl
      replace hTt15 := qh hTt15
      go_simp
      clear d0 f0 d1 f1 d2 f2 d3 f3 d4 f4 d5 f5
      refine hK.out _ (setAll Xt14 gbt 0 [.int .i64 bpc, .int .i64 y0, .int .i64 y1, .int .i64 y2, .int .i64 y3, .slice bba bl bbc]) hTt15.out.below (fun _ => ?_)
      generalize setAll Xt14 gbt 0 _ = Xt16 at hTt15 ⊢
      clear hK K
      refine wpAnyH_done (by kernel_rfl) ?_ _
      refine NoPanic.normal ?_
      obtain ⟨hga, -⟩ := hTt15.out.news (gat, 48, [.int .i64 apc, .int .i64 x0, .int .i64 x1, .int .i64 x2, .int .i64 x3, .slice aba al abc]) (mem_upd (upd_mem (List.mem_cons_self ..)) (Ne.symm ne_gbt_gat.out))
      obtain ⟨hgb, -⟩ := hTt15.out.news (gbt, 48, [.int .i64 bpc, .int .i64 y0, .int .i64 y1, .int .i64 y2, .int .i64 y3, .slice bba bl bbc]) (upd_mem (mem_upd (List.mem_cons_of_mem _ (List.mem_cons_self ..)) ne_gbt_gat.out))
      have HQA := qh hga
      have HQB := qh hgb
      clear hga hgb
      go_wp2_with fail
      go_meet
      case rel => exact ⟨gat, gbt, rfl, rfl, HQA.out, HQB.out, hTt15.out.below⟩
    case rest =>
     obtain ⟨g, h, rfl, rfl, HGA, HGB, HB19⟩ := hcut
     obtain ⟨u1, rfl⟩ : ∃ Y : World, Y = wc := ⟨_, rfl⟩
     have HBE := qh (qbt HBJ.out HB19.out)
     obtain ⟨⟨-, -, -, e0, -⟩, -, -, g1⟩ := HCU.out u1 HBE.out
     have k0 := qcb HGA.out 0
     have k1 := qcb HGA.out 1
     have k2 := qcb HGA.out 2
     have k3 := qcb HGA.out 3
     have k4 := qcb HGA.out 4
     have k5 := qcb HGA.out 5
     have l0 := qcb HGB.out 0
     have l1 := qcb HGB.out 1
     have l2 := qcb HGB.out 2
     have l3 := qcb HGB.out 3
     have l4 := qcb HGB.out 4
     have l5 := qcb HGB.out 5
     have step : (((mo : Int) == 0) = false ∨ mo = 0 ∧ bl = 0) ∧ (((j : Int) != (ix : Int)) = false ∨ ((j : Int) != (ix : Int)) = true ∧ apc = bpc ∧ x0 = y0 ∧ x1 = y1 ∧ x2 = y2 ∧ x3 = y3 ∧ al = bl) := by
      refine ⟨?_, ?_⟩
      ·by_cases h0 : mo = 0
       ·exact .inr ⟨h0, HSC.out h0⟩
       ·exact .inl (by simp [h0])
      ·by_cases h0 : j = ix
       ·exact .inl (by rw [h0]; simp)
       ·exact .inr ⟨by simp; omega, HSAME.out h0⟩
     clear HGA HGB HB19 CJ HSAME HSC
     rcases step with ⟨m0 | ⟨rfl, rfl⟩, j0 | ⟨j0, rfl, rfl, rfl, rfl, rfl, rfl⟩⟩
     all_goals
      go_wp2_with fail
      go_roundg (xn' - (j + 1))
      case measure => rw [HG2.out]; omega
      case rel => exact ⟨j + 1, by omega, rfl, by simp, HBE.out⟩
end Go.Proofs.YtliajkheeniljaaGreatDoor
