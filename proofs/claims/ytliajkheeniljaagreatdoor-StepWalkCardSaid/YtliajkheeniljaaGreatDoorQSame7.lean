/- Two buffers: are they the same: the document's answer: the walk. Four registers are compared. Two states: are they the same: the document's answer: the walk. -/
import Derived.ChangeKeysEq
import Derived.Deep.CutBlock
import Derived.Test.YtliajkheeniljaaGreatDoorQData
import Derived.Test.YtliajkheeniljaaGreatDoorQOwnP
import Derived.Test.YtliajkheeniljaaGreatDoorQStepQ
import Derived.Test.YtliajkheeniljaaGreatDoorQShort
set_option linter.all false
namespace Go.Proofs.YtliajkheeniljaaGreatDoor
open Go.RowKit
set_option maxRecDepth 100000
set_option maxHeartbeats 16000000
theorem lists_eq {α : Type} [Inhabited α] {l r : List α} (hl : l.length = r.length) (h : ∀ j, j < l.length → l.getD j default = r.getD j default) : l = r := by
 apply List.ext_getElem hl
 intro j h1 h2
 have := h j h1
 rwa [List.getD_eq_getElem?_getD, List.getD_eq_getElem?_getD, List.getElem?_eq_getElem h1, List.getElem?_eq_getElem h2] at this
theorem lists_ne {α : Type} [Inhabited α] {l r : List α} (j : Nat) (h : l.getD j default ≠ r.getD j default) : l ≠ r := fun e => h (by rw [e])
theorem same6_any (w : World) (va vb : Value) (la lb : List EntryD) (ha : BufAt w va la) (hb : BufAt w vb lb) :
  Calls Tryz.prog 44 #[va, vb] w fun e w' => e = .returned (.bool (decide (la = lb))) ∧ Below w.heap.size w w' := by
 obtain ⟨aa, ac, rfl, hal⟩ := SliceR.slice ha
 obtain ⟨ba, bc, rfl, hbl⟩ := SliceR.slice hb
 obtain ⟨n, hn⟩ : ∃ n, n = la.length := ⟨_, rfl⟩
 obtain ⟨m, hm⟩ : ∃ m, m = lb.length := ⟨_, rfl⟩
 rw [← hn] at ha hal ⊢
 rw [← hm] at hb hbl ⊢
 have HA := qh ha
 have HB := qh hb
 have HN := qh hn
 have HM := qh hm
 have HNO : Hid (la ≠ lb → decide (la = lb) = false) := fun e => decide_eq_false e
 have HYES : Hid (la = lb → decide (la = lb) = true) := fun e => decide_eq_true e
 obtain ⟨r, hr⟩ : ∃ r, r = decide (la = lb) := ⟨_, rfl⟩
 rw [← hr] at HNO HYES ⊢
 clear ha hb hn hm hr
 by_cases hl : n = m
 rotate_left
 ·obtain rfl := HNO.out (fun e => hl (by rw [HN.out, HM.out, e]))
  have hl2 : ((n : Int) != (m : Int)) = true := by simp; omega
  go_enter Tryz.func44, Tryz.ntmps44
  go_wp2_with fail
  go_ret
  exact ⟨rfl, Below.refl _ _⟩
 subst hl
 have HL : Hid (la.length = lb.length) := by rw [Hid, ← HN.out, ← HM.out]
 go_enter Tryz.func44, Tryz.ntmps44
 go_wp2_with fail
 go_loopg [5] n (fun gg s5 wr => ∃ i : Nat, i ≤ n ∧ Hid (gg = n - i) ∧ s5 = .int .i64 i ∧ Hid (Below w.heap.size w wr) ∧ Hid (∀ j, j < i → la.getD j default = lb.getD j default))
 case atStart => exact ⟨0, Nat.zero_le _, rfl, rfl, Below.refl _ _, fun j hj => by omega⟩
 case round =>
  obtain ⟨i, hi, HG, rfl, HBR, HJ⟩ := hrel
  by_cases hlt : i < n
  rotate_left
  ·obtain rfl : n = i := by omega
   obtain rfl := HYES.out (lists_eq HL.out (by rw [← HN.out]; exact HJ.out))
   go_wp2_with fail
   go_ret
   exact ⟨rfl, HBR.out⟩
  have hltI : (i : Int) < (n : Int) := by omega
  obtain ⟨a1, a2, hea, -, x0, x1⟩ := BufAt.part HA.out i (by rw [← HN.out]; exact hlt)
  obtain ⟨b1, b2, heb, -, y0, y1⟩ := BufAt.part HB.out i (by rw [← HM.out]; exact hlt)
  subst hea
  subst heb
  replace x0 := qck HBR.out _ _ x0
  replace x1 := qck HBR.out _ _ x1
  replace y0 := qck HBR.out _ _ y0
  replace y1 := qck HBR.out _ _ y1
  have HNE : Hid (la.getD i default ≠ lb.getD i default → r = false) := fun h => HNO.out (lists_ne i h)
  have HEQ : Hid (la.getD i default = lb.getD i default → ∀ j, j < i + 1 → la.getD j default = lb.getD j default) := fun e j hj => by
   by_cases he : j = i
   ·subst he; exact e
   ·exact HJ.out j (by omega)
  generalize la.getD i default = ea at x0 x1 HNE HEQ
  generalize lb.getD i default = eb at y0 y1 HNE HEQ
  obtain ⟨p, q⟩ := ea
  obtain ⟨p', q'⟩ := eb
  simp only [] at x0 x1 y0 y1
  by_cases h1 : p = p'
  ·subst h1
   by_cases h2 : q = q'
   ·subst h2
    go_wp2_with fail
    go_quiet (fail)
    go_wp2_with fail
    go_roundg (n - (i + 1))
    case measure => rw [HG.out]; omega
    case rel => exact ⟨i + 1, by omega, rfl, by simp, drewN_below HBR.out _, HEQ.out (by trivial)⟩
   ·obtain rfl := HNE.out (by simp [h2])
    go_wp2_with fail
    go_quiet (fail)
    go_wp2_with fail
    go_ret
    exact ⟨by first | rfl | simp, drewN_below HBR.out _⟩
  ·obtain rfl := HNE.out (by simp [h1])
   go_wp2_with fail
   go_quiet (fail)
   go_wp2_with fail
   go_ret
   exact ⟨by first | rfl | simp, drewN_below HBR.out _⟩
theorem info_int_ : ∃ i, Tryz.prog.info? 3 = some i ∧ i.size = 1 := by
 have h : (Tryz.prog.info? 3).map (fun i => i.size) = some 1 := by kernel_rfl
 cases hq : Tryz.prog.info? 3 with
 | none => rw [hq] at h; cases h
 | some i => rw [hq] at h; exact ⟨i, rfl, by simpa using h⟩
theorem cells_int_ : Tryz.prog.cellsOf 3 = 1 := by kernel_rfl
theorem under_int_ : Tryz.prog.underlying 3 = some (.int .i64) := by kernel_rfl
theorem under_regs : Tryz.prog.underlying 45 = some (.array 4 3) := by kernel_rfl
theorem run_eq_int_ (d : Nat) (w : World) (a b : Int) : (Op.equalIn (d + 1) 3 (.int .i64 a) (.int .i64 b)).run Tryz.prog w = .ok (a == b) w := by
 simp [Op.equalIn, run_underlying under_int_]
theorem run_part_int (w : World) (xs : Array Value) (j : Nat) (a : Int) (h : xs[j]? = some (.int .i64 a)) : (part 3 xs j).run Tryz.prog w = .ok (.int .i64 a) w := by
 obtain ⟨i, hi, hs⟩ := info_int_
 have hagg : (isAgg 3).run Tryz.prog w = .ok false w := by
  unfold isAgg
  rw [Sem.run_bind, run_underlying under_int_ w]
  rfl
 simp [part, Sem.run_bind, hagg, h]
@[go_sem] theorem run_eq_regs (w : World) (q0 q1 q2 q3 p0 p1 p2 p3 : Int) : (Op.equalIn 10000 45 (.agg #[.int .i64 q0, .int .i64 q1, .int .i64 q2, .int .i64 q3]) (.agg #[.int .i64 p0, .int .i64 p1, .int .i64 p2, .int .i64 p3])).run Tryz.prog w
  = .ok (decide (([q0, q1, q2, q3] : List Int) = [p0, p1, p2, p3])) w := by
 obtain ⟨i, hi, hs⟩ := info_int_
 rw [run_equalIn_array w 9999 _ _ under_regs hi, cells_int_]
 have e : List.range 4 = [0, 1, 2, 3] := rfl
 rw [e]
 have g0 := fun (w : World) (a b c d : Int) => run_part_int w #[.int .i64 a, .int .i64 b, .int .i64 c, .int .i64 d] 0 a rfl
 have g1 := fun (w : World) (a b c d : Int) => run_part_int w #[.int .i64 a, .int .i64 b, .int .i64 c, .int .i64 d] 1 b rfl
 have g2 := fun (w : World) (a b c d : Int) => run_part_int w #[.int .i64 a, .int .i64 b, .int .i64 c, .int .i64 d] 2 c rfl
 have g3 := fun (w : World) (a b c d : Int) => run_part_int w #[.int .i64 a, .int .i64 b, .int .i64 c, .int .i64 d] 3 d rfl
 have ge := run_eq_int_ 9998
 by_cases h0 : q0 = p0
 ·by_cases h1 : q1 = p1
  ·by_cases h2 : q2 = p2
   ·by_cases h3 : q3 = p3
    ·simp [Op.eqItems, g0, g1, g2, g3, ge, h0, h1, h2, h3]
    ·simp [Op.eqItems, g0, g1, g2, g3, ge, h0, h1, h2, h3]
   ·simp [Op.eqItems, g0, g1, g2, g3, ge, h0, h1, h2]
  ·simp [Op.eqItems, g0, g1, g2, g3, ge, h0, h1]
 ·simp [Op.eqItems, g0, g1, g2, g3, ge, h0]
theorem state_ne1 {s t : StateD} (h : s.threads ≠ t.threads) : s ≠ t := fun e => h (by rw [e])
theorem state_ne2 {s t : StateD} (h : s.mem ≠ t.mem) : s ≠ t := fun e => h (by rw [e])
theorem state_ne3 {s t : StateD} (h : s.bad ≠ t.bad) : s ≠ t := fun e => h (by rw [e])
theorem len_ne {α : Type} {l r : List α} (h : l.length ≠ r.length) : l ≠ r := fun e => h (by rw [e])
theorem same7_any (w : World) (s t : StateD) (sa sb ta tb : Value) (hs : StateAt w s sa sb) (ht : StateAt w t ta tb) :
  Calls Tryz.prog 17 #[stateV s sa sb, stateV t ta tb] w fun e w' => e = .returned (.bool (decide (s = t))) ∧ Below w.heap.size w w' := by
 obtain ⟨sa1, sac, rfl, hsl⟩ := SliceR.slice hs.threads
 obtain ⟨sb1, sbc, rfl, hsm⟩ := SliceR.slice hs.mem
 obtain ⟨ta1, tac, rfl, htl⟩ := SliceR.slice ht.threads
 obtain ⟨tb1, tbc, rfl, htm⟩ := SliceR.slice ht.mem
 have HNO1 : Hid (s.threads ≠ t.threads → decide (s = t) = false) := fun h => decide_eq_false (state_ne1 h)
 have HNO2 : Hid (s.mem ≠ t.mem → decide (s = t) = false) := fun h => decide_eq_false (state_ne2 h)
 have HNO3 : Hid (s.bad ≠ t.bad → decide (s = t) = false) := fun h => decide_eq_false (state_ne3 h)
 have HYES : Hid (s.threads = t.threads → s.mem = t.mem → s.bad = t.bad → decide (s = t) = true) := fun h1 h2 h3 => decide_eq_true (by cases s; cases t; simp only [] at h1 h2 h3; rw [h1, h2, h3])
 obtain ⟨r, hr⟩ : ∃ r, r = decide (s = t) := ⟨_, rfl⟩
 rw [← hr] at HNO1 HNO2 HNO3 HYES ⊢
 clear hr
 have h1 := hs.threads
 have h2 := hs.mem
 have h3 := ht.threads
 have h4 := ht.mem
 clear hs ht
 unfold stateV
 obtain ⟨tl, sm, sbad⟩ := s
 obtain ⟨tl', tm, tbad⟩ := t
 simp only [] at h1 h2 h3 h4 hsl hsm htl htm HNO1 HNO2 HNO3 HYES ⊢
 obtain ⟨n, hn⟩ : ∃ n, n = tl.length := ⟨_, rfl⟩
 obtain ⟨n', hn'⟩ : ∃ n, n = tl'.length := ⟨_, rfl⟩
 obtain ⟨m, hm⟩ : ∃ m, m = sm.length := ⟨_, rfl⟩
 obtain ⟨m', hm'⟩ : ∃ m, m = tm.length := ⟨_, rfl⟩
 rw [← hn] at h1 hsl ⊢
 rw [← hn'] at h3 htl ⊢
 rw [← hm] at h2 hsm ⊢
 rw [← hm'] at h4 htm ⊢
 have hB := boxes_below w (.cells #[.slice sa1 n sac, .slice sb1 m sbc, .bool sbad] 30) (.cells #[.slice ta1 n' tac, .slice tb1 m' tbc, .bool tbad] 30)
 have H1 := qh (boxes_first w (.cells #[.slice sa1 n sac, .slice sb1 m sbc, .bool sbad] 30) (.cells #[.slice ta1 n' tac, .slice tb1 m' tbc, .bool tbad] 30))
 have H2 := qh (boxes_second w (.cells #[.slice sa1 n sac, .slice sb1 m sbc, .bool sbad] 30) (.cells #[.slice ta1 n' tac, .slice tb1 m' tbc, .bool tbad] 30))
 have HT1 := qh (SliceR.below ThreadR.stays h1 hB)
 have HM1 := qh (SliceR.below IntR.stays h2 hB)
 have HT2 := qh (SliceR.below ThreadR.stays h3 hB)
 have HM2 := qh (SliceR.below IntR.stays h4 hB)
 have HB := qh hB
 have HN := qh hn
 have HN' := qh hn'
 have HM := qh hm
 have HM' := qh hm'
 clear h1 h2 h3 h4 hB hn hn' hm hm'
 go_enter Tryz.func17, Tryz.ntmps17
 go_upto_region 1 with fail
 generalize World.alloc (World.alloc w _) _ = W at HB H1 H2 HT1 HM1 HT2 HM2 ⊢
 obtain ⟨gx, hgx⟩ : ∃ gx, gx = w.heap.size := ⟨_, rfl⟩
 rw [← hgx] at H1 H2 ⊢
 clear hgx
 have HC : Hid (∀ x, Below W.heap.size W x → x.cell? ⟨gx, 0, none⟩ = some (.slice sa1 n sac) ∧ x.cell? ⟨gx, 1, none⟩ = some (.slice sb1 m sbc) ∧ x.cell? ⟨gx, 2, none⟩ = some (.bool sbad) ∧ x.cell? ⟨gx + 1, 0, none⟩ = some (.slice ta1 n' tac) ∧ x.cell? ⟨gx + 1, 1, none⟩ = some (.slice tb1 m' tbc) ∧ x.cell? ⟨gx + 1, 2, none⟩ = some (.bool tbad)) := fun x hx =>
  ⟨qck hx _ _ (qcb H1.out 0), qck hx _ _ (qcb H1.out 1), qck hx _ _ (qcb H1.out 2), qck hx _ _ (qcb H2.out 0), qck hx _ _ (qcb H2.out 1), qck hx _ _ (qcb H2.out 2)⟩
 have HFIN : Hid (∀ x, Below W.heap.size W x → Below w.heap.size w x) := fun x hx => HB.out.trans (hx.mono HB.out.size)
 obtain ⟨c0, c1, c2, c3, c4, c5⟩ := HC.out W (Below.refl _ _)
 by_cases hnn : n = n'
 rotate_left
 ·obtain rfl := HNO1.out (len_ne (by rw [← HN.out, ← HN'.out]; exact hnn))
  have hn0 : ((n : Int) != (n' : Int)) = true := by simp; omega
  go_wp2_with fail
  go_ret
  exact ⟨by first | rfl | simp, HFIN.out _ (Below.refl _ _)⟩
 by_cases hmm : m = m'
 rotate_left
 ·obtain rfl := HNO2.out (len_ne (by rw [← HM.out, ← HM'.out]; exact hmm))
  have hm0 : ((m : Int) != (m' : Int)) = true := by simp; omega
  subst hnn
  go_wp2_with fail
  go_ret
  exact ⟨by first | rfl | simp, HFIN.out _ (Below.refl _ _)⟩
 by_cases hbb : sbad = tbad
 rotate_left
 ·obtain rfl := HNO3.out hbb
  subst hnn
  subst hmm
  have hb0 : (sbad == tbad) = false := by cases sbad <;> cases tbad <;> simp_all
  clear hbb
  go_wp2_with fail
  go_ret
  exact ⟨by first | rfl | simp, HFIN.out _ (Below.refl _ _)⟩
 subst hnn
 subst hmm
 subst hbb
 have hb0 : (sbad != sbad) = false := by simp
 go_wp2_with fail
 clear c0 c1 c2 c3 c4 c5 hb0
 go_loopg [5] m (fun gg s5 wr => ∃ i : Nat, i ≤ m ∧ Hid (gg = m - i) ∧ s5 = .int .i64 i ∧ Hid (Below W.heap.size W wr) ∧ Hid (∀ j, j < i → sm.getD j default = tm.getD j default))
 case atStart => exact ⟨0, Nat.zero_le _, rfl, rfl, Below.refl _ _, fun j hj => by omega⟩
 case round =>
  obtain ⟨i, hi, HG, rfl, HBR, HJ⟩ := hrel
  obtain ⟨c0, c1, c2, c3, c4, c5⟩ := HC.out wr HBR.out
  by_cases hlt : i < m
  ·have hltI : (i : Int) < (m : Int) := by omega
   obtain ⟨a1, a2, hea, -, x0⟩ := IntsAt.part HM1.out i (by rw [← HM.out]; exact hlt)
   obtain ⟨b1, b2, heb, -, y0⟩ := IntsAt.part HM2.out i (by rw [← HM'.out]; exact hlt)
   subst hea
   subst heb
   replace x0 := qck HBR.out _ _ x0
   replace y0 := qck HBR.out _ _ y0
   have HNE : Hid (sm.getD i 0 ≠ tm.getD i 0 → r = false) := fun h => HNO2.out (lists_ne i h)
   have HEQ : Hid (sm.getD i 0 = tm.getD i 0 → ∀ j, j < i + 1 → sm.getD j default = tm.getD j default) := fun e j hj => by
    by_cases he : j = i
    ·subst he; exact e
    ·exact HJ.out j (by omega)
   generalize sm.getD i 0 = p at x0 HNE HEQ
   generalize tm.getD i 0 = q at y0 HNE HEQ
   by_cases h1 : p = q
   ·subst h1
    go_wp2_with fail
    go_quiet (fail)
    go_wp2_with fail
    go_roundg (m - (i + 1))
    case measure => rw [HG.out]; omega
    case rel => exact ⟨i + 1, by omega, rfl, by simp, drewN_below HBR.out _, HEQ.out (by trivial)⟩
   ·obtain rfl := HNE.out (by simp [h1])
    go_wp2_with fail
    go_quiet (fail)
    go_wp2_with fail
    go_ret
    exact ⟨by first | rfl | simp, HFIN.out _ (drewN_below HBR.out _)⟩
  obtain rfl : m = i := by omega
  have hmem : sm = tm := lists_eq (by rw [← HM.out, ← HM'.out]) (by rw [← HM.out]; exact HJ.out)
  have HMEM := qh hmem
  clear hmem
  go_wp2_with fail
  clear c0 c1 c2 c3 c4 c5
  go_loopg [6] n (fun gg s6 wr => ∃ i : Nat, i ≤ n ∧ Hid (gg = n - i) ∧ s6 = .int .i64 i ∧ Hid (Below W.heap.size W wr) ∧ Hid (∀ j, j < i → tl.getD j default = tl'.getD j default))
  case atStart => exact ⟨0, Nat.zero_le _, rfl, rfl, HBR.out, fun j hj => by omega⟩
  case round =>
   obtain ⟨i, hi, HG6, rfl, HBI, HJ6⟩ := hrel
   obtain ⟨wo, rfl⟩ : ∃ wo : World, wo = wr := ⟨_, rfl⟩
   by_cases hlt : i < n
   rotate_left
   ·obtain rfl : n = i := by omega
    obtain rfl := HYES.out (lists_eq (by rw [← HN.out, ← HN'.out]) (by rw [← HN.out]; exact HJ6.out)) HMEM.out (by trivial)
    obtain ⟨c0, c1, c2, c3, c4, c5⟩ := HC.out wo HBI.out
    go_wp2_with fail
    go_ret
    exact ⟨by first | rfl | simp, HFIN.out _ HBI.out⟩
   have hltI : (i : Int) < (n : Int) := by omega
   obtain ⟨a1, a2, ba, bc, hea, -, hr4, x0, x1, x2, x3, x4, x5, hbuf⟩ := ThreadsAt.part HT1.out i (by rw [← HN.out]; exact hlt)
   obtain ⟨b1, b2, ba', bc', heb, -, hr4', y0, y1, y2, y3, y4, y5, hbuf'⟩ := ThreadsAt.part HT2.out i (by rw [← HN'.out]; exact hlt)
   subst hea
   subst heb
   have HNE : Hid (tl.getD i default ≠ tl'.getD i default → r = false) := fun h => HNO1.out (lists_ne i h)
   have HEQ : Hid (tl.getD i default = tl'.getD i default → ∀ j, j < i + 1 → tl.getD j default = tl'.getD j default) := fun e j hj => by
    by_cases he : j = i
    ·subst he; exact e
    ·exact HJ6.out j (by omega)
   generalize tl.getD i default = ea at x0 x1 x2 x3 x4 x5 hbuf hr4 HNE HEQ
   generalize tl'.getD i default = eb at y0 y1 y2 y3 y4 y5 hbuf' hr4' HNE HEQ
   obtain ⟨pc, rg, bf⟩ := ea
   obtain ⟨pc', rg', bf'⟩ := eb
   simp only [] at x0 x1 x2 x3 x4 x5 hbuf hr4 y0 y1 y2 y3 y4 y5 hbuf' hr4'
   obtain ⟨q0, q1, q2, q3, rfl⟩ := four_of hr4
   obtain ⟨p0, p1, p2, p3, rfl⟩ := four_of hr4'
   simp only [List.getD_cons_zero, List.getD_cons_succ] at x1 x2 x3 x4 y1 y2 y3 y4
   obtain ⟨bl, hbl⟩ : ∃ bl, bl = bf.length := ⟨_, rfl⟩
   obtain ⟨bl', hbl'⟩ : ∃ bl, bl = bf'.length := ⟨_, rfl⟩
   rw [← hbl] at x5 hbuf
   rw [← hbl'] at y5 hbuf'
   have HX : Hid (∀ y, Below wo.heap.size wo y → (y.cell? ⟨gx, 0, none⟩ = some (.slice (some ⟨a1, a2, none⟩) n sac) ∧ y.cell? ⟨gx + 1, 0, none⟩ = some (.slice (some ⟨b1, b2, none⟩) n tac) ∧ y.cell? ⟨a1, a2 + i * 6, none⟩ = some (.int .i64 pc) ∧ y.cell? ⟨a1, a2 + i * 6 + 1, none⟩ = some (.int .i64 q0) ∧ y.cell? ⟨a1, a2 + i * 6 + 2, none⟩ = some (.int .i64 q1) ∧ y.cell? ⟨a1, a2 + i * 6 + 3, none⟩ = some (.int .i64 q2) ∧ y.cell? ⟨a1, a2 + i * 6 + 4, none⟩ = some (.int .i64 q3) ∧ y.cell? ⟨a1, a2 + i * 6 + 5, none⟩ = some (.slice ba bl bc) ∧
     y.cell? ⟨b1, b2 + i * 6, none⟩ = some (.int .i64 pc') ∧ y.cell? ⟨b1, b2 + i * 6 + 1, none⟩ = some (.int .i64 p0) ∧ y.cell? ⟨b1, b2 + i * 6 + 2, none⟩ = some (.int .i64 p1) ∧ y.cell? ⟨b1, b2 + i * 6 + 3, none⟩ = some (.int .i64 p2) ∧ y.cell? ⟨b1, b2 + i * 6 + 4, none⟩ = some (.int .i64 p3) ∧ y.cell? ⟨b1, b2 + i * 6 + 5, none⟩ = some (.slice ba' bl' bc'))) := fun y hy => by
    have hw := qbt HBI.out hy
    obtain ⟨c0, -, -, c3, -, -⟩ := HC.out y hw
    exact ⟨c0, c3, qck hw _ _ x0, qck hw _ _ x1, qck hw _ _ x2, qck hw _ _ x3, qck hw _ _ x4, qck hw _ _ x5, qck hw _ _ y0, qck hw _ _ y1, qck hw _ _ y2, qck hw _ _ y3, qck hw _ _ y4, qck hw _ _ y5⟩
   have HBF := qh (BufAt.below hbuf HBI.out)
   have HBF' := qh (BufAt.below hbuf' HBI.out)
   obtain ⟨c0, c1, c2, c3, c4, c5⟩ := HC.out wo HBI.out
   have HBL := qh hbl
   have HBL' := qh hbl'
   clear x0 x1 x2 x3 x4 x5 y0 y1 y2 y3 y4 y5 hbuf hbuf' hbl hbl' hr4 hr4'
   go_upto_region 11 with fail
   clear c0 c1 c2 c3 c4 c5
   go_cut [7, 8] (fun s7 s8 w' => ∃ xb yb, s7 = .pointer (some ⟨xb, 0, none⟩) ∧ s8 = .pointer (some ⟨yb, 0, none⟩) ∧ Hid (Below wo.heap.size wo w') ∧ Hid (w'.heap[xb]? = some (.cells #[.int .i64 pc, .int .i64 q0, .int .i64 q1, .int .i64 q2, .int .i64 q3, .slice ba bl bc] 48 (0, 0))) ∧ Hid (w'.heap[yb]? = some (.cells #[.int .i64 pc', .int .i64 p0, .int .i64 p1, .int .i64 p2, .int .i64 p3, .slice ba' bl' bc'] 48 (0, 0))))
   case first =>
    have hT0 := qh (Loc.start wo).drew
    refine wp_region_noPanic ?_
    refine wp_region_held_drew (S := fun x => Below wo.heap.size wo x) (by kernel_rfl) (Below.refl _ _).drew (fun _ => ?_)
    obtain ⟨wd, hwd⟩ : ∃ wd, wd = wo.drew := ⟨_, rfl⟩
    rw [← hwd] at hT0 ⊢
    clear hwd
    refine qtk 0 57 ?vs1 rfl ?hys1 (hT0.out.below) ?_
    case hys1 => (intro _ _; go_simp <;> rfl)
    simp only [Act.put, qz1, qz2, qz3]
    refine qtk 1 58 ?vs2 rfl ?hys2 (hT0.out.below) ?_
    case hys2 => (intro x h; have e := HX.out x h; go_simp <;> rfl)
    simp only [Act.put, qz1, qz2, qz3]
    refine qtk 2 59 ?vs3 rfl ?hys3 (hT0.out.below) ?_
    case hys3 => (intro _ _; go_simp <;> rfl)
    simp only [Act.put, qz1, qz2, qz3]
    refine qtk 3 60 ?vs4 rfl ?hys4 (hT0.out.below) ?_
    case hys4 => (intro _ _; go_simp <;> rfl)
    simp only [Act.put, qz1, qz2, qz3]
    refine qtk 4 61 ?vs5 rfl ?hys5 (hT0.out.below) ?_
    case hys5 => (intro x h; have e := HX.out x h; go_simp <;> rfl)
    simp only [Act.put, qz1, qz2, qz3]
    refine qtk 5 62 ?vs6 rfl ?hys6 (hT0.out.below) ?_
    case hys6 => (intro _ _; go_simp <;> rfl)
    simp only [Act.put, qz1, qz2, qz3]
    refine qtk 6 63 ?vs7 rfl ?hys7 (hT0.out.below) ?_
    case hys7 => (intro x h; have e := HX.out x h; go_simp <;> rfl)
    simp only [Act.put, qz1, qz2, qz3]
    refine qtk 7 64 ?vs8 rfl ?hys8 (hT0.out.below) ?_
    case hys8 => (intro _ _; go_simp <;> rfl)
    simp only [Act.put, qz1, qz2, qz3]
    refine qtk 8 65 ?vs9 rfl ?hys9 (hT0.out.below) ?_
    case hys9 => (intro _ _; go_simp <;> rfl)
    simp only [Act.put, qz1, qz2, qz3]
    refine qtk 9 66 ?vs10 rfl ?hys10 (hT0.out.below) ?_
    case hys10 => (intro x h; have e := HX.out x h; go_simp <;> rfl)
    simp only [Act.put, qz1, qz2, qz3]
    refine wpAnyH_ready (rs := [10, 11]) (by kernel_rfl) (by simp) ?_
    refine AllReadyH.cons rfl (fun K hK => ?_) (AllReadyH.cons rfl (fun K hK => ?_) AllReadyH.nil)
    ·skip
     go_simp
     have hTs1 := hT0.out.alloc 48 [.int .i64 0, .int .i64 0, .int .i64 0, .int .i64 0, .int .i64 0, .slice none 0 0]
     refine hK.out _ _ hTs1.below (fun _ => ?_)
     obtain ⟨xb, hxb⟩ : ∃ n, n = wd.heap.size := ⟨_, rfl⟩
     rw [← hxb] at hTs1 ⊢
     clear hxb
     generalize World.alloc wd _ = Xs2 at hTs1 ⊢
     replace hTs1 := qh hTs1
     clear hK K
     refine qrH 11 rfl (fun K hK => ?_)
     go_simp
     have ne_xb_yb : xb ≠ Xs2.heap.size := hTs1.out.ne_new (List.mem_cons_self ..)
     have hTs3 := hTs1.out.alloc 48 [.int .i64 0, .int .i64 0, .int .i64 0, .int .i64 0, .int .i64 0, .slice none 0 0]
     refine hK.out _ _ hTs3.below (fun _ => ?_)
     obtain ⟨yb, hyb⟩ : ∃ n, n = Xs2.heap.size := ⟨_, rfl⟩
     rw [← hyb] at hTs3 ne_xb_yb ⊢
     clear hyb
     replace ne_xb_yb := qh ne_xb_yb
     generalize World.alloc Xs2 _ = Xs4 at hTs3 ⊢
     replace hTs3 := qh hTs3
     clear hK K
     refine qrH 12 rfl (fun K hK => ?_)
     obtain ⟨hn, -⟩ := hTs3.out.news (xb, 48, [.int .i64 0, .int .i64 0, .int .i64 0, .int .i64 0, .int .i64 0, .slice none 0 0]) (List.mem_cons_of_mem _ (List.mem_cons_self ..))
     have d0 := qcb hn 0
     have f0 := qfb hn 0
     have d1 := qcb hn 1
     have f1 := qfb hn 1
     have d2 := qcb hn 2
     have f2 := qfb hn 2
     have d3 := qcb hn 3
     have f3 := qfb hn 3
     have d4 := qcb hn 4
     have f4 := qfb hn 4
     have d5 := qcb hn 5
     have f5 := qfb hn 5
     clear hn
     have hTs5 := hTs3.out.store (g := xb) (t := 48) (cs := [.int .i64 0, .int .i64 0, .int .i64 0, .int .i64 0, .int .i64 0, .slice none 0 0]) (List.mem_cons_of_mem _ (List.mem_cons_self ..)) [.int .i64 pc, .int .i64 q0, .int .i64 q1, .int .i64 q2, .int .i64 q3, .slice ba bl bc] rfl
     replace hTs5 := qh hTs5
     go_simp
     clear d0 f0 d1 f1 d2 f2 d3 f3 d4 f4 d5 f5
     refine hK.out _ (setAll Xs4 xb 0 [.int .i64 pc, .int .i64 q0, .int .i64 q1, .int .i64 q2, .int .i64 q3, .slice ba bl bc]) hTs5.out.below (fun _ => ?_)
     generalize setAll Xs4 xb 0 _ = Xs6 at hTs5 ⊢
     clear hK K
     refine qrH 13 rfl (fun K hK => ?_)
     obtain ⟨hn, -⟩ := hTs5.out.news (yb, 48, [.int .i64 0, .int .i64 0, .int .i64 0, .int .i64 0, .int .i64 0, .slice none 0 0]) (mem_upd (List.mem_cons_self ..) (Ne.symm ne_xb_yb.out))
     have d0 := qcb hn 0
     have f0 := qfb hn 0
     have d1 := qcb hn 1
     have f1 := qfb hn 1
     have d2 := qcb hn 2
     have f2 := qfb hn 2
     have d3 := qcb hn 3
     have f3 := qfb hn 3
     have d4 := qcb hn 4
     have f4 := qfb hn 4
     have d5 := qcb hn 5
     have f5 := qfb hn 5
     clear hn
     have hTs7 := hTs5.out.store (g := yb) (t := 48) (cs := [.int .i64 0, .int .i64 0, .int .i64 0, .int .i64 0, .int .i64 0, .slice none 0 0]) (mem_upd (List.mem_cons_self ..) (Ne.symm ne_xb_yb.out)) [.int .i64 pc', .int .i64 p0, .int .i64 p1, .int .i64 p2, .int .i64 p3, .slice ba' bl' bc'] rfl
     replace hTs7 := qh hTs7
     go_simp
     clear d0 f0 d1 f1 d2 f2 d3 f3 d4 f4 d5 f5
     refine hK.out _ (setAll Xs6 yb 0 [.int .i64 pc', .int .i64 p0, .int .i64 p1, .int .i64 p2, .int .i64 p3, .slice ba' bl' bc']) hTs7.out.below (fun _ => ?_)
     generalize setAll Xs6 yb 0 _ = Xs8 at hTs7 ⊢
     clear hK K
     refine wpAnyH_done (by kernel_rfl) ?_ _
     refine NoPanic.normal ?_
     obtain ⟨hx, -⟩ := hTs7.out.news (xb, 48, [.int .i64 pc, .int .i64 q0, .int .i64 q1, .int .i64 q2, .int .i64 q3, .slice ba bl bc]) (mem_upd (upd_mem (List.mem_cons_of_mem _ (List.mem_cons_self ..))) ne_xb_yb.out)
     obtain ⟨hy, -⟩ := hTs7.out.news (yb, 48, [.int .i64 pc', .int .i64 p0, .int .i64 p1, .int .i64 p2, .int .i64 p3, .slice ba' bl' bc']) (upd_mem (mem_upd (List.mem_cons_self ..) (Ne.symm ne_xb_yb.out)))
     have HXX := qh hx
     have HYY := qh hy
     clear hx hy
     go_wp2_with fail
     go_meet
     case rel => exact ⟨xb, yb, rfl, rfl, hTs7.out.below, HXX.out, HYY.out⟩
    ·skip
     go_simp
     have hTs9 := hT0.out.alloc 48 [.int .i64 0, .int .i64 0, .int .i64 0, .int .i64 0, .int .i64 0, .slice none 0 0]
     refine hK.out _ _ hTs9.below (fun _ => ?_)
     obtain ⟨yb, hyb⟩ : ∃ n, n = wd.heap.size := ⟨_, rfl⟩
     rw [← hyb] at hTs9 ⊢
     clear hyb
     generalize World.alloc wd _ = Xs10 at hTs9 ⊢
     replace hTs9 := qh hTs9
     clear hK K
     refine qrH 10 rfl (fun K hK => ?_)
     go_simp
     have ne_yb_xb : yb ≠ Xs10.heap.size := hTs9.out.ne_new (List.mem_cons_self ..)
     have hTs11 := hTs9.out.alloc 48 [.int .i64 0, .int .i64 0, .int .i64 0, .int .i64 0, .int .i64 0, .slice none 0 0]
     refine hK.out _ _ hTs11.below (fun _ => ?_)
     obtain ⟨xb, hxb⟩ : ∃ n, n = Xs10.heap.size := ⟨_, rfl⟩
     rw [← hxb] at hTs11 ne_yb_xb ⊢
     clear hxb
     replace ne_yb_xb := qh ne_yb_xb
     generalize World.alloc Xs10 _ = Xs12 at hTs11 ⊢
     replace hTs11 := qh hTs11
     clear hK K
     refine qrH 12 rfl (fun K hK => ?_)
     obtain ⟨hn, -⟩ := hTs11.out.news (xb, 48, [.int .i64 0, .int .i64 0, .int .i64 0, .int .i64 0, .int .i64 0, .slice none 0 0]) (List.mem_cons_self ..)
     have d0 := qcb hn 0
     have f0 := qfb hn 0
     have d1 := qcb hn 1
     have f1 := qfb hn 1
     have d2 := qcb hn 2
     have f2 := qfb hn 2
     have d3 := qcb hn 3
     have f3 := qfb hn 3
     have d4 := qcb hn 4
     have f4 := qfb hn 4
     have d5 := qcb hn 5
     have f5 := qfb hn 5
     clear hn
     have hTs13 := hTs11.out.store (g := xb) (t := 48) (cs := [.int .i64 0, .int .i64 0, .int .i64 0, .int .i64 0, .int .i64 0, .slice none 0 0]) (List.mem_cons_self ..) [.int .i64 pc, .int .i64 q0, .int .i64 q1, .int .i64 q2, .int .i64 q3, .slice ba bl bc] rfl
     replace hTs13 := qh hTs13
     go_simp
     clear d0 f0 d1 f1 d2 f2 d3 f3 d4 f4 d5 f5
     refine hK.out _ (setAll Xs12 xb 0 [.int .i64 pc, .int .i64 q0, .int .i64 q1, .int .i64 q2, .int .i64 q3, .slice ba bl bc]) hTs13.out.below (fun _ => ?_)
     generalize setAll Xs12 xb 0 _ = Xs14 at hTs13 ⊢
     clear hK K
     refine qrH 13 rfl (fun K hK => ?_)
     obtain ⟨hn, -⟩ := hTs13.out.news (yb, 48, [.int .i64 0, .int .i64 0, .int .i64 0, .int .i64 0, .int .i64 0, .slice none 0 0]) (mem_upd (List.mem_cons_of_mem _ (List.mem_cons_self ..)) ne_yb_xb.out)
     have d0 := qcb hn 0
     have f0 := qfb hn 0
     have d1 := qcb hn 1
     have f1 := qfb hn 1
     have d2 := qcb hn 2
     have f2 := qfb hn 2
     have d3 := qcb hn 3
     have f3 := qfb hn 3
     have d4 := qcb hn 4
     have f4 := qfb hn 4
     have d5 := qcb hn 5
     have f5 := qfb hn 5
     clear hn
     have hTs15 := hTs13.out.store (g := yb) (t := 48) (cs := [.int .i64 0, .int .i64 0, .int .i64 0, .int .i64 0, .int .i64 0, .slice none 0 0]) (mem_upd (List.mem_cons_of_mem _ (List.mem_cons_self ..)) ne_yb_xb.out) [.int .i64 pc', .int .i64 p0, .int .i64 p1, .int .i64 p2, .int .i64 p3, .slice ba' bl' bc'] rfl
     replace hTs15 := qh hTs15
     go_simp
     clear d0 f0 d1 f1 d2 f2 d3 f3 d4 f4 d5 f5
     refine hK.out _ (setAll Xs14 yb 0 [.int .i64 pc', .int .i64 p0, .int .i64 p1, .int .i64 p2, .int .i64 p3, .slice ba' bl' bc']) hTs15.out.below (fun _ => ?_)
     generalize setAll Xs14 yb 0 _ = Xs16 at hTs15 ⊢
     clear hK K
     refine wpAnyH_done (by kernel_rfl) ?_ _
     refine NoPanic.normal ?_
     obtain ⟨hx, -⟩ := hTs15.out.news (xb, 48, [.int .i64 pc, .int .i64 q0, .int .i64 q1, .int .i64 q2, .int .i64 q3, .slice ba bl bc]) (mem_upd (upd_mem (List.mem_cons_self ..)) (Ne.symm ne_yb_xb.out))
     obtain ⟨hy, -⟩ := hTs15.out.news (yb, 48, [.int .i64 pc', .int .i64 p0, .int .i64 p1, .int .i64 p2, .int .i64 p3, .slice ba' bl' bc']) (upd_mem (mem_upd (List.mem_cons_of_mem _ (List.mem_cons_self ..)) ne_yb_xb.out))
     have HXX := qh hx
     have HYY := qh hy
     clear hx hy
     go_wp2_with fail
     go_meet
     case rel => exact ⟨xb, yb, rfl, rfl, hTs15.out.below, HXX.out, HYY.out⟩
   case rest =>
    obtain ⟨w2, rfl⟩ : ∃ w2 : World, w2 = wc := ⟨_, rfl⟩
    obtain ⟨xb, yb, rfl, rfl, HW2, HXB, HYB⟩ := hcut
    have x0 := qcb HXB.out 0
    have x1 := qcb HXB.out 1
    have x2 := qcb HXB.out 2
    have x3 := qcb HXB.out 3
    have x4 := qcb HXB.out 4
    have x5 := qcb HXB.out 5
    have y0 := qcb HYB.out 0
    have y1 := qcb HYB.out 1
    have y2 := qcb HYB.out 2
    have y3 := qcb HYB.out 3
    have y4 := qcb HYB.out 4
    have y5 := qcb HYB.out 5
    by_cases e0 : pc = pc'
    rotate_left
    ·obtain rfl := HNE.out (fun e => e0 (by injection e))
     have he0 : ((pc : Int) != pc') = true := by simp; exact e0
     go_wp2_with fail
     go_ret
     exact ⟨by first | rfl | simp, HFIN.out _ (qbt HBI.out HW2.out)⟩
    subst e0
    by_cases e1 : ([q0, q1, q2, q3] : List Int) = [p0, p1, p2, p3]
    rotate_left
    ·obtain rfl := HNE.out (fun e => e1 (by injection e))
     have hag : (([q0, q1, q2, q3] : List Int) = [p0, p1, p2, p3]) = False := eq_false e1
     have hag2 : decide (([q0, q1, q2, q3] : List Int) = [p0, p1, p2, p3]) = false := decide_eq_false e1
     clear e1
     go_wp2_with fail
     go_ret
     exact ⟨by first | rfl | simp, HFIN.out _ (qbt HBI.out HW2.out)⟩
    simp only [List.cons.injEq, and_true] at e1
    obtain ⟨rfl, rfl, rfl, rfl⟩ := e1
    have HSM : Hid (∀ y, Below w2.heap.size w2 y → Calls Tryz.prog 44 #[.slice ba bl bc, .slice ba' bl' bc'] y fun e w' => e = .returned (.bool (decide (bf = bf'))) ∧ Below y.heap.size y w') := fun y hy =>
     same6_any y _ _ bf bf' (BufAt.below (BufAt.below HBF.out HW2.out) hy) (BufAt.below (BufAt.below HBF'.out HW2.out) hy)
    have he0 : ((pc : Int) != pc) = false := by simp
    by_cases hbe : bf = bf'
    ·subst hbe
     have hd : decide (bf = bf) = true := decide_eq_true rfl
     rw [hd] at HSM
     clear hd
     go_wp2_with (go_at_call 44; refine (HSM.out _ (Below.refl _ _)).mono ?_; rintro e w3 ⟨rfl, hb3⟩; have HB3 := qh hb3; clear hb3)
     clear x0 x1 x2 x3 x4 x5 y0 y1 y2 y3 y4 y5
     go_roundg (n - (i + 1))
     case measure => rw [HG6.out]; omega
     case rel => exact ⟨i + 1, by omega, rfl, by simp, qbt (qbt HBI.out HW2.out) HB3.out, HEQ.out (by trivial)⟩
    ·rw [decide_eq_false hbe] at HSM
     obtain rfl := HNE.out (fun e => hbe (by injection e))
     have HBE := qh hbe
     clear hbe
     go_wp2_with (go_at_call 44; refine (HSM.out _ (Below.refl _ _)).mono ?_; rintro e w3 ⟨rfl, hb3⟩; have HB3 := qh hb3; clear hb3)
     clear x0 x1 x2 x3 x4 x5 y0 y1 y2 y3 y4 y5
     go_ret
     exact ⟨by first | rfl | simp, HFIN.out _ (qbt (qbt HBI.out HW2.out) HB3.out)⟩
end Go.Proofs.YtliajkheeniljaaGreatDoor
