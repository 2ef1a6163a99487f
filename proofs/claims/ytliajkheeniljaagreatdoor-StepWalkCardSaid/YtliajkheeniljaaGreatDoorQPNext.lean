/- The moves that may be, and the states behind them: the program's answer: the walk. -/
import Derived.Test.YtliajkheeniljaaGreatDoorQPHeads
import Derived.Test.YtliajkheeniljaaGreatDoorQPTry
import Derived.Test.YtliajkheeniljaaGreatDoorQPTryQ
import Derived.Test.YtliajkheeniljaaGreatDoorQShort
set_option linter.all false
namespace Go.Proofs.YtliajkheeniljaaGreatDoor
open Go.RowKit
set_option maxRecDepth 100000
set_option maxHeartbeats 16000000
theorem pnext_any (w : World) (c : CodeD) (cv : Value) (d : Nat) (hc : RowsAt d w cv c.threads) (m : MachD) (s : StateD) (sv mv : Value) (hs : StateAt w s sv mv) (hb : ∀ j, j < s.threads.length → (s.threads.getD j default).buf.length ≤ 1000000) (hf : fitsOk c m s = true)
  (F0 : Nat → Prop) (hF0 : ∀ k, F0 k → k < w.heap.size) (ha : Away F0 w (fun y => StateAt y s sv mv)) : Calls Tryz.prog 49 #[codeV c cv, machV m, stateV s sv mv] w (PNextEnd F0 w (movesS c m s d) (nextS c m s d)) := by
 have hn4 : s.threads.length ≤ 4 := by
  obtain ⟨h1, -, h2, h3, -⟩ := fits_facts hf
  have h4 := codeOk_bounds h1
  omega
 have hR : movesS c m s d = (List.range s.threads.length).flatMap (movesT c m s d) := by unfold movesS; rw [if_pos hf]
 rw [hR, nextS_eq hf]
 obtain ⟨AT, hAT⟩ : ∃ AT, AT = allT m s := ⟨_, rfl⟩
 obtain ⟨TM, hTM⟩ : ∃ TM, TM = tryM c m s d := ⟨_, rfl⟩
 obtain ⟨MT, hMT⟩ : ∃ MT, MT = movesT c m s d := ⟨_, rfl⟩
 obtain ⟨NT, hNT⟩ : ∃ NT, NT = nextT c m s d := ⟨_, rfl⟩
 have hall : ∀ i, i < s.threads.length → (AT i).filter (fun x => (TM i x).isSome) = MT i ∧ (AT i).filterMap (TM i) = NT i := fun i hi => by rw [hAT, hTM, hMT, hNT]; exact all_moves hf hi
 have hAT2 : ∀ i, AT i = ⟨1, (i : Int), 0⟩ :: (headsB (s.threads.getD i default).buf m.model).map fun v => (⟨2, (i : Int), v⟩ : MoveD) := fun i => by rw [hAT]; rfl
 have htry : ∀ W (i : Nat) (x : MoveD), Below w.heap.size w W → i < s.threads.length → x.thread = (i : Int) → Calls Tryz.prog 50 #[codeV c cv, machV m, stateV s sv mv, .agg #[.int .i64 x.kind, .int .i64 (i : Int), .int .i64 x.var]] W (TryEnd W (Follows W s sv mv) (TM i x)) := fun W i x hW hi hx => by
  rw [hTM]
  exact ptry_any W c cv d (SliceR.below (RowR.stays d) hc hW) m s sv mv (hs.below hW) hb hf i hi x.kind x.var
 have hfol : ∀ W W2 t (tv yv u1 u2 : Value), Below w.heap.size w W → Follows W s sv mv W2 t tv yv → (∀ k, u1.ownBlock = some k → w.heap.size ≤ k ∧ k < W.heap.size) → (∀ k, u2.ownBlock = some k → w.heap.size ≤ k ∧ k < W.heap.size) → Away (NF F0 u1 u2) W2 (fun y => StateR y t [tv, yv, .bool t.bad]) := by
  intro W W2 t tv yv u1 u2 hW hfo h1 h2
  have h3 := hfo (NF F0 u1 u2) (fun k hk => by
   rcases hk with e | e | e
   ·exact Nat.lt_of_lt_of_le (hF0 k e) hW.size
   ·exact (h1 k e).2
   ·exact (h2 k e).2) (ha.step (Since.of_below hW) (fun k hk => .inr hk) (fun k hk => by
   rcases hk with e | e | e
   ·exact .inl e
   ·exact .inr (h1 k e).1
   ·exact .inr (h2 k e).1))
  exact fun y hy => ⟨tv, yv, rfl, h3 y hy⟩
 rw [← hMT, ← hNT]
 clear hR hMT hNT hAT hTM ha hf
 obtain ⟨ca, cc, rfl, -⟩ := SliceR.slice hc
 obtain ⟨ta, tc0, rfl, -⟩ := SliceR.slice hs.threads
 obtain ⟨ma, mc0, rfl, -⟩ := SliceR.slice hs.mem
 have hT := hs.threads
 obtain ⟨FO, hFO⟩ : ∃ FO : World → World → StateD → Value → Value → Prop, FO = fun W => Follows W s (.slice ta s.threads.length tc0) (.slice ma s.mem.length mc0) := ⟨_, rfl⟩
 have hFOe : ∀ W, Follows W s (.slice ta s.threads.length tc0) (.slice ma s.mem.length mc0) = FO W := fun W => by rw [hFO]
 simp only [hFOe] at htry hfol
 clear hFO hFOe hs hc
 unfold codeV machV stateV at htry ⊢
 obtain ⟨vars, dom, cs⟩ := c
 obtain ⟨mod, bnd⟩ := m
 obtain ⟨ts, mem, bad⟩ := s
 simp only [] at hb hn4 hall hAT2 htry hT ⊢
 obtain ⟨n, hn⟩ : ∃ n, n = ts.length := ⟨_, rfl⟩
 obtain ⟨cn, hcn⟩ : ∃ cn, cn = cs.length := ⟨_, rfl⟩
 obtain ⟨mn, hmn⟩ : ∃ mn, mn = mem.length := ⟨_, rfl⟩
 rw [← hn] at hb hn4 hall htry hT ⊢
 rw [← hmn] at htry ⊢
 rw [← hcn] at htry ⊢
 obtain ⟨hB, h1, h2, h3⟩ := boxes3_all w (.cells #[.int .i64 vars, .int .i64 dom, .slice ca cn cc] 24) (.cells #[.int .i64 mod, .int .i64 bnd] 26) (.cells #[.slice ta n tc0, .slice ma mn mc0, .bool bad] 30)
 have HB := qh hB
 have H1 := qh h1
 have H2 := qh h2
 have H3 := qh h3
 have HT := qh hT
 have HN := qh hn
 have HBU := qh hb
 have HALL := qh hall
 have HAT := qh hAT2
 have HTRY := qh htry
 have HFOL := qh hfol
 obtain ⟨R1, hR1⟩ : ∃ R : List MoveD, R = (List.range n).flatMap MT := ⟨_, rfl⟩
 obtain ⟨R2, hR2⟩ : ∃ R : List StateD, R = (List.range n).flatMap NT := ⟨_, rfl⟩
 rw [← hR1, ← hR2]
 have HR1 := qh hR1
 have HR2 := qh hR2
 clear hn hcn hmn hb hB h1 h2 h3 hT hall hAT2 htry hfol hF0 hR1 hR2
 go_enter Tryz.func49, Tryz.ntmps49
 go_upto_region 1 with fail
 generalize World.alloc (World.alloc (World.alloc w _) _) _ = W at HB H1 H2 H3 ⊢
 obtain ⟨gx, hgx⟩ : ∃ gx, gx = w.heap.size := ⟨_, rfl⟩
 rw [← hgx] at H1 H2 H3 ⊢
 have HGX : Hid (w.heap.size ≤ W.heap.size) := HB.out.size
 clear hgx
 have HCC : Hid (∀ y, Below W.heap.size W y → y.cell? ⟨gx, 0, none⟩ = some (.int .i64 vars) ∧ y.cell? ⟨gx, 1, none⟩ = some (.int .i64 dom) ∧ y.cell? ⟨gx, 2, none⟩ = some (.slice ca cn cc) ∧
   y.cell? ⟨gx + 1, 0, none⟩ = some (.int .i64 mod) ∧ y.cell? ⟨gx + 1, 1, none⟩ = some (.int .i64 bnd) ∧ y.cell? ⟨gx + 2, 0, none⟩ = some (.slice ta n tc0) ∧ y.cell? ⟨gx + 2, 1, none⟩ = some (.slice ma mn mc0) ∧ y.cell? ⟨gx + 2, 2, none⟩ = some (.bool bad)) := fun y hx =>
  ⟨qck hx _ _ (qcb H1.out 0), qck hx _ _ (qcb H1.out 1), qck hx _ _ (qcb H1.out 2), qck hx _ _ (qcb H2.out 0), qck hx _ _ (qcb H2.out 1), qck hx _ _ (qcb H3.out 0), qck hx _ _ (qcb H3.out 1), qck hx _ _ (qcb H3.out 2)⟩
 have HBW : Hid (∀ y, Below W.heap.size W y → Below w.heap.size w y) := fun y hy => HB.out.trans (hy.mono HB.out.size)
 have HN0 : Hid (NextL F0 W W (.slice none 0 0) (.slice none 0 0) [] [] []) := NextL.begin (Below.refl _ _)
 obtain ⟨c0, c1, c2, c3, c4, c5, c6, c7⟩ := HCC.out W (Below.refl _ _)
 clear H1 H2 H3
 go_wp2_with fail
 clear c0 c1 c2 c3 c4 c5 c6 c7
 go_loopg [6, 7, 20] n (fun gg s6 s7 s20 wr => ∃ (i : Nat) (oa : Option Addr) (on oc : Nat) (ml : List MoveD) (na : Option Addr) (nc : Nat) (nl : List StateD) (css : List (List Value)), i ≤ n ∧ Hid (gg = n - i) ∧ s6 = .slice oa on oc ∧ s7 = .slice na on nc ∧ s20 = .int .i64 i ∧ on ≤ 1000001 * i ∧ Hid (NextL F0 W wr (.slice oa on oc) (.slice na on nc) ml nl css) ∧ Hid (ml.length = on ∧ nl.length = on) ∧ Hid (ml = (List.range i).flatMap MT ∧ nl = (List.range i).flatMap NT))
 case atStart => exact ⟨0, none, 0, 0, [], none, 0, [], [], Nat.zero_le _, rfl, rfl, rfl, rfl, by omega, HN0.out, ⟨rfl, rfl⟩, ⟨rfl, rfl⟩⟩
 case round =>
  obtain ⟨i, oa, on, oc, ml, na, nc, nl, css, hi, HG, rfl, rfl, rfl, hon, HL, HON, HML⟩ := hrel
  obtain ⟨wo, rfl⟩ : ∃ wo : World, wo = wr := ⟨_, rfl⟩
  clear HN0
  by_cases hlt : i < n
  rotate_left
  ·obtain rfl : n = i := by omega
   have HEND := qh (HL.out.fin HB.out HON.out.1 HON.out.2)
   have hr1 : R1 = ml := by rw [HR1.out, HML.out.1]
   have hr2 : R2 = nl := by rw [HR2.out, HML.out.2]
   have HQ1 := qh hr1
   have HQ2 := qh hr2
   clear hr1 hr2
   go_wp2_with fail
   go_ret2
   rw [HQ1.out, HQ2.out]
   exact HEND.out
  have hltI : (i : Int) < (n : Int) := by omega
  obtain ⟨tb, to_, ba, bc, hta, -, hrl, x0, x1, x2, x3, x4, x5, hbuf⟩ := ThreadsAt.part HT.out i (by rw [← HN.out]; exact hlt)
  subst hta
  have hbl := HBU.out i hlt
  have hat := HAT.out i
  have hal := HALL.out i hlt
  generalize ts.getD i default = t at x0 x1 x2 x3 x4 x5 hbuf hbl hat hrl
  obtain ⟨pc, regs, buf⟩ := t
  obtain ⟨q0, q1, q2, q3, rfl⟩ := four_of hrl
  simp only [List.getD_cons_zero, List.getD_cons_succ] at x0 x1 x2 x3 x4 x5 hbuf hbl hat
  obtain ⟨hh, hhh⟩ : ∃ hh, hh = headsB buf mod := ⟨_, rfl⟩
  rw [← hhh] at hat
  have hhl : hh.length ≤ 1000000 := by have := headsB_len buf mod; rw [hhh]; omega
  obtain ⟨bl, hbl2⟩ : ∃ bl, bl = buf.length := ⟨_, rfl⟩
  rw [← hbl2] at x5 hbuf
  have HHEADS : Hid (∀ y, Below w.heap.size w y → Calls Tryz.prog 79 #[.slice ba bl bc, .int .i64 mod] y fun e w' => (∃ va vc, e = .returned (.slice va hh.length vc) ∧ w'.ownsRow y.heap.size 3 1 (.slice va hh.length vc) hh.length (flatC intC hh)) ∧ Below y.heap.size y w') := fun y hy =>
   (pheads_own y (.slice ba bl bc) buf (BufAt.below hbuf hy) (by omega) mod).mono fun e w' ⟨⟨sv, he, ho⟩, hb⟩ => by
    rw [← hhh] at ho
    obtain ⟨a, cp, rfl, -⟩ := row_slice ho
    exact ⟨⟨a, cp, he, ho⟩, hb⟩
  obtain ⟨ai, hai⟩ : ∃ ai, ai = AT i := ⟨_, rfl⟩
  rw [← hai] at hat hal
  obtain ⟨hn, hhn⟩ : ∃ hn, hn = hh.length := ⟨_, rfl⟩
  rw [← hhn] at HHEADS hhl
  have HHN := qh hhn
  have HATI := qh hat
  have HALI := qh hal
  have hwo := HBW.out wo HL.out.below
  have y0 := qck hwo _ _ x0
  have y1 := qck hwo _ _ x1
  have y2 := qck hwo _ _ x2
  have y3 := qck hwo _ _ x3
  have y4 := qck hwo _ _ x4
  have y5 := qck hwo _ _ x5
  obtain ⟨-, -, -, -, -, c5, c6, c7⟩ := HCC.out wo HL.out.below
  have HA := qh ((Below.refl wo.heap.size wo).alloc (Nat.le_refl _) (.cells #[.int .i64 pc, .int .i64 q0, .int .i64 q1, .int .i64 q2, .int .i64 q3, .slice ba bl bc] 48))
  have HY := qh (qhn wo (.cells #[.int .i64 pc, .int .i64 q0, .int .i64 q1, .int .i64 q2, .int .i64 q3, .slice ba bl bc] 48))
  clear x0 x1 x2 x3 x4 x5 hbuf hbl hhh hbl2 hat hal hhn hwo hrl hai
  go_upto_region 4 with fail
  clear y0 y1 y2 y3 y4 y5 c5 c6 c7
  generalize World.alloc wo _ = X at HA HY ⊢
  obtain ⟨gl, hgl⟩ : ∃ g, g = wo.heap.size := ⟨_, rfl⟩
  rw [← hgl] at HY ⊢
  clear hgl
  have HLX := qh (HL.out.later HA.out)
  have HA2 := qh ((Below.refl X.heap.size X).alloc (Nat.le_refl _) (.cells #[.int .i64 1, .int .i64 (i : Int), .int .i64 0] 32))
  have HY2 := qh (qhn X (.cells #[.int .i64 1, .int .i64 (i : Int), .int .i64 0] 32))
  clear HL HA
  go_upto_region 5 with fail
  generalize World.alloc X _ = X2 at HA2 HY2 ⊢
  obtain ⟨ga, hga⟩ : ∃ g, g = X.heap.size := ⟨_, rfl⟩
  rw [← hga] at HY2 ⊢
  have HGA : Hid (ga = X.heap.size) := hga
  clear hga
  have HWX : Hid (W.heap.size ≤ X.heap.size) := HLX.out.below.size
  have HLX1 := qh ((HLX.out.less (F1 := fun k => F0 k ∨ X.heap.size ≤ k) (fun _ hk => hk)).later HA2.out)
  have HLX2 := qh (HLX.out.later HA2.out)
  have HRA : Hid (X2.ownsRow X.heap.size 32 3 (.slice (some ⟨ga, 0, none⟩) 1 1) 1 (flatC MoveD.cells [⟨1, (i : Int), 0⟩])) := row_of_block_ (n := 1) (cs := flatC MoveD.cells [⟨1, (i : Int), 0⟩]) HY2.out (by rw [HGA.out]; exact Nat.le_refl _) rfl (by decide)
  have HNEA : Hid (∀ k, (Value.slice oa on oc).ownBlock = some k → (Value.slice (some ⟨ga, 0, none⟩) 1 1).ownBlock ≠ some k) := fun k hk e => by
   have h1 := (HLX.out.row.lt k hk).2
   have h2 : ga = k := by cases e; rfl
   have := HGA.out
   omega
  have d5 : X2.cell? ⟨gl, 5, none⟩ = some (.slice ba bl bc) := qck HA2.out _ _ (qcb HY.out 5)
  obtain ⟨-, -, -, c3, -, -, -, -⟩ := HCC.out X2 HLX2.out.below
  clear HLX HA2 HY HY2
  go_wp2_with (go_at_call 79; go_must (refine (HHEADS.out X2 (HBW.out X2 HLX2.out.below)).mono ?_); rintro e W2 ⟨⟨va, vc, rfl, hhr⟩, hb2⟩; (have HHR := qh hhr); (have HL2 := qh (HLX1.out.later hb2)); (have HRA2 := qh (row_below HRA.out hb2)); (have HG2 : Hid (X.heap.size ≤ W2.heap.size ∧ X2.heap.size ≤ W2.heap.size) := ⟨Nat.le_trans (by have := (HRA.out.lt ga rfl).2; have := HGA.out; omega) hb2.size, hb2.size⟩); clear hb2 hhr)
  clear d5 c3
  have HNHH : Hid (∀ k, (Value.slice (some ⟨ga, 0, none⟩) 1 1).ownBlock = some k → (Value.slice va hn vc).ownBlock ≠ some k) := fun k hk e => by
   have h1 := (HRA.out.lt k hk).2
   have h2 := (HHR.out.lt k e).1
   omega
  clear HLX2 HLX1 HRA HHEADS
  go_loopg [10, 34] hn (fun gg s10 s34 wr => ∃ (k : Nat) (aa : Option Addr) (ac : Nat) (al : List MoveD), k ≤ hn ∧ Hid (gg = hn - k) ∧ s10 = .slice aa (k + 1) ac ∧ s34 = .int .i64 k ∧ Hid (wr.ownsRow X.heap.size 32 3 (.slice aa (k + 1) ac) (k + 1) (flatC MoveD.cells al)) ∧ Hid (al = ⟨1, (i : Int), 0⟩ :: (hh.take k).map (fun v => ⟨2, (i : Int), v⟩)) ∧ Hid (∃ B, wr.ownsRow B 3 1 (.slice va hn vc) hn (flatC intC hh)) ∧ Hid (∀ k', (Value.slice aa (k + 1) ac).ownBlock = some k' → (Value.slice va hn vc).ownBlock ≠ some k') ∧
   Hid (∀ k', (Value.slice oa on oc).ownBlock = some k' → (Value.slice aa (k + 1) ac).ownBlock ≠ some k') ∧ Hid (NextL (fun k => F0 k ∨ X.heap.size ≤ k) W wr (.slice oa on oc) (.slice na on nc) ml nl css) ∧ Hid (X.heap.size ≤ wr.heap.size))
  case atStart => exact ⟨0, some ⟨ga, 0, none⟩, 1, [⟨1, (i : Int), 0⟩], Nat.zero_le _, rfl, rfl, rfl, HRA2.out, by simp [Hid], ⟨_, HHR.out⟩, HNHH.out, HNEA.out, HL2.out, HG2.out.1⟩
  case round =>
   obtain ⟨k, aa, ac, al, hk, HG2', rfl, rfl, HRW, HAL, HHB, HNV, HNA, HLW, HXS⟩ := hrel
   clear HRA2 HHR HNHH HNEA HL2 HG2
   by_cases hkl : k < hn
   ·have hklI : (k : Int) < (hn : Int) := by omega
    obtain ⟨BH, hhr⟩ := HHB.out
    have hrw := hhr
    rw [HHN.out] at hrw
    obtain ⟨b9, o9, hea, -, e1⟩ := IntsAt.part (ints_of hrw) k (by rw [← HHN.out]; exact hkl)
    subst hea
    have HRB := qh hhr
    clear hhr hrw
    have HTK : Hid (hh.take (k + 1) = hh.take k ++ [hh.getD k 0]) := by rw [Hid, List.take_succ_eq_append_getElem (by rw [← HHN.out]; exact hkl), List.getD_eq_getElem?_getD, List.getElem?_eq_getElem (by rw [← HHN.out]; exact hkl)]; rfl
    generalize hh.getD k 0 = v at e1 HTK
    have HPUSH : Hid (∀ (X' : World) (a' : Option Addr) (c' : Nat) (o : Obj), X'.ownsRow X.heap.size 32 3 (.slice a' (k + 1 + 1) c') (k + 1 + 1) (flatC MoveD.cells al ++ MoveD.cells ⟨2, (i : Int), v⟩) → Since (fun x => (Value.slice aa (k + 1) ac).ownBlock = some x) (wr.alloc o) X' → (∀ x, (Value.slice a' (k + 1 + 1) c').ownBlock = some x → (Value.slice aa (k + 1) ac).ownBlock = some x ∨ x = (wr.alloc o).heap.size) →
      X'.ownsRow X.heap.size 32 3 (.slice a' (k + 1 + 1) c') (k + 1 + 1) (flatC MoveD.cells (al ++ [⟨2, (i : Int), v⟩])) ∧ (∃ B, X'.ownsRow B 3 1 (.slice (some ⟨b9, o9, none⟩) hn vc) hn (flatC intC hh)) ∧ (∀ x, (Value.slice a' (k + 1 + 1) c').ownBlock = some x → (Value.slice (some ⟨b9, o9, none⟩) hn vc).ownBlock ≠ some x) ∧
      (∀ x, (Value.slice oa on oc).ownBlock = some x → (Value.slice a' (k + 1 + 1) c').ownBlock ≠ some x) ∧ NextL (fun k => F0 k ∨ X.heap.size ≤ k) W X' (.slice oa on oc) (.slice na on nc) ml nl css ∧ X.heap.size ≤ X'.heap.size) := fun X' a' c' o f1 f4 f5 => by
     obtain ⟨g1, g2⟩ := push_beside HRB.out HNV.out f4 f5
     have hso := HLW.out.side (o := o) HRW.out (fun _ h => .inr h) HWX.out HNA.out f4
     refine ⟨by rw [flat_snoc]; exact f1, ⟨_, g1⟩, g2, fun x hx e => ?_, hso, Nat.le_trans HXS.out (Nat.le_trans (by simp) f4.size)⟩
     rcases f5 x e with e' | e'
     ·exact HNA.out x hx e'
     ·have h1 := (HLW.out.row.lt x hx).2
      simp at e'
      omega
    go_wp2_with (at_builtin; go_must (refine wpList_append_at_ _ rfl _ _ 52 rfl 32 (.agg #[.int .i64 0, .int .i64 0, .int .i64 0]) 3 24 Tryz.underlying52 move_info rfl (by decide) X.heap.size (.slice aa (k + 1) ac) (k + 1) (flatC MoveD.cells al) rfl ((HRW.out).alloc _) ⟨wr.heap.size, 0, none⟩ 1 1 (MoveD.cells ⟨2, i, v⟩) rfl rfl (row_new _ (MoveD.cells ⟨2, i, v⟩) _) (by simp [MoveD.cells, Value.oneCell']) (by unfold maxLen; omega) (by omega) (by have := HXS.out; simp; omega) ?_); intro ja jc Y f1 f2 f3 f4 f5 f6; have HE := qh (HPUSH.out Y ja jc _ f1 f4 f5); clear f1 f2 f3 f4 f5 f6)
    go_roundg (hn - (k + 1))
    case measure => rw [HG2'.out]; omega
    case rel => exact ⟨k + 1, ja, jc, al ++ [(⟨2, (i : Int), v⟩ : MoveD)], by omega, rfl, rfl, by simp, HE.out.1, by rw [Hid, HAL.out, HTK.out]; simp, HE.out.2.1, HE.out.2.2.1, HE.out.2.2.2.1, HE.out.2.2.2.2.1, HE.out.2.2.2.2.2⟩
   obtain rfl : hn = k := by omega
   have HALL2 : Hid (al = ai) := by rw [Hid, HAL.out, HATI.out, HHN.out, List.take_length]
   have hal2 := HALL2.out
   subst hal2
   have HTHR : Hid (∀ k, k < al.length → (al.getD k default).thread = (i : Int)) := fun k hk => by
    have hm : al.getD k default ∈ al := getD_mem hk
    generalize al.getD k default = y at hm
    rw [HATI.out] at hm
    rcases List.mem_cons.1 hm with rfl | hm
    ·rfl
    ·obtain ⟨v, -, rfl⟩ := List.mem_map.1 hm
     rfl
   clear HALL2 HAL HHB HNV HATI
   have hlen : al.length = hn + 1 := by
    have := HRW.out.1
    rw [flatC_len move_len] at this
    omega
   have HLEN := qh hlen
   clear hlen
   go_wp2_with fail
   go_loopg [6, 7, 47] (hn + 1) (fun gg s6 s7 s47 wr => ∃ (k : Nat) (pa : Option Addr) (pn pc' : Nat) (pl : List MoveD) (ra : Option Addr) (rc : Nat) (rl : List StateD) (rss : List (List Value)), k ≤ hn + 1 ∧ Hid (gg = hn + 1 - k) ∧ s6 = .slice pa pn pc' ∧ s7 = .slice ra pn rc ∧ s47 = .int .i64 k ∧ pn ≤ on + k ∧ Hid (NextL F0 W wr (.slice pa pn pc') (.slice ra pn rc) pl rl rss) ∧ Hid (pl.length = pn ∧ rl.length = pn) ∧ Hid (pl = ml ++ (al.take k).filter (fun x => (TM i x).isSome) ∧ rl = nl ++ (al.take k).filterMap (TM i)) ∧
    Hid (wr.ownsRow X.heap.size 32 3 (.slice aa (hn + 1) ac) (hn + 1) (flatC MoveD.cells al)) ∧ Hid (∀ x, (Value.slice pa pn pc').ownBlock = some x → (Value.slice aa (hn + 1) ac).ownBlock ≠ some x))
   case atStart => exact ⟨0, oa, on, oc, ml, na, nc, nl, css, Nat.zero_le _, rfl, rfl, rfl, rfl, by omega, HLW.out.less (fun _ h => .inl (.inl h)), HON.out, by simp [Hid], HRW.out, HNA.out⟩
   case round =>
    obtain ⟨k, pa, pn, pc', pl, ra, rc, rl, rss, hk, HG3, rfl, rfl, rfl, hpn, HLP, HPN, HPL, HRA, HNP⟩ := hrel
    clear HLW HRW HNA
    by_cases hkl : k < hn + 1
    rotate_left
    ·obtain rfl : k = hn + 1 := by omega
     have hst : pl = (List.range (i + 1)).flatMap MT ∧ rl = (List.range (i + 1)).flatMap NT := by
      have e : al.take (hn + 1) = al := by rw [← HLEN.out, List.take_length]
      rw [range_flat, range_flat, ← HML.out.1, ← HML.out.2, HPL.out.1, HPL.out.2, e, HALI.out.1, HALI.out.2]
      exact ⟨rfl, rfl⟩
     have HST := qh hst
     clear hst
     go_wp2_with fail
     go_roundg (n - (i + 1))
     case measure => rw [HG.out]; omega
     case rel => exact ⟨i + 1, pa, pn, pc', pl, ra, rc, rl, rss, by omega, rfl, rfl, rfl, by simp, by omega, HLP.out, HPN.out, HST.out⟩
    have hklI : (k : Int) < ((hn : Int) + 1) := by omega
    have hra := HRA.out
    have hra2 : wr.ownsRow X.heap.size 32 3 (.slice aa (hn + 1) ac) al.length (flatC MoveD.cells al) := by rw [HLEN.out]; exact hra
    obtain ⟨b9, o9, hea, -, e1, e2, e3⟩ := MovesAt.part (by have := moves_of hra2; exact this) k (by rw [HLEN.out]; exact hkl)
    subst hea
    have htk := filter_take (l := al) (k := k) (by rw [HLEN.out]; exact hkl) (fun x => (TM i x).isSome)
    have htk2 := filterMap_take (l := al) (k := k) (by rw [HLEN.out]; exact hkl) (TM i)
    have hth : (al.getD k default).thread = (i : Int) := HTHR.out k (by rw [HLEN.out]; exact hkl)
    obtain ⟨x, hx⟩ : ∃ x, x = al.getD k default := ⟨_, rfl⟩
    rw [← hx] at e1 e2 e3 htk htk2 hth
    rw [hth] at e2
    have htr := fun y hy => HTRY.out y i x hy hlt hth
    have hxe : MoveD.cells x = [.int .i64 x.kind, .int .i64 (i : Int), .int .i64 x.var] := by unfold MoveD.cells; rw [hth]
    obtain ⟨tr, htr0⟩ : ∃ r, r = TM i x := ⟨_, rfl⟩
    rw [← htr0] at htk htk2 htr
    obtain ⟨xk, hxk⟩ : ∃ q, q = x.kind := ⟨_, rfl⟩
    obtain ⟨xv, hxv⟩ : ∃ q, q = x.var := ⟨_, rfl⟩
    rw [← hxk] at e1 htr
    rw [← hxv] at e3 htr
    rw [← hxk, ← hxv] at hxe
    have HTR := qh htr
    have HTK := qh htk
    have HTK2 := qh htk2
    have HCX := qh hxe
    have HA := qh ((Below.refl wr.heap.size wr).alloc (Nat.le_refl _) (.cells #[.int .i64 xk, .int .i64 (i : Int), .int .i64 xv] 32))
    have HY := qh (qhn wr (.cells #[.int .i64 xk, .int .i64 (i : Int), .int .i64 xv] 32))
    clear hra hra2 htk htk2 hth hx htr hxe htr0 hxk hxv
    go_upto_region 13 with fail
    clear e1 e2 e3
    generalize World.alloc wr _ = Y at HA HY ⊢
    obtain ⟨gm, hgm⟩ : ∃ g, g = wr.heap.size := ⟨_, rfl⟩
    rw [← hgm] at HY ⊢
    have HGM := qh hgm
    clear hgm
    have HNM : Hid (∀ x, (Value.slice pa pn pc').ownBlock = some x ∨ (Value.slice ra pn rc).ownBlock = some x → x < gm) := fun x hx => by
     rw [HGM.out]
     rcases hx with e | e
     ·exact (HLP.out.row.lt x e).2
     ·exact (HLP.out.st.row.lt x e).2
    have HLY := qh (HLP.out.later HA.out)
    have HRY := qh (row_below HRA.out HA.out)
    obtain ⟨c0, c1, c2, c3, c4, c5, c6, c7⟩ := HCC.out Y HLY.out.below
    have d0 : Y.cell? ⟨gm, 0, none⟩ = some (.int .i64 xk) := qcb HY.out 0
    have d1 : Y.cell? ⟨gm, 1, none⟩ = some (.int .i64 (i : Int)) := qcb HY.out 1
    have d2 : Y.cell? ⟨gm, 2, none⟩ = some (.int .i64 xv) := qcb HY.out 2
    clear HLP HRA
    go_upto_if 59 with (go_at_call 50; go_must (refine (HTR.out Y (HBW.out Y HLY.out.below)).mono ?_); rintro e Z htre; (obtain ⟨xa, xn, xc, ya, yn, yc, bd, isv, rfl, htr2⟩ := htre.told); (have HZ := qh htre.1); (have HTE := qh htr2); clear htre htr2 c0 c1 c2 c3 c4 c5 c6 c7 d0 d1 d2)
    have HLZ := qh (HLY.out.later HZ.out)
    have HRZ := qh (row_below HRY.out HZ.out)
    have HGZ : Hid (Z.heap[gm]? = some (.cells #[.int .i64 xk, .int .i64 (i : Int), .int .i64 xv] 32 (0, 0))) := (HZ.out.block gm (qlb HY.out)).trans HY.out
    have HA4 := qh ((Below.refl Z.heap.size Z).alloc (Nat.le_refl _) (.cells #[.slice xa xn xc, .slice ya yn yc, .bool bd] 30))
    have HY4 := qh (qhn Z (.cells #[.slice xa xn xc, .slice ya yn yc, .bool bd] 30))
    have HU1 : Hid (∀ x, (Value.slice pa pn pc').ownBlock = some x → w.heap.size ≤ x ∧ x < Y.heap.size) := fun x hx => by
     have := HLY.out.row.lt x hx
     have := HGX.out
     omega
    have HU2 : Hid (∀ x, (Value.slice ra pn rc).ownBlock = some x → w.heap.size ≤ x ∧ x < Y.heap.size) := fun x hx => by
     have := HLY.out.st.row.lt x hx
     have := HGX.out
     omega
    have HAW : Hid (∀ t, tr = some t → bd = t.bad ∧ Away (NF F0 (.slice pa pn pc') (.slice ra pn rc)) Z (fun y => StateR y t [.slice xa xn xc, .slice ya yn yc, .bool bd])) := fun t ht => by
     obtain ⟨e1, e2⟩ := HTE.out.2 t ht
     subst e1
     exact ⟨rfl, HFOL.out Y Z t _ _ _ _ (HBW.out Y HLY.out.below) e2 HU1.out HU2.out⟩
    have HIS := qh HTE.out.1
    clear HTE HU1 HU2 HLY HRY HY HA
    generalize World.alloc Z _ = V at HA4 HY4 ⊢
    obtain ⟨gt, hgt⟩ : ∃ g, g = Z.heap.size := ⟨_, rfl⟩
    rw [← hgt] at HY4 ⊢
    have hgg : gm < gt := by rw [hgt]; exact qlb HGZ.out
    have HNEV : Hid (¬ ((Value.slice pa pn pc').ownBlock = some gm ∨ (Value.slice ra pn rc).ownBlock = some gm) ∧ ¬ ((Value.slice pa pn pc').ownBlock = some gt ∨ (Value.slice ra pn rc).ownBlock = some gt)) := ⟨fun e => by have := HNM.out gm e; omega, fun e => by have := HNM.out gt e; omega⟩
    clear hgt hgg HNM
    have HLV := qh (HLZ.out.later HA4.out)
    have HRV := qh (row_below HRZ.out HA4.out)
    have HGV : Hid (V.heap[gm]? = some (.cells #[.int .i64 xk, .int .i64 (i : Int), .int .i64 xv] 32 (0, 0))) := (HA4.out.block gm (qlb HGZ.out)).trans HGZ.out
    have HAWV : Hid (∀ t, tr = some t → Away (NF F0 (.slice pa pn pc') (.slice ra pn rc)) V (fun y => StateR y t [.slice xa xn xc, .slice ya yn yc, .bool bd])) := fun t ht => (HAW.out t ht).2.step (G := fun _ => False) (since_of _ HA4.out) (fun _ h => h.elim) (fun _ hk => .inl hk)
    clear HAW HLZ HRZ HGZ HA4 HZ
    cases tr with
    | none =>
     have his := HIS.out
     simp only [Option.isSome_none] at his
     subst his
     go_wp2_with fail
     go_roundg (hn + 1 - (k + 1))
     case measure => rw [HG3.out]; omega
     case rel => exact ⟨k + 1, pa, pn, pc', pl, ra, rc, rl, rss, by omega, rfl, rfl, rfl, by simp, by omega, HLV.out, HPN.out, ⟨by rw [HPL.out.1, HTK.out]; simp, by rw [HPL.out.2, HTK2.out]; simp⟩, HRV.out, HNP.out⟩
    | some t =>
     have his := HIS.out
     simp only [Option.isSome_some] at his
     subst his
     have haw := HAWV.out t rfl
     have HAWT := qh haw
     clear haw
     have hpl1 := HPN.out.1
     have hpl2 := HPN.out.2
     go_wp2_with fail
     have CC : Hid (∀ y, Since (fun x => (Value.slice pa pn pc').ownBlock = some x ∨ (Value.slice ra pn rc).ownBlock = some x) V y → y.cell? ⟨gm, 0, none⟩ = some (.int .i64 xk) ∧ y.cell? ⟨gm, 1, none⟩ = some (.int .i64 (i : Int)) ∧ y.cell? ⟨gm, 2, none⟩ = some (.int .i64 xv) ∧ y.cell? ⟨gt, 0, none⟩ = some (.slice xa xn xc) ∧ y.cell? ⟨gt, 1, none⟩ = some (.slice ya yn yc) ∧ y.cell? ⟨gt, 2, none⟩ = some (.bool bd)) := fun y hy => by
      have hm : ¬ ((Value.slice pa pn pc').ownBlock = some gm ∨ (Value.slice ra pn rc).ownBlock = some gm) := HNEV.out.1
      have ht : ¬ ((Value.slice pa pn pc').ownBlock = some gt ∨ (Value.slice ra pn rc).ownBlock = some gt) := HNEV.out.2
      have h1 := (hy.block gm (qlb HGV.out) hm).trans HGV.out
      have h2 := (hy.block gt (qlb HY4.out) ht).trans HY4.out
      exact ⟨qcb h1 0, qcb h1 1, qcb h1 2, qcb h2 0, qcb h2 1, qcb h2 2⟩
     refine wp_region_noPanic ?_
     refine wp_region_held_drew (S := fun y => Since (fun x => (Value.slice pa pn pc').ownBlock = some x ∨ (Value.slice ra pn rc).ownBlock = some x) V y) (by kernel_rfl) (Since.refl _ _).drew (fun _ => ?_)
     have hT0 := qh (TwoG.start (B := W.heap.size) (by have := HLV.out.row; rw [hpl1] at this; exact this) (by have := HLV.out.st.row; rw [hpl2] at this; exact this) HLV.out.below.size)
     obtain ⟨V1, hV1⟩ : ∃ V1, V1 = V.drew := ⟨_, rfl⟩
     rw [← hV1] at hT0 ⊢
     clear hV1
     refine qtk 0 60 ?vn1 rfl ?hyn1 (hT0.out.since) ?_
     case hyn1 => (intro _ _; go_simp <;> rfl)
     simp only [Act.put, qz1, qz2, qz3]
     refine qtk 1 61 ?vn2 rfl ?hyn2 (hT0.out.since) ?_
     case hyn2 => (intro x h; have e := CC.out x h; go_simp <;> rfl)
     simp only [Act.put, qz1, qz2, qz3]
     refine qtk 4 64 ?vn3 rfl ?hyn3 (hT0.out.since) ?_
     case hyn3 => (intro _ _; go_simp <;> rfl)
     simp only [Act.put, qz1, qz2, qz3]
     refine qtk 5 65 ?vn4 rfl ?hyn4 (hT0.out.since) ?_
     case hyn4 => (intro x h; have e := CC.out x h; go_simp <;> rfl)
     simp only [Act.put, qz1, qz2, qz3]
     refine wpAnyH_ready (rs := [2, 6]) (by kernel_rfl) (by simp) ?_
     refine AllReadyH.cons rfl (fun K hK => ?_) (AllReadyH.cons rfl (fun K hK => ?_) AllReadyH.nil)
     ·skip
      go_simp
      have hTn1 := hT0.out.alloc 32 [.int .i64 xk, .int .i64 (i : Int), .int .i64 xv]
      refine hK.out _ _ hTn1.since (fun _ => ?_)
      obtain ⟨nb1, hnb1⟩ : ∃ n, n = V1.heap.size := ⟨_, rfl⟩
      rw [← hnb1] at hTn1 ⊢
      clear hnb1
      generalize World.alloc V1 _ = Xn2 at hTn1 ⊢
      replace hTn1 := qh hTn1
      clear hK K
      refine wpAnyH_ready (rs := [3, 6]) (by kernel_rfl) (by simp) ?_
      refine AllReadyH.cons rfl (fun K hK => ?_) (AllReadyH.cons rfl (fun K hK => ?_) AllReadyH.nil)
      ·skip
       refine step_append_where_ Xn2 (by rfl) (.tmp 60) (.tmp 62) 52 rfl 32 (.agg #[.int .i64 0, .int .i64 0, .int .i64 0]) 3 24 Tryz.underlying52 move_info rfl (by decide) W.heap.size (.slice pa pn pc') pn (flatC MoveD.cells pl) (by rfl) hTn1.out.r1 ⟨nb1, 0, none⟩ 1 1 [.int .i64 xk, .int .i64 (i : Int), .int .i64 xv] (by rfl) rfl (hTn1.out.cell (b := nb1) (t := 32) (cs := [.int .i64 xk, .int .i64 (i : Int), .int .i64 xv]) (by simp)) (by simp [Value.oneCell']) (by unfold maxLen; omega) (by omega) hTn1.out.base ?_
       intro ma' mc' Xn4 e1 e2 e3 e4 e5
       have hTn3 := qh (hTn1.out.app1 (by decide) e1 e4 e5)
       clear e1 e2 e3 e4 e5
       refine hK.out _ _ hTn3.out.since (fun _ => ?_)
       change wpAnyH _ _ _ _ _ _ _ (Act.put _ (some 63) _) _
       simp only [Act.put, qz1]
       try simp only [qz2, qz3]
       clear hK K
       refine qrH 6 rfl (fun K hK => ?_)
       go_simp
       have hTn5 := hTn3.out.alloc 30 [.slice xa xn xc, .slice ya yn yc, .bool bd]
       refine hK.out _ _ hTn5.since (fun _ => ?_)
       obtain ⟨nb2, hnb2⟩ : ∃ n, n = Xn4.heap.size := ⟨_, rfl⟩
       rw [← hnb2] at hTn5 ⊢
       clear hnb2
       generalize World.alloc Xn4 _ = Xn6 at hTn5 ⊢
       replace hTn5 := qh hTn5
       clear hK K
       refine qrH 7 rfl (fun K hK => ?_)
       refine step_append_where_ Xn6 (by rfl) (.tmp 64) (.tmp 66) 67 rfl 30 (.agg #[.slice none 0 0, .slice none 0 0, .bool false]) 3 56 Tryz.underlying67 state_info rfl (by decide) W.heap.size (.slice ra pn rc) pn rss.flatten (by rfl) hTn5.out.r2 ⟨nb2, 0, none⟩ 1 1 [.slice xa xn xc, .slice ya yn yc, .bool bd] (by rfl) rfl (hTn5.out.cell (b := nb2) (t := 30) (cs := [.slice xa xn xc, .slice ya yn yc, .bool bd]) (by simp)) (by simp [Value.oneCell']) (by unfold maxLen; omega) (by omega) hTn5.out.base ?_
       intro ra' rc' Xn8 e1 e2 e3 e4 e5
       have hTn7 := qh (hTn5.out.app2 (by decide) e1 e4 e5)
       clear e1 e2 e3 e4 e5
       refine hK.out _ _ hTn7.out.since (fun _ => ?_)
       change wpAnyH _ _ _ _ _ _ _ (Act.put _ (some 67) _) _
       simp only [Act.put, qz1]
       try simp only [qz2, qz3]
       clear hK K
       refine qtk 8 6 ?vn5 rfl ?hyn5 (hTn7.out.since) ?_
       case hyn5 => (intro _ _; go_simp <;> rfl)
       simp only [Act.put, qz1, qz2, qz3]
       refine qtk 9 7 ?vn6 rfl ?hyn6 (hTn7.out.since) ?_
       case hyn6 => (intro _ _; go_simp <;> rfl)
       simp only [Act.put, qz1, qz2, qz3]
       refine wpAnyH_done (by kernel_rfl) ?_ _
       refine NoPanic.normal ?_
       have HE := qh (HLV.out.push (x := x) (t := t) (cs := [.slice xa xn xc, .slice ya yn yc, .bool bd]) (by rw [hpl1, hpl2, HCX.out]; exact hTn7.out) HAWT.out rfl)
       have HE2 := qh (HLV.out.beside HRV.out HNP.out hTn7.out)
       go_wp2_with fail
       go_roundg (hn + 1 - (k + 1))
       case measure => rw [HG3.out]; omega
       case rel => exact ⟨k + 1, ma', pn + 1, mc', pl ++ [x], ra', rc', rl ++ [t], rss ++ [[Value.slice xa xn xc, Value.slice ya yn yc, Value.bool bd]], by omega, rfl, rfl, rfl, by simp, by omega, HE.out, ⟨by rw [List.length_append, hpl1]; rfl, by rw [List.length_append, hpl2]; rfl⟩, ⟨by rw [HPL.out.1, HTK.out, List.append_assoc]; rfl, by rw [HPL.out.2, HTK2.out, List.append_assoc]⟩, HE2.out.1, HE2.out.2⟩
      ·skip
       go_simp
       have hTn9 := hTn1.out.alloc 30 [.slice xa xn xc, .slice ya yn yc, .bool bd]
       refine hK.out _ _ hTn9.since (fun _ => ?_)
       obtain ⟨nb2, hnb2⟩ : ∃ n, n = Xn2.heap.size := ⟨_, rfl⟩
       rw [← hnb2] at hTn9 ⊢
       clear hnb2
       generalize World.alloc Xn2 _ = Xn10 at hTn9 ⊢
       replace hTn9 := qh hTn9
       clear hK K
       refine qrH 3 rfl (fun K hK => ?_)
       refine step_append_where_ Xn10 (by rfl) (.tmp 60) (.tmp 62) 52 rfl 32 (.agg #[.int .i64 0, .int .i64 0, .int .i64 0]) 3 24 Tryz.underlying52 move_info rfl (by decide) W.heap.size (.slice pa pn pc') pn (flatC MoveD.cells pl) (by rfl) hTn9.out.r1 ⟨nb1, 0, none⟩ 1 1 [.int .i64 xk, .int .i64 (i : Int), .int .i64 xv] (by rfl) rfl (hTn9.out.cell (b := nb1) (t := 32) (cs := [.int .i64 xk, .int .i64 (i : Int), .int .i64 xv]) (by simp)) (by simp [Value.oneCell']) (by unfold maxLen; omega) (by omega) hTn9.out.base ?_
       intro ma' mc' Xn12 e1 e2 e3 e4 e5
       have hTn11 := qh (hTn9.out.app1 (by decide) e1 e4 e5)
       clear e1 e2 e3 e4 e5
       refine hK.out _ _ hTn11.out.since (fun _ => ?_)
       change wpAnyH _ _ _ _ _ _ _ (Act.put _ (some 63) _) _
       simp only [Act.put, qz1]
       try simp only [qz2, qz3]
       clear hK K
       refine qrH 7 rfl (fun K hK => ?_)
       refine step_append_where_ Xn12 (by rfl) (.tmp 64) (.tmp 66) 67 rfl 30 (.agg #[.slice none 0 0, .slice none 0 0, .bool false]) 3 56 Tryz.underlying67 state_info rfl (by decide) W.heap.size (.slice ra pn rc) pn rss.flatten (by rfl) hTn11.out.r2 ⟨nb2, 0, none⟩ 1 1 [.slice xa xn xc, .slice ya yn yc, .bool bd] (by rfl) rfl (hTn11.out.cell (b := nb2) (t := 30) (cs := [.slice xa xn xc, .slice ya yn yc, .bool bd]) (by simp)) (by simp [Value.oneCell']) (by unfold maxLen; omega) (by omega) hTn11.out.base ?_
       intro ra' rc' Xn14 e1 e2 e3 e4 e5
       have hTn13 := qh (hTn11.out.app2 (by decide) e1 e4 e5)
       clear e1 e2 e3 e4 e5
       refine hK.out _ _ hTn13.out.since (fun _ => ?_)
       change wpAnyH _ _ _ _ _ _ _ (Act.put _ (some 67) _) _
       simp only [Act.put, qz1]
       try simp only [qz2, qz3]
       clear hK K
       refine qtk 8 6 ?vn7 rfl ?hyn7 (hTn13.out.since) ?_
       case hyn7 => (intro _ _; go_simp <;> rfl)
       simp only [Act.put, qz1, qz2, qz3]
       refine qtk 9 7 ?vn8 rfl ?hyn8 (hTn13.out.since) ?_
       case hyn8 => (intro _ _; go_simp <;> rfl)
       simp only [Act.put, qz1, qz2, qz3]
       refine wpAnyH_done (by kernel_rfl) ?_ _
       refine NoPanic.normal ?_
       have HE := qh (HLV.out.push (x := x) (t := t) (cs := [.slice xa xn xc, .slice ya yn yc, .bool bd]) (by rw [hpl1, hpl2, HCX.out]; exact hTn13.out) HAWT.out rfl)
       have HE2 := qh (HLV.out.beside HRV.out HNP.out hTn13.out)
       go_wp2_with fail
       go_roundg (hn + 1 - (k + 1))
       case measure => rw [HG3.out]; omega
       case rel => exact ⟨k + 1, ma', pn + 1, mc', pl ++ [x], ra', rc', rl ++ [t], rss ++ [[Value.slice xa xn xc, Value.slice ya yn yc, Value.bool bd]], by omega, rfl, rfl, rfl, by simp, by omega, HE.out, ⟨by rw [List.length_append, hpl1]; rfl, by rw [List.length_append, hpl2]; rfl⟩, ⟨by rw [HPL.out.1, HTK.out, List.append_assoc]; rfl, by rw [HPL.out.2, HTK2.out, List.append_assoc]⟩, HE2.out.1, HE2.out.2⟩
     ·skip
      go_simp
      have hTn15 := hT0.out.alloc 30 [.slice xa xn xc, .slice ya yn yc, .bool bd]
      refine hK.out _ _ hTn15.since (fun _ => ?_)
      obtain ⟨nb2, hnb2⟩ : ∃ n, n = V1.heap.size := ⟨_, rfl⟩
      rw [← hnb2] at hTn15 ⊢
      clear hnb2
      generalize World.alloc V1 _ = Xn16 at hTn15 ⊢
      replace hTn15 := qh hTn15
      clear hK K
      refine qrH 2 rfl (fun K hK => ?_)
      go_simp
      have hTn17 := hTn15.out.alloc 32 [.int .i64 xk, .int .i64 (i : Int), .int .i64 xv]
      refine hK.out _ _ hTn17.since (fun _ => ?_)
      obtain ⟨nb1, hnb1⟩ : ∃ n, n = Xn16.heap.size := ⟨_, rfl⟩
      rw [← hnb1] at hTn17 ⊢
      clear hnb1
      generalize World.alloc Xn16 _ = Xn18 at hTn17 ⊢
      replace hTn17 := qh hTn17
      clear hK K
      refine qrH 3 rfl (fun K hK => ?_)
      refine step_append_where_ Xn18 (by rfl) (.tmp 60) (.tmp 62) 52 rfl 32 (.agg #[.int .i64 0, .int .i64 0, .int .i64 0]) 3 24 Tryz.underlying52 move_info rfl (by decide) W.heap.size (.slice pa pn pc') pn (flatC MoveD.cells pl) (by rfl) hTn17.out.r1 ⟨nb1, 0, none⟩ 1 1 [.int .i64 xk, .int .i64 (i : Int), .int .i64 xv] (by rfl) rfl (hTn17.out.cell (b := nb1) (t := 32) (cs := [.int .i64 xk, .int .i64 (i : Int), .int .i64 xv]) (by simp)) (by simp [Value.oneCell']) (by unfold maxLen; omega) (by omega) hTn17.out.base ?_
      intro ma' mc' Xn20 e1 e2 e3 e4 e5
      have hTn19 := qh (hTn17.out.app1 (by decide) e1 e4 e5)
      clear e1 e2 e3 e4 e5
      refine hK.out _ _ hTn19.out.since (fun _ => ?_)
      change wpAnyH _ _ _ _ _ _ _ (Act.put _ (some 63) _) _
      simp only [Act.put, qz1]
      try simp only [qz2, qz3]
      clear hK K
      refine qrH 7 rfl (fun K hK => ?_)
      refine step_append_where_ Xn20 (by rfl) (.tmp 64) (.tmp 66) 67 rfl 30 (.agg #[.slice none 0 0, .slice none 0 0, .bool false]) 3 56 Tryz.underlying67 state_info rfl (by decide) W.heap.size (.slice ra pn rc) pn rss.flatten (by rfl) hTn19.out.r2 ⟨nb2, 0, none⟩ 1 1 [.slice xa xn xc, .slice ya yn yc, .bool bd] (by rfl) rfl (hTn19.out.cell (b := nb2) (t := 30) (cs := [.slice xa xn xc, .slice ya yn yc, .bool bd]) (by simp)) (by simp [Value.oneCell']) (by unfold maxLen; omega) (by omega) hTn19.out.base ?_
      intro ra' rc' Xn22 e1 e2 e3 e4 e5
      have hTn21 := qh (hTn19.out.app2 (by decide) e1 e4 e5)
      clear e1 e2 e3 e4 e5
      refine hK.out _ _ hTn21.out.since (fun _ => ?_)
      change wpAnyH _ _ _ _ _ _ _ (Act.put _ (some 67) _) _
      simp only [Act.put, qz1]
      try simp only [qz2, qz3]
      clear hK K
      refine qtk 8 6 ?vn9 rfl ?hyn9 (hTn21.out.since) ?_
      case hyn9 => (intro _ _; go_simp <;> rfl)
      simp only [Act.put, qz1, qz2, qz3]
      refine qtk 9 7 ?vn10 rfl ?hyn10 (hTn21.out.since) ?_
      case hyn10 => (intro _ _; go_simp <;> rfl)
      simp only [Act.put, qz1, qz2, qz3]
      refine wpAnyH_done (by kernel_rfl) ?_ _
      refine NoPanic.normal ?_
      have HE := qh (HLV.out.push (x := x) (t := t) (cs := [.slice xa xn xc, .slice ya yn yc, .bool bd]) (by rw [hpl1, hpl2, HCX.out]; exact hTn21.out) HAWT.out rfl)
      have HE2 := qh (HLV.out.beside HRV.out HNP.out hTn21.out)
      go_wp2_with fail
      go_roundg (hn + 1 - (k + 1))
      case measure => rw [HG3.out]; omega
      case rel => exact ⟨k + 1, ma', pn + 1, mc', pl ++ [x], ra', rc', rl ++ [t], rss ++ [[Value.slice xa xn xc, Value.slice ya yn yc, Value.bool bd]], by omega, rfl, rfl, rfl, by simp, by omega, HE.out, ⟨by rw [List.length_append, hpl1]; rfl, by rw [List.length_append, hpl2]; rfl⟩, ⟨by rw [HPL.out.1, HTK.out, List.append_assoc]; rfl, by rw [HPL.out.2, HTK2.out, List.append_assoc]⟩, HE2.out.1, HE2.out.2⟩
end Go.Proofs.YtliajkheeniljaaGreatDoor
