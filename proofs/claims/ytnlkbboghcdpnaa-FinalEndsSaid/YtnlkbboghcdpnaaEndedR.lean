/- Does nothing wait; have all ended: the program's and the document's answer: the walks. Have all ended: the program's answer: the walk. Does nothing wait; have all ended: the document's answer: the walks. -/
import Derived.Test.YtnlkbboghcdpnaaFinP
import Derived.Deep.CutBlock
import Derived.Test.YtnlkbboghcdpnaaFits
namespace Go.Proofs.Ytnlkbboghcdpnaa
open Go.RowKit

set_option maxRecDepth 100000 in
set_option maxHeartbeats 2000000 in
theorem clear1_any (w : World) (pc r0 r1 r2 r3 : Int) (ba : Option Addr) (bl bc : Nat) : Calls Try.prog 26 #[.agg #[.int .i64 pc, .int .i64 r0, .int .i64 r1, .int .i64 r2, .int .i64 r3, .slice ba bl bc]] w fun e w' => e = .returned (.bool (decide (0 < bl))) ∧ Below w.heap.size w w' := by
  have hd : decide ((0 : Int) < (bl : Int)) = decide (0 < bl) := by simp
  have HD := Lib.hid hd
  clear hd
  go_enter Try.func26, Try.ntmps26
  go_wp2_with fail
  go_ret
  exact ⟨by first | rfl | (simp; done) | (rw [← HD.out]; rfl), (Below.refl _ _).alloc (Nat.le_refl _) _⟩
/-- A place, or none. -/
def WaitR (r : Int) (all : Bool) : Prop := (0 ≤ r ∧ all = false) ∨ (r < 0 ∧ all = true)
theorem wait_yes {l : List ThreadD} {i : Nat} (hi : i < l.length) (_h : ∀ j, j < i → (l.getD j default).buf.length = 0) (he : 0 < (l.getD i default).buf.length) : (l.all fun t => decide (t.buf.length = 0)) = false := by
  rw [List.all_eq_false]
  refine ⟨l.getD i default, ?_, by rw [decide_eq_false (by omega)]; simp⟩
  rw [List.getD_eq_getElem?_getD, List.getElem?_eq_getElem hi]; exact List.getElem_mem hi
theorem wait_no {l : List ThreadD} (h : ∀ j, j < l.length → (l.getD j default).buf.length = 0) : (l.all fun t => decide (t.buf.length = 0)) = true := by
  rw [List.all_eq_true]
  intro t ht
  obtain ⟨j, hj, e⟩ := List.getElem_of_mem ht
  have := h j hj
  rw [List.getD_eq_getElem?_getD, List.getElem?_eq_getElem hj] at this
  simp only [Option.getD_some, e] at this
  simp [this]
set_option maxRecDepth 100000 in
set_option maxHeartbeats 2000000 in
theorem indexFunc_any (w : World) (sv : Value) (l : List ThreadD) (h : ThreadsAt w sv l) : Calls Try.prog 45 #[sv, .func (.func 26) #[] #[]] w fun e w' => (∃ r : Int, e = .returned (.int .i64 r) ∧ WaitR r (l.all fun t => decide (t.buf.length = 0))) ∧ Below w.heap.size w w' := by
  obtain ⟨ta, tc, rfl, htl⟩ := SliceR.slice h
  have HYES : Hid (∀ i, i < l.length → (∀ j, j < i → (l.getD j default).buf.length = 0) → 0 < (l.getD i default).buf.length → (l.all fun t => decide (t.buf.length = 0)) = false) := fun i hi h1 h2 => wait_yes hi h1 h2
  have HNO : Hid ((∀ j, j < l.length → (l.getD j default).buf.length = 0) → (l.all fun t => decide (t.buf.length = 0)) = true) := fun h => wait_no h
  generalize (l.all fun t => decide (t.buf.length = 0)) = all at HYES HNO ⊢
  obtain ⟨n, hn⟩ : ∃ n, n = l.length := ⟨_, rfl⟩
  rw [← hn] at h htl HYES HNO ⊢
  have HT := Lib.hid h
  have HN := Lib.hid hn
  clear h hn
  go_enter Try.func45, Try.ntmps45
  go_wp2_with fail
  go_loopg [8] n (fun gg s8 wr => ∃ i : Nat, i ≤ n ∧ Hid (gg = n - i) ∧ s8 = .int .i64 i ∧ Hid (Below w.heap.size w wr) ∧ Hid (∀ j, j < i → (l.getD j default).buf.length = 0))
  case atStart => exact ⟨0, Nat.zero_le _, rfl, rfl, Below.refl _ _, fun j hj => by omega⟩
  case round =>
    obtain ⟨i, hi, HG, rfl, HBR, HJ⟩ := hrel
    by_cases hlt : i < n
    · have hltI : (i : Int) < (n : Int) := by omega
      obtain ⟨b, off, ba, bc, hea, -, hr4, x0, x1, x2, x3, x4, x5, -⟩ := ThreadsAt.part HT.out i (by rw [← HN.out]; exact hlt)
      subst hea
      have HY : Hid (0 < (l.getD i default).buf.length → all = false) := fun h => HYES.out i hlt HJ.out h
      have HZ : Hid ((l.getD i default).buf.length = 0 → ∀ j, j < i + 1 → (l.getD j default).buf.length = 0) := fun e j hj => by
        by_cases he : j = i
        · subst he; exact e
        · exact HJ.out j (by omega)
      generalize l.getD i default = t at x0 x1 x2 x3 x4 x5 hr4 HY HZ
      obtain ⟨pc, rg, bf⟩ := t
      simp only [] at x0 x1 x2 x3 x4 x5 hr4 HY HZ
      generalize bf.length = bl at x5 HY HZ
      replace x0 := cells_kept HBR.out _ _ x0
      replace x1 := cells_kept HBR.out _ _ x1
      replace x2 := cells_kept HBR.out _ _ x2
      replace x3 := cells_kept HBR.out _ _ x3
      replace x4 := cells_kept HBR.out _ _ x4
      replace x5 := cells_kept HBR.out _ _ x5
      by_cases hbl : 0 < bl
      · obtain rfl := HY.out hbl
        have hd : decide (0 < bl) = true := decide_eq_true hbl
        go_wp2_with (go_at_call 26; go_must (refine (clear1_any _ _ _ _ _ _ _ _ _).mono ?_); rintro e w1 ⟨rfl, hb⟩; have HB1 := Lib.hid hb; clear hb)
        go_ret
        exact ⟨⟨i, by first | rfl | simp, .inl ⟨by omega, rfl⟩⟩, below_then HBR.out HB1.out⟩
      · have hd : decide (0 < bl) = false := decide_eq_false hbl
        have HZ2 := Lib.hid (HZ.out (by omega))
        go_wp2_with (go_at_call 26; go_must (refine (clear1_any _ _ _ _ _ _ _ _ _).mono ?_); rintro e w1 ⟨rfl, hb⟩; have HB1 := Lib.hid hb; clear hb)
        go_roundg (n - (i + 1))
        case measure => rw [HG.out]; omega
        case rel => exact ⟨i + 1, by omega, rfl, by simp, below_then HBR.out HB1.out, HZ2.out⟩
    · obtain rfl : n = i := by omega
      obtain rfl := HNO.out HJ.out
      go_wp2_with fail
      go_ret
      exact ⟨⟨-1, by first | rfl | simp, .inr ⟨by omega, rfl⟩⟩, HBR.out⟩
set_option maxRecDepth 100000 in
set_option maxHeartbeats 2000000 in
theorem containsFunc_any (w : World) (sv : Value) (l : List ThreadD) (h : ThreadsAt w sv l) : Calls Try.prog 25 #[sv, .func (.func 26) #[] #[]] w fun e w' => e = .returned (.bool (!(l.all fun t => decide (t.buf.length = 0)))) ∧ Below w.heap.size w w' := by
  have hi := indexFunc_any w sv l h
  obtain ⟨ta, tc, rfl, htl⟩ := SliceR.slice h
  generalize (l.all fun t => decide (t.buf.length = 0)) = all at hi ⊢
  generalize l.length = n at hi htl ⊢
  have HI := Lib.hid hi
  clear h hi
  go_enter Try.func25, Try.ntmps25
  go_wp2_with (go_at_call 45; go_must (refine HI.out.mono ?_); rintro e w1 ⟨⟨r, rfl, hr⟩, hb⟩; have HB1 := Lib.hid hb; have HR := Lib.hid hr; clear hb hr)
  go_ret
  refine ⟨?_, HB1.out⟩
  rcases HR.out with ⟨h1, rfl⟩ | ⟨h1, rfl⟩
  · first | rfl | simp [h1]
  · first | rfl | (simp; omega)
set_option maxRecDepth 100000 in
set_option maxHeartbeats 2000000 in
theorem clear_any (w : World) (s : StateD) (sv mv : Value) (h : StateAt w s sv mv) : Calls Try.prog 9 #[stateV s sv mv] w fun e w' => e = .returned (.bool (clearS s)) ∧ Below w.heap.size w w' := by
  obtain ⟨ta, tc, rfl, -⟩ := SliceR.slice h.threads
  obtain ⟨ma, mc, rfl, -⟩ := SliceR.slice h.mem
  have hc := fun W h => containsFunc_any W (.slice ta s.threads.length tc) s.threads h
  obtain ⟨cl, hcl⟩ : ∃ c, c = clearS s := ⟨_, rfl⟩
  have hall : (s.threads.all fun t => decide (t.buf.length = 0)) = cl := by rw [hcl]; rfl
  rw [hall] at hc
  rw [← hcl]
  unfold stateV
  have hT := h.threads
  have HT := Lib.hid (SliceR.below ThreadR.stays hT ((Below.refl w.heap.size w).alloc (Nat.le_refl _) (.cells #[.slice ta s.threads.length tc, .slice ma s.mem.length mc, .bool s.bad] 31)))
  generalize s.threads.length = n at hc HT ⊢
  generalize s.mem.length = m at HT ⊢
  have HC := Lib.hid hc
  clear hc hall hcl h hT
  go_enter Try.func9, Try.ntmps9
  go_wp2_with (go_at_call 25; go_must (refine (HC.out _ HT.out).mono ?_); rintro e w1 ⟨rfl, hb⟩; have HB1 := Lib.hid hb; clear hb)
  go_ret
  exact ⟨by first | rfl | simp, below_then ((Below.refl _ _).alloc (Nat.le_refl _) _) HB1.out⟩
end Go.Proofs.Ytnlkbboghcdpnaa
namespace Go.Proofs.Ytnlkbboghcdpnaa
open Go.RowKit

set_option maxRecDepth 100000 in
set_option maxHeartbeats 2000000 in
theorem ended1_any (w : World) (la : Option Addr) (ln lc : Nat) (pc r0 r1 r2 r3 : Int) (bv : Value) (ba : Option Addr) (bl bc : Nat) (hbv : bv = .slice ba bl bc) : Calls Try.prog 28 #[.slice la ln lc, .agg #[.int .i64 pc, .int .i64 r0, .int .i64 r1, .int .i64 r2, .int .i64 r3, bv]] w fun e w' => e = .returned (.bool (decide (pc = (ln : Int)))) ∧ Below w.heap.size w w' := by
  subst hbv
  have hd : (pc == (ln : Int)) = decide (pc = (ln : Int)) := by
    by_cases h : pc = (ln : Int)
    · rw [decide_eq_true h]; simp [h]
    · rw [decide_eq_false h]; simpa using h
  have HD := Lib.hid hd
  clear hd
  go_enter Try.func28, Try.ntmps28
  go_wp2_with fail
  go_ret
  exact ⟨by first | rfl | (rw [← HD.out]; rfl) | (simp; done), (Below.refl _ _).alloc (Nat.le_refl _) _⟩
def placeOk (cs : List (List InstrD)) (ts : List ThreadD) (i : Nat) : Bool := decide ((ts.getD i default).pc = ((cs.getD i []).length : Int))
set_option maxRecDepth 100000 in
set_option maxHeartbeats 4000000 in
theorem equalFunc_any (w : World) (d : Nat) (cv tv : Value) (cs : List (List InstrD)) (ts : List ThreadD) (hc : RowsAt d w cv cs) (ht : ThreadsAt w tv ts) :
    Calls Try.prog 27 #[cv, tv, .func (.func 28) #[] #[]] w fun e w' => e = .returned (.bool (decide (ts.length = cs.length) && (List.range ts.length).all (placeOk cs ts))) ∧ Below w.heap.size w w' := by
  obtain ⟨ca, cc, rfl, hcl⟩ := SliceR.slice hc
  obtain ⟨ta, tc, rfl, htl⟩ := SliceR.slice ht
  obtain ⟨r, hr⟩ : ∃ r, r = (decide (ts.length = cs.length) && (List.range ts.length).all (placeOk cs ts)) := ⟨_, rfl⟩
  rw [← hr]
  obtain ⟨n, hn⟩ : ∃ n, n = ts.length := ⟨_, rfl⟩
  obtain ⟨cn, hcn⟩ : ∃ n, n = cs.length := ⟨_, rfl⟩
  rw [← hn] at ht htl hr ⊢
  rw [← hcn] at hc hcl hr ⊢
  have HT := Lib.hid ht
  have HC := Lib.hid hc
  have HN := Lib.hid hn
  have HCN := Lib.hid hcn
  have HR := Lib.hid hr
  clear ht hc hn hcn hr
  by_cases hl : n = cn
  · subst hl
    have HR2 : Hid (r = (List.range n).all (placeOk cs ts)) := by rw [Hid, HR.out]; simp
    clear HR
    go_enter Try.func27, Try.ntmps27
    go_wp2_with fail
    go_loopg [17] n (fun gg s17 wr => ∃ i : Nat, i ≤ n ∧ Hid (gg = n - i) ∧ s17 = .int .i64 i ∧ Hid (Below w.heap.size w wr) ∧ Hid (∀ j, j < i → placeOk cs ts j = true))
    case atStart => exact ⟨0, Nat.zero_le _, rfl, rfl, Below.refl _ _, fun j hj => by omega⟩
    case round =>
      obtain ⟨i, hi, HG, rfl, HBR, HJ⟩ := hrel
      by_cases hlt : i < n
      · have hltI : (i : Int) < (n : Int) := by omega
        obtain ⟨b, off, ba, bc, hea, -, hr4, x0, x1, x2, x3, x4, x5, -⟩ := ThreadsAt.part HT.out i (by rw [← HN.out]; exact hlt)
        obtain ⟨cb, co, ka, kc, heb, -, y0, -⟩ := RowsAt.part HC.out i (by rw [← HCN.out]; exact hlt)
        subst hea
        subst heb
        obtain ⟨ok, hok⟩ : ∃ ok, ok = placeOk cs ts i := ⟨_, rfl⟩
        have HNO : Hid (ok = false → r = false) := fun e => by rw [HR2.out, range_no i hlt (hok.symm.trans e)]
        have HYES : Hid (ok = true → ∀ j, j < i + 1 → placeOk cs ts j = true) := fun e j hj => by
          by_cases he : j = i
          · subst he; exact hok.symm.trans e
          · exact HJ.out j (by omega)
        have hok2 : ok = decide ((ts.getD i default).pc = ((cs.getD i []).length : Int)) := hok
        generalize (cs.getD i []).length = ln at y0 hok2
        generalize ts.getD i default = t at x0 x1 x2 x3 x4 x5 hr4 hok2
        obtain ⟨pc, rg, bf⟩ := t
        simp only [] at x0 x1 x2 x3 x4 x5 hr4 hok2
        generalize bf.length = bl at x5
        replace x0 := cells_kept HBR.out _ _ x0
        replace x1 := cells_kept HBR.out _ _ x1
        replace x2 := cells_kept HBR.out _ _ x2
        replace x3 := cells_kept HBR.out _ _ x3
        replace x4 := cells_kept HBR.out _ _ x4
        replace x5 := cells_kept HBR.out _ _ x5
        replace y0 := cells_kept HBR.out _ _ y0
        clear hok
        have HCALL : Hid (∀ y q0 q1 q2 q3, Calls Try.prog 28 #[.slice ka ln kc, .agg #[.int .i64 pc, .int .i64 q0, .int .i64 q1, .int .i64 q2, .int .i64 q3, .slice ba bl bc]] y fun e w' => e = .returned (.bool ok) ∧ Below y.heap.size y w') := fun y q0 q1 q2 q3 => by rw [hok2]; exact ended1_any y ka ln kc pc q0 q1 q2 q3 _ ba bl bc rfl
        clear hok2
        cases ok with
        | true =>
          have HY2 := Lib.hid (HYES.out rfl)
          go_wp2_with (go_at_call 28; go_must (refine (HCALL.out _ _ _ _ _).mono ?_); rintro e w1 ⟨rfl, hb⟩; have HB1 := Lib.hid hb; clear hb)
          go_roundg (n - (i + 1))
          case measure => rw [HG.out]; omega
          case rel => exact ⟨i + 1, by omega, rfl, by simp, HBR.out.trans (((Below.refl _ _).alloc (Nat.le_refl _) _).trans (HB1.out.mono (by simp)) |>.mono HBR.out.size), HY2.out⟩
        | false =>
          obtain rfl := HNO.out rfl
          go_wp2_with (go_at_call 28; go_must (refine (HCALL.out _ _ _ _ _).mono ?_); rintro e w1 ⟨rfl, hb⟩; have HB1 := Lib.hid hb; clear hb)
          go_ret
          exact ⟨by first | rfl | simp, HBR.out.trans (((Below.refl _ _).alloc (Nat.le_refl _) _).trans (HB1.out.mono (by simp)) |>.mono HBR.out.size)⟩
      · obtain rfl : n = i := by omega
        obtain rfl : r = true := by rw [HR2.out, range_yes HJ.out]
        go_wp2_with fail
        go_ret
        exact ⟨by first | rfl | simp, HBR.out⟩
  · obtain rfl : r = false := by rw [HR.out]; simp [hl]
    have hl2 : ((cn : Int) != (n : Int)) = true := by simp; omega
    go_enter Try.func27, Try.ntmps27
    go_wp2_with fail
    go_ret
    exact ⟨by first | rfl | simp, Below.refl _ _⟩
set_option maxRecDepth 100000 in
set_option maxHeartbeats 4000000 in
theorem ended_any (w : World) (d : Nat) (c : CodeD) (cv : Value) (hc : RowsAt d w cv c.threads) (s : StateD) (sv mv : Value) (hs : StateAt w s sv mv) :
    Calls Try.prog 11 #[codeV c cv, stateV s sv mv] w fun e w' => e = .returned (.bool (endedS c s)) ∧ Below w.heap.size w w' := by
  obtain ⟨ca, cc, rfl, -⟩ := SliceR.slice hc
  obtain ⟨ta, tc, rfl, -⟩ := SliceR.slice hs.threads
  obtain ⟨ma, mc, rfl, -⟩ := SliceR.slice hs.mem
  have he := fun W hc ht => equalFunc_any W d (.slice ca c.threads.length cc) (.slice ta s.threads.length tc) c.threads s.threads hc ht
  have hcl := fun W h => clear_any W s (.slice ta s.threads.length tc) (.slice ma s.mem.length mc) h
  obtain ⟨eq, heq⟩ : ∃ q, q = (decide (s.threads.length = c.threads.length) && (List.range s.threads.length).all (placeOk c.threads s.threads)) := ⟨_, rfl⟩
  obtain ⟨cl, hcll⟩ : ∃ q, q = clearS s := ⟨_, rfl⟩
  have hr : endedS c s = (eq && cl) := by rw [heq, hcll]; rfl
  rw [hr]
  rw [← heq] at he
  rw [← hcll] at hcl
  unfold stateV at hcl ⊢
  unfold codeV
  have hB := boxes_below w (.cells #[.int .i64 c.vars, .int .i64 c.domain, .slice ca c.threads.length cc] 24) (.cells #[.slice ta s.threads.length tc, .slice ma s.mem.length mc, .bool s.bad] 31)
  have H1 := Lib.hid (boxes_first w (.cells #[.int .i64 c.vars, .int .i64 c.domain, .slice ca c.threads.length cc] 24) (.cells #[.slice ta s.threads.length tc, .slice ma s.mem.length mc, .bool s.bad] 31))
  have H2 := Lib.hid (boxes_second w (.cells #[.int .i64 c.vars, .int .i64 c.domain, .slice ca c.threads.length cc] 24) (.cells #[.slice ta s.threads.length tc, .slice ma s.mem.length mc, .bool s.bad] 31))
  have HS := Lib.hid (StateAt.below hs hB)
  have HCS := Lib.hid (SliceR.below (RowR.stays d) hc hB)
  have HB := Lib.hid hB
  have HE := Lib.hid he
  have HCL := Lib.hid hcl
  clear he hcl heq hcll hr hB hc hs
  generalize c.threads.length = cn at H1 H2 HS HCS HB HE HCL ⊢
  generalize s.threads.length = n at H1 H2 HS HCS HB HE HCL ⊢
  generalize s.mem.length = m at H1 H2 HS HCS HB HE HCL ⊢
  generalize s.bad = bad at H1 H2 HB HCL HS HCS ⊢
  generalize c.vars = vars at H1 H2 HB HS HCS ⊢
  generalize c.domain = dom at H1 H2 HB HS HCS ⊢
  go_enter Try.func11, Try.ntmps11
  go_upto_region 1 with fail
  generalize World.alloc (World.alloc w _) _ = W at HB H1 H2 HS HCS ⊢
  obtain ⟨gx, hgx⟩ : ∃ gx, gx = w.heap.size := ⟨_, rfl⟩
  rw [← hgx] at H1 H2 ⊢
  clear hgx
  have HFIN : Hid (∀ x, Below W.heap.size W x → Below w.heap.size w x) := fun x hx => HB.out.trans (hx.mono HB.out.size)
  have HC : Hid (∀ x, Below W.heap.size W x → x.cell? ⟨gx + 1, 0, none⟩ = some (.slice ta n tc) ∧ x.cell? ⟨gx + 1, 1, none⟩ = some (.slice ma m mc) ∧ x.cell? ⟨gx + 1, 2, none⟩ = some (.bool bad)) := fun x hx => ⟨cells_kept hx _ _ (cell_of_block H2.out 0), cells_kept hx _ _ (cell_of_block H2.out 1), cells_kept hx _ _ (cell_of_block H2.out 2)⟩
  have c2 := cell_of_block H1.out 2
  obtain ⟨d0, d1, d2⟩ := HC.out W (Below.refl _ _)
  cases eq with
  | true =>
    go_wp2_with (first | (go_at_call 27; go_must (refine (HE.out W HCS.out HS.out.threads).mono ?_); rintro e w1 ⟨rfl, hb⟩; have HB1 := Lib.hid hb; obtain ⟨e0, e1, e2⟩ := HC.out w1 hb; clear hb c2 d0 d1 d2) | (go_at_call 9; go_must (refine (HCL.out _ (HS.out.below HB1.out)).mono ?_); rintro e w2 ⟨rfl, hb⟩; have HB2 := Lib.hid hb; clear hb))
    go_ret
    exact ⟨by first | rfl | simp, HFIN.out _ (below_then HB1.out HB2.out)⟩
  | false =>
    go_wp2_with (go_at_call 27; go_must (refine (HE.out W HCS.out HS.out.threads).mono ?_); rintro e w1 ⟨rfl, hb⟩; have HB1 := Lib.hid hb; clear hb)
    go_ret
    exact ⟨by first | rfl | simp, HFIN.out _ HB1.out⟩
end Go.Proofs.Ytnlkbboghcdpnaa
namespace Go.Proofs.Ytnlkbboghcdpnaa
open Go.RowKit

set_option maxRecDepth 100000 in
set_option maxHeartbeats 2000000 in
theorem refClear_any (w : World) (s : StateD) (sv mv : Value) (h : StateAt w s sv mv) : Calls Try.prog 10 #[stateV s sv mv] w fun e w' => e = .returned (.bool (clearS s)) ∧ Below w.heap.size w w' := by
  obtain ⟨ta, tc, rfl, htl⟩ := SliceR.slice h.threads
  obtain ⟨ma, mc, rfl, -⟩ := SliceR.slice h.mem
  have HYES : Hid (∀ i, i < s.threads.length → (∀ j, j < i → (s.threads.getD j default).buf.length = 0) → 0 < (s.threads.getD i default).buf.length → clearS s = false) := fun i hi h1 h2 => wait_yes hi h1 h2
  have HNO : Hid ((∀ j, j < s.threads.length → (s.threads.getD j default).buf.length = 0) → clearS s = true) := fun h => wait_no h
  generalize clearS s = all at HYES HNO ⊢
  unfold stateV
  have hT := SliceR.below ThreadR.stays h.threads ((Below.refl w.heap.size w).alloc (Nat.le_refl _) (.cells #[.slice ta s.threads.length tc, .slice ma s.mem.length mc, .bool s.bad] 31))
  have h1 := heap_alloc_new w (.cells #[.slice ta s.threads.length tc, .slice ma s.mem.length mc, .bool s.bad] 31)
  generalize s.mem.length = m at hT h1 ⊢
  generalize s.bad = bad at hT h1 ⊢
  clear h
  generalize s.threads = l at hT h1 HYES HNO htl ⊢
  obtain ⟨n, hn⟩ : ∃ n, n = l.length := ⟨_, rfl⟩
  rw [← hn] at hT h1 HYES HNO htl ⊢
  have HT := Lib.hid hT
  have HN := Lib.hid hn
  have H1 := Lib.hid h1
  have HB := Lib.hid ((Below.refl w.heap.size w).alloc (Nat.le_refl _) (.cells #[.slice ta n tc, .slice ma m mc, .bool bad] 31))
  clear hT hn h1
  go_enter Try.func10, Try.ntmps10
  go_upto_region 1 with fail
  generalize World.alloc w _ = W at HB H1 HT ⊢
  generalize w.heap.size = gx at H1 ⊢
  have HFIN : Hid (∀ x, Below W.heap.size W x → Below w.heap.size w x) := fun x hx => HB.out.trans (hx.mono HB.out.size)
  go_wp2_with fail
  go_loopg [3] n (fun gg s3 wr => ∃ i : Nat, i ≤ n ∧ Hid (gg = n - i) ∧ s3 = .int .i64 i ∧ Hid (Below W.heap.size W wr) ∧ Hid (∀ j, j < i → (l.getD j default).buf.length = 0))
  case atStart => exact ⟨0, Nat.zero_le _, rfl, rfl, Below.refl _ _, fun j hj => by omega⟩
  case round =>
    obtain ⟨i, hi, HG, rfl, HBR, HJ⟩ := hrel
    have c0 := cells_kept HBR.out _ _ (cell_of_block H1.out 0)
    by_cases hlt : i < n
    · have hltI : (i : Int) < (n : Int) := by omega
      obtain ⟨b, off, ba, bc, hea, -, -, -, -, -, -, -, x5, -⟩ := ThreadsAt.part HT.out i (by rw [← HN.out]; exact hlt)
      subst hea
      have HY : Hid (0 < (l.getD i default).buf.length → all = false) := fun h => HYES.out i hlt HJ.out h
      have HZ : Hid ((l.getD i default).buf.length = 0 → ∀ j, j < i + 1 → (l.getD j default).buf.length = 0) := fun e j hj => by
        by_cases he : j = i
        · subst he; exact e
        · exact HJ.out j (by omega)
      generalize (l.getD i default).buf.length = bl at x5 HY HZ
      replace x5 := cells_kept HBR.out _ _ x5
      by_cases hbl : 0 < bl
      · obtain rfl := HY.out hbl
        have hd : (0 : Int) < (bl : Int) := by omega
        go_wp2_with fail
        go_ret
        exact ⟨by first | rfl | simp, HFIN.out _ HBR.out⟩
      · obtain rfl : bl = 0 := by omega
        have HZ2 := Lib.hid (HZ.out rfl)
        go_wp2_with fail
        go_roundg (n - (i + 1))
        case measure => rw [HG.out]; omega
        case rel => exact ⟨i + 1, by omega, rfl, by simp, HBR.out, HZ2.out⟩
    · obtain rfl : n = i := by omega
      obtain rfl := HNO.out HJ.out
      go_wp2_with fail
      go_ret
      exact ⟨by first | rfl | simp, HFIN.out _ HBR.out⟩
set_option maxRecDepth 100000 in
set_option maxHeartbeats 4000000 in
theorem refEnded_any (w : World) (d : Nat) (c : CodeD) (cv : Value) (hc : RowsAt d w cv c.threads) (s : StateD) (sv mv : Value) (hs : StateAt w s sv mv) :
    Calls Try.prog 12 #[codeV c cv, stateV s sv mv] w fun e w' => e = .returned (.bool (endedS c s)) ∧ Below w.heap.size w w' := by
  obtain ⟨ca, cc, rfl, -⟩ := SliceR.slice hc
  obtain ⟨ta, tc, rfl, htl⟩ := SliceR.slice hs.threads
  obtain ⟨ma, mc, rfl, -⟩ := SliceR.slice hs.mem
  have hcl := fun W h => refClear_any W s (.slice ta s.threads.length tc) (.slice ma s.mem.length mc) h
  obtain ⟨r, hrr⟩ : ∃ r, r = endedS c s := ⟨_, rfl⟩
  obtain ⟨cl, hcll⟩ : ∃ q, q = clearS s := ⟨_, rfl⟩
  have hr : r = (decide (s.threads.length = c.threads.length) && (List.range s.threads.length).all (placeOk c.threads s.threads) && cl) := by rw [hrr, hcll]; rfl
  rw [← hrr]
  rw [← hcll] at hcl
  unfold stateV at hcl ⊢
  unfold codeV
  have hB := boxes_below w (.cells #[.int .i64 c.vars, .int .i64 c.domain, .slice ca c.threads.length cc] 24) (.cells #[.slice ta s.threads.length tc, .slice ma s.mem.length mc, .bool s.bad] 31)
  have H1 := Lib.hid (boxes_first w (.cells #[.int .i64 c.vars, .int .i64 c.domain, .slice ca c.threads.length cc] 24) (.cells #[.slice ta s.threads.length tc, .slice ma s.mem.length mc, .bool s.bad] 31))
  have H2 := Lib.hid (boxes_second w (.cells #[.int .i64 c.vars, .int .i64 c.domain, .slice ca c.threads.length cc] 24) (.cells #[.slice ta s.threads.length tc, .slice ma s.mem.length mc, .bool s.bad] 31))
  have HS := Lib.hid (StateAt.below hs hB)
  have HT := Lib.hid (StateAt.below hs hB).threads
  have HCS := Lib.hid (SliceR.below (RowR.stays d) hc hB)
  have HB := Lib.hid hB
  have HCL := Lib.hid hcl
  obtain ⟨n, hn⟩ : ∃ n, n = s.threads.length := ⟨_, rfl⟩
  obtain ⟨cn, hcn⟩ : ∃ n, n = c.threads.length := ⟨_, rfl⟩
  rw [← hn] at H1 H2 HS HT HCS HB HCL hr htl ⊢
  rw [← hcn] at H1 H2 HS HT HCS HB hr ⊢
  have HN := Lib.hid hn
  have HCN := Lib.hid hcn
  have HR := Lib.hid hr
  clear hcl hcll hr hrr hB hc hs hn hcn
  generalize s.mem.length = m at H1 H2 HS HT HCS HB HCL ⊢
  generalize s.bad = bad at H1 H2 HS HT HCS HB HCL ⊢
  generalize c.vars = vars at H1 H2 HS HT HCS HB ⊢
  generalize c.domain = dom at H1 H2 HS HT HCS HB ⊢
  go_enter Try.func12, Try.ntmps12
  go_upto_region 1 with fail
  generalize World.alloc (World.alloc w _) _ = W at HB H1 H2 HS HT HCS ⊢
  obtain ⟨gx, hgx⟩ : ∃ gx, gx = w.heap.size := ⟨_, rfl⟩
  rw [← hgx] at H1 H2 ⊢
  clear hgx
  have HFIN : Hid (∀ x, Below W.heap.size W x → Below w.heap.size w x) := fun x hx => HB.out.trans (hx.mono HB.out.size)
  have HC : Hid (∀ x, Below W.heap.size W x → x.cell? ⟨gx, 2, none⟩ = some (.slice ca cn cc) ∧ x.cell? ⟨gx + 1, 0, none⟩ = some (.slice ta n tc) ∧ x.cell? ⟨gx + 1, 1, none⟩ = some (.slice ma m mc) ∧ x.cell? ⟨gx + 1, 2, none⟩ = some (.bool bad)) := fun x hx => ⟨cells_kept hx _ _ (cell_of_block H1.out 2), cells_kept hx _ _ (cell_of_block H2.out 0), cells_kept hx _ _ (cell_of_block H2.out 1), cells_kept hx _ _ (cell_of_block H2.out 2)⟩
  go_wp2_with fail
  go_loopg [5] n (fun gg s5 wr => ∃ i : Nat, i ≤ n ∧ Hid (gg = n - i) ∧ s5 = .int .i64 i ∧ Hid (Below W.heap.size W wr) ∧ Hid (∀ j, j < i → placeOk c.threads s.threads j = true))
  case atStart => exact ⟨0, Nat.zero_le _, rfl, rfl, Below.refl _ _, fun j hj => by omega⟩
  case round =>
    obtain ⟨i, hi, HG, rfl, HBR, HJ⟩ := hrel
    obtain ⟨c2, d0, d1, d2⟩ := HC.out wr HBR.out
    by_cases hlt : i < n
    · have hltI : (i : Int) < (n : Int) := by omega
      by_cases hcl : cn ≤ i
      · obtain rfl : r = false := by rw [HR.out, decide_eq_false (show ¬ n = cn by omega)]; rfl
        have hclI : (cn : Int) ≤ (i : Int) := by omega
        have hcd : decide ((i : Int) < (cn : Int)) = false := decide_eq_false (by omega)
        have hcd2 : decide ((cn : Int) ≤ (i : Int)) = true := decide_eq_true (by omega)
        go_wp2_with fail
        go_quiet (fail)
        go_wp2_with fail
        go_ret
        exact ⟨by first | rfl | simp, HFIN.out _ (drewN_below HBR.out _)⟩
      · have hclI : (i : Int) < (cn : Int) := by omega
        have hcd2 : decide ((cn : Int) ≤ (i : Int)) = false := decide_eq_false (by omega)
        obtain ⟨b, off, ba, bc, hea, -, -, x0, -⟩ := ThreadsAt.part HT.out i (by rw [← HN.out]; exact hlt)
        obtain ⟨cb, co, ka, kc, heb, -, y0, -⟩ := RowsAt.part HCS.out i (by rw [← HCN.out]; omega)
        subst hea
        subst heb
        obtain ⟨ok, hok⟩ : ∃ ok, ok = placeOk c.threads s.threads i := ⟨_, rfl⟩
        have HNO : Hid (ok = false → r = false) := fun e => by rw [HR.out, range_no i hlt (hok.symm.trans e)]; simp
        have HYES : Hid (ok = true → ∀ j, j < i + 1 → placeOk c.threads s.threads j = true) := fun e j hj => by
          by_cases he : j = i
          · subst he; exact hok.symm.trans e
          · exact HJ.out j (by omega)
        have hok2 : ok = decide ((s.threads.getD i default).pc = ((c.threads.getD i []).length : Int)) := hok
        generalize (c.threads.getD i []).length = ln at y0 hok2
        generalize (s.threads.getD i default).pc = pc at x0 hok2
        replace x0 := cells_kept HBR.out _ _ x0
        replace y0 := cells_kept HBR.out _ _ y0
        clear hok
        by_cases he : pc = (ln : Int)
        · subst he
          have HY2 := Lib.hid (HYES.out (by rw [hok2]; simp))
          clear hok2
          go_wp2_with fail
          go_quiet (fail)
          go_wp2_with fail
          go_roundg (n - (i + 1))
          case measure => rw [HG.out]; omega
          case rel => exact ⟨i + 1, by omega, rfl, by simp, drewN_below HBR.out _, HY2.out⟩
        · obtain rfl := HNO.out (by rw [hok2, decide_eq_false he])
          have he2 : ((pc : Int) == (ln : Int)) = false := by simpa using he
          clear hok2
          go_wp2_with fail
          go_quiet (fail)
          go_wp2_with fail
          go_ret
          exact ⟨by first | rfl | simp, HFIN.out _ (drewN_below HBR.out _)⟩
    · obtain rfl : n = i := by omega
      by_cases hnc : n = cn
      · subst hnc
        obtain rfl : r = cl := by rw [HR.out, range_yes HJ.out]; simp
        go_wp2_with (go_at_call 10; go_must (refine (HCL.out _ (HS.out.below HBR.out)).mono ?_); rintro e w2 ⟨rfl, hb⟩; have HB2 := Lib.hid hb; clear hb)
        go_ret
        exact ⟨by first | rfl | simp, HFIN.out _ (below_then HBR.out HB2.out)⟩
      · obtain rfl : r = false := by rw [HR.out, decide_eq_false hnc]; rfl
        have he2 : ((n : Int) == (cn : Int)) = false := by simp; omega
        go_wp2_with fail
        go_ret
        exact ⟨by first | rfl | simp, HFIN.out _ HBR.out⟩
end Go.Proofs.Ytnlkbboghcdpnaa
