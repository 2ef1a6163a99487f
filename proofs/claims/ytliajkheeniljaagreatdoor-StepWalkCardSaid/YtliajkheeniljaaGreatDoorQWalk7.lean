/- A state that is come to by moves, by numbers: the walk. What moves turn and what they leave: plain Lean. -/
import Derived.Test.YtliajkheeniljaaGreatDoorQCompile
import Derived.Test.YtliajkheeniljaaGreatDoorQMade2
import Derived.Test.YtliajkheeniljaaGreatDoorQMoves
import Derived.Test.YtliajkheeniljaaGreatDoorQShort
set_option linter.all false
namespace Go.Proofs.YtliajkheeniljaaGreatDoor
open Go.RowKit
set_option maxRecDepth 100000
set_option maxHeartbeats 16000000
inductive Come (c : CodeD) (m : MachD) (d : Nat) : StateD → Prop
 | start : Come c m d (startS c)
 | step {s : StateD} {x : MoveD} : Come c m d s → x ∈ movesS c m s d → Come c m d (doS c m s x d).1
theorem Come.bufs {c : CodeD} {m : MachD} {d : Nat} {s : StateD} (h : Come c m d s) : bufsLe 33 s := by
 cases h with
 | start => exact start_bufs c
 | step _ _ => exact do_bufs
def WalkEnd (w : World) (c : CodeD) (m : MachD) (d : Nat) (en : Ending) (w' : World) : Prop := (∃ s tv mv, en = .returned (stateV s tv mv) ∧ Come c m d s ∧ Away (fun k => k < w.heap.size) w' (fun y => StateAt y s tv mv)) ∧ Below w.heap.size w w'
def WF (w : World) (gs gr k : Nat) : Prop := k < w.heap.size ∨ k = gs ∨ k = gr
structure WalkL (w V X : World) (gs gr : Nat) (c : CodeD) (m : MachD) (d : Nat) (s : StateD) (tv mv : Value) : Prop where
 since : Since (fun k => k = gs) V X
 below : Below w.heap.size w V
 lo : w.heap.size ≤ gs ∧ w.heap.size ≤ gr ∧ gs ≠ gr
 box : X.heap[gs]? = some (.cells #[tv, mv, .bool s.bad] 30 (0, 0))
 res : V.heap[gr]? = some (.cells #[.slice none 0 0, .slice none 0 0, .bool false] 30 (0, 0))
 st : Away (WF w gs gr) X (fun y => StateAt y s tv mv)
 come : Come c m d s
section
variable {w V X Y : World} {gs gr d : Nat} {c : CodeD} {m : MachD} {s : StateD} {tv mv : Value}
theorem WalkL.all (h : WalkL w V X gs gr c m d s tv mv) : Below w.heap.size w X := h.below.trans (h.since.below h.below.size (fun k hk => by have := h.lo; omega))
theorem WalkL.res2 (h : WalkL w V X gs gr c m d s tv mv) : X.heap[gr]? = some (.cells #[.slice none 0 0, .slice none 0 0, .bool false] 30 (0, 0)) := (h.since.block _ (qlb h.res) (fun e => h.lo.2.2 e.symm)).trans h.res
theorem WalkL.later (h : WalkL w V X gs gr c m d s tv mv) (hb : Below X.heap.size X Y) : WalkL w V Y gs gr c m d s tv mv :=
 ⟨h.since.trans (since_of (fun k => k = gs) hb) (fun _ h => .inl h), h.below, h.lo, (hb.block _ (qlb h.box)).trans h.box, h.res, h.st.step (since_of (fun _ => False) hb) (fun _ h => h.elim) (fun _ hk => .inl hk), h.come⟩
theorem WalkL.put {t : StateD} {xa ya : Option Addr} {xn xc yn yc : Nat} {bs : List Value} (h : WalkL w V X gs gr c m d s tv mv) {x : MoveD} (hx : x ∈ movesS c m s d) (ht : t = (doS c m s x d).1) (hb : Below X.heap.size X Y) (ho : OwnAt X.heap.size Y (.slice xa xn xc) (.slice ya yn yc) t.threads t.mem bs) :
  WalkL w V (setAll Y gs 0 [.slice xa xn xc, .slice ya yn yc, .bool t.bad]) gs gr c m d t (.slice xa xn xc) (.slice ya yn yc) := by
 have h2 := h.later hb
 have s1 := setAll_since (g := gs) [.slice xa xn xc, .slice ya yn yc, .bool t.bad] Y 0
 have hlo := h.lo
 have hgx := qlb h.box
 have hgr := qlb h.res2
 have hw := h.all.size
 refine ⟨h2.since.trans s1 (fun k hk => .inl hk), h.below, hlo, setAll_new (cs := [tv, mv, .bool s.bad]) _ rfl h2.box, h.res, fun y hy => ?_, by rw [ht]; exact .step h.come hx⟩
 have key : ∀ k, X.heap.size ≤ k → ¬ WF w gs gr k := fun k hk e => by rcases e with e | e | e <;> omega
 have key2 : ∀ k, X.heap.size ≤ k → ¬ k = gs := fun k hk e => by omega
 have h3 := (ho.since s1 (fun k hk => key2 k (ho.row.lt k hk).1) (fun k hk => key2 k (ho.mem.lt k hk).1) (fun j hj k hk => key2 k ((ho.buf j hj).lt k hk).1)).since hy (fun k hk => key k (ho.row.lt k hk).1) (fun k hk => key k (ho.mem.lt k hk).1) (fun j hj k hk => key k ((ho.buf j hj).lt k hk).1)
 exact h3.state t.bad
theorem WalkL.fin (h : WalkL w V X gs gr c m d s tv mv) : WalkEnd w c m d (.returned (.agg #[tv, mv, .bool s.bad])) (setAll X gr 0 [tv, mv, .bool s.bad]) ∧ (setAll X gr 0 [tv, mv, .bool s.bad]).heap[gr]? = some (.cells #[tv, mv, .bool s.bad] 30 (0, 0)) := by
 have s1 := setAll_since (g := gr) [tv, mv, .bool s.bad] X 0
 have hlo := h.lo
 exact ⟨⟨⟨s, tv, mv, rfl, h.come, h.st.step s1 (fun k hk => .inl (.inr (.inr hk))) (fun k hk => .inl (.inl hk))⟩, h.all.trans (s1.below h.all.size (fun k hk => by omega))⟩, setAll_new (cs := [.slice none 0 0, .slice none 0 0, .bool false]) _ rfl h.res2⟩
end
theorem walk_any (w : World) (c : CodeD) (cv : Value) (d : Nat) (hc : RowsAt d w cv c.threads) (m : MachD) (lv : Value) (l : List Int) (hn : NumsAt w .u8 lv l) : Calls Tryz.prog 23 #[codeV c cv, machV m, lv] w (WalkEnd w c m d) := by
 obtain ⟨ca, cc, rfl, -⟩ := SliceR.slice hc
 obtain ⟨la, lc, rfl, hll, hwf, hcell⟩ := hn
 obtain ⟨C, hC⟩ : ∃ C, C = c := ⟨_, rfl⟩
 obtain ⟨M, hM⟩ : ∃ M, M = m := ⟨_, rfl⟩
 have hstart := fun W hc => start_own W c (.slice ca c.threads.length cc) d hc
 have hmoves := fun W hc s sv mv hs hb => moves_any W c (.slice ca c.threads.length cc) d hc m s sv mv hs hb
 have hdo := fun W hc s sv mv hs hb x => do_any W c (.slice ca c.threads.length cc) d hc m s sv mv hs hb x
 unfold codeV at hstart hmoves hdo ⊢
 unfold machV at hmoves hdo ⊢
 rw [← hC] at hc
 generalize c.vars = vars at hstart hmoves hdo ⊢
 generalize c.domain = dom at hstart hmoves hdo ⊢
 generalize m.model = mo at hmoves hdo ⊢
 generalize m.bound = bo at hmoves hdo ⊢
 rw [← hC] at hstart hmoves hdo ⊢
 rw [← hM] at hmoves hdo ⊢
 obtain ⟨cn, hcn⟩ : ∃ n, n = C.threads.length := ⟨_, rfl⟩
 obtain ⟨ln, hln⟩ : ∃ n, n = l.length := ⟨_, rfl⟩
 rw [← hcn] at hc hstart hmoves hdo ⊢
 rw [← hln] at hcell ⊢
 have hlr : ∀ i, i < ln → 0 ≤ l.getD i 0 ∧ l.getD i 0 ≤ 255 := fun i hi => by
  exact u8_in (hwf _ (getD_mem (by omega)))
 obtain ⟨hB, h1, h2, h3⟩ := boxes3_all w (.cells #[.int .i64 vars, .int .i64 dom, .slice ca cn cc] 24) (.cells #[.int .i64 mo, .int .i64 bo] 26) (.cells #[.slice none 0 0, .slice none 0 0, .bool false] 30)
 have HB := qh hB
 have H1 := qh h1
 have H2 := qh h2
 have H3 := qh h3
 have HC := qh hc
 have HST := qh (hstart _ (SliceR.below (RowR.stays d) hc hB))
 have HMV := qh hmoves
 have HDO := qh hdo
 have HCELL := qh hcell
 have HLR := qh hlr
 clear hB h1 h2 h3 hc hstart hmoves hdo hcell hlr hwf hC hM hcn hln hll
 go_enter Tryz.func23, Tryz.ntmps23
 go_upto_region 1 with fail
 generalize World.alloc (World.alloc (World.alloc w _) _) _ = W at HB H1 H2 H3 HST ⊢
 obtain ⟨gx, hgx⟩ : ∃ gx, gx = w.heap.size := ⟨_, rfl⟩
 rw [← hgx] at H1 H2 H3 ⊢
 have HGX := qh hgx
 clear hgx
 have c0 : W.cell? ⟨gx, 0, none⟩ = some (.int .i64 vars) := qcb H1.out 0
 have c1 : W.cell? ⟨gx, 1, none⟩ = some (.int .i64 dom) := qcb H1.out 1
 have c2 : W.cell? ⟨gx, 2, none⟩ = some (.slice ca cn cc) := qcb H1.out 2
 go_upto_region 2 with (go_at_call 19; go_must (refine HST.out.mono ?_); rintro en W1 ⟨⟨sv, yv, rfl, haw⟩, hb⟩; (have HAW := qh haw); (have HB1 := qh (HB.out.trans (hb.mono HB.out.size))); (have HWW := qh hb.size); (have K1 := qh ((hb.block _ (qlb H1.out)).trans H1.out)); (have K2 := qh ((hb.block _ (qlb H2.out)).trans H2.out)); (have K3 := qh ((hb.block _ (qlb H3.out)).trans H3.out)); (obtain ⟨ta, tc, rfl, -⟩ := SliceR.slice haw.now.threads); (obtain ⟨ma, mc, rfl, -⟩ := SliceR.slice haw.now.mem); clear hb haw c0 c1 c2; unfold stateV)
 obtain ⟨s0, hs0⟩ : ∃ s, s = startS C := ⟨_, rfl⟩
 have hcome : Come C M d s0 := by rw [hs0]; exact .start
 have haw := HAW.out
 rw [← hs0] at haw ⊢
 have hL : WalkL w (W1.alloc (.cells #[.slice ta s0.threads.length tc, .slice ma s0.mem.length mc, .bool s0.bad] 30)) (W1.alloc (.cells #[.slice ta s0.threads.length tc, .slice ma s0.mem.length mc, .bool s0.bad] 30)) W1.heap.size (gx + 2) C M d s0 (.slice ta s0.threads.length tc) (.slice ma s0.mem.length mc) := by
  have h3 := qlb H3.out
  have h4 := HB1.out.size
  have h5 := HGX.out
  have h6 := HWW.out
  have h7 := HB.out.size
  refine ⟨Since.refl _ _, HB1.out.alloc h4 _, ⟨h4, by omega, by omega⟩, qhn _ _, (Below.heap_alloc _ _ _ (qlb K3.out)).trans K3.out, ?_, hcome⟩
  exact haw.step ((Since.refl (fun _ => False) W1).alloc _) (fun _ h => h.elim) (fun k hk => by rcases hk with hk | hk | hk <;> omega)
 have K1' := qh ((Below.heap_alloc W1 (.cells #[.slice ta s0.threads.length tc, .slice ma s0.mem.length mc, .bool s0.bad] 30) _ (qlb K1.out)).trans K1.out)
 have K2' := qh ((Below.heap_alloc W1 (.cells #[.slice ta s0.threads.length tc, .slice ma s0.mem.length mc, .bool s0.bad] 30) _ (qlb K2.out)).trans K2.out)
 have hg1 : gx ≠ W1.heap.size := by have := qlb K1.out; omega
 have hg2 : gx + 1 ≠ W1.heap.size := by have := qlb K2.out; omega
 generalize World.alloc W1 _ = V at hL K1' K2' ⊢
 generalize W1.heap.size = gs at hL hg1 hg2 ⊢
 have HL0 := qh hL
 have HCK : Hid (∀ X, Since (fun k => k = gs) V X → X.cell? ⟨gx, 0, none⟩ = some (.int .i64 vars) ∧ X.cell? ⟨gx, 1, none⟩ = some (.int .i64 dom) ∧ X.cell? ⟨gx, 2, none⟩ = some (.slice ca cn cc) ∧ X.cell? ⟨gx + 1, 0, none⟩ = some (.int .i64 mo) ∧ X.cell? ⟨gx + 1, 1, none⟩ = some (.int .i64 bo)) := fun X hX => by
  have h1 := (hX.block _ (qlb K1'.out) hg1).trans K1'.out
  have h2 := (hX.block _ (qlb K2'.out) hg2).trans K2'.out
  exact ⟨qcb h1 0, qcb h1 1, qcb h1 2, qcb h2 0, qcb h2 1⟩
 clear hL hcome haw HAW HB1 HWW K1 K2 K3 K1' K2' HST HB H1 H2 H3 hs0 hg1 hg2
 go_wp2_with fail
 go_loopg [8] (31) (fun gg s8 wr => ∃ (i : Nat) (s : StateD) (ta ma : Option Addr) (tn tc mn mc : Nat), i ≤ ln ∧ i ≤ 30 ∧ Hid (gg = 31 - i) ∧ s8 = .int .i64 i ∧ Hid (WalkL w V wr gs (gx + 2) C M d s (.slice ta tn tc) (.slice ma mn mc)))
 case atStart => exact ⟨0, s0, ta, ma, _, tc, _, mc, Nat.zero_le _, by omega, rfl, rfl, HL0.out⟩
 case round =>
  obtain ⟨i, s, ta, ma, tn, tc, mn, mc, hi, hi30, HG, rfl, HL⟩ := hrel
  clear HL0
  have b0 : wr.cell? ⟨gs, 0, none⟩ = some (.slice ta tn tc) := qcb HL.out.box 0
  have b1 : wr.cell? ⟨gs, 1, none⟩ = some (.slice ma mn mc) := qcb HL.out.box 1
  have b2 : wr.cell? ⟨gs, 2, none⟩ = some (.bool s.bad) := qcb HL.out.box 2
  by_cases hlt : i < ln ∧ i < 30
  rotate_left
  ·have hend0 := HL.out.fin
   obtain ⟨hend, hset⟩ := hend0
   have HEND := qh hend
   have HSET := qh hset
   have r0 := qcb HL.out.res2 0
   have r1 := qcb HL.out.res2 1
   have r2 := qcb HL.out.res2 2
   have f0 := qfb HL.out.res2 0
   have f1 := qfb HL.out.res2 1
   have f2 := qfb HL.out.res2 2
   clear hend hset
   by_cases hl1 : i < ln
   ·obtain rfl : i = 30 := by omega
    have hl1I : ((30 : Nat) : Int) < (ln : Int) := by omega
    have hl1J : (30 : Int) < (ln : Int) := by omega
    go_wp2_with fail
    refine bodyPost_ret (results_cell rfl _ _ (gx + 2) 30 _ (0, 0) _ rfl HSET.out Tryz.underlying30 rfl state_size) rfl ?_
    exact HEND.out
   ·obtain rfl : ln = i := by omega
    go_wp2_with fail
    refine bodyPost_ret (results_cell rfl _ _ (gx + 2) 30 _ (0, 0) _ rfl HSET.out Tryz.underlying30 rfl state_size) rfl ?_
    exact HEND.out
  obtain ⟨hl1, hl2⟩ := hlt
  have hl1I : (i : Int) < (ln : Int) := by omega
  have hl2I : (i : Int) < 30 := by omega
  obtain ⟨c0, c1, c2, e0, e1⟩ := HCK.out wr HL.out.since
  have hmv := HMV.out wr (SliceR.below (RowR.stays d) HC.out HL.out.all) s _ _ HL.out.st.now (fun j hj => by have := HL.out.come.bufs j hj; omega)
  have hst := HL.out.st.now
  have htn : s.threads.length = tn := by obtain ⟨a, c, e, -⟩ := SliceR.slice hst.threads; cases e; rfl
  have hmn : s.mem.length = mn := by obtain ⟨a, c, e, -⟩ := SliceR.slice hst.mem; cases e; rfl
  unfold stateV at hmv
  obtain ⟨bd, hbd⟩ : ∃ b, b = s.bad := ⟨_, rfl⟩
  rw [← hbd] at b2 hmv
  have HBD := qh hbd
  have HMV2 := qh hmv
  clear hmv hst htn hmn hbd
  go_upto_region 6 with (go_at_call 36; go_must (refine HMV2.out.mono ?_); rintro en W2 ⟨⟨va, vc, rfl, hro⟩, hb⟩; (have HRO := qh hro); (have HL2 := qh (HL.out.later hb)); (have HBY := qh (qbt HL.out.all hb)); clear hro hb b0 b1 b2 c0 c1 c2 e0 e1)
  obtain ⟨ms, hms⟩ : ∃ ms, ms = movesS C M s d := ⟨_, rfl⟩
  have hro := HRO.out
  rw [← hms] at hro ⊢
  have hmat : MovesAt W2 (.slice va ms.length vc) ms := moves_of hro
  have HMS := qh hms
  have HMAT := qh hmat
  obtain ⟨mq, hmq⟩ : ∃ n, n = ms.length := ⟨_, rfl⟩
  rw [← hmq] at hmat ⊢
  have HMQ := qh hmq
  have hmq1 : mq ≤ 9223372036854775807 := by obtain ⟨a, cap, e, h, -⟩ := hmat; omega
  clear hms hro hmat hmq HRO HMV2
  by_cases h0 : mq = 0
  ·subst h0
   have z0 : W2.cell? ⟨gs, 0, none⟩ = some (.slice ta tn tc) := qcb HL2.out.box 0
   have z1 : W2.cell? ⟨gs, 1, none⟩ = some (.slice ma mn mc) := qcb HL2.out.box 1
   have z2 : W2.cell? ⟨gs, 2, none⟩ = some (.bool s.bad) := qcb HL2.out.box 2
   have r0 := qcb HL2.out.res2 0
   have r1 := qcb HL2.out.res2 1
   have r2 := qcb HL2.out.res2 2
   have f0 := qfb HL2.out.res2 0
   have f1 := qfb HL2.out.res2 1
   have f2 := qfb HL2.out.res2 2
   obtain ⟨hend, hset⟩ := HL2.out.fin
   have HEND := qh hend
   have HSET := qh hset
   clear hend hset
   go_wp2_with fail
   refine bodyPost_ret (results_cell rfl _ _ (gx + 2) 30 _ (0, 0) _ rfl HSET.out Tryz.underlying30 rfl state_size) rfl ?_
   exact HEND.out
  have h0I : ((mq : Int) == 0) = false := by rw [beq_eq_false_iff_ne]; omega
  have hq0 : (0 : Int) < (mq : Int) := by omega
  have HQ0 := qh h0
  clear h0
  obtain ⟨lb, lo, hla, hlb, hlx⟩ := HCELL.out i hl1
  subst hla
  obtain ⟨lr1, lr2⟩ := HLR.out i hl1
  generalize l.getD i 0 = x at hlx lr1 lr2
  obtain ⟨r, hr⟩ : ∃ r : Nat, x % (mq : Int) = (r : Int) := ⟨(x % (mq : Int)).toNat, by have := Int.emod_nonneg x (show (mq : Int) ≠ 0 by omega); omega⟩
  have hrq : r < mq := by have := Int.emod_lt_of_pos x hq0; omega
  have hrqI : (r : Int) < (mq : Int) := by omega
  obtain ⟨mb, mof, hva, -, g0, g1, g2⟩ := MovesAt.part HMAT.out r (by rw [← HMQ.out]; exact hrq)
  subst hva
  have hmem : ms.getD r default ∈ ms := getD_mem (by rw [← HMQ.out]; exact hrq)
  generalize ms.getD r default = mx at g0 g1 g2 hmem
  have hdo := fun y (hy : Below W2.heap.size W2 y) => HDO.out y (SliceR.below (RowR.stays d) HC.out (qbt HBY.out hy)) s _ _ (HL2.out.later hy).st.now (fun j hj => by have := HL2.out.come.bufs j hj; omega) mx
  unfold stateV moveV at hdo
  rw [← HBD.out] at hdo
  have HDO2 := qh hdo
  have HMEM := qh hmem
  obtain ⟨c0, c1, c2, e0, e1⟩ := HCK.out W2 HL2.out.since
  have CC : Hid (∀ y, Below W2.heap.size W2 y → y.cell? ⟨gx, 0, none⟩ = some (.int .i64 vars) ∧ y.cell? ⟨gx, 1, none⟩ = some (.int .i64 dom) ∧ y.cell? ⟨gx, 2, none⟩ = some (.slice ca cn cc) ∧ y.cell? ⟨gx + 1, 0, none⟩ = some (.int .i64 mo) ∧ y.cell? ⟨gx + 1, 1, none⟩ = some (.int .i64 bo) ∧ y.cell? ⟨gs, 0, none⟩ = some (.slice ta tn tc) ∧ y.cell? ⟨gs, 1, none⟩ = some (.slice ma mn mc) ∧ y.cell? ⟨gs, 2, none⟩ = some (.bool bd) ∧
   y.cell? ⟨lb, lo + i, none⟩ = some (.int .u8 x) ∧ y.cell? ⟨mb, mof + r * 3, none⟩ = some (.int .i64 mx.kind) ∧ y.cell? ⟨mb, mof + r * 3 + 1, none⟩ = some (.int .i64 mx.thread) ∧ y.cell? ⟨mb, mof + r * 3 + 2, none⟩ = some (.int .i64 mx.var)) := fun y hy => by
   refine ⟨qck hy _ _ c0, qck hy _ _ c1, qck hy _ _ c2, qck hy _ _ e0, qck hy _ _ e1, qck hy _ _ (qcb HL2.out.box 0), qck hy _ _ (qcb HL2.out.box 1), qck hy _ _ ?_, (HBY.out.trans (hy.mono HBY.out.size)).cell (p := ⟨lb, lo + i, none⟩) hlb ▸ hlx, qck hy _ _ g0, qck hy _ _ g1, qck hy _ _ g2⟩
   rw [HBD.out]; exact qcb HL2.out.box 2
  have htm : x.tmod (mq : Int) = (r : Int) := by rw [Int.tmod_eq_emod_of_nonneg lr1]; exact hr
  have hwx := wrap_u8 lr1 lr2
  have hq00 : ¬ mq = 0 := HQ0.out
  clear hdo hmem c0 c1 c2 e0 e1 g0 g1 g2 hlx hr
  go_upto_region 8 with fail
  refine wp_region_noPanic ?_
  refine wp_region_tail (n0 := 18) (S := fun x => Below W2.heap.size W2 x) (by kernel_rfl) (Below.refl _ _).drew (fun _ => ?_)
  obtain ⟨V1, hV1⟩ : ∃ V1, V1 = W2.drew := ⟨_, rfl⟩
  have hT0 : Hid (Below W2.heap.size W2 V1) := by rw [hV1]; exact (Below.refl _ _).drew
  have HBV1 := hT0
  rw [← hV1]
  clear hV1
  refine qtT [14, 15, 16, 17, 18] 0 31 ?vz1 rfl ?hyz1 (hT0.out) ?_
  case hyz1 => (intro x h; have e := CC.out x h; go_simp <;> rfl)
  simp only [Act.put, qz1, qz2, qz3]
  refine qtT [14, 15, 16, 17, 18] 1 32 ?vz2 rfl ?hyz2 (hT0.out) ?_
  case hyz2 => (intro x h; have e := CC.out x h; go_simp <;> rfl)
  simp only [Act.put, qz1, qz2, qz3]
  refine qtT [14, 15, 16, 17, 18] 2 33 ?vz3 rfl ?hyz3 (hT0.out) ?_
  case hyz3 => (intro x h; have e := CC.out x h; go_simp <;> rfl)
  simp only [Act.put, qz1, qz2, qz3]
  refine qtF 3 34 ?vz4 rfl ?hyz4 (fun _ => hT0.out) ?_
  case hyz4 => (intro _ _; go_simp <;> rfl)
  simp only [Act.put, qz1, qz2, qz3]
  refine qtF 4 35 ?vz5 rfl ?hyz5 (fun _ => hT0.out) ?_
  case hyz5 => (intro _ _; go_simp <;> rfl)
  simp only [Act.put, qz1, qz2, qz3]
  refine qtF 5 36 ?vz6 rfl ?hyz6 (fun _ => hT0.out) ?_
  case hyz6 => (intro _ _; go_simp <;> rfl)
  simp only [Act.put, qz1, qz2, qz3]
  refine qtF 6 37 ?vz7 rfl ?hyz7 (fun _ => hT0.out) ?_
  case hyz7 => (intro _ _; go_simp <;> rfl)
  simp only [Act.put, qz1, qz2, qz3]
  refine qtT [8, 11, 12, 13, 14, 15, 16, 17, 18] 7 38 ?vz8 rfl ?hyz8 (hT0.out) ?_
  case hyz8 => (intro x h; have e := CC.out x h; go_simp <;> rfl)
  simp only [Act.put, qz1, qz2, qz3]
  refine qtF 8 39 ?vz9 rfl ?hyz9 (fun _ => hT0.out) ?_
  case hyz9 => (intro _ _; go_simp <;> rfl)
  simp only [Act.put, qz1, qz2, qz3]
  refine qtF 9 40 ?vz10 rfl ?hyz10 (fun _ => hT0.out) ?_
  case hyz10 => (intro _ _; go_simp <;> rfl)
  simp only [Act.put, qz1, qz2, qz3]
  refine qtF 10 41 ?vz11 rfl ?hyz11 (fun _ => hT0.out) ?_
  case hyz11 => (intro _ _; go_simp <;> rfl)
  simp only [Act.put, qz1, qz2, qz3]
  refine qtF 11 42 ?vz12 rfl ?hyz12 (fun _ => hT0.out) ?_
  case hyz12 => (intro _ _; go_simp <;> rfl)
  simp only [Act.put, qz1, qz2, qz3]
  refine qtF 12 43 ?vz13 rfl ?hyz13 (fun _ => hT0.out) ?_
  case hyz13 => (intro _ _; go_simp <;> rfl)
  simp only [Act.put, qz1, qz2, qz3]
  refine qtT [14, 15, 16, 17, 18] 13 44 ?vz14 rfl ?hyz14 (hT0.out) ?_
  case hyz14 => (intro x h; have e := CC.out x h; go_simp <;> rfl)
  simp only [Act.put, qz1, qz2, qz3]
  refine qrT 14 rfl (fun K hK => ?_)
  go_simp
  refine (HDO2.out V1 hT0.out).mono ?_
  rintro en Y ⟨⟨xa, xn, xc, ya, yn, yc, bs, rfl, hown⟩, hb⟩
  have HOWN := qh hown
  have HBV := qh hb
  have hT1 := qh (qbt hT0.out hb)
  clear hown hb
  unfold stateV
  refine hK.out _ _ (fun _ _ => hT1.out) ?_
  clear hK K
  refine qtF 15 30 ?vz15 rfl ?hyz15 (fun _ => hT1.out) ?_
  case hyz15 => (intro _ _; go_simp <;> rfl)
  simp only [Act.put, qz1, qz2, qz3]
  refine qtF 16 46 ?vz16 rfl ?hyz16 (fun _ => hT1.out) ?_
  case hyz16 => (intro _ _; go_simp <;> rfl)
  simp only [Act.put, qz1, qz2, qz3]
  refine qtF 17 47 ?vz17 rfl ?hyz17 (fun _ => hT1.out) ?_
  case hyz17 => (intro _ _; go_simp <;> rfl)
  simp only [Act.put, qz1, qz2, qz3]
  refine qrT 18 rfl (fun K hK => ?_)
  obtain ⟨-, -, -, -, -, u0, u1, u2, -, -, -, -⟩ := CC.out Y hT1.out
  have hbx := (hT1.out.block _ (qlb HL2.out.box)).trans HL2.out.box
  have f0 := qfb hbx 0
  have f1 := qfb hbx 1
  have f2 := qfb hbx 2
  go_simp
  refine hK.out _ _ (fun h => absurd rfl h) ?_
  clear u0 u1 u2 f0 f1 f2 hbx
  have hT2 := hT1
  clear hK K
  refine wpAnyT_done (by kernel_rfl) ?_ _
  refine NoPanic.normal ?_
  have hput := (HL2.out.later HBV1.out).put (t := (doS C M s mx d).1) (by rw [← HMS.out]; exact HMEM.out) rfl HBV.out HOWN.out
  have HPUT := qh hput
  clear hput HOWN HBV HDO2 CC
  go_wp2_with fail
  go_roundg (31 - (i + 1))
  case measure => rw [HG.out]; omega
  case rel => exact ⟨i + 1, _, xa, ya, xn, xc, yn, yc, by omega, by omega, rfl, by simp, HPUT.out⟩
end Go.Proofs.YtliajkheeniljaaGreatDoor
namespace Go.Proofs.YtliajkheeniljaaGreatDoor
open Go.RowKit
set_option maxRecDepth 100000
set_option maxHeartbeats 16000000
theorem moves_ok {c : CodeD} {m : MachD} {s : StateD} {d : Nat} {x : MoveD} (h : x ∈ movesS c m s d) : (doS c m s x d).2 = 0 := by
 obtain ⟨i, -, ⟨rfl, t, -, e⟩ | ⟨v, rfl, -, e⟩⟩ := do_moves h <;> rw [e]
end Go.Proofs.YtliajkheeniljaaGreatDoor
