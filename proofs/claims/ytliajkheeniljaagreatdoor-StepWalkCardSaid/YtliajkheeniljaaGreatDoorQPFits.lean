/- Does a state fit: the program's answer: the walk. -/
import Derived.Test.YtliajkheeniljaaGreatDoorQPShelf
import Derived.Test.YtliajkheeniljaaGreatDoorQShort
set_option linter.all false
namespace Go.Proofs.YtliajkheeniljaaGreatDoor
open Go.RowKit
set_option maxRecDepth 100000
set_option maxHeartbeats 16000000
theorem regs_slice {w : World} {g : Nat} {q0 q1 q2 q3 : Int} (h0 : w.cell? ⟨g, 1, none⟩ = some (.int .i64 q0)) (h1 : w.cell? ⟨g, 2, none⟩ = some (.int .i64 q1)) (h2 : w.cell? ⟨g, 3, none⟩ = some (.int .i64 q2)) (h3 : w.cell? ⟨g, 4, none⟩ = some (.int .i64 q3)) :
  IntsAt w (.slice (some ⟨g, 1, none⟩) 4 4) [q0, q1, q2, q3] := by
 refine ⟨_, _, rfl, ⟨Nat.le_refl _, by decide⟩, fun j hj => ⟨g, 1, [.int .i64 ([q0, q1, q2, q3].getD j default)], rfl, World.block_lt_of_cell? w _ h0, rfl, fun i hi => ?_, rfl⟩⟩
 obtain rfl : i = 0 := by omega
 have hj4 : j < 4 := hj
 have : j = 0 ∨ j = 1 ∨ j = 2 ∨ j = 3 := by omega
 rcases this with rfl | rfl | rfl | rfl
 ·exact h0
 ·exact h1
 ·exact h2
 ·exact h3
theorem odd_any {l : List Int} {dom : Int} : ((List.range l.length).any fun j => !inDom dom (l.getD j default)) = !((List.range l.length).all fun j => inDom dom (l.getD j 0)) := by
 rw [List.not_all_eq_any_not]; rfl
theorem podds_any (w : World) (sv : Value) (l : List Int) (h : IntsAt w sv l) (dom : Int) (g : Nat) (hg : w.cell? ⟨g, 1, none⟩ = some (.int .i64 dom)) :
  Calls Tryz.prog 53 #[sv, .func (.func 51) #[] #[.pointer (some ⟨g, 0, none⟩)]] w fun e w' => e = .returned (.bool (!((List.range l.length).all fun j => inDom dom (l.getD j 0)))) ∧ Below w.heap.size w w' := by
 have := containsInt_any IntR IntR.stays w sv l h 51 #[] #[.pointer (some ⟨g, 0, none⟩)] (fun j => !inDom dom (l.getD j default)) (fun _ _ => rfl) (fun j hj W cs hcl hq hW => by
  obtain rfl : cs = [.int .i64 (l.getD j default)] := hq
  exact podd_any W _ dom g (qck hW _ _ hg))
 rw [odd_any] at this
 exact this
theorem pfits_any (w : World) (c : CodeD) (tv : Value) (d : Nat) (hc : RowsAt d w tv c.threads) (m : MachD) (s : StateD) (sv mv : Value) (hs : StateAt w s sv mv) (hb : ∀ j, j < s.threads.length → (s.threads.getD j default).buf.length ≤ 1000000) :
  Calls Tryz.prog 26 #[codeV c tv, machV m, stateV s sv mv] w fun e w' => e = .returned (.bool (fitsOk c m s)) ∧ Below w.heap.size w w' := by
 obtain ⟨ta, tc, rfl, htl⟩ := SliceR.slice hc
 obtain ⟨sa, sc, rfl, hsl⟩ := SliceR.slice hs.threads
 obtain ⟨ma, mc, rfl, hml⟩ := SliceR.slice hs.mem
 have hmay := fun W (hW : Below w.heap.size w W) => pmay_any W c _ d (SliceR.below (RowR.stays d) hc hW) m
 have hmem := fun W (hW : Below w.heap.size w W) g (hg : W.cell? ⟨g, 1, none⟩ = some (.int .i64 c.domain)) => podds_any W _ s.mem (SliceR.below IntR.stays hs.mem hW) c.domain g hg
 have hwt := fun W bv l (hW : BufAt W bv l) (hl : l.length ≤ 1000000) => pwaits_any W c ta c.threads.length tc m bv l hW hl
 obtain ⟨r, hr⟩ : ∃ r, r = fitsOk c m s := ⟨_, rfl⟩
 have hr2 : r = (mayOk c m && decide (s.threads.length = c.threads.length) && decide ((s.mem.length : Int) = c.vars) && (List.range s.mem.length).all (fun k => inDom c.domain (s.mem.getD k 0)) && (List.range s.threads.length).all (threadOk c m s)) := hr
 rw [← hr]
 generalize mayOk c m = may at hmay hr2
 generalize hmo : ((List.range s.mem.length).all fun k => inDom c.domain (s.mem.getD k 0)) = memo at hmem hr2
 have hTO : ∀ i, threadOk c m s i = (decide (0 ≤ (s.threads.getD i default).pc) && decide ((s.threads.getD i default).pc ≤ ((c.threads.getD i []).length : Int)) && (List.range 4).all (fun k => inDom c.domain ((s.threads.getD i default).regs.getD k 0)) && (List.range (s.threads.getD i default).buf.length).all (waitOk c m (s.threads.getD i default).buf)) := fun _ => rfl
 obtain ⟨wk, hwk⟩ : ∃ f, f = waitOk c m := ⟨_, rfl⟩
 rw [← hwk] at hTO
 have hwt2 : ∀ W bv l, BufAt W bv l → l.length ≤ 1000000 → Calls Tryz.prog 54 #[.agg #[.int .i64 c.vars, .int .i64 c.domain, .slice ta c.threads.length tc], machV m, bv] W fun e w' => e = .returned (.bool ((List.range l.length).all (wk l))) ∧ Below W.heap.size W w' := by rw [hwk]; exact hwt
 clear hwt hwk hmo hr
 generalize hto : threadOk c m s = tok at hTO hr2
 clear hto
 have HTS := qh hs.threads
 have HCS := qh hc
 obtain ⟨vars, dom, cs⟩ := c
 obtain ⟨ts, mem, bad⟩ := s
 obtain ⟨mm, mb⟩ := m
 simp only [] at *
 unfold codeV machV stateV
 unfold codeV machV at hmay
 unfold machV at hwt2
 simp only [] at hmay hwt2 ⊢
 obtain ⟨n, hn⟩ : ∃ n, n = ts.length := ⟨_, rfl⟩
 obtain ⟨cn, hcn⟩ : ∃ n, n = cs.length := ⟨_, rfl⟩
 obtain ⟨mn, hmn⟩ : ∃ n, n = mem.length := ⟨_, rfl⟩
 rw [← hn] at hsl HTS hr2 hb ⊢
 rw [← hcn] at htl HCS hr2 hmay hwt2 ⊢
 rw [← hmn] at hml hmem hr2 ⊢
 have hB := boxes3 w (.cells #[.int .i64 vars, .int .i64 dom, .slice ta cn tc] 24) (.cells #[.int .i64 mm, .int .i64 mb] 26) (.cells #[.slice sa n sc, .slice ma mn mc, .bool bad] 30)
 have HB := qh hB.1
 have H1 := qh hB.2.1
 have H2 := qh hB.2.2.1
 have H3 := qh hB.2.2.2.1
 have HMAY := qh hmay
 have HMEM := qh hmem
 have HWT := qh hwt2
 have HR := qh hr2
 have HTO := qh hTO
 have HN := qh hn
 have HCN := qh hcn
 have HBF := qh hb
 clear hc hs hmay hmem hwt2 hr2 hTO hn hcn hmn hB hb
 go_enter Tryz.func26, Tryz.ntmps26
 go_upto_region 1 with fail
 generalize World.alloc (World.alloc (World.alloc w _) _) _ = W at HB H1 H2 H3 ⊢
 obtain ⟨gx, hgx⟩ : ∃ gx, gx = w.heap.size := ⟨_, rfl⟩
 rw [← hgx] at H1 H2 H3 ⊢
 clear hgx
 have HC : Hid (∀ x, Below W.heap.size W x → (x.cell? ⟨gx, 0, none⟩ = some (.int .i64 vars) ∧ x.cell? ⟨gx, 1, none⟩ = some (.int .i64 dom) ∧ x.cell? ⟨gx, 2, none⟩ = some (.slice ta cn tc)) ∧ (x.cell? ⟨gx + 1, 0, none⟩ = some (.int .i64 mm) ∧ x.cell? ⟨gx + 1, 1, none⟩ = some (.int .i64 mb)) ∧
   x.cell? ⟨gx + 1 + 1, 0, none⟩ = some (.slice sa n sc) ∧ x.cell? ⟨gx + 1 + 1, 1, none⟩ = some (.slice ma mn mc)) := fun x hx =>
  ⟨⟨qck hx _ _ (qcb H1.out 0), qck hx _ _ (qcb H1.out 1), qck hx _ _ (qcb H1.out 2)⟩, ⟨qck hx _ _ (qcb H2.out 0), qck hx _ _ (qcb H2.out 1)⟩, qck hx _ _ (qcb H3.out 0), qck hx _ _ (qcb H3.out 1)⟩
 clear H1 H2 H3
 obtain ⟨⟨c0, c1, c2⟩, ⟨m0, m1⟩, -, -⟩ := HC.out W (Below.refl _ _)
 go_wp2_with fail
 refine (HMAY.out W HB.out).mono ?_
 rintro e w2 ⟨rfl, hb2⟩
 have HB2 : Hid (Below W.heap.size W w2) := hb2
 have HW2 := qh (HB.out.trans (hb2.mono HB.out.size))
 clear c0 c1 c2 m0 m1 hb2 HMAY
 obtain ⟨⟨c0, c1, c2⟩, -, s0, s1⟩ := HC.out w2 HB2.out
 cases may with
 | false =>
  obtain rfl : r = false := by rw [HR.out]; simp
  clear HR
  go_wp2_with fail
  go_ret
  exact ⟨by first | rfl | (simp; done) | (simp; omega), HW2.out⟩
 | true =>
  by_cases hnc : n = cn
  rotate_left
  ·have b1 : (((n : Nat) : Int) != ((cn : Nat) : Int)) = true := by rw [bne_iff_ne]; omega
   have b2 : (n == cn) = false := by simp [hnc]
   obtain rfl : r = false := by rw [HR.out, decide_eq_false hnc]; simp
   clear HR
   go_wp2_with fail
   go_ret
   exact ⟨by first | rfl | (simp; done) | (simp; omega), HW2.out⟩
  subst hnc
  by_cases hmv : (mn : Int) = vars
  rotate_left
  ·have b1 : (((mn : Int)) != vars) = true := by rw [bne_iff_ne]; exact hmv
   obtain rfl : r = false := by rw [HR.out, decide_eq_false hmv]; simp
   clear HR
   go_wp2_with fail
   go_ret
   exact ⟨by first | rfl | (simp; done) | (simp; omega), HW2.out⟩
  have HR2 : Hid (r = (memo && (List.range n).all tok)) := by rw [Hid, HR.out, decide_eq_true hmv]; simp
  subst hmv
  clear HR
  go_wp2_with fail
  refine (HMEM.out w2 HW2.out gx c1).mono ?_
  rintro e w3 ⟨rfl, hb3⟩
  have HB3 : Hid (Below W.heap.size W w3) := HB2.out.trans (hb3.mono HB2.out.size)
  clear c0 c1 c2 s0 s1 hb3 HMEM
  obtain ⟨-, -, s0, -⟩ := HC.out w3 HB3.out
  cases memo with
  | false =>
   obtain rfl : r = false := by rw [HR2.out]; simp
   clear HR2
   go_wp2_with fail
   go_ret
   exact ⟨by first | rfl | (simp; done) | (simp; omega), HB.out.trans (HB3.out.mono HB.out.size)⟩
  | true =>
   have HR3 : Hid (r = (List.range n).all tok) := by rw [Hid, HR2.out]; simp
   clear HR2
   go_wp2_with fail
   clear s0
   go_loopg [8, 9, 41] n (fun gg s8 s9 s41 wr => ∃ i : Nat, i ≤ n ∧ Hid (gg = n - i) ∧ s41 = .int .i64 i ∧ Hid (Below W.heap.size W wr) ∧ Hid (∀ j, j < i → tok j = true))
   case atStart => exact ⟨0, Nat.zero_le _, rfl, rfl, HB3.out, fun j hj => by omega⟩
   case round =>
    obtain ⟨i, hi, HG, rfl, HBR, HJ⟩ := hrel
    by_cases hlt : i < n
    rotate_left
    ·obtain rfl : n = i := by omega
     obtain rfl : r = true := by rw [HR3.out, List.all_eq_true]; exact fun j hj => HJ.out j (List.mem_range.1 hj)
     clear HR3
     go_wp2_with fail
     go_ret
     exact ⟨by first | rfl | (simp; done) | (simp; omega), HB.out.trans (HBR.out.mono HB.out.size)⟩
    have hltI : (i : Int) < (n : Int) := by omega
    have HWR := qh (HB.out.trans (HBR.out.mono HB.out.size))
    have HTI := qh (HTO.out i)
    obtain ⟨eb, eo, ba, bc, hea, -, hrl, q0, q1, q2, q3, q4, q5, hbf⟩ := ThreadsAt.part HTS.out i (by rw [← HN.out]; exact hlt)
    subst hea
    obtain ⟨kb, ko, ka, kc, hka, -, hrow, -⟩ := RowsAt.part HCS.out i (by rw [← HCN.out]; exact hlt)
    subst hka
    have HBL := qh (HBF.out i hlt)
    obtain ⟨ln, hln⟩ : ∃ x, x = (cs.getD i []).length := ⟨_, rfl⟩
    rw [← hln] at hrow HTI
    obtain ⟨t, ht⟩ : ∃ t, t = ts.getD i default := ⟨_, rfl⟩
    rw [← ht] at hrl q0 q1 q2 q3 q4 q5 hbf HTI HBL
    obtain ⟨pc, regs, buf⟩ := t
    obtain ⟨g0, g1, g2, g3, rfl⟩ := four_of hrl
    simp only [List.getD_cons_zero, List.getD_cons_succ] at q0 q1 q2 q3 q4 q5 hbf HTI HBL
    obtain ⟨bn, hbn⟩ : ∃ x, x = buf.length := ⟨_, rfl⟩
    rw [← hbn] at q5 hbf
    have k := fun p v h => qck HWR.out p v h
    have e0 := k _ _ q0
    have e1 := k _ _ q1
    have e2 := k _ _ q2
    have e3 := k _ _ q3
    have e4 := k _ _ q4
    have e5 := k _ _ q5
    have e6 := k _ _ hrow
    have HBUF := qh (BufAt.below hbf HWR.out)
    obtain ⟨-, -, s0, -⟩ := HC.out wr HBR.out
    have HA := qh ((Below.refl wr.heap.size wr).alloc (Nat.le_refl _) (.cells #[.int .i64 pc, .int .i64 g0, .int .i64 g1, .int .i64 g2, .int .i64 g3, .slice ba bn bc] 48))
    have HY := qh (qhn wr (.cells #[.int .i64 pc, .int .i64 g0, .int .i64 g1, .int .i64 g2, .int .i64 g3, .slice ba bn bc] 48))
    clear q0 q1 q2 q3 q4 q5 hrow hbf ht hrl k hln hbn
    go_upto_region 7 with fail
    generalize World.alloc wr _ = X at HA HY ⊢
    obtain ⟨gl, hgl⟩ : ∃ g, g = wr.heap.size := ⟨_, rfl⟩
    rw [← hgl] at HY ⊢
    clear hgl e0 e1 e2 e3 e4 e5 s0
    have HBX : Hid (Below W.heap.size W X) := HBR.out.trans (HA.out.mono HBR.out.size)
    have HWX : Hid (Below w.heap.size w X) := HWR.out.trans (HA.out.mono HWR.out.size)
    replace e6 := qck HA.out _ _ e6
    have CC : Hid (∀ x, Below X.heap.size X x → x.cell? ⟨gl, 0, none⟩ = some (.int .i64 pc) ∧ x.cell? ⟨gl, 5, none⟩ = some (.slice ba bn bc) ∧ x.cell? ⟨gx, 0, none⟩ = some (.int .i64 mn) ∧ x.cell? ⟨gx, 1, none⟩ = some (.int .i64 dom) ∧ x.cell? ⟨gx, 2, none⟩ = some (.slice (some ⟨kb, ko, none⟩) n tc) ∧
      x.cell? ⟨gx + 1, 0, none⟩ = some (.int .i64 mm) ∧ x.cell? ⟨gx + 1, 1, none⟩ = some (.int .i64 mb) ∧ x.cell? ⟨kb, ko + i, none⟩ = some (.slice ka ln kc)) := fun x hx => by
     obtain ⟨⟨p0, p1, p2⟩, ⟨p3, p4⟩, -, -⟩ := HC.out x (qbt HBX.out hx)
     exact ⟨qck hx _ _ (qcb HY.out 0), qck hx _ _ (qcb HY.out 5), p0, p1, p2, p3, p4, qck hx _ _ e6⟩
    obtain ⟨ro, hro⟩ : ∃ b, b = (List.range 4).all (fun k => inDom dom (([g0, g1, g2, g3] : List Int).getD k 0)) := ⟨_, rfl⟩
    obtain ⟨wo, hwo⟩ : ∃ b, b = (List.range buf.length).all (wk buf) := ⟨_, rfl⟩
    have HODD : Hid (∀ x, Below X.heap.size X x → Calls Tryz.prog 53 #[.slice (some ⟨gl, 1, none⟩) 4 4, .func (.func 51) #[] #[.pointer (some ⟨gx, 0, none⟩)]] x fun e w' => e = .returned (.bool (!ro)) ∧ Below x.heap.size x w') := fun x hx => by
     rw [hro]
     exact podds_any x _ [g0, g1, g2, g3] (regs_slice (qck hx _ _ (qcb HY.out 1)) (qck hx _ _ (qcb HY.out 2)) (qck hx _ _ (qcb HY.out 3)) (qck hx _ _ (qcb HY.out 4))) dom gx (CC.out x hx).2.2.2.1
    have HWAIT : Hid (∀ x, Below X.heap.size X x → Calls Tryz.prog 54 #[.agg #[.int .i64 mn, .int .i64 dom, .slice (some ⟨kb, ko, none⟩) n tc], .agg #[.int .i64 mm, .int .i64 mb], .slice ba bn bc] x fun e w' => e = .returned (.bool wo) ∧ Below x.heap.size x w') := fun x hx => by
     rw [hwo]
     exact HWT.out x _ buf (BufAt.below (BufAt.below HBUF.out HA.out) hx) HBL.out
    have HT2 : Hid (tok i = (decide (0 ≤ pc) && decide (pc ≤ (ln : Int)) && ro && wo)) := by rw [Hid, HTI.out, hro, hwo]
    have HRN : Hid (tok i = false → r = false) := fun hw => by
     rw [HR3.out, List.all_eq_false]
     exact ⟨i, List.mem_range.2 hlt, by rw [hw]; simp⟩
    have HJ2 : Hid (tok i = true → ∀ j, j < i + 1 → tok j = true) := fun hw j hj => by
     by_cases e : j = i
     ·subst e; exact hw
     ·exact HJ.out j (by omega)
    clear hro hwo e6 HTI HBL HBUF HY HA
    by_cases a0 : 0 ≤ pc
    rotate_left
    ·have z0 : decide (pc < 0) = true := decide_eq_true (by omega)
     obtain rfl : r = false := HRN.out (by rw [HT2.out]; simp [a0])
     clear HT2 HJ2 HRN HR3
     refine wp_region_noPanic ?_
     refine wp_region_held_drew (S := fun x => Below X.heap.size X x) (by kernel_rfl) ((Below.refl _ _).drew) (fun hH1 => ?_)
     refine qta 0 46 ?vr1h1 rfl ?hyr1h1 ?_
     case hyr1h1 => (intro x h; have e := CC.out x h; go_simp <;> rfl)
     simp only [Act.put, qz1, qz2, qz3]
     refine qta 1 47 ?vr1h2 rfl ?hyr1h2 ?_
     case hyr1h2 => (intro x h; have e := CC.out x h; go_simp <;> rfl)
     simp only [Act.put, qz1, qz2, qz3]
     refine qta 2 48 ?vr1h3 rfl ?hyr1h3 ?_
     case hyr1h3 => (intro x h; have e := CC.out x h; go_simp <;> rfl)
     simp only [Act.put, qz1, qz2, qz3]
     refine qta 3 49 ?vr1h4 rfl ?hyr1h4 ?_
     case hyr1h4 => (intro x h; have e := CC.out x h; go_simp <;> rfl)
     simp only [Act.put, qz1, qz2, qz3]
     refine wpAnyH_take (i := 4) (v := undef) rfl (by kernel_rfl) (by kernel_rfl) (by kernel_rfl) (fun _ _ _ h => h) (Or.inr ⟨by rfl, rfl⟩) (by assumption) ?_
     change wpAnyH _ _ _ _ _ _ _ (Act.put _ (some 50) _) _
     simp only [Act.put, qz1, qz2, qz3]
     refine wpAnyH_take (i := 5) (v := undef) rfl (by kernel_rfl) (by kernel_rfl) (by kernel_rfl) (fun _ _ _ h => h) (Or.inr ⟨by rfl, rfl⟩) (by assumption) ?_
     change wpAnyH _ _ _ _ _ _ _ (Act.put _ (some 51) _) _
     simp only [Act.put, qz1, qz2, qz3]
     refine wpAnyH_take (i := 6) (v := undef) rfl (by kernel_rfl) (by kernel_rfl) (by kernel_rfl) (fun _ _ _ h => h) (Or.inr ⟨by rfl, rfl⟩) (by assumption) ?_
     change wpAnyH _ _ _ _ _ _ _ (Act.put _ (some 52) _) _
     simp only [Act.put, qz1, qz2, qz3]
     refine wpAnyH_take (i := 7) (v := undef) rfl (by kernel_rfl) (by kernel_rfl) (by kernel_rfl) (fun _ _ _ h => h) (Or.inr ⟨by rfl, rfl⟩) (by assumption) ?_
     change wpAnyH _ _ _ _ _ _ _ (Act.put _ (some 53) _) _
     simp only [Act.put, qz1, qz2, qz3]
     refine wpAnyH_take (i := 8) (v := undef) rfl (by kernel_rfl) (by kernel_rfl) (by kernel_rfl) (fun _ _ _ h => h) (Or.inr ⟨by rfl, rfl⟩) (by assumption) ?_
     change wpAnyH _ _ _ _ _ _ _ (Act.put _ (some 54) _) _
     simp only [Act.put, qz1, qz2, qz3]
     refine wpAnyH_take (i := 9) (v := undef) rfl (by kernel_rfl) (by kernel_rfl) (by kernel_rfl) (fun _ _ _ h => h) (Or.inr ⟨by rfl, rfl⟩) (by assumption) ?_
     change wpAnyH _ _ _ _ _ _ _ (Act.put _ (some 55) _) _
     simp only [Act.put, qz1, qz2, qz3]
     refine wpAnyH_take (i := 10) (v := undef) rfl (by kernel_rfl) (by kernel_rfl) (by kernel_rfl) (fun _ _ _ h => h) (Or.inr ⟨by rfl, rfl⟩) (by assumption) ?_
     change wpAnyH _ _ _ _ _ _ _ (Act.put _ (some 56) _) _
     simp only [Act.put, qz1, qz2, qz3]
     refine wpAnyH_take (i := 11) (v := undef) rfl (by kernel_rfl) (by kernel_rfl) (by kernel_rfl) (fun _ _ _ h => h) (Or.inr ⟨by rfl, rfl⟩) (by assumption) ?_
     change wpAnyH _ _ _ _ _ _ _ (Act.put _ (some 57) _) _
     simp only [Act.put, qz1, qz2, qz3]
     refine wpAnyH_take (i := 12) (v := undef) rfl (by kernel_rfl) (by kernel_rfl) (by kernel_rfl) (fun _ _ _ h => h) (Or.inr ⟨by rfl, rfl⟩) (by assumption) ?_
     change wpAnyH _ _ _ _ _ _ _ (Act.put _ (some 58) _) _
     simp only [Act.put, qz1, qz2, qz3]
     refine qta 13 59 ?vr1h14 rfl ?hyr1h14 ?_
     case hyr1h14 => (intro x h; have e := CC.out x h; go_simp <;> rfl)
     simp only [Act.put, qz1, qz2, qz3]
     refine qta 14 60 ?vr1h15 rfl ?hyr1h15 ?_
     case hyr1h15 => (intro x h; have e := CC.out x h; go_simp <;> rfl)
     simp only [Act.put, qz1, qz2, qz3]
     refine wpAnyH_take (i := 15) (v := undef) rfl (by kernel_rfl) (by kernel_rfl) (by kernel_rfl) (fun _ _ _ h => h) (Or.inr ⟨by rfl, rfl⟩) (by assumption) ?_
     change wpAnyH _ _ _ _ _ _ _ (Act.put _ (some 61) _) _
     simp only [Act.put, qz1, qz2, qz3]
     refine wpAnyH_take (i := 16) (v := undef) rfl (by kernel_rfl) (by kernel_rfl) (by kernel_rfl) (fun _ _ _ h => h) (Or.inr ⟨by rfl, rfl⟩) (by assumption) ?_
     change wpAnyH _ _ _ _ _ _ _ (Act.put _ (some 62) _) _
     simp only [Act.put, qz1, qz2, qz3]
     refine wpAnyH_take (i := 17) (v := undef) rfl (by kernel_rfl) (by kernel_rfl) (by kernel_rfl) (fun _ _ _ h => h) (Or.inr ⟨by rfl, rfl⟩) (by assumption) ?_
     change wpAnyH _ _ _ _ _ _ _ (Act.put _ (some 63) _) _
     simp only [Act.put, qz1, qz2, qz3]
     refine wpAnyH_take (i := 18) (v := undef) rfl (by kernel_rfl) (by kernel_rfl) (by kernel_rfl) (fun _ _ _ h => h) (Or.inr ⟨by rfl, rfl⟩) (by assumption) ?_
     change wpAnyH _ _ _ _ _ _ _ (Act.put _ (some 64) _) _
     simp only [Act.put, qz1, qz2, qz3]
     refine qta 19 65 ?vr1h20 rfl ?hyr1h20 ?_
     case hyr1h20 => (intro x h; have e := CC.out x h; go_simp <;> rfl)
     simp only [Act.put, qz1, qz2, qz3]
     refine qta 20 66 ?vr1h21 rfl ?hyr1h21 ?_
     case hyr1h21 => (intro x h; have e := CC.out x h; go_simp <;> rfl)
     simp only [Act.put, qz1, qz2, qz3]
     refine wpAnyH_take (i := 21) (v := undef) rfl (by kernel_rfl) (by kernel_rfl) (by kernel_rfl) (fun _ _ _ h => h) (Or.inr ⟨by rfl, rfl⟩) (by assumption) ?_
     change wpAnyH _ _ _ _ _ _ _ (Act.put _ (some 67) _) _
     simp only [Act.put, qz1, qz2, qz3]
     refine wpAnyH_take (i := 22) (v := undef) rfl (by kernel_rfl) (by kernel_rfl) (by kernel_rfl) (fun _ _ _ h => h) (Or.inr ⟨by rfl, rfl⟩) (by assumption) ?_
     change wpAnyH _ _ _ _ _ _ _ (Act.put _ (some 68) _) _
     simp only [Act.put, qz1, qz2, qz3]
     refine wpAnyH_take (i := 23) (v := undef) rfl (by kernel_rfl) (by kernel_rfl) (by kernel_rfl) (fun _ _ _ h => h) (Or.inr ⟨by rfl, rfl⟩) (by assumption) ?_
     change wpAnyH _ _ _ _ _ _ _ (Act.put _ (some 69) _) _
     simp only [Act.put, qz1, qz2, qz3]
     refine wpAnyH_take (i := 24) (v := undef) rfl (by kernel_rfl) (by kernel_rfl) (by kernel_rfl) (fun _ _ _ h => h) (Or.inr ⟨by rfl, rfl⟩) (by assumption) ?_
     change wpAnyH _ _ _ _ _ _ _ (Act.put _ (some 70) _) _
     simp only [Act.put, qz1, qz2, qz3]
     refine wpAnyH_take (i := 25) (v := undef) rfl (by kernel_rfl) (by kernel_rfl) (by kernel_rfl) (fun _ _ _ h => h) (Or.inr ⟨by rfl, rfl⟩) (by assumption) ?_
     change wpAnyH _ _ _ _ _ _ _ (Act.put _ (some 71) _) _
     simp only [Act.put, qz1, qz2, qz3]
     refine wpAnyH_take (i := 26) (v := undef) rfl (by kernel_rfl) (by kernel_rfl) (by kernel_rfl) (fun _ _ _ h => h) (Or.inr ⟨by rfl, rfl⟩) (by assumption) ?_
     change wpAnyH _ _ _ _ _ _ _ (Act.put _ (some 72) _) _
     simp only [Act.put, qz1, qz2, qz3]
     refine qta 27 73 ?vr1h28 rfl ?hyr1h28 ?_
     case hyr1h28 => (intro x h; have e := CC.out x h; go_simp <;> rfl)
     simp only [Act.put, qz1, qz2, qz3]
     refine wpAnyH_done (by kernel_rfl) ?_ _
     refine NoPanic.normal ?_
     have HBZ : Hid (Below W.heap.size W X.drew) := HBX.out.trans ((hH1).mono HBX.out.size)
     go_wp2_with fail
     go_ret
     exact ⟨by first | rfl | (simp; done) | (simp; omega), HB.out.trans (HBZ.out.mono HB.out.size)⟩
    have z0 : decide (pc < 0) = false := decide_eq_false (by omega)
    by_cases a1 : pc ≤ (ln : Int)
    rotate_left
    ·have z1 : decide ((ln : Int) < pc) = true := decide_eq_true (by omega)
     obtain rfl : r = false := HRN.out (by rw [HT2.out]; simp [a1])
     clear HT2 HJ2 HRN HR3
     refine wp_region_noPanic ?_
     refine wp_region_held_drew (S := fun x => Below X.heap.size X x) (by kernel_rfl) ((Below.refl _ _).drew) (fun hH2 => ?_)
     refine qta 0 46 ?vr2h1 rfl ?hyr2h1 ?_
     case hyr2h1 => (intro x h; have e := CC.out x h; go_simp <;> rfl)
     simp only [Act.put, qz1, qz2, qz3]
     refine qta 1 47 ?vr2h2 rfl ?hyr2h2 ?_
     case hyr2h2 => (intro x h; have e := CC.out x h; go_simp <;> rfl)
     simp only [Act.put, qz1, qz2, qz3]
     refine qta 2 48 ?vr2h3 rfl ?hyr2h3 ?_
     case hyr2h3 => (intro x h; have e := CC.out x h; go_simp <;> rfl)
     simp only [Act.put, qz1, qz2, qz3]
     refine qta 3 49 ?vr2h4 rfl ?hyr2h4 ?_
     case hyr2h4 => (intro x h; have e := CC.out x h; go_simp <;> rfl)
     simp only [Act.put, qz1, qz2, qz3]
     refine qta 4 50 ?vr2h5 rfl ?hyr2h5 ?_
     case hyr2h5 => (intro x h; have e := CC.out x h; go_simp <;> rfl)
     simp only [Act.put, qz1, qz2, qz3]
     refine qta 5 51 ?vr2h6 rfl ?hyr2h6 ?_
     case hyr2h6 => (intro x h; have e := CC.out x h; go_simp <;> rfl)
     simp only [Act.put, qz1, qz2, qz3]
     refine qta 6 52 ?vr2h7 rfl ?hyr2h7 ?_
     case hyr2h7 => (intro x h; have e := CC.out x h; go_simp <;> rfl)
     simp only [Act.put, qz1, qz2, qz3]
     refine qta 7 53 ?vr2h8 rfl ?hyr2h8 ?_
     case hyr2h8 => (intro x h; have e := CC.out x h; go_simp <;> rfl)
     simp only [Act.put, qz1, qz2, qz3]
     refine qta 8 54 ?vr2h9 rfl ?hyr2h9 ?_
     case hyr2h9 => (intro x h; have e := CC.out x h; go_simp <;> rfl)
     simp only [Act.put, qz1, qz2, qz3]
     refine qta 9 55 ?vr2h10 rfl ?hyr2h10 ?_
     case hyr2h10 => (intro x h; have e := CC.out x h; go_simp <;> rfl)
     simp only [Act.put, qz1, qz2, qz3]
     refine qta 10 56 ?vr2h11 rfl ?hyr2h11 ?_
     case hyr2h11 => (intro x h; have e := CC.out x h; go_simp <;> rfl)
     simp only [Act.put, qz1, qz2, qz3]
     refine qta 11 57 ?vr2h12 rfl ?hyr2h12 ?_
     case hyr2h12 => (intro x h; have e := CC.out x h; go_simp <;> rfl)
     simp only [Act.put, qz1, qz2, qz3]
     refine qta 12 58 ?vr2h13 rfl ?hyr2h13 ?_
     case hyr2h13 => (intro x h; have e := CC.out x h; go_simp <;> rfl)
     simp only [Act.put, qz1, qz2, qz3]
     refine qta 13 59 ?vr2h14 rfl ?hyr2h14 ?_
     case hyr2h14 => (intro x h; have e := CC.out x h; go_simp <;> rfl)
     simp only [Act.put, qz1, qz2, qz3]
     refine qta 14 60 ?vr2h15 rfl ?hyr2h15 ?_
     case hyr2h15 => (intro x h; have e := CC.out x h; go_simp <;> rfl)
     simp only [Act.put, qz1, qz2, qz3]
     refine wpAnyH_take (i := 15) (v := undef) rfl (by kernel_rfl) (by kernel_rfl) (by kernel_rfl) (fun _ _ _ h => h) (Or.inr ⟨by rfl, rfl⟩) (by assumption) ?_
     change wpAnyH _ _ _ _ _ _ _ (Act.put _ (some 61) _) _
     simp only [Act.put, qz1, qz2, qz3]
     refine wpAnyH_take (i := 16) (v := undef) rfl (by kernel_rfl) (by kernel_rfl) (by kernel_rfl) (fun _ _ _ h => h) (Or.inr ⟨by rfl, rfl⟩) (by assumption) ?_
     change wpAnyH _ _ _ _ _ _ _ (Act.put _ (some 62) _) _
     simp only [Act.put, qz1, qz2, qz3]
     refine wpAnyH_take (i := 17) (v := undef) rfl (by kernel_rfl) (by kernel_rfl) (by kernel_rfl) (fun _ _ _ h => h) (Or.inr ⟨by rfl, rfl⟩) (by assumption) ?_
     change wpAnyH _ _ _ _ _ _ _ (Act.put _ (some 63) _) _
     simp only [Act.put, qz1, qz2, qz3]
     refine wpAnyH_take (i := 18) (v := undef) rfl (by kernel_rfl) (by kernel_rfl) (by kernel_rfl) (fun _ _ _ h => h) (Or.inr ⟨by rfl, rfl⟩) (by assumption) ?_
     change wpAnyH _ _ _ _ _ _ _ (Act.put _ (some 64) _) _
     simp only [Act.put, qz1, qz2, qz3]
     refine qta 19 65 ?vr2h20 rfl ?hyr2h20 ?_
     case hyr2h20 => (intro x h; have e := CC.out x h; go_simp <;> rfl)
     simp only [Act.put, qz1, qz2, qz3]
     refine qta 20 66 ?vr2h21 rfl ?hyr2h21 ?_
     case hyr2h21 => (intro x h; have e := CC.out x h; go_simp <;> rfl)
     simp only [Act.put, qz1, qz2, qz3]
     refine wpAnyH_take (i := 21) (v := undef) rfl (by kernel_rfl) (by kernel_rfl) (by kernel_rfl) (fun _ _ _ h => h) (Or.inr ⟨by rfl, rfl⟩) (by assumption) ?_
     change wpAnyH _ _ _ _ _ _ _ (Act.put _ (some 67) _) _
     simp only [Act.put, qz1, qz2, qz3]
     refine wpAnyH_take (i := 22) (v := undef) rfl (by kernel_rfl) (by kernel_rfl) (by kernel_rfl) (fun _ _ _ h => h) (Or.inr ⟨by rfl, rfl⟩) (by assumption) ?_
     change wpAnyH _ _ _ _ _ _ _ (Act.put _ (some 68) _) _
     simp only [Act.put, qz1, qz2, qz3]
     refine wpAnyH_take (i := 23) (v := undef) rfl (by kernel_rfl) (by kernel_rfl) (by kernel_rfl) (fun _ _ _ h => h) (Or.inr ⟨by rfl, rfl⟩) (by assumption) ?_
     change wpAnyH _ _ _ _ _ _ _ (Act.put _ (some 69) _) _
     simp only [Act.put, qz1, qz2, qz3]
     refine wpAnyH_take (i := 24) (v := undef) rfl (by kernel_rfl) (by kernel_rfl) (by kernel_rfl) (fun _ _ _ h => h) (Or.inr ⟨by rfl, rfl⟩) (by assumption) ?_
     change wpAnyH _ _ _ _ _ _ _ (Act.put _ (some 70) _) _
     simp only [Act.put, qz1, qz2, qz3]
     refine wpAnyH_take (i := 25) (v := undef) rfl (by kernel_rfl) (by kernel_rfl) (by kernel_rfl) (fun _ _ _ h => h) (Or.inr ⟨by rfl, rfl⟩) (by assumption) ?_
     change wpAnyH _ _ _ _ _ _ _ (Act.put _ (some 71) _) _
     simp only [Act.put, qz1, qz2, qz3]
     refine wpAnyH_take (i := 26) (v := undef) rfl (by kernel_rfl) (by kernel_rfl) (by kernel_rfl) (fun _ _ _ h => h) (Or.inr ⟨by rfl, rfl⟩) (by assumption) ?_
     change wpAnyH _ _ _ _ _ _ _ (Act.put _ (some 72) _) _
     simp only [Act.put, qz1, qz2, qz3]
     refine qta 27 73 ?vr2h28 rfl ?hyr2h28 ?_
     case hyr2h28 => (intro x h; have e := CC.out x h; go_simp <;> rfl)
     simp only [Act.put, qz1, qz2, qz3]
     refine wpAnyH_done (by kernel_rfl) ?_ _
     refine NoPanic.normal ?_
     have HBZ : Hid (Below W.heap.size W X.drew) := HBX.out.trans ((hH2).mono HBX.out.size)
     go_wp2_with fail
     go_ret
     exact ⟨by first | rfl | (simp; done) | (simp; omega), HB.out.trans (HBZ.out.mono HB.out.size)⟩
    have z1 : decide ((ln : Int) < pc) = false := decide_eq_false (by omega)
    cases ro with
    | true =>
     refine wp_region_noPanic ?_
     refine wp_region_held_drew (S := fun x => Below X.heap.size X x) (by kernel_rfl) ((Below.refl _ _).drew) (fun hH4 => ?_)
     refine qta 0 46 ?vr4h1 rfl ?hyr4h1 ?_
     case hyr4h1 => (intro x h; have e := CC.out x h; go_simp <;> rfl)
     simp only [Act.put, qz1, qz2, qz3]
     refine qta 1 47 ?vr4h2 rfl ?hyr4h2 ?_
     case hyr4h2 => (intro x h; have e := CC.out x h; go_simp <;> rfl)
     simp only [Act.put, qz1, qz2, qz3]
     refine qta 2 48 ?vr4h3 rfl ?hyr4h3 ?_
     case hyr4h3 => (intro x h; have e := CC.out x h; go_simp <;> rfl)
     simp only [Act.put, qz1, qz2, qz3]
     refine qta 3 49 ?vr4h4 rfl ?hyr4h4 ?_
     case hyr4h4 => (intro x h; have e := CC.out x h; go_simp <;> rfl)
     simp only [Act.put, qz1, qz2, qz3]
     refine qta 4 50 ?vr4h5 rfl ?hyr4h5 ?_
     case hyr4h5 => (intro x h; have e := CC.out x h; go_simp <;> rfl)
     simp only [Act.put, qz1, qz2, qz3]
     refine qta 5 51 ?vr4h6 rfl ?hyr4h6 ?_
     case hyr4h6 => (intro x h; have e := CC.out x h; go_simp <;> rfl)
     simp only [Act.put, qz1, qz2, qz3]
     refine qta 6 52 ?vr4h7 rfl ?hyr4h7 ?_
     case hyr4h7 => (intro x h; have e := CC.out x h; go_simp <;> rfl)
     simp only [Act.put, qz1, qz2, qz3]
     refine qta 7 53 ?vr4h8 rfl ?hyr4h8 ?_
     case hyr4h8 => (intro x h; have e := CC.out x h; go_simp <;> rfl)
     simp only [Act.put, qz1, qz2, qz3]
     refine qta 8 54 ?vr4h9 rfl ?hyr4h9 ?_
     case hyr4h9 => (intro x h; have e := CC.out x h; go_simp <;> rfl)
     simp only [Act.put, qz1, qz2, qz3]
     refine qta 9 55 ?vr4h10 rfl ?hyr4h10 ?_
     case hyr4h10 => (intro x h; have e := CC.out x h; go_simp <;> rfl)
     simp only [Act.put, qz1, qz2, qz3]
     refine qta 10 56 ?vr4h11 rfl ?hyr4h11 ?_
     case hyr4h11 => (intro x h; have e := CC.out x h; go_simp <;> rfl)
     simp only [Act.put, qz1, qz2, qz3]
     refine qta 11 57 ?vr4h12 rfl ?hyr4h12 ?_
     case hyr4h12 => (intro x h; have e := CC.out x h; go_simp <;> rfl)
     simp only [Act.put, qz1, qz2, qz3]
     refine qta 12 58 ?vr4h13 rfl ?hyr4h13 ?_
     case hyr4h13 => (intro x h; have e := CC.out x h; go_simp <;> rfl)
     simp only [Act.put, qz1, qz2, qz3]
     refine qta 13 59 ?vr4h14 rfl ?hyr4h14 ?_
     case hyr4h14 => (intro x h; have e := CC.out x h; go_simp <;> rfl)
     simp only [Act.put, qz1, qz2, qz3]
     refine qta 14 60 ?vr4h15 rfl ?hyr4h15 ?_
     case hyr4h15 => (intro x h; have e := CC.out x h; go_simp <;> rfl)
     simp only [Act.put, qz1, qz2, qz3]
     refine qta 15 61 ?vr4h16 rfl ?hyr4h16 ?_
     case hyr4h16 => (intro x h; have e := CC.out x h; go_simp <;> rfl)
     simp only [Act.put, qz1, qz2, qz3]
     refine qta 16 62 ?vr4h17 rfl ?hyr4h17 ?_
     case hyr4h17 => (intro x h; have e := CC.out x h; go_simp <;> rfl)
     simp only [Act.put, qz1, qz2, qz3]
     refine qta 17 63 ?vr4h18 rfl ?hyr4h18 ?_
     case hyr4h18 => (intro x h; have e := CC.out x h; go_simp <;> rfl)
     simp only [Act.put, qz1, qz2, qz3]
     refine qrH 18 rfl (fun K hK => ?_)
     go_simp
     refine (HODD.out X.drew hH4).mono ?_
     rintro e r4hw18 ⟨rfl, hb⟩
     have hH44h18 : Below X.heap.size X r4hw18 := qbt hH4 hb
     refine hK.out _ _ hH44h18 (fun _ => ?_)
     clear hK K hb hH4
     refine qta 19 65 ?vr4h19 rfl ?hyr4h19 ?_
     case hyr4h19 => (intro x h; have e := CC.out x h; go_simp <;> rfl)
     simp only [Act.put, qz1, qz2, qz3]
     refine qta 20 66 ?vr4h20 rfl ?hyr4h20 ?_
     case hyr4h20 => (intro x h; have e := CC.out x h; go_simp <;> rfl)
     simp only [Act.put, qz1, qz2, qz3]
     refine qta 21 67 ?vr4h21 rfl ?hyr4h21 ?_
     case hyr4h21 => (intro x h; have e := CC.out x h; go_simp <;> rfl)
     simp only [Act.put, qz1, qz2, qz3]
     refine qta 22 68 ?vr4h22 rfl ?hyr4h22 ?_
     case hyr4h22 => (intro x h; have e := CC.out x h; go_simp <;> rfl)
     simp only [Act.put, qz1, qz2, qz3]
     refine qta 23 69 ?vr4h23 rfl ?hyr4h23 ?_
     case hyr4h23 => (intro x h; have e := CC.out x h; go_simp <;> rfl)
     simp only [Act.put, qz1, qz2, qz3]
     refine qta 24 70 ?vr4h24 rfl ?hyr4h24 ?_
     case hyr4h24 => (intro x h; have e := CC.out x h; go_simp <;> rfl)
     simp only [Act.put, qz1, qz2, qz3]
     refine qrH 25 rfl (fun K hK => ?_)
     go_simp
     refine (HWAIT.out r4hw18 hH44h18).mono ?_
     rintro e r4hw25 ⟨rfl, hb⟩
     have hH44h25 : Below X.heap.size X r4hw25 := qbt hH44h18 hb
     refine hK.out _ _ hH44h25 (fun _ => ?_)
     clear hK K hb hH44h18
     refine qta 26 72 ?vr4h25 rfl ?hyr4h25 ?_
     case hyr4h25 => (intro x h; have e := CC.out x h; go_simp <;> rfl)
     simp only [Act.put, qz1, qz2, qz3]
     refine qta 27 73 ?vr4h26 rfl ?hyr4h26 ?_
     case hyr4h26 => (intro x h; have e := CC.out x h; go_simp <;> rfl)
     simp only [Act.put, qz1, qz2, qz3]
     refine wpAnyH_done (by kernel_rfl) ?_ _
     refine NoPanic.normal ?_
     have HBZ : Hid (Below W.heap.size W r4hw25) := HBX.out.trans ((hH44h25).mono HBX.out.size)
     cases wo with
     | true =>
      have HYES := qh (HJ2.out (by rw [HT2.out]; simp [a0, a1]))
      clear HT2 HJ2 HRN HR3
      go_wp2_with fail
      go_roundg (n - (i + 1))
      case measure => rw [HG.out]; omega
      case rel => exact ⟨i + 1, by omega, rfl, by simp, HBZ.out, HYES.out⟩
     | false =>
      obtain rfl : r = false := HRN.out (by rw [HT2.out]; simp)
      clear HT2 HJ2 HRN HR3
      go_wp2_with fail
      go_ret
      exact ⟨by first | rfl | (simp; done) | (simp; omega), HB.out.trans (HBZ.out.mono HB.out.size)⟩
    | false =>
     obtain rfl : r = false := HRN.out (by rw [HT2.out]; simp)
     clear HT2 HJ2 HRN HR3
     refine wp_region_noPanic ?_
     refine wp_region_held_drew (S := fun x => Below X.heap.size X x) (by kernel_rfl) ((Below.refl _ _).drew) (fun hH3 => ?_)
     refine qta 0 46 ?vr3h1 rfl ?hyr3h1 ?_
     case hyr3h1 => (intro x h; have e := CC.out x h; go_simp <;> rfl)
     simp only [Act.put, qz1, qz2, qz3]
     refine qta 1 47 ?vr3h2 rfl ?hyr3h2 ?_
     case hyr3h2 => (intro x h; have e := CC.out x h; go_simp <;> rfl)
     simp only [Act.put, qz1, qz2, qz3]
     refine qta 2 48 ?vr3h3 rfl ?hyr3h3 ?_
     case hyr3h3 => (intro x h; have e := CC.out x h; go_simp <;> rfl)
     simp only [Act.put, qz1, qz2, qz3]
     refine qta 3 49 ?vr3h4 rfl ?hyr3h4 ?_
     case hyr3h4 => (intro x h; have e := CC.out x h; go_simp <;> rfl)
     simp only [Act.put, qz1, qz2, qz3]
     refine qta 4 50 ?vr3h5 rfl ?hyr3h5 ?_
     case hyr3h5 => (intro x h; have e := CC.out x h; go_simp <;> rfl)
     simp only [Act.put, qz1, qz2, qz3]
     refine qta 5 51 ?vr3h6 rfl ?hyr3h6 ?_
     case hyr3h6 => (intro x h; have e := CC.out x h; go_simp <;> rfl)
     simp only [Act.put, qz1, qz2, qz3]
     refine qta 6 52 ?vr3h7 rfl ?hyr3h7 ?_
     case hyr3h7 => (intro x h; have e := CC.out x h; go_simp <;> rfl)
     simp only [Act.put, qz1, qz2, qz3]
     refine qta 7 53 ?vr3h8 rfl ?hyr3h8 ?_
     case hyr3h8 => (intro x h; have e := CC.out x h; go_simp <;> rfl)
     simp only [Act.put, qz1, qz2, qz3]
     refine qta 8 54 ?vr3h9 rfl ?hyr3h9 ?_
     case hyr3h9 => (intro x h; have e := CC.out x h; go_simp <;> rfl)
     simp only [Act.put, qz1, qz2, qz3]
     refine qta 9 55 ?vr3h10 rfl ?hyr3h10 ?_
     case hyr3h10 => (intro x h; have e := CC.out x h; go_simp <;> rfl)
     simp only [Act.put, qz1, qz2, qz3]
     refine qta 10 56 ?vr3h11 rfl ?hyr3h11 ?_
     case hyr3h11 => (intro x h; have e := CC.out x h; go_simp <;> rfl)
     simp only [Act.put, qz1, qz2, qz3]
     refine qta 11 57 ?vr3h12 rfl ?hyr3h12 ?_
     case hyr3h12 => (intro x h; have e := CC.out x h; go_simp <;> rfl)
     simp only [Act.put, qz1, qz2, qz3]
     refine qta 12 58 ?vr3h13 rfl ?hyr3h13 ?_
     case hyr3h13 => (intro x h; have e := CC.out x h; go_simp <;> rfl)
     simp only [Act.put, qz1, qz2, qz3]
     refine qta 13 59 ?vr3h14 rfl ?hyr3h14 ?_
     case hyr3h14 => (intro x h; have e := CC.out x h; go_simp <;> rfl)
     simp only [Act.put, qz1, qz2, qz3]
     refine qta 14 60 ?vr3h15 rfl ?hyr3h15 ?_
     case hyr3h15 => (intro x h; have e := CC.out x h; go_simp <;> rfl)
     simp only [Act.put, qz1, qz2, qz3]
     refine qta 15 61 ?vr3h16 rfl ?hyr3h16 ?_
     case hyr3h16 => (intro x h; have e := CC.out x h; go_simp <;> rfl)
     simp only [Act.put, qz1, qz2, qz3]
     refine qta 16 62 ?vr3h17 rfl ?hyr3h17 ?_
     case hyr3h17 => (intro x h; have e := CC.out x h; go_simp <;> rfl)
     simp only [Act.put, qz1, qz2, qz3]
     refine qta 17 63 ?vr3h18 rfl ?hyr3h18 ?_
     case hyr3h18 => (intro x h; have e := CC.out x h; go_simp <;> rfl)
     simp only [Act.put, qz1, qz2, qz3]
     refine qrH 18 rfl (fun K hK => ?_)
     go_simp
     refine (HODD.out X.drew hH3).mono ?_
     rintro e r3hw18 ⟨rfl, hb⟩
     have hH33h18 : Below X.heap.size X r3hw18 := qbt hH3 hb
     refine hK.out _ _ hH33h18 (fun _ => ?_)
     clear hK K hb hH3
     refine qta 19 65 ?vr3h19 rfl ?hyr3h19 ?_
     case hyr3h19 => (intro x h; have e := CC.out x h; go_simp <;> rfl)
     simp only [Act.put, qz1, qz2, qz3]
     refine qta 20 66 ?vr3h20 rfl ?hyr3h20 ?_
     case hyr3h20 => (intro x h; have e := CC.out x h; go_simp <;> rfl)
     simp only [Act.put, qz1, qz2, qz3]
     refine wpAnyH_take (i := 21) (v := undef) rfl (by kernel_rfl) (by kernel_rfl) (by kernel_rfl) (fun _ _ _ h => h) (Or.inr ⟨by rfl, rfl⟩) (by assumption) ?_
     change wpAnyH _ _ _ _ _ _ _ (Act.put _ (some 67) _) _
     simp only [Act.put, qz1, qz2, qz3]
     refine wpAnyH_take (i := 22) (v := undef) rfl (by kernel_rfl) (by kernel_rfl) (by kernel_rfl) (fun _ _ _ h => h) (Or.inr ⟨by rfl, rfl⟩) (by assumption) ?_
     change wpAnyH _ _ _ _ _ _ _ (Act.put _ (some 68) _) _
     simp only [Act.put, qz1, qz2, qz3]
     refine wpAnyH_take (i := 23) (v := undef) rfl (by kernel_rfl) (by kernel_rfl) (by kernel_rfl) (fun _ _ _ h => h) (Or.inr ⟨by rfl, rfl⟩) (by assumption) ?_
     change wpAnyH _ _ _ _ _ _ _ (Act.put _ (some 69) _) _
     simp only [Act.put, qz1, qz2, qz3]
     refine wpAnyH_take (i := 24) (v := undef) rfl (by kernel_rfl) (by kernel_rfl) (by kernel_rfl) (fun _ _ _ h => h) (Or.inr ⟨by rfl, rfl⟩) (by assumption) ?_
     change wpAnyH _ _ _ _ _ _ _ (Act.put _ (some 70) _) _
     simp only [Act.put, qz1, qz2, qz3]
     refine wpAnyH_take (i := 25) (v := undef) rfl (by kernel_rfl) (by kernel_rfl) (by kernel_rfl) (fun _ _ _ h => h) (Or.inr ⟨by rfl, rfl⟩) (by assumption) ?_
     change wpAnyH _ _ _ _ _ _ _ (Act.put _ (some 71) _) _
     simp only [Act.put, qz1, qz2, qz3]
     refine wpAnyH_take (i := 26) (v := undef) rfl (by kernel_rfl) (by kernel_rfl) (by kernel_rfl) (fun _ _ _ h => h) (Or.inr ⟨by rfl, rfl⟩) (by assumption) ?_
     change wpAnyH _ _ _ _ _ _ _ (Act.put _ (some 72) _) _
     simp only [Act.put, qz1, qz2, qz3]
     refine qta 27 73 ?vr3h27 rfl ?hyr3h27 ?_
     case hyr3h27 => (intro x h; have e := CC.out x h; go_simp <;> rfl)
     simp only [Act.put, qz1, qz2, qz3]
     refine wpAnyH_done (by kernel_rfl) ?_ _
     refine NoPanic.normal ?_
     have HBZ : Hid (Below W.heap.size W r3hw18) := HBX.out.trans ((hH33h18).mono HBX.out.size)
     go_wp2_with fail
     go_ret
     exact ⟨by first | rfl | (simp; done) | (simp; omega), HB.out.trans (HBZ.out.mono HB.out.size)⟩
end Go.Proofs.YtliajkheeniljaaGreatDoor
