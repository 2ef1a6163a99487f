/- All numbers of a final, and which of two stands ahead: the program's answer: the walks. -/
import Derived.Test.YtnlkbboghcdpnaaClone
import Derived.Test.YtnlkbboghcdpnaaRBelow
import Derived.Sort.Grow
namespace Go.Proofs.Ytnlkbboghcdpnaa
open Go.RowKit

set_option maxRecDepth 100000 in
set_option maxHeartbeats 4000000 in
theorem flat_any (w : World) (f : FinalD) (mv rv : Value) (hf : FinalAt w f mv rv) (hfew : fewD f) :
    Calls Try.prog 65 #[finalV mv rv] w fun e w' => (∃ fa fc, e = .returned (.slice fa (flatD f).length fc) ∧ w'.ownsRow w.heap.size 3 1 (.slice fa (flatD f).length fc) (flatD f).length (flatC intC (flatD f))) ∧ Below w.heap.size w w' ∧ w.drawn ≤ w'.drawn := by
  obtain ⟨hm, hrl⟩ := hfew
  obtain ⟨ma, mc, rfl, -⟩ := SliceR.slice hf.mem
  obtain ⟨ra, rc, rfl, -⟩ := SliceR.slice hf.regs
  obtain ⟨F, hF⟩ : ∃ F, F = flatD f := ⟨_, rfl⟩
  have hF2 : F = f.mem ++ f.regs.flatten := hF
  rw [← hF]
  clear hF
  obtain ⟨fn, hfn⟩ : ∃ n, n = F.length := ⟨_, rfl⟩
  rw [← hfn]
  have HFN := Lib.hid hfn
  clear hfn
  unfold finalV
  obtain ⟨mem, regs⟩ := f
  have h1 := hf.mem
  have h2 := hf.regs
  simp only [] at h1 h2 hm hrl hF2 ⊢
  obtain ⟨m, hmm⟩ : ∃ m, m = mem.length := ⟨_, rfl⟩
  obtain ⟨n, hn⟩ : ∃ n, n = regs.length := ⟨_, rfl⟩
  rw [← hmm] at h1 hm ⊢
  rw [← hn] at h2 hrl ⊢
  have hB := (Below.refl w.heap.size w).alloc (Nat.le_refl _) (.cells #[.slice ma m mc, .slice ra n rc] 103)
  have H1 := Lib.hid (heap_alloc_new w (.cells #[.slice ma m mc, .slice ra n rc] 103))
  have HM := Lib.hid (SliceR.below IntR.stays h1 hB)
  have HR := Lib.hid (SliceR.below Regs4R.stays h2 hB)
  have HB := Lib.hid hB
  have HD0 : Hid (w.drawn ≤ (w.alloc (.cells #[.slice ma m mc, .slice ra n rc] 103)).drawn) := Nat.le_refl _
  have HMM := Lib.hid hmm
  have HN := Lib.hid hn
  have HF := Lib.hid hF2
  clear hf h1 h2 hB hmm hn hF2
  go_enter Try.func65, Try.ntmps65
  go_upto_region 1 with fail
  generalize World.alloc w _ = W at HB HD0 H1 HM HR ⊢
  obtain ⟨gx, hgx⟩ : ∃ gx, gx = w.heap.size := ⟨_, rfl⟩
  rw [← hgx] at H1 ⊢
  clear hgx
  have HFIN : Hid (∀ x, Below W.heap.size W x → Below w.heap.size w x) := fun x hx => HB.out.trans (hx.mono HB.out.size)
  have HC : Hid (∀ x, Below W.heap.size W x → x.cell? ⟨gx, 0, none⟩ = some (.slice ma m mc) ∧ x.cell? ⟨gx, 1, none⟩ = some (.slice ra n rc)) := fun x hx => ⟨cells_kept hx _ _ (cell_of_block H1.out 0), cells_kept hx _ _ (cell_of_block H1.out 1)⟩
  obtain ⟨c0, c1⟩ := HC.out W (Below.refl _ _)
  go_upto_region 2 with (go_at_call 46; go_must (refine (clone_any W (.slice ma m mc) mem HM.out (by rw [← HMM.out]; omega)).mono ?_); rintro e X ⟨⟨ja, jc, rfl, hrow⟩, hb1, hd1⟩; have HX := Lib.hid hrow; have HXB := Lib.hid hb1; have HXD := Lib.hid (Nat.le_trans HD0.out hd1); clear hrow hb1 hd1)
  rw [← HMM.out] at HX
  rw [← HMM.out]
  clear c0 c1
  obtain ⟨c0, c1⟩ := HC.out X HXB.out
  go_wp2_with fail
  clear c0 c1
  go_loopg [3, 12] n (fun gg s3 s12 wr => ∃ (i : Nat) (oa : Option Addr) (on oc : Nat) (ol : List Int), i ≤ n ∧ Hid (gg = n - i) ∧ s3 = .slice oa on oc ∧ s12 = .int .i64 i ∧ Hid (on = m + 4 * i) ∧ Hid (ol = mem ++ (regs.take i).flatten) ∧ Hid (wr.ownsRow W.heap.size 3 1 (.slice oa on oc) on (flatC intC ol)) ∧ Hid (Below W.heap.size W wr) ∧ Hid (w.drawn ≤ wr.drawn))
  case atStart => exact ⟨0, ja, m, jc, mem, Nat.zero_le _, rfl, by first | rfl | simp, rfl, by simp [Hid], by simp [Hid], HX.out, HXB.out, HXD.out⟩
  case round =>
    obtain ⟨i, oa, on, oc, ol, hi, HG, rfl, rfl, HON, HOL, HO, HBR, HDR⟩ := hrel
    by_cases hlt : i < n
    · have hltI : (i : Int) < (n : Int) := by omega
      obtain ⟨b, off, hea, -, hr4, x0, x1, x2, x3⟩ := RegsAt.part HR.out i (by rw [← HN.out]; exact hlt)
      subst hea
      have hft := flat_take (f := ⟨mem, regs⟩) (i := i) (by show i < regs.length; rw [← HN.out]; exact hlt)
      simp only [] at hft
      generalize regs.getD i default = rg at x0 x1 x2 x3 hr4 hft
      obtain ⟨q0, q1, q2, q3, rfl⟩ := four_of hr4
      simp only [List.getD_cons_zero, List.getD_cons_succ] at x0 x1 x2 x3
      have HFT := Lib.hid hft
      clear hft hr4
      replace x0 := cells_kept HBR.out _ _ x0
      replace x1 := cells_kept HBR.out _ _ x1
      replace x2 := cells_kept HBR.out _ _ x2
      replace x3 := cells_kept HBR.out _ _ x3
      have hb1 : on + 4 ≤ 10000000 := by have := HON.out; omega
      have hnews := fun j u hj => row_new wr [Value.int .i64 q0, .int .i64 q1, .int .i64 q2, .int .i64 q3] 55 j u hj
      have HNEWS := Lib.hid hnews
      have HDA : Hid (w.drawn ≤ (wr.alloc (.cells #[.int .i64 q0, .int .i64 q1, .int .i64 q2, .int .i64 q3] 55)).drawn) := HDR.out
      clear hnews
      go_wp2_with (at_builtin; go_must (refine wpList_append_drawn _ rfl _ _ 29 rfl 3 (.int .i64 0) 1 8 Try.underlying29 int_info rfl (by decide) W.heap.size (.slice oa on oc) on (flatC intC ol) rfl ((HO.out).alloc _) (some ⟨wr.heap.size, 0, none⟩) 4 4 [.int .i64 q0, .int .i64 q1, .int .i64 q2, .int .i64 q3] rfl rfl (fun _ e => by cases e; exact HNEWS.out) (fun e => by cases e) (by simp [Value.oneCell']) (by unfold maxLen; omega) (by omega) (by have := HBR.out.size; simp; omega) ?_); intro ja jc X2 f1 f2 f3 f4 f5 f6; (have HE : Hid (X2.ownsRow W.heap.size 3 1 (.slice ja (on + 4) jc) (on + 4) (flatC intC (ol ++ [q0, q1, q2, q3]))) := by (rw [Hid, flat_int_app]; exact f1)); (have HE2 : Hid (Below W.heap.size W X2) := HBR.out.trans ((((Since.refl _ wr).alloc _).trans f4 (fun k hk => .inl hk)).below HBR.out.size (fun k hk => (HO.out.lt k hk).1))); (have HE3 := Lib.hid (Nat.le_trans HDA.out f6)); clear f1 f2 f3 f4 f5 f6)
      go_roundg (n - (i + 1))
      case measure => rw [HG.out]; omega
      case rel => exact ⟨i + 1, ja, on + 4, jc, ol ++ [q0, q1, q2, q3], by omega, rfl, rfl, by simp, by have := HON.out; rw [Hid]; omega, by rw [Hid, HFT.out, HOL.out, List.append_assoc], HE.out, HE2.out, HE3.out⟩
    · obtain rfl : n = i := by omega
      have hol : F = ol := by rw [HOL.out, HF.out, HN.out, List.take_length]
      have hln : fn = on := by
        have := HO.out.1
        rw [flatC_len (f := intC) int_len, ← hol, ← HFN.out] at this
        omega
      subst hln
      have HO2 := Lib.hid (own_lower HO.out HB.out.size)
      rw [← hol] at HO2
      clear hol
      go_wp2_with fail
      go_ret
      exact ⟨⟨oa, oc, by first | rfl | simp, HO2.out⟩, HFIN.out _ HBR.out, HDR.out⟩
def cmp3 (a b : Int) : Int := if a < b then -1 else if b < a then 1 else 0
set_option maxHeartbeats 1000000 in
theorem isNaN_any (w : World) (a : Int) : Calls Try.prog 96 #[.int .i64 a] w fun e w' => e = .returned (.bool false) ∧ w = w' := by
  go_enter Try.func96, Try.ntmps96
  go_wp2_with fail
  go_ret
  exact ⟨by first | rfl | simp, rfl⟩
set_option maxHeartbeats 2000000 in
theorem compare_any (w : World) (a b : Int) : Calls Try.prog 82 #[.int .i64 a, .int .i64 b] w fun e w' => e = .returned (.int .i64 (cmp3 a b)) ∧ w = w' := by
  unfold cmp3
  by_cases h1 : a < b
  · rw [if_pos h1]
    go_enter Try.func82, Try.ntmps82
    go_wp2_with (go_at_call 96; refine (isNaN_any _ _).mono ?_; rintro e w' ⟨rfl, rfl⟩)
    go_ret
    exact ⟨by first | rfl | simp, rfl⟩
  · rw [if_neg h1]
    by_cases h2 : b < a
    · rw [if_pos h2]
      go_enter Try.func82, Try.ntmps82
      go_wp2_with (go_at_call 96; refine (isNaN_any _ _).mono ?_; rintro e w' ⟨rfl, rfl⟩)
      go_ret
      exact ⟨by first | rfl | simp, rfl⟩
    · rw [if_neg h2]
      go_enter Try.func82, Try.ntmps82
      go_wp2_with (go_at_call 96; refine (isNaN_any _ _).mono ?_; rintro e w' ⟨rfl, rfl⟩)
      go_ret
      exact ⟨by first | rfl | simp, rfl⟩
end Go.Proofs.Ytnlkbboghcdpnaa
