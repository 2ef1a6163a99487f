/- All numbers of a final; does one stand ahead of another one; are two the same: the document's answer: the walks. -/
import Derived.Test.YtnlkbboghcdpnaaFinD
import Derived.Deep.CutBlock
namespace Go.Proofs.Ytnlkbboghcdpnaa
open Go.RowKit


/-- The numbers of the first so many registers' rows, and so many of the next. -/
theorem flat_take {f : FinalD} {i : Nat} (hi : i < f.regs.length) : (f.regs.take (i + 1)).flatten = (f.regs.take i).flatten ++ f.regs.getD i default := by
  rw [List.take_succ_eq_append_getElem hi, List.flatten_append, List.getD_eq_getElem?_getD, List.getElem?_eq_getElem hi]
  simp
theorem take_snoc_ {l : List Int} {k : Nat} (hk : k < l.length) : l.take (k + 1) = l.take k ++ [l.getD k 0] := by
  rw [List.take_succ_eq_append_getElem hk, List.getD_eq_getElem?_getD, List.getElem?_eq_getElem hk]; rfl
theorem flatten_len4 {l : List (List Int)} (h : ∀ j, j < l.length → (l.getD j default).length = 4) : ∀ i, i ≤ l.length → (l.take i).flatten.length = 4 * i := by
  intro i
  induction i with
  | zero => intro _; simp
  | succ i ih =>
    intro hi
    have h1 := h i (by omega)
    rw [List.getD_eq_getElem?_getD, List.getElem?_eq_getElem (by omega)] at h1
    rw [List.take_succ_eq_append_getElem (by omega), List.flatten_append, List.length_append, ih (by omega)]
    simp only [List.flatten_cons, List.flatten_nil, List.append_nil]
    simp only [Option.getD_some] at h1
    omega
set_option maxRecDepth 100000 in
set_option maxHeartbeats 4000000 in
theorem refFlat_any (w : World) (f : FinalD) (mv rv : Value) (hf : FinalAt w f mv rv) (hm : f.mem.length ≤ 1000000) (hrl : f.regs.length ≤ 1000000) :
    Calls Try.prog 43 #[finalV mv rv] w fun e w' => (∃ fa fc, e = .returned (.slice fa (flatD f).length fc) ∧ w'.ownsRow w.heap.size 3 1 (.slice fa (flatD f).length fc) (flatD f).length (flatC intC (flatD f))) ∧ Below w.heap.size w w' := by
  obtain ⟨ma, mc, rfl, -⟩ := SliceR.slice hf.mem
  obtain ⟨ra, rc, rfl, -⟩ := SliceR.slice hf.regs
  obtain ⟨F, hF⟩ : ∃ F, F = flatD f := ⟨_, rfl⟩
  have hF2 : F = f.mem ++ f.regs.flatten := hF
  rw [← hF]
  clear hF
  obtain ⟨fn, hfn⟩ : ∃ n, n = F.length := ⟨_, rfl⟩
  rw [← hfn]
  have HFN := Lib.hid hfn
  clear hfn
  unfold finalV
  obtain ⟨mem, regs⟩ := f
  have h1 := hf.mem
  have h2 := hf.regs
  simp only [] at h1 h2 hm hrl hF2 ⊢
  obtain ⟨m, hmm⟩ : ∃ m, m = mem.length := ⟨_, rfl⟩
  obtain ⟨n, hn⟩ : ∃ n, n = regs.length := ⟨_, rfl⟩
  rw [← hmm] at h1 hm ⊢
  rw [← hn] at h2 hrl ⊢
  have hB := (Below.refl w.heap.size w).alloc (Nat.le_refl _) (.cells #[.slice ma m mc, .slice ra n rc] 70)
  have H1 := Lib.hid (heap_alloc_new w (.cells #[.slice ma m mc, .slice ra n rc] 70))
  have HM := Lib.hid (SliceR.below IntR.stays h1 hB)
  have HR := Lib.hid (SliceR.below Regs4R.stays h2 hB)
  have HB := Lib.hid hB
  have HMM := Lib.hid hmm
  have HN := Lib.hid hn
  have HF := Lib.hid hF2
  clear hf h1 h2 hB hmm hn hF2
  go_enter Try.func43, Try.ntmps43
  go_upto_region 1 with fail
  generalize World.alloc w _ = W at HB H1 HM HR ⊢
  obtain ⟨gx, hgx⟩ : ∃ gx, gx = w.heap.size := ⟨_, rfl⟩
  rw [← hgx] at H1 ⊢
  clear hgx
  have HFIN : Hid (∀ x, Below W.heap.size W x → Below w.heap.size w x) := fun x hx => HB.out.trans (hx.mono HB.out.size)
  have HC : Hid (∀ x, Below W.heap.size W x → x.cell? ⟨gx, 0, none⟩ = some (.slice ma m mc) ∧ x.cell? ⟨gx, 1, none⟩ = some (.slice ra n rc)) := fun x hx => ⟨cells_kept hx _ _ (cell_of_block H1.out 0), cells_kept hx _ _ (cell_of_block H1.out 1)⟩
  have HSRC := Lib.hid (ints_src HM.out)
  have HNONE : Hid (ma = none → m = 0) := fun e => by have := HM.out; rw [e] at this; exact ints_none this
  obtain ⟨c0, c1⟩ := HC.out W (Below.refl _ _)
  go_wp2_with (at_builtin; go_must (refine wpList_append_src W rfl (.const (.slice none 0 0)) _ 29 rfl 3 (.int .i64 0) 1 8 Try.underlying29 int_info rfl (by decide) W.heap.size (.slice none 0 0) 0 [] rfl (World.ownsRow_nil _ _ _ _) ma m mc (flatC intC mem) rfl ((flatC_len (f := intC) int_len mem).trans (by rw [← HMM.out])) HSRC.out HNONE.out ints_one (by unfold maxLen; omega) (by omega) (Nat.le_refl _) ?_); intro ja jc X f1 f2 f3 f4 f5; have HX := Lib.hid (zero_row f1); have HXB : Hid (Below W.heap.size W X) := f4.below (Nat.le_refl _) (fun k hk => by simp [Value.ownBlock] at hk); clear f1 f2 f3 f4 f5)
  clear c0 c1
  go_loopg [3, 4] n (fun gg s3 s4 wr => ∃ (i : Nat) (oa : Option Addr) (on oc : Nat) (ol : List Int), i ≤ n ∧ Hid (gg = n - i) ∧ s3 = .slice oa on oc ∧ s4 = .int .i64 i ∧ Hid (on = m + 4 * i) ∧ Hid (ol = mem ++ (regs.take i).flatten) ∧ Hid (wr.ownsRow W.heap.size 3 1 (.slice oa on oc) on (flatC intC ol)) ∧ Hid (Below W.heap.size W wr))
  case atStart => exact ⟨0, ja, m, jc, mem, Nat.zero_le _, rfl, by first | rfl | simp, rfl, by simp [Hid], by simp [Hid], HX.out, HXB.out⟩
  case round =>
    obtain ⟨i, oa, on, oc, ol, hi, HG, rfl, rfl, HON, HOL, HO, HBR⟩ := hrel
    obtain ⟨c0, c1⟩ := HC.out wr HBR.out
    by_cases hlt : i < n
    · have hltI : (i : Int) < (n : Int) := by omega
      obtain ⟨b, off, hea, -, hr4, x0, x1, x2, x3⟩ := RegsAt.part HR.out i (by rw [← HN.out]; exact hlt)
      subst hea
      have hft := flat_take (f := ⟨mem, regs⟩) (i := i) (by show i < regs.length; rw [← HN.out]; exact hlt)
      simp only [] at hft
      have HFT := Lib.hid hft
      clear hft
      generalize regs.getD i default = rg at x0 x1 x2 x3 hr4 HFT
      have HX4 : Hid (∀ k, k < 4 → ∀ y, Below W.heap.size W y → y.cell? ⟨b, off + i * 4 + k, none⟩ = some (.int .i64 (rg.getD k 0))) := fun k hk y hy => by
        have : k = 0 ∨ k = 1 ∨ k = 2 ∨ k = 3 := by omega
        rcases this with rfl | rfl | rfl | rfl
        · exact cells_kept hy _ _ x0
        · exact cells_kept hy _ _ x1
        · exact cells_kept hy _ _ x2
        · exact cells_kept hy _ _ x3
      have HR4 := Lib.hid hr4
      clear x0 x1 x2 x3 hr4
      obtain ⟨wo, rfl⟩ : ∃ wo : World, wo = wr := ⟨_, rfl⟩
      go_wp2_with fail
      clear c0 c1
      go_loopg [3, 5] 4 (fun gg s3 s5 wr => ∃ (k : Nat) (pa : Option Addr) (pn pc : Nat) (pl : List Int), k ≤ 4 ∧ Hid (gg = 4 - k) ∧ s3 = .slice pa pn pc ∧ s5 = .int .i64 k ∧ Hid (pn = on + k) ∧ Hid (pl = ol ++ rg.take k) ∧ Hid (wr.ownsRow W.heap.size 3 1 (.slice pa pn pc) pn (flatC intC pl)) ∧ Hid (Below W.heap.size W wr))
      case atStart => exact ⟨0, oa, on, oc, ol, by omega, rfl, rfl, rfl, by simp [Hid], by simp [Hid], HO.out, HBR.out⟩
      case round =>
        obtain ⟨k, pa, pn, pc, pl, hk, HG2, rfl, rfl, HPN, HPL, HP, HBK⟩ := hrel
        by_cases hk4 : k < 4
        · have hkI : (k : Int) < 4 := by omega
          obtain ⟨c0, c1⟩ := HC.out wr HBK.out
          have e1 := HX4.out k hk4 wr HBK.out
          have hts := take_snoc_ (l := rg) (k := k) (by rw [HR4.out]; exact hk4)
          have HTS := Lib.hid hts
          clear hts
          generalize rg.getD k 0 = q at e1 HTS
          have hb1 : pn + 1 ≤ 10000000 := by have := HON.out; have := HPN.out; omega
          go_wp2_with (at_builtin; go_must (refine wpList_append_at_ _ rfl _ _ 29 rfl 3 (.int .i64 0) 1 8 Try.underlying29 int_info rfl (by decide) W.heap.size (.slice pa pn pc) pn (flatC intC pl) rfl ((HP.out).alloc _) ⟨wr.heap.size, 0, none⟩ 1 1 [.int .i64 q] rfl rfl (row_new _ [.int .i64 q] _) (by simp [Value.oneCell']) (by unfold maxLen; omega) (by omega) (by have := HBK.out.size; simp; omega) ?_); intro ja jc X f1 f2 f3 f4 f5 f6; have HE := Lib.hid (push_row (f := intC) (x := q) HP.out f1 f4 HBK.out (Nat.le_refl _)); clear f1 f2 f3 f4 f5 f6)
          go_roundg (4 - (k + 1))
          case measure => rw [HG2.out]; omega
          case rel => exact ⟨k + 1, ja, pn + 1, jc, pl ++ [q], by omega, rfl, rfl, by simp, by have := HPN.out; rw [Hid]; omega, by rw [Hid, HPL.out, HTS.out, List.append_assoc], HE.out.1, HE.out.2⟩
        · obtain rfl : k = 4 := by omega
          have hpl2 : pl = mem ++ (regs.take (i + 1)).flatten := by
            have ht4 : rg.take 4 = rg := List.take_of_length_le (by rw [HR4.out]; omega)
            rw [HPL.out, HOL.out, HFT.out, ht4, List.append_assoc]
          have HPL2 := Lib.hid hpl2
          clear hpl2
          go_wp2_with fail
          go_roundg (n - (i + 1))
          case measure => rw [HG.out]; omega
          case rel => exact ⟨i + 1, pa, pn, pc, pl, by omega, rfl, rfl, by simp, by have := HON.out; have := HPN.out; rw [Hid]; omega, HPL2.out, HP.out, HBK.out⟩
    · obtain rfl : n = i := by omega
      have hol : F = ol := by rw [HOL.out, HF.out, HN.out, List.take_length]
      have hln : fn = on := by
        have := HO.out.1
        rw [flatC_len (f := intC) int_len, ← hol, ← HFN.out] at this
        omega
      subst hln
      have HO2 := Lib.hid (own_lower HO.out HB.out.size)
      rw [← hol] at HO2
      clear hol
      go_wp2_with fail
      go_ret
      exact ⟨⟨oa, oc, by first | rfl | simp, HO2.out⟩, HFIN.out _ HBR.out⟩
end Go.Proofs.Ytnlkbboghcdpnaa
