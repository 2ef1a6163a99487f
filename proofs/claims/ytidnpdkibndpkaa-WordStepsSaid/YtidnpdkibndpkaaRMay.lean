/- May a word be one for a formula: the document's way: the walk. -/
import Derived.Test.YtidnpdkibndpkaaRWord
namespace Go.Proofs.Ytidnpdkibndpkaa
open Go.RowKit

set_option maxRecDepth 100000 in
set_option maxHeartbeats 8000000 in
theorem may_any (w : World) (d : Nat) (f : Form) (kv lv : Value) (ls : List (List Bool)) (bk : Int) (h : FormAt w d f kv) (hl : LettersAt w lv ls) :
    Calls Try.prog 30 #[formV f kv, .agg #[lv, .int .i64 bk]] w (fun e w' => e = .returned (.bool (mayOk f ls bk)) ∧ Below w.heap.size w w') := by
  obtain ⟨ka, kc, rfl, hkl⟩ := h.slice
  obtain ⟨la, lc, rfl, hll⟩ := hl.slice
  have hright := fun W (hW : Below w.heap.size w W) => refRight_any W d f _ (h.below hW)
  have hprops := fun W (hW : Below w.heap.size w W) (hs : f.size ≤ 200) => rprops_any d W f _ (h.below hW) (by omega)
  have HL := Lib.hid hl
  obtain ⟨fit, hfit⟩ : ∃ fit, fit = f.fits := ⟨_, rfl⟩
  obtain ⟨fs, hfs⟩ : ∃ fs, fs = f.props := ⟨_, rfl⟩
  obtain ⟨may, hmay⟩ : ∃ may, may = mayOk f ls bk := ⟨_, rfl⟩
  rw [← hfit] at hright
  rw [← hmay]
  have HF := Lib.hid hfit
  have HFS := Lib.hid hfs
  have HMY := Lib.hid hmay
  have HR := Lib.hid hright
  have HP := Lib.hid hprops
  clear hright hprops hfit hfs hl h hmay
  obtain ⟨k, ⟨p1, p2, p3, p4⟩, kids⟩ := f
  simp only [Form.kids] at hkl HR HP ⊢
  unfold formV at *
  simp only [Form.kind, Form.prop] at HR HP ⊢
  have hB := boxes_below w (.cells #[.int .i64 k, .int .i64 p1, .int .i64 p2, .int .i64 p3, .int .i64 p4, .slice ka kids.length kc] 26) (.cells #[.slice la ls.length lc, .int .i64 bk] 29)
  have h1 := boxes_first w (.cells #[.int .i64 k, .int .i64 p1, .int .i64 p2, .int .i64 p3, .int .i64 p4, .slice ka kids.length kc] 26) (.cells #[.slice la ls.length lc, .int .i64 bk] 29)
  have h2 := boxes_second w (.cells #[.int .i64 k, .int .i64 p1, .int .i64 p2, .int .i64 p3, .int .i64 p4, .slice ka kids.length kc] 26) (.cells #[.slice la ls.length lc, .int .i64 bk] 29)
  have HB := Lib.hid hB
  have H1 := Lib.hid h1
  have H2 := Lib.hid h2
  clear hB h1 h2
  go_enter Try.func30, Try.ntmps30
  go_upto_region 1 with fail
  generalize hW : World.alloc _ _ = W at HB H1 H2 ⊢
  have hws : w.heap.size + 2 = W.heap.size := by rw [← hW]; simp
  clear hW
  have c0 := cell_of_block H1.out 0
  have c1 := cell_of_block H1.out 1
  have c2 := cell_of_block H1.out 2
  have c3 := cell_of_block H1.out 3
  have c4 := cell_of_block H1.out 4
  have c5 := cell_of_block H1.out 5
  have d0 := cell_of_block H2.out 0
  have d1 := cell_of_block H2.out 1
  simp only [List.getElem?_toArray, List.getElem?_cons_zero, List.getElem?_cons_succ] at c0 c1 c2 c3 c4 c5 d0 d1
  go_cut [33] (fun s34 w' => ∃ b : Bool, s34 = .bool b ∧ Below W.heap.size W w' ∧ Hid (b = true → may = false) ∧ Hid (b = false → TruthHead fit ls.length bk))
  case first =>
    go_wp2_with fail
    refine (HR.out _ HB.out).mono ?_
    rintro e w2 ⟨rfl, hb2⟩
    have HB2 := Lib.hid hb2
    have e0 := (hb2.cell (p := ⟨w.heap.size + 1, 0, none⟩) (World.block_lt_of_cell? _ _ d0)).trans d0
    have e1 := (hb2.cell (p := ⟨w.heap.size + 1, 1, none⟩) (World.block_lt_of_cell? _ _ d1)).trans d1
    clear c0 c1 c2 c3 c4 c5 d0 d1 hb2 H1 H2
    cases fit with
    | false =>
      have : Hid (may = false) := by rw [Hid, HMY.out]; exact mayOk_fits HF.out.symm
      go_wp2_with fail
      go_meet
      case rel => exact ⟨true, rfl, HB2.out, fun _ => this.out, fun h => by cases h⟩
    | true =>
      by_cases a1 : (ls.length : Int) < 1
      · have : Hid (may = false) := by rw [Hid, HMY.out]; simp [mayOk, show ¬ 1 ≤ ls.length by omega]
        go_wp2_with fail
        go_meet
        case rel => exact ⟨true, rfl, HB2.out, fun _ => this.out, fun h => by cases h⟩
      · by_cases a2 : (100000 : Int) < (ls.length : Int)
        · have : Hid (may = false) := by rw [Hid, HMY.out]; simp [mayOk, show ¬ ls.length ≤ 100000 by omega]
          go_wp2_with fail
          go_meet
          case rel => exact ⟨true, rfl, HB2.out, fun _ => this.out, fun h => by cases h⟩
        · by_cases a3 : bk < 0
          · have : Hid (may = false) := by rw [Hid, HMY.out]; simp [mayOk, show ¬ 0 ≤ bk by omega]
            go_wp2_with fail
            go_meet
            case rel => exact ⟨true, rfl, HB2.out, fun _ => this.out, fun h => by cases h⟩
          · by_cases a4 : (ls.length : Int) ≤ bk
            · have : Hid (may = false) := by rw [Hid, HMY.out]; simp [mayOk, show ¬ bk < (ls.length : Int) by omega]
              go_wp2_with fail
              go_meet
              case rel => exact ⟨true, (by first | rfl | (simp; done) | (simp; omega)), HB2.out, fun _ => this.out, fun h => by cases h⟩
            · have : Hid (TruthHead true ls.length bk) := ⟨rfl, by omega, by omega, by omega, by omega⟩
              go_wp2_with fail
              go_meet
              case rel => exact ⟨false, (by first | rfl | (simp; done) | (simp; omega)), HB2.out, (fun h => by cases h), fun _ => this.out⟩
  case rest =>
    obtain ⟨b, rfl, hB, HY, HN⟩ := hcut
    have hx : ∀ a v, W.cell? a = some v → wc.cell? a = some v := fun a v h => (hB.cell (World.block_lt_of_cell? _ _ h)).trans h
    replace c0 := hx _ _ c0
    replace c1 := hx _ _ c1
    replace c2 := hx _ _ c2
    replace c3 := hx _ _ c3
    replace c4 := hx _ _ c4
    replace c5 := hx _ _ c5
    replace d0 := hx _ _ d0
    replace d1 := hx _ _ d1
    have HBW : Hid (Below w.heap.size w wc) := HB.out.trans (hB.mono HB.out.size)
    have hwc : w.heap.size + 2 ≤ wc.heap.size := by rw [hws]; exact hB.size
    clear hx hB HB H1 H2 hws HR
    cases b with
    | true =>
      have := HY.out (by trivial)
      subst this
      go_wp2_with fail
      go_ret
      exact ⟨rfl, HBW.out⟩
    | false =>
      obtain ⟨hft, hn1, hn2, hb0, hbn⟩ := HN.out (by trivial)
      have hsz : Hid ((Form.mk k ⟨p1, p2, p3, p4⟩ kids).size ≤ 200 ∧ (Form.mk k ⟨p1, p2, p3, p4⟩ kids).okD 20 = true) := fits_size (by rw [← HF.out, hft])
      have HMW : Hid (may = wideOk ls fs.length) := by
        rw [Hid, HMY.out, HFS.out]
        unfold mayOk
        rw [← HF.out, hft, decide_eq_true hn1, decide_eq_true hn2, decide_eq_true hb0, decide_eq_true hbn]; rfl
      have HLW := Lib.hid (HL.out.below HBW.out)
      clear hft HN HY
      go_wp2_with fail
      go_loopg [5] ls.length (fun g s5 wr => ∃ i : Nat, i ≤ ls.length ∧ Hid (g = ls.length - i) ∧ s5 = .int .i64 i ∧ Hid (Below wc.heap.size wc wr) ∧ Hid (∀ j, j < i → (ls.getD j []).length = fs.length))
      case atStart => exact ⟨0, Nat.zero_le _, rfl, rfl, Below.refl _ _, fun j hj => by omega⟩
      case round =>
        obtain ⟨i, hi, HG, rfl, HBR, HJ⟩ := hrel
        obtain ⟨wi, rfl⟩ : ∃ wi : World, wi = wr := ⟨_, rfl⟩
        have hx : ∀ a v, wc.cell? a = some v → wi.cell? a = some v := fun a v h => (HBR.out.cell (World.block_lt_of_cell? _ _ h)).trans h
        have k0 := hx _ _ c0
        have k1 := hx _ _ c1
        have k2 := hx _ _ c2
        have k3 := hx _ _ c3
        have k4 := hx _ _ c4
        have k5 := hx _ _ c5
        have m0 := hx _ _ d0
        clear hx
        by_cases hlt : i < ls.length
        · obtain ⟨la', lc', hle, hln, hlc⟩ := HLW.out
          cases hle
          obtain ⟨bl, ofl, kvl, hlae, hbl, hkv, hbo⟩ := hlc i hlt
          subst hlae
          obtain ⟨ba, bc, rfl, hbl2⟩ := hbo.slice
          have hkvi := (HBR.out.cell (p := ⟨bl, ofl + i, none⟩) hbl).trans hkv
          obtain ⟨m, hm⟩ : ∃ m, m = (ls.getD i []).length := ⟨_, rfl⟩
          rw [← hm] at hkvi hbl2
          have HM := Lib.hid hm
          clear hm hkv hbo hlc
          have hpr := fun W (hW : Below wi.heap.size wi W) => HP.out W (HBW.out.trans ((HBR.out.mono HBW.out.size).trans (hW.mono (Nat.le_trans HBW.out.size HBR.out.size)))) hsz.out.1
          have HPR := Lib.hid hpr
          clear hpr
          go_wp2_with fail
          go_cut [50] (fun s50 w' => s50 = .bool ((m : Int) != (fs.length : Int)) ∧ Hid (Below wi.heap.size wi w'))
          case first =>
            go_region_held3 (fun w' => w'.cell? ⟨w.heap.size + 1, 0, none⟩ = some (.slice (some ⟨bl, ofl, none⟩) ls.length lc) ∧ w'.cell? ⟨bl, ofl + i, none⟩ = some (.slice ba m bc) ∧ w'.cell? ⟨w.heap.size, 0, none⟩ = some (.int .i64 k) ∧ w'.cell? ⟨w.heap.size, 1, none⟩ = some (.int .i64 p1) ∧ w'.cell? ⟨w.heap.size, 2, none⟩ = some (.int .i64 p2) ∧ w'.cell? ⟨w.heap.size, 3, none⟩ = some (.int .i64 p3) ∧ w'.cell? ⟨w.heap.size, 4, none⟩ = some (.int .i64 p4) ∧ w'.cell? ⟨w.heap.size, 5, none⟩ = some (.slice ka kids.length kc)) (first | exact ⟨hx2 _ _ m0, hx2 _ _ hkvi, hx2 _ _ k0, hx2 _ _ k1, hx2 _ _ k2, hx2 _ _ k3, hx2 _ _ k4, hx2 _ _ k5⟩ | go_keep) (first | (go_at_call 18; refine (HPR.out _ ((Below.refl _ _).drew)).mono ?_; rintro e w2 ⟨sv, rfl, ho2, hb2⟩; unfold PropsOwn at ho2; rw [← HFS.out] at ho2; obtain ⟨pa, pc, rfl, hpc1, hpc2⟩ := row_slice ho2; unfold maxLen at hpc2; have hx2 : ∀ a v, wi.cell? a = some v → w2.cell? a = some v := (fun a v h => (hb2.cell (World.block_lt_of_cell? wi _ h)).trans h)))
            all_goals
              have HBB : Hid (Below wi.heap.size wi w2) := (Below.refl _ _).drew.trans hb2
              clear hb2 ho2
              go_wp2_with fail
              go_meet
              case rel => exact ⟨rfl, HBB.out⟩
          case rest =>
            obtain ⟨rfl, HB2⟩ := hcut
            clear k0 k1 k2 k3 k4 k5 m0 hkvi
            by_cases he : m = fs.length
            · have he2 : ((m : Int) != (fs.length : Int)) = false := by simp [he]
              have HE := Lib.hid he
              clear he
              go_wp2_with fail
              go_roundg (ls.length - (i + 1))
              case measure => rw [HG.out]; omega
              case rel => exact ⟨i + 1, by omega, rfl, by simp, HBR.out.trans (HB2.out.mono HBR.out.size), fun j hj => by
                by_cases he : j = i
                · subst he; rw [← HM.out]; exact HE.out
                · exact HJ.out j (by omega)⟩
            · have he2 : ((m : Int) != (fs.length : Int)) = true := by rw [bne_iff_ne]; omega
              have HE := Lib.hid he
              clear he
              have hmf : may = false := by
                rw [HMW.out]
                cases hw : wideOk ls fs.length with
                | false => rfl
                | true => exact absurd (by rw [HM.out]; exact wideOk_at hlt hw) HE.out
              subst hmf
              go_wp2_with fail
              go_ret
              exact ⟨rfl, HBW.out.trans ((HBR.out.trans (HB2.out.mono HBR.out.size)).mono HBW.out.size)⟩
        · have hmt : may = true := by rw [HMW.out]; exact wideOk_of (fun j hj => HJ.out j (by omega))
          subst hmt
          go_wp2
          go_ret
          exact ⟨rfl, HBW.out.trans (HBR.out.mono HBW.out.size)⟩
end Go.Proofs.Ytidnpdkibndpkaa
