/- Where a formula is so: package word's answer: the walk. -/
import Derived.Test.YtidnpdkibndpkaaTruth
namespace Go.Proofs.Ytidnpdkibndpkaa
open Go.RowKit

theorem mayOk_fits {f : Form} {ls : List (List Bool)} {bk : Int} (h : f.fits = false) : mayOk f ls bk = false := by simp [mayOk, h]
theorem fits_size {f : Form} (h : f.fits = true) : f.size ≤ 200 ∧ f.okD 20 = true := by
  rw [Form.fits, Bool.and_eq_true, decide_eq_true_eq] at h; exact ⟨h.2, h.1⟩

/-- The teller is made. -/
def TruthMid (w w' : World) (lv : Value) (back : Int) (fs : List PropD) (g : Nat) : Prop :=
  ∃ (tb : Nat) (pa : Option Addr) (pc : Nat), w'.cell? ⟨g, 0, none⟩ = some (.pointer (some ⟨tb, 0, none⟩)) ∧ w'.heap[tb]? = some (.cells #[lv, .int .i64 back, .slice pa fs.length pc] 55 (0, 0)) ∧ PropsAt w' (.slice pa fs.length pc) fs ∧ Below w.heap.size w w'
theorem mid_A {w w5 : World} {lv : Value} {back : Int} {fs : List PropD} {pa : Option Addr} {pc : Nat} (hb : Below w.heap.size w w5) (hp : w5.ownsRow (w.heap.size) 23 4 (.slice pa fs.length pc) fs.length (fs.flatMap PropD.cells)) :
    TruthMid w ((w5.alloc (.cells #[lv, .int .i64 back, .slice pa fs.length pc] 55)).alloc (.cells #[.pointer (some ⟨w5.heap.size, 0, none⟩)] 53)) lv back fs (w5.heap.size + 1) :=
  ⟨w5.heap.size, pa, pc, cell_of_block (boxes_second w5 _ _) 0, boxes_first w5 _ _, (PropsAt.of_row hp).below (boxes_below w5 _ _), hb.trans ((boxes_below w5 _ _).mono hb.size)⟩
theorem mid_B {w w5 : World} {lv : Value} {back : Int} {fs : List PropD} {pa : Option Addr} {pc : Nat} (hb : Below w.heap.size w w5) (hp : w5.ownsRow (w.heap.size) 23 4 (.slice pa fs.length pc) fs.length (fs.flatMap PropD.cells)) :
    TruthMid w ((w5.alloc (.cells #[.pointer (some ⟨w5.heap.size + 1, 0, none⟩)] 53)).alloc (.cells #[lv, .int .i64 back, .slice pa fs.length pc] 55)) lv back fs w5.heap.size :=
  ⟨w5.heap.size + 1, pa, pc, cell_of_block (boxes_first w5 _ _) 0, boxes_second w5 _ _, (PropsAt.of_row hp).below (boxes_below w5 _ _), hb.trans ((boxes_below w5 _ _).mono hb.size)⟩
theorem mid_C {w w5 : World} {lv : Value} {back : Int} {fs : List PropD} {pa : Option Addr} {pc : Nat} (hb0 : Below (w.alloc (.cells #[.pointer none] 53)).heap.size (w.alloc (.cells #[.pointer none] 53)) w5) (hp0 : w5.ownsRow (w.alloc (.cells #[.pointer none] 53)).heap.size 23 4 (.slice pa fs.length pc) fs.length (fs.flatMap PropD.cells)) :
    TruthMid w ((w5.alloc (.cells #[lv, .int .i64 back, .slice pa fs.length pc] 55)).setCell ⟨w.heap.size, 0, none⟩ (.pointer (some ⟨w5.heap.size, 0, none⟩))) lv back fs w.heap.size := by
  have hb := hb0
  have hp := hp0
  rw [World.size_alloc] at hb hp
  have hz := hb.size
  rw [World.size_alloc] at hz
  have hg : w5.heap[w.heap.size]? = some (.cells #[.pointer none] 53 (0, 0)) := (hb.block _ (by omega)).trans (heap_alloc_new w _)
  have hga : (w5.alloc (.cells #[lv, .int .i64 back, .slice pa fs.length pc] 55)).heap[w.heap.size]? = some (.cells #[.pointer none] 53 (0, 0)) := (Below.heap_alloc _ _ _ (lt_of_block hg)).trans hg
  refine ⟨w5.heap.size, pa, pc, cell_of_block (set_of_block hga 0 _) 0, ?_, ?_, ?_⟩
  · rw [Below.heap_setCell _ _ _ _ (by simp; omega)]; exact heap_alloc_new w5 _
  · exact PropsAt.of_row (ownsRow_setCell_below (hp.alloc _) (by simp) _)
  · exact (((Below.refl _ _).alloc (Nat.le_refl _) _).trans (hb.mono (by omega))).trans (((Below.refl _ _).alloc (by omega) _).setCell (by simp) _)
def TruthHead (fit : Bool) (n : Nat) (bk : Int) : Prop := fit = true ∧ 1 ≤ n ∧ n ≤ 100000 ∧ 0 ≤ bk ∧ bk < n
set_option maxRecDepth 100000 in
set_option maxHeartbeats 8000000 in
theorem truth_any (w : World) (d : Nat) (f : Form) (kv lv : Value) (ls : List (List Bool)) (bk : Int) (h : FormAt w d f kv) (hl : LettersAt w lv ls) :
    Calls Try.prog 15 #[formV f kv, .agg #[lv, .int .i64 bk]] w (TellsTruth f ls bk w) := by
  obtain ⟨ka, kc, rfl, hkl⟩ := h.slice
  obtain ⟨la, lc, rfl, hll⟩ := hl.slice
  have hright := fun W (hW : Below w.heap.size w W) => logicRight_any W d f _ (h.below hW)
  have hprops := fun W (hW : Below w.heap.size w W) (hs : f.size ≤ 200) => props_any d W f _ (h.below hW) (by omega)
  have hodd := fun W (hW : Below w.heap.size w W) => containsOdd_any W _ ls (hl.below hW)
  have hof := fun (W : World) (tb : Nat) (back : Nat) (pv : Value) (hW : Below w.heap.size w W) (hok : f.okD 20 = true) (ha : Asked W tb (.slice la ls.length lc) ls back pv f.props) => tellerOf_any d W tb f _ 20 _ ls back pv f.props (h.below hW) hok ha (fun p hp => hp)
  have HL := Lib.hid hl
  obtain ⟨fit, hfit⟩ : ∃ fit, fit = f.fits := ⟨_, rfl⟩
  obtain ⟨fs, hfs⟩ : ∃ fs, fs = f.props := ⟨_, rfl⟩
  obtain ⟨tr, htr⟩ : ∃ tr, tr = f.truth f.props ls bk.toNat := ⟨_, rfl⟩
  have htell : ∀ e w', (Below w.heap.size w w' ∧ ((mayOk f ls bk = true ∧ ∃ sv, e = .returned (.tuple #[sv, .int .i64 0]) ∧ w'.ownsRow w.heap.size 4 1 sv tr.length (tr.map Value.bool)) ∨ (mayOk f ls bk = false ∧ e = .returned (.tuple #[.slice none 0 0, .int .i64 1])))) → TellsTruth f ls bk w e w' := fun e w' h => by rw [htr] at h; exact h
  rw [← hfit] at hright
  have HF := Lib.hid hfit
  have HFS := Lib.hid hfs
  have HTR := Lib.hid htr
  have HT := Lib.hid htell
  have HR := Lib.hid hright
  have HP := Lib.hid hprops
  have HO := Lib.hid hodd
  have HOF := Lib.hid hof
  have hno : mayOk f ls bk = false → ∀ w', Below w.heap.size w w' → TellsTruth f ls bk w (.returned (.tuple #[.slice none 0 0, .int .i64 1])) w' := fun h w' hB => ⟨hB, .inr ⟨h, rfl⟩⟩
  have HNO := Lib.hid hno
  clear hright hprops hodd hof hfit hfs htr htell hl h hno
  obtain ⟨k, ⟨p1, p2, p3, p4⟩, kids⟩ := f
  simp only [Form.kids] at hkl HR HP HOF ⊢
  unfold formV at *
  simp only [Form.kind, Form.prop] at HR HP HOF ⊢
  have hB := boxes_below w (.cells #[.int .i64 k, .int .i64 p1, .int .i64 p2, .int .i64 p3, .int .i64 p4, .slice ka kids.length kc] 26) (.cells #[.slice la ls.length lc, .int .i64 bk] 29)
  have h1 := boxes_first w (.cells #[.int .i64 k, .int .i64 p1, .int .i64 p2, .int .i64 p3, .int .i64 p4, .slice ka kids.length kc] 26) (.cells #[.slice la ls.length lc, .int .i64 bk] 29)
  have h2 := boxes_second w (.cells #[.int .i64 k, .int .i64 p1, .int .i64 p2, .int .i64 p3, .int .i64 p4, .slice ka kids.length kc] 26) (.cells #[.slice la ls.length lc, .int .i64 bk] 29)
  have HB := Lib.hid hB
  have H1 := Lib.hid h1
  have H2 := Lib.hid h2
  clear hB h1 h2
  go_enter Try.func15, Try.ntmps15
  go_upto_region 1 with fail
  generalize hW : World.alloc _ _ = W at HB H1 H2 ⊢
  have hws : w.heap.size + 2 = W.heap.size := by rw [← hW]; simp
  clear hW
  have c0 := cell_of_block H1.out 0
  have c1 := cell_of_block H1.out 1
  have c2 := cell_of_block H1.out 2
  have c3 := cell_of_block H1.out 3
  have c4 := cell_of_block H1.out 4
  have c5 := cell_of_block H1.out 5
  have d0 := cell_of_block H2.out 0
  have d1 := cell_of_block H2.out 1
  simp only [List.getElem?_toArray, List.getElem?_cons_zero, List.getElem?_cons_succ] at c0 c1 c2 c3 c4 c5 d0 d1
  go_cut [34] (fun s34 w' => ∃ b : Bool, s34 = .bool b ∧ Below W.heap.size W w' ∧ Hid (b = true → mayOk (.mk k ⟨p1, p2, p3, p4⟩ kids) ls bk = false) ∧ Hid (b = false → TruthHead fit ls.length bk))
  case first =>
    go_wp2_with fail
    refine (HR.out _ HB.out).mono ?_
    rintro e w2 ⟨rfl, hb2⟩
    have HB2 := Lib.hid hb2
    have e0 := (hb2.cell (p := ⟨w.heap.size + 1, 0, none⟩) (World.block_lt_of_cell? _ _ d0)).trans d0
    have e1 := (hb2.cell (p := ⟨w.heap.size + 1, 1, none⟩) (World.block_lt_of_cell? _ _ d1)).trans d1
    clear c0 c1 c2 c3 c4 c5 d0 d1 hb2 H1 H2
    cases fit with
    | false =>
      go_wp2_with fail
      go_meet
      case rel => exact ⟨true, rfl, HB2.out, fun _ => mayOk_fits HF.out.symm, fun h => by cases h⟩
    | true =>
      by_cases a1 : (ls.length : Int) < 1
      · have : Hid (mayOk (.mk k ⟨p1, p2, p3, p4⟩ kids) ls bk = false) := by simp [Hid, mayOk, show ¬ 1 ≤ ls.length by omega]
        go_wp2_with fail
        go_meet
        case rel => exact ⟨true, rfl, HB2.out, fun _ => this.out, fun h => by cases h⟩
      · by_cases a2 : (100000 : Int) < (ls.length : Int)
        · have : Hid (mayOk (.mk k ⟨p1, p2, p3, p4⟩ kids) ls bk = false) := by simp [Hid, mayOk, show ¬ ls.length ≤ 100000 by omega]
          go_wp2_with fail
          go_meet
          case rel => exact ⟨true, rfl, HB2.out, fun _ => this.out, fun h => by cases h⟩
        · by_cases a3 : bk < 0
          · have : Hid (mayOk (.mk k ⟨p1, p2, p3, p4⟩ kids) ls bk = false) := by simp [Hid, mayOk, show ¬ 0 ≤ bk by omega]
            go_wp2_with fail
            go_meet
            case rel => exact ⟨true, rfl, HB2.out, fun _ => this.out, fun h => by cases h⟩
          · by_cases a4 : (ls.length : Int) ≤ bk
            · have : Hid (mayOk (.mk k ⟨p1, p2, p3, p4⟩ kids) ls bk = false) := by simp [Hid, mayOk, show ¬ bk < (ls.length : Int) by omega]
              go_wp2_with fail
              go_meet
              case rel => exact ⟨true, (by first | rfl | (simp; done) | (simp; omega)), HB2.out, fun _ => this.out, fun h => by cases h⟩
            · have : Hid (TruthHead true ls.length bk) := ⟨rfl, by omega, by omega, by omega, by omega⟩
              go_wp2_with fail
              go_meet
              case rel => exact ⟨false, (by first | rfl | (simp; done) | (simp; omega)), HB2.out, (fun h => by cases h), fun _ => this.out⟩
  case rest =>
    obtain ⟨b, rfl, hB, HY, HN⟩ := hcut
    have hx : ∀ a v, W.cell? a = some v → wc.cell? a = some v := fun a v h => (hB.cell (World.block_lt_of_cell? _ _ h)).trans h
    replace c0 := hx _ _ c0
    replace c1 := hx _ _ c1
    replace c2 := hx _ _ c2
    replace c3 := hx _ _ c3
    replace c4 := hx _ _ c4
    replace c5 := hx _ _ c5
    replace d0 := hx _ _ d0
    replace d1 := hx _ _ d1
    have HBW : Hid (Below w.heap.size w wc) := HB.out.trans (hB.mono HB.out.size)
    have hwc : w.heap.size + 2 ≤ wc.heap.size := by rw [hws]; exact hB.size
    clear hx hB HB H1 H2 hws HR
    cases b with
    | true =>
      go_wp2_with fail
      go_ret2
      exact HNO.out (HY.out (by trivial)) _ HBW.out
    | false =>
      obtain ⟨hft, hn1, hn2, hb0, hbn⟩ := HN.out (by trivial)
      obtain ⟨back, rfl⟩ : ∃ back : Nat, bk = back := ⟨bk.toNat, by omega⟩
      have hsz : Hid ((Form.mk k ⟨p1, p2, p3, p4⟩ kids).size ≤ 200 ∧ (Form.mk k ⟨p1, p2, p3, p4⟩ kids).okD 20 = true) := fits_size (by rw [← HF.out, hft])
      have HFT := Lib.hid hft
      clear hft HN HY
      go_upto_region 3 with fail
      go_cut [6] (fun s6 w' => ∃ g : Nat, s6 = .pointer (some ⟨g, 0, none⟩) ∧ TruthMid wc w' (.slice la ls.length lc) back fs g)
      case first =>
        have hid2 : Hid (∀ W', Below wc.heap.size wc W' → Below w.heap.size w W') := fun W' h => HBW.out.trans (h.mono HBW.out.size)
        have hal : ∀ o a v, wc.cell? a = some v → (wc.alloc o).cell? a = some v := fun o a v h => (Below.cell ((Below.refl _ _).alloc (Nat.le_refl _) o) (World.block_lt_of_cell? _ _ h)).trans h
        have a0 := fun o => hal o _ _ c0
        have a1 := fun o => hal o _ _ c1
        have a2 := fun o => hal o _ _ c2
        have a3 := fun o => hal o _ _ c3
        have a4 := fun o => hal o _ _ c4
        have a5 := fun o => hal o _ _ c5
        have a6 := fun o => hal o _ _ d0
        have a7 := fun o => hal o _ _ d1
        clear hal
        go_region_with (go_at_call 25; refine (HP.out _ (hid2.out _ (by first | exact (Below.refl _ _).drew | exact ((Below.refl _ _).alloc (Nat.le_refl _) _).drew | exact (Below.refl _ _) | exact ((Below.refl _ _).alloc (Nat.le_refl _) _))) hsz.out.1).mono ?_; rintro e w5 ⟨sv, rfl, ho5, hb5⟩; unfold PropsOwn at ho5; rw [← HFS.out] at ho5; obtain ⟨pa, pc, rfl, -, -⟩ := row_slice ho5; have e0 : w5.cell? ⟨w.heap.size + 1, 0, none⟩ = some (.slice la ls.length lc) := (by first | exact (hb5.cell (p := ⟨w.heap.size + 1, 0, none⟩) (World.block_lt_of_cell? _ _ d0)).trans d0 | exact (hb5.cell (p := ⟨w.heap.size + 1, 0, none⟩) (World.block_lt_of_cell? _ _ (a6 _))).trans (a6 _)); have e1 : w5.cell? ⟨w.heap.size + 1, 1, none⟩ = some (.int .i64 back) := (by first | exact (hb5.cell (p := ⟨w.heap.size + 1, 1, none⟩) (World.block_lt_of_cell? _ _ d1)).trans d1 | exact (hb5.cell (p := ⟨w.heap.size + 1, 1, none⟩) (World.block_lt_of_cell? _ _ (a7 _))).trans (a7 _)); have e0a := fun o => (Below.cell ((Below.refl _ _).alloc (Nat.le_refl _) o) (World.block_lt_of_cell? w5 _ e0)).trans e0; have e1a := fun o => (Below.cell ((Below.refl _ _).alloc (Nat.le_refl _) o) (World.block_lt_of_cell? w5 _ e1)).trans e1; (try (have q1 : w5.cell? ⟨wc.heap.size, 0, none⟩ = some (.pointer none) := (hb5.cell (p := ⟨wc.heap.size, 0, none⟩) (by simp [World.drew])).trans (cell_of_block (heap_alloc_new wc (.cells #[.pointer none] 53)) 0); have q2 : w5.frozen? ⟨wc.heap.size, 0, none⟩ = false := (hb5.frozen (p := ⟨wc.heap.size, 0, none⟩) (by simp [World.drew])).trans (free_of_block (heap_alloc_new wc (.cells #[.pointer none] 53)) 0); have q3 := fun o => (Below.cell ((Below.refl _ _).alloc (Nat.le_refl _) o) (World.block_lt_of_cell? w5 _ q1)).trans q1; have q4 := fun o => (Below.frozen ((Below.refl _ _).alloc (Nat.le_refl _) o) (World.block_lt_of_cell? w5 _ q1)).trans q2)))
        all_goals
          go_wp2_with fail
          go_meet
          case rel =>
            first
              | exact ⟨_, rfl, mid_A ((Below.refl _ _).drew.trans hb5) ho5⟩
              | exact ⟨_, rfl, mid_B ((Below.refl _ _).drew.trans hb5) ho5⟩
              | exact ⟨_, rfl, mid_C ((Below.refl _ _).drew.trans hb5) ho5⟩
      case rest =>
        obtain ⟨g, rfl, tb, pa, pc, hg, htb, hps, hb2⟩ := hcut
        have HBM : Hid (Below w.heap.size w wc) := HBW.out.trans (hb2.mono HBW.out.size)
        have hx := fun a v h => ((hb2.cell (p := a) (World.block_lt_of_cell? _ _ h)).trans h : wc.cell? a = some v)
        replace c0 := hx _ _ c0
        replace c1 := hx _ _ c1
        replace c2 := hx _ _ c2
        replace c3 := hx _ _ c3
        replace c4 := hx _ _ c4
        replace c5 := hx _ _ c5
        replace d0 := hx _ _ d0
        have hodd := HO.out _ HBM.out g tb _ _ pa fs.length pc hg htb
        obtain ⟨wd, hwd⟩ : ∃ wd, wd = wideOk ls fs.length := ⟨_, rfl⟩
        rw [← hwd] at hodd
        have HODD := Lib.hid hodd
        have HWD := Lib.hid hwd
        have HMAY : Hid (wd = true → mayOk (.mk k ⟨p1, p2, p3, p4⟩ kids) ls back = true) := by
          intro h
          rw [hwd, HFS.out] at h
          unfold mayOk
          rw [← HF.out, HFT.out, h, decide_eq_true hn1, decide_eq_true hn2, decide_eq_true (show (0 : Int) ≤ (back : Int) by omega), decide_eq_true (show (back : Int) < (ls.length : Int) by omega)]; rfl
        have HMNO : Hid (wd = false → mayOk (.mk k ⟨p1, p2, p3, p4⟩ kids) ls back = false) := by
          intro h
          rw [hwd, HFS.out] at h
          unfold mayOk
          rw [h, Bool.and_false]
        have HASK : Hid (wd = true → Asked wc tb (.slice la ls.length lc) ls back (.slice pa fs.length pc) fs) :=
          fun h => ⟨htb, HL.out.below HBM.out, hps, hn1, by omega, by omega, fun i hi => wideOk_at hi (by rw [← hwd, h])⟩
        clear hx hodd hwd htb hps hb2 HBW HO HP d1
        go_wp2_with fail
        refine HODD.out.mono ?_
        rintro e w' ⟨rfl, rfl⟩
        cases wd with
        | false =>
          go_wp2_with fail
          go_ret2
          exact HNO.out (HMNO.out (by trivial)) _ HBM.out
        | true =>
          have hcof := HOF.out _ tb back (.slice pa fs.length pc) HBM.out hsz.out.2 (by rw [← HFS.out]; exact HASK.out (by trivial))
          rw [← HFS.out] at hcof
          have hcof2 : Calls Try.prog 28 #[.pointer (some ⟨tb, 0, none⟩), .agg #[.int .i64 k, .int .i64 p1, .int .i64 p2, .int .i64 p3, .int .i64 p4, .slice ka kids.length kc]] wc (TellsBools tr wc) := by
            rw [HTR.out, ← HFS.out, Int.toNat_natCast]; exact hcof
          have HCO := Lib.hid hcof2
          clear hcof hcof2
          go_wp2_with fail
          refine HCO.out.mono ?_
          rintro e w3 ⟨sv, rfl, ho, hb3⟩
          have HPP : Hid (w3.ownsRow w.heap.size 4 1 sv tr.length (tr.map Value.bool) ∧ Below w.heap.size w w3) := ⟨row_mono ho HBM.out.size, HBM.out.trans (hb3.mono HBM.out.size)⟩
          clear ho hb3 c0 c1 c2 c3 c4 c5 d0 hg
          go_wp2_with fail
          go_ret2
          exact HT.out _ _ ⟨HPP.out.2, .inl ⟨HMAY.out (by trivial), sv, rfl, HPP.out.1⟩⟩
end Go.Proofs.Ytidnpdkibndpkaa
