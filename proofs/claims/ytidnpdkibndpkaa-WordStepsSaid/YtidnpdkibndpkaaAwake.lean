/- The laws of words begin awake: what any right program answers. -/
import Derived.Test.YtidnpdkibndpkaaMk
namespace Go.Proofs.Ytidnpdkibndpkaa
open Go.RowKit

def fE : Form := .mk 12 ⟨0, 0, 0, 0⟩ [badF]
def fX : Form := .mk 8 ⟨0, 0, 0, 0⟩ [badF]
def fA : Form := .mk 11 ⟨0, 0, 0, 0⟩ [.mk 4 ⟨0, 0, 0, 0⟩ [badF]]
theorem resE : tl fE [[true], [false]] 1 = [true, false] ∧ tc fE [[true], [false]] 1 = 0 := by decide +kernel
theorem resX : tl fX [[true], [false]] 1 = [false, false] ∧ tc fX [[true], [false]] 1 = 0 := by decide +kernel
theorem resA : tl fA [[true], [false]] 1 = [false, true] ∧ tc fA [[true], [false]] 1 = 0 := by decide +kernel
theorem resO : tl badF [] 0 = [] ∧ tc badF [] 0 = 1 := by decide +kernel
theorem letters_two {w : World} {b0 b1 b2 c0 c1 c2 : Nat} (h0 : w.heap[b0]? = some (.cells #[.bool true] 4 (0, 0))) (h1 : w.heap[b1]? = some (.cells #[.bool false] 4 (0, 0))) (h2 : w.heap[b2]? = some (.cells #[.slice (some ⟨b0, 0, none⟩) 1 c0, .slice (some ⟨b1, 0, none⟩) 1 c1] 41 (0, 0))) :
    LettersAt w (.slice (some ⟨b2, 0, none⟩) 2 c2) [[true], [false]] := by
  refine ⟨_, c2, rfl, by simp, fun j hj => ?_⟩
  simp only [List.length_cons, List.length_nil] at hj
  have : j = 0 ∨ j = 1 := by omega
  rcases this with rfl | rfl
  · refine ⟨b2, 0, _, rfl, lt_of_block h2, cell_of_block h2 0, ⟨_, c0, rfl, by simp, fun j hj => ?_⟩⟩
    simp at hj
    subst hj
    exact ⟨b0, 0, rfl, lt_of_block h0, cell_of_block h0 0⟩
  · refine ⟨b2, 0, _, rfl, lt_of_block h2, cell_of_block h2 1, ⟨_, c1, rfl, by simp, fun j hj => ?_⟩⟩
    simp at hj
    subst hj
    exact ⟨b1, 0, rfl, lt_of_block h1, cell_of_block h1 0⟩
theorem letters_none (w : World) : LettersAt w (.slice none 0 0) [] := ⟨none, 0, rfl, by simp, fun j hj => by simp at hj⟩
theorem bools_two {w : World} {b c : Nat} {x y : Bool} (h : w.heap[b]? = some (.cells #[.bool x, .bool y] 4 (0, 0))) : BoolsAt w (.slice (some ⟨b, 0, none⟩) 2 c) [x, y] := by
  refine ⟨_, c, rfl, by simp, fun j hj => ?_⟩
  simp only [List.length_cons, List.length_nil] at hj
  have : j = 0 ∨ j = 1 := by omega
  rcases this with rfl | rfl
  · exact ⟨b, 0, rfl, lt_of_block h, cell_of_block h 0⟩
  · exact ⟨b, 0, rfl, lt_of_block h, cell_of_block h 1⟩
theorem truth_const {W : World} {d : Nat} {f : Form} {kv lv : Value} {ls : List (List Bool)} {bk : Int} {l : List Bool} {c : Int} (hf : FormAt W d f kv) (hl : LettersAt W lv ls) (h : tl f ls bk = l ∧ tc f ls bk = c) :
    Calls Try.prog 15 #[formV f kv, .agg #[lv, .int .i64 bk]] W (TellsRes l c W) := by rw [← h.1, ← h.2]; exact truthR_any W d f kv lv ls bk hf hl
theorem slice_two {w : World} {sv : Value} {x y : Bool} (h : BoolsAt w sv [x, y]) : ∃ sa sc, sv = .slice sa 2 sc := by obtain ⟨a, c, h, -⟩ := h; exact ⟨a, c, h⟩
theorem sameL_true {w : World} {av bv : Value} {l : List Bool} (ha : BoolsAt w av l) (hb : BoolsAt w bv l) : Calls Try.prog 16 #[av, bv] w fun e w' => e = .returned (.bool true) ∧ Below w.heap.size w w' := by
  have := sameL_any w av bv l l ha hb
  rw [decide_eq_true rfl] at this; exact this
theorem below_then {a b c : World} (h : Below a.heap.size a b) (k : Below b.heap.size b c) : Below a.heap.size a c := h.trans (k.mono h.size)
set_option maxRecDepth 100000 in
set_option maxHeartbeats 8000000 in
theorem awake_any (w : World) : Calls Try.prog 8 #[] w (fun e w' => e = .returned (.bool true) ∧ Below w.heap.size w w') := by
  have hbl : Below w.heap.size w ((((w.alloc (.cells #[.bool true] 4)).alloc (.cells #[.bool false] 4)).alloc (.cells #[.slice (some ⟨w.heap.size, 0, none⟩) 1 1, .slice (some ⟨w.heap.size + 1, 0, none⟩) 1 1] 41)).alloc (.cells #[.slice (some ⟨w.heap.size + 1 + 1, 0, none⟩) 2 2, .int .i64 1] 29)) := ((boxes_below w _ _).alloc (by simp; omega) _).alloc (by simp; omega) _
  have hlt : LettersAt ((((w.alloc (.cells #[.bool true] 4)).alloc (.cells #[.bool false] 4)).alloc (.cells #[.slice (some ⟨w.heap.size, 0, none⟩) 1 1, .slice (some ⟨w.heap.size + 1, 0, none⟩) 1 1] 41)).alloc (.cells #[.slice (some ⟨w.heap.size + 1 + 1, 0, none⟩) 2 2, .int .i64 1] 29)) (.slice (some ⟨w.heap.size + 1 + 1, 0, none⟩) 2 2) [[true], [false]] := by
    have hb3 := boxes_below ((w.alloc (.cells #[.bool true] 4)).alloc (.cells #[.bool false] 4)) (.cells #[.slice (some ⟨w.heap.size, 0, none⟩) 1 1, .slice (some ⟨w.heap.size + 1, 0, none⟩) 1 1] 41) (.cells #[.slice (some ⟨w.heap.size + 1 + 1, 0, none⟩) 2 2, .int .i64 1] 29)
    have h2 := boxes_first ((w.alloc (.cells #[.bool true] 4)).alloc (.cells #[.bool false] 4)) (.cells #[.slice (some ⟨w.heap.size, 0, none⟩) 1 1, .slice (some ⟨w.heap.size + 1, 0, none⟩) 1 1] 41) (.cells #[.slice (some ⟨w.heap.size + 1 + 1, 0, none⟩) 2 2, .int .i64 1] 29)
    simp only [World.size_alloc] at h2
    exact letters_two ((hb3.block _ (by simp; omega)).trans (boxes_first w _ _)) ((hb3.block _ (by simp)).trans (boxes_second w _ _)) h2
  have hw := boxes_second ((w.alloc (.cells #[.bool true] 4)).alloc (.cells #[.bool false] 4)) (.cells #[.slice (some ⟨w.heap.size, 0, none⟩) 1 1, .slice (some ⟨w.heap.size + 1, 0, none⟩) 1 1] 41) (.cells #[.slice (some ⟨w.heap.size + 1 + 1, 0, none⟩) 2 2, .int .i64 1] 29)
  simp only [World.size_alloc] at hw
  have HB0 := Lib.hid hbl
  have HL0 := Lib.hid hlt
  have HW0 := Lib.hid hw
  clear hbl hlt hw
  go_enter Try.func8, Try.ntmps8
  go_upto_region 2 with fail
  generalize hW : World.alloc _ _ = W at HB0 HL0 HW0 ⊢
  clear hW
  have d0 := cell_of_block HW0.out 0
  have d1 := cell_of_block HW0.out 1
  simp only [List.getElem?_toArray, List.getElem?_cons_zero, List.getElem?_cons_succ] at d0 d1
  clear HW0
  go_cut [2, 3] (fun s1 s2 w' => ∃ sa sc, s1 = .slice sa 2 sc ∧ s2 = .int .i64 0 ∧ Hid (BoolsAt w' (.slice sa 2 sc) [true, false]) ∧ Hid (Below W.heap.size W w'))
  case first =>
    have HBW : Hid (Below W.heap.size W W) := Below.refl _ _
    go_region_held3 (fun w' => w'.cell? ⟨w.heap.size + 1 + 1 + 1, 0, none⟩ = some (.slice (some ⟨w.heap.size + 1 + 1, 0, none⟩) 2 2) ∧ w'.cell? ⟨w.heap.size + 1 + 1 + 1, 1, none⟩ = some (.int .i64 1)) (first | exact ⟨hx5 _ _ d0, hx5 _ _ d1⟩ | exact ⟨hx3 _ _ d0, hx3 _ _ d1⟩ | exact ⟨hx2 _ _ d0, hx2 _ _ d1⟩ | exact ⟨hx1 _ _ d0, hx1 _ _ d1⟩ | go_keep) (first | (go_at_call 19; refine (bad_any _).mono ?_; rintro e x1 ⟨a1, n1, c1, rfl, hf1, hb1⟩; have hx1 : ∀ a v, W.cell? a = some v → x1.cell? a = some v := (fun a v h => (hb1.cell (World.block_lt_of_cell? W _ h)).trans h)) | (go_at_call 13; refine (mkOne_any x1 _ 12 badF _ hf1).mono ?_; rintro e x2 ⟨a2, n2, c2, rfl, hf2, hb2⟩; have hx2 : ∀ a v, W.cell? a = some v → x2.cell? a = some v := (fun a v h => (hb2.cell (World.block_lt_of_cell? x1 _ (hx1 a v h))).trans (hx1 a v h))) | (go_at_call 15; have hBx : Below W.heap.size W x2 := (below_then (below_then ((Below.refl _ _).drew.trans hb1) hb2) (Below.refl _ _)); refine (truth_const hf2 (HL0.out.below hBx) resE).mono ?_; rintro e x5 ⟨sv, rfl, hbs, hb5⟩; obtain ⟨sa, sc, rfl⟩ := slice_two hbs; have hx5 : ∀ a v, W.cell? a = some v → x5.cell? a = some v := (fun a v h => (hb5.cell (World.block_lt_of_cell? x2 _ (hx2 a v h))).trans (hx2 a v h))))
    all_goals
      have HBX : Hid (Below W.heap.size W x5) := below_then hBx hb5
      have HBS := Lib.hid hbs
      clear hb5 hBx hbs
      go_wp2_with fail
      go_meet
      case rel => exact ⟨sa, sc, rfl, rfl, HBS.out, HBX.out⟩
  case rest =>
    obtain ⟨sa1, sc1, rfl, rfl, HS1, HBC⟩ := hcut
    obtain ⟨wa, rfl⟩ : ∃ wo : World, wo = wc := ⟨_, rfl⟩
    have hx : ∀ a v, W.cell? a = some v → wa.cell? a = some v := fun a v h => (HBC.out.cell (World.block_lt_of_cell? _ _ h)).trans h
    replace d0 := hx _ _ d0
    replace d1 := hx _ _ d1
    have HB1 : Hid (Below w.heap.size w wa) := below_then HB0.out HBC.out
    have HL1 : Hid (LettersAt wa _ _) := HL0.out.below HBC.out
    clear hx
    go_upto_region 3 with fail
    go_cut [4, 5] (fun s1 s2 w' => ∃ sa sc, s1 = .slice sa 2 sc ∧ s2 = .int .i64 0 ∧ Hid (BoolsAt w' (.slice sa 2 sc) [false, false]) ∧ Hid (Below wa.heap.size wa w'))
    case first =>
      have HBW : Hid (Below wa.heap.size wa wa) := Below.refl _ _
      go_region_held3 (fun w' => w'.cell? ⟨w.heap.size + 1 + 1 + 1, 0, none⟩ = some (.slice (some ⟨w.heap.size + 1 + 1, 0, none⟩) 2 2) ∧ w'.cell? ⟨w.heap.size + 1 + 1 + 1, 1, none⟩ = some (.int .i64 1)) (first | exact ⟨hx5 _ _ d0, hx5 _ _ d1⟩ | exact ⟨hx3 _ _ d0, hx3 _ _ d1⟩ | exact ⟨hx2 _ _ d0, hx2 _ _ d1⟩ | exact ⟨hx1 _ _ d0, hx1 _ _ d1⟩ | go_keep) (first | (go_at_call 19; refine (bad_any _).mono ?_; rintro e x1 ⟨a1, n1, c1, rfl, hf1, hb1⟩; have hx1 : ∀ a v, wa.cell? a = some v → x1.cell? a = some v := (fun a v h => (hb1.cell (World.block_lt_of_cell? wa _ h)).trans h)) | (go_at_call 13; refine (mkOne_any x1 _ 8 badF _ hf1).mono ?_; rintro e x2 ⟨a2, n2, c2, rfl, hf2, hb2⟩; have hx2 : ∀ a v, wa.cell? a = some v → x2.cell? a = some v := (fun a v h => (hb2.cell (World.block_lt_of_cell? x1 _ (hx1 a v h))).trans (hx1 a v h))) | (go_at_call 15; have hBx : Below wa.heap.size wa x2 := (below_then (below_then ((Below.refl _ _).drew.trans hb1) hb2) (Below.refl _ _)); refine (truth_const hf2 (HL1.out.below hBx) resX).mono ?_; rintro e x5 ⟨sv, rfl, hbs, hb5⟩; obtain ⟨sa, sc, rfl⟩ := slice_two hbs; have hx5 : ∀ a v, wa.cell? a = some v → x5.cell? a = some v := (fun a v h => (hb5.cell (World.block_lt_of_cell? x2 _ (hx2 a v h))).trans (hx2 a v h))))
      all_goals
        have HBX : Hid (Below wa.heap.size wa x5) := below_then hBx hb5
        have HBS := Lib.hid hbs
        clear hb5 hBx hbs
        go_wp2_with fail
        go_meet
        case rel => exact ⟨sa, sc, rfl, rfl, HBS.out, HBX.out⟩
    case rest =>
      obtain ⟨sa2, sc2, rfl, rfl, HS2, HBC⟩ := hcut
      obtain ⟨wb, rfl⟩ : ∃ wo : World, wo = wc := ⟨_, rfl⟩
      have hx : ∀ a v, wa.cell? a = some v → wb.cell? a = some v := fun a v h => (HBC.out.cell (World.block_lt_of_cell? _ _ h)).trans h
      replace d0 := hx _ _ d0
      replace d1 := hx _ _ d1
      have HB2 : Hid (Below w.heap.size w wb) := below_then HB1.out HBC.out
      have HL2 : Hid (LettersAt wb _ _) := HL1.out.below HBC.out
      have HS1b : Hid (BoolsAt wb _ _) := HS1.out.below HBC.out
      clear hx HS1 HBC
      go_upto_region 4 with fail
      go_cut [6, 7] (fun s1 s2 w' => ∃ sa sc, s1 = .slice sa 2 sc ∧ s2 = .int .i64 0 ∧ Hid (BoolsAt w' (.slice sa 2 sc) [false, true]) ∧ Hid (Below wb.heap.size wb w'))
      case first =>
        have HBW : Hid (Below wb.heap.size wb wb) := Below.refl _ _
        go_region_held3 (fun w' => w'.cell? ⟨w.heap.size + 1 + 1 + 1, 0, none⟩ = some (.slice (some ⟨w.heap.size + 1 + 1, 0, none⟩) 2 2) ∧ w'.cell? ⟨w.heap.size + 1 + 1 + 1, 1, none⟩ = some (.int .i64 1)) (first | exact ⟨hx5 _ _ d0, hx5 _ _ d1⟩ | exact ⟨hx3 _ _ d0, hx3 _ _ d1⟩ | exact ⟨hx2 _ _ d0, hx2 _ _ d1⟩ | exact ⟨hx1 _ _ d0, hx1 _ _ d1⟩ | go_keep) (first | (go_at_call 19; refine (bad_any _).mono ?_; rintro e x1 ⟨a1, n1, c1, rfl, hf1, hb1⟩; have hx1 : ∀ a v, wb.cell? a = some v → x1.cell? a = some v := (fun a v h => (hb1.cell (World.block_lt_of_cell? wb _ h)).trans h)) | (go_at_call_of 13 (Value.int .i64 4); refine (mkOne_any x1 _ 4 badF _ hf1).mono ?_; rintro e x2 ⟨a2, n2, c2, rfl, hf2, hb2⟩; have hx2 : ∀ a v, wb.cell? a = some v → x2.cell? a = some v := (fun a v h => (hb2.cell (World.block_lt_of_cell? x1 _ (hx1 a v h))).trans (hx1 a v h))) | (go_at_call_of 13 (Value.int .i64 11); refine (mkOne_any x2 _ 11 _ _ hf2).mono ?_; rintro e x3 ⟨a3, n3, c3, rfl, hf3, hb3⟩; have hx3 : ∀ a v, wb.cell? a = some v → x3.cell? a = some v := (fun a v h => (hb3.cell (World.block_lt_of_cell? x2 _ (hx2 a v h))).trans (hx2 a v h))) | (go_at_call 15; have hBx : Below wb.heap.size wb x3 := (below_then (below_then ((Below.refl _ _).drew.trans hb1) hb2) hb3); refine (truth_const hf3 (HL2.out.below hBx) resA).mono ?_; rintro e x5 ⟨sv, rfl, hbs, hb5⟩; obtain ⟨sa, sc, rfl⟩ := slice_two hbs; have hx5 : ∀ a v, wb.cell? a = some v → x5.cell? a = some v := (fun a v h => (hb5.cell (World.block_lt_of_cell? x3 _ (hx3 a v h))).trans (hx3 a v h))))
        all_goals
          have HBX : Hid (Below wb.heap.size wb x5) := below_then hBx hb5
          have HBS := Lib.hid hbs
          clear hb5 hBx hbs
          go_wp2_with fail
          go_meet
          case rel => exact ⟨sa, sc, rfl, rfl, HBS.out, HBX.out⟩
      case rest =>
        obtain ⟨sa3, sc3, rfl, rfl, HS3, HBC⟩ := hcut
        obtain ⟨wd, rfl⟩ : ∃ wo : World, wo = wc := ⟨_, rfl⟩
        have hx : ∀ a v, wb.cell? a = some v → wd.cell? a = some v := fun a v h => (HBC.out.cell (World.block_lt_of_cell? _ _ h)).trans h
        replace d0 := hx _ _ d0
        replace d1 := hx _ _ d1
        have HB3 : Hid (Below w.heap.size w wd) := below_then HB2.out HBC.out
        have HL3 : Hid (LettersAt wd _ _) := HL2.out.below HBC.out
        have HS1c : Hid (BoolsAt wd _ _) := HS1b.out.below HBC.out
        have HS2c : Hid (BoolsAt wd _ _) := HS2.out.below HBC.out
        clear hx HS1b HS2 HBC d0 d1
        go_wp2_with fail
        refine (bad_any _).mono ?_
        rintro e x1 ⟨a1, n1, c1, rfl, hf1, hb1⟩
        go_wp2_with fail
        refine (truth_const hf1 (letters_none _) resO).mono ?_
        rintro e x2 ⟨sv, rfl, hbs, hb2⟩
        have hbx := below_then hb1 hb2
        have HBX : Hid (Below w.heap.size w x2) := below_then HB3.out hbx
        have HS1 : Hid (BoolsAt x2 _ _) := HS1c.out.below hbx
        have HS2 : Hid (BoolsAt x2 _ _) := HS2c.out.below hbx
        have HS3x : Hid (BoolsAt x2 _ _) := HS3.out.below hbx
        clear hb1 hb2 hbx hf1 hbs HS1c HS2c HS3 HL0 HL1 HL2 HL3 HB0 HB1 HB2
        go_wp2_with fail
        refine (sameL_true (HS1.out.below ((Below.refl _ _).alloc (Nat.le_refl _) _)) (bools_two (heap_alloc_new x2 _))).mono ?_
        rintro e y1 ⟨rfl, hb1⟩
        have hby : Below x2.heap.size x2 y1 := below_then ((Below.refl _ _).alloc (Nat.le_refl _) (.cells #[.bool true, .bool false] 4)) hb1
        have HBY : Hid (Below w.heap.size w y1) := below_then HBX.out hby
        have HT2 : Hid (BoolsAt y1 _ _) := HS2.out.below hby
        have HT3 : Hid (BoolsAt y1 _ _) := HS3x.out.below hby
        clear hb1 hby
        go_wp2_with fail
        refine (sameL_true (HT2.out.below ((Below.refl _ _).alloc (Nat.le_refl _) _)) (bools_two (heap_alloc_new y1 _))).mono ?_
        rintro e y2 ⟨rfl, hb1⟩
        have hby : Below y1.heap.size y1 y2 := below_then ((Below.refl _ _).alloc (Nat.le_refl _) (.cells #[.bool false, .bool false] 4)) hb1
        have HBY2 : Hid (Below w.heap.size w y2) := below_then HBY.out hby
        have HU3 : Hid (BoolsAt y2 _ _) := HT3.out.below hby
        clear hb1 hby
        go_wp2_with fail
        refine (sameL_true (HU3.out.below ((Below.refl _ _).alloc (Nat.le_refl _) _)) (bools_two (heap_alloc_new y2 _))).mono ?_
        rintro e y3 ⟨rfl, hb1⟩
        have hby : Below y2.heap.size y2 y3 := below_then ((Below.refl _ _).alloc (Nat.le_refl _) (.cells #[.bool false, .bool true] 4)) hb1
        have HBY3 : Hid (Below w.heap.size w y3) := below_then HBY2.out hby
        clear hb1 hby
        go_wp2_with fail
        go_ret
        exact ⟨by first | rfl | simp, HBY3.out⟩
end Go.Proofs.Ytidnpdkibndpkaa
