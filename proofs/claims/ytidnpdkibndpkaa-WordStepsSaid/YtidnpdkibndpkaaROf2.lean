/- Where a formula is so: the document's way: the walk. -/
import Derived.Test.YtidnpdkibndpkaaRWord
namespace Go.Proofs.Ytidnpdkibndpkaa
open Go.RowKit

def ROfAt (d : Nat) : Prop := ∀ (w : World) (f : Form) (kv : Value) (deep : Nat) (lv : Value) (ls : List (List Bool)) (back : Nat) (pv : Value) (ps : List PropD), FormAt w d f kv → f.okD deep = true → AskedR w lv ls back pv ps → (∀ p ∈ f.props, p ∈ ps) →
    Calls Try.prog 31 #[formV f kv, pv, .agg #[lv, .int .i64 back]] w (TellsBools (f.truth ps ls back) w)

theorem BoolsAt.part {w : World} {aa : Option Addr} {an ac : Nat} {l : List Bool} (h : BoolsAt w (.slice aa an ac) l) (i : Nat) (hi : i < l.length) :
    an = l.length ∧ ∃ b off, aa = some ⟨b, off, none⟩ ∧ b < w.heap.size ∧ w.cell? ⟨b, off + i, none⟩ = some (.bool (l.getD i false)) := by
  obtain ⟨a, cap, he, hn, hc⟩ := h
  cases he
  obtain ⟨b, off, rfl, hb, h2⟩ := hc i hi
  exact ⟨rfl, b, off, rfl, hb, h2⟩
theorem store_row {V : World} {B g n : Nat} {r : Nat → Bool} {i : Nat} {x : Bool} (h : V.ownsRow B 4 1 (.slice (some ⟨g, 0, none⟩) n n) n ((soFar r n i).map Value.bool)) (hx : r i = x) : (V.setCell ⟨g, i, none⟩ (.bool x)).ownsRow B 4 1 (.slice (some ⟨g, 0, none⟩) n n) n ((soFar r n (i + 1)).map Value.bool) := by
  have := (h.stored i (.bool (r i))).1
  rw [soFar_succ] at this
  rw [← hx]; exact this
theorem row_cell {V : World} {B g n : Nat} {r : Nat → Bool} {i j : Nat} (h : V.ownsRow B 4 1 (.slice (some ⟨g, 0, none⟩) n n) n ((soFar r n i).map Value.bool)) (hj : j < n) : ∃ v, V.cell? ⟨g, j, none⟩ = some v := by
  rw [h.cellAt j (by omega)]
  simp [soFar, hj]
theorem placeIs_idx {ps : List PropD} {p : PropD} (hmem : p ∈ ps) : PlaceIs ps p ((ps.idxOf p : Nat) : Int) := by
  have hix : ps.idxOf p < ps.length := List.idxOf_lt_length_iff.2 hmem
  refine .inl ⟨_, hix, ?_, rfl, fun j hj he => ?_⟩
  · rw [List.getD_eq_getElem?_getD, List.getElem?_eq_getElem hix, Option.getD_some]
    exact List.getElem_idxOf hix
  · have hjl : j < ps.length := by omega
    rw [List.getD_eq_getElem?_getD, List.getElem?_eq_getElem hjl, Option.getD_some] at he
    have hne := List.not_of_lt_findIdx hj
    rw [he] at hne; simp at hne
set_option maxRecDepth 100000 in
set_option maxHeartbeats 8000000 in
theorem rof_any (d : Nat) (ih : ROfAt d) (w : World) (k p1 p2 p3 p4 : Int) (kids : List Form) (ka : Option Addr) (kc : Nat) (deep : Nat) (lv : Value) (ls : List (List Bool)) (back : Nat) (pv : Value) (ps : List PropD)
    (hk : ∀ j, j < kids.length → ∃ b off kv, ka = some ⟨b, off, none⟩ ∧ b < w.heap.size ∧ (∀ i, i < 6 → w.cell? ⟨b, off + j * 6 + i, none⟩ = (formCells (kids.getD j default) kv)[i]?) ∧ FormAt w d (kids.getD j default) kv)
    (hok : okL kids deep = true) (ha : AskedR w lv ls back pv ps) (hps : ∀ p ∈ (Form.mk k ⟨p1, p2, p3, p4⟩ kids).props, p ∈ ps) (hlen : kids.length ≤ 2)
    (r : Nat → Bool) (hr : ∀ i, i < ls.length → r i = semKind k (fun i => (ls.getD i []).getD (ps.idxOf ⟨p1, p2, p3, p4⟩) false) ((kids.getD 0 default).sem ps ls back) ((kids.getD 1 default).sem ps ls back) ls.length back i)
    (hkk : (k = 1 ∨ k = 2) ∨ k = 3 ∧ (⟨p1, p2, p3, p4⟩ : PropD) ∈ ps ∨ (k = 4 ∨ k = 8 ∨ k = 11 ∨ k = 12) ∧ 0 < kids.length ∨ (k = 5 ∨ k = 6 ∨ k = 7 ∨ k = 9 ∨ k = 10) ∧ 1 < kids.length) :
    Calls Try.prog 31 #[.agg #[.int .i64 k, .int .i64 p1, .int .i64 p2, .int .i64 p3, .int .i64 p4, .slice ka kids.length kc], pv, .agg #[lv, .int .i64 back]] w (TellsBools ((List.range ls.length).map r) w) := by
  obtain ⟨la, lc, rfl, hll⟩ := ha.letters.slice
  obtain ⟨pa, pc, rfl, hpl0, -⟩ := ha.props
  have hB := boxes_below w (.cells #[.int .i64 k, .int .i64 p1, .int .i64 p2, .int .i64 p3, .int .i64 p4, .slice ka kids.length kc] 26) (.cells #[.slice la ls.length lc, .int .i64 back] 29)
  have h1 := boxes_first w (.cells #[.int .i64 k, .int .i64 p1, .int .i64 p2, .int .i64 p3, .int .i64 p4, .slice ka kids.length kc] 26) (.cells #[.slice la ls.length lc, .int .i64 back] 29)
  have h2 := boxes_second w (.cells #[.int .i64 k, .int .i64 p1, .int .i64 p2, .int .i64 p3, .int .i64 p4, .slice ka kids.length kc] 26) (.cells #[.slice la ls.length lc, .int .i64 back] 29)
  have hrec : ∀ (W : World) (j : Nat), Below w.heap.size w W → j < kids.length → ∀ a n c, FormAt w d (kids.getD j default) (.slice a n c) → Calls Try.prog 31 #[formV (kids.getD j default) (.slice a n c), .slice pa ps.length pc, .agg #[.slice la ls.length lc, .int .i64 back]] W (TellsBools ((kids.getD j default).truth ps ls back) W) :=
    fun W j hW hj a n c hf => ih W _ _ deep _ ls back _ ps (hf.below hW) (okL_kid kids _ j hj hok) (ha.below hW) (fun p hp => hps p (props_kid hj hp))
  have c0 := cell_of_block h1 0
  have c1 := cell_of_block h1 1
  have c2 := cell_of_block h1 2
  have c3 := cell_of_block h1 3
  have c4 := cell_of_block h1 4
  have c5 := cell_of_block h1 5
  have d0 := cell_of_block h2 0
  have d1 := cell_of_block h2 1
  simp only [List.getElem?_toArray, List.getElem?_cons_zero, List.getElem?_cons_succ] at c0 c1 c2 c3 c4 c5 d0 d1
  have HB := Lib.hid hB
  have HREC := Lib.hid hrec
  have HK := Lib.hid hk
  have HA := Lib.hid ha
  have HRR := Lib.hid hr
  have HKK := Lib.hid hkk
  have hnn : ls.length ≤ 1000000000 := ha.short
  have hbk : back < ls.length := ha.back
  clear hr hkk hB h1 h2 hrec hk hok ha hps ih
  go_enter Try.func31, Try.ntmps31
  go_upto_region 1 with fail
  generalize hW : World.alloc _ _ = W at HB c0 c1 c2 c3 c4 c5 d0 d1 ⊢
  have hws : w.heap.size + 2 = W.heap.size := by rw [← hW]; simp
  clear hW
  go_upto_if 21 with fail
  go_cut [7, 21] (fun s7 _s21 w' => ∃ aa an ac, s7 = .slice aa an ac ∧ Below W.heap.size W w' ∧ Hid (0 < kids.length → BoolsAt w' (.slice aa an ac) ((kids.getD 0 default).truth ps ls back)))
  case first =>
    by_cases hl0 : 0 < kids.length
    · obtain ⟨b, off, g1, q1, q2, q3, q4, a1, n1, cc1, rfl, hb, hfv, hf, hn1, e0, e1, e2, e3, e4, e5⟩ := form_read HK.out hl0 HB.out
      have hc1 := fun W hW => HREC.out W 0 hW hl0 a1 n1 cc1 hf
      rw [hfv] at hc1
      simp only [Nat.zero_mul, Nat.add_zero] at e0 e1 e2 e3 e4 e5
      have HC1 := Lib.hid hc1
      have hl0' : (0 : Int) < (kids.length : Int) := by omega
      clear hc1 hf hfv
      go_wp2_with fail
      go_still_tail 6, (by kernel_rfl)
      change wpList _ _ _ _ _ W.drew
      have hd : Hid (Below w.heap.size w W.drew) := HB.out.drew
      go_wp2_with fail
      refine (HC1.out _ hd.out).mono ?_
      rintro e w2 ⟨sv, rfl, ho, hb2⟩
      obtain ⟨sa, sc, rfl, -, -⟩ := row_slice ho
      have HP : Hid (Below W.heap.size W w2 ∧ BoolsAt w2 (.slice sa ls.length sc) ((kids.getD 0 default).truth ps ls back)) := ⟨(Below.refl _ _).drew.trans hb2, by have h := BoolsAt.of_row ho; rw [truth_len] at h; exact h⟩
      clear ho hb2
      rw [truth_len]
      go_wp2_with fail
      go_meet
      case rel => exact ⟨_, _, _, rfl, HP.out.1, fun _ => HP.out.2⟩
    · have hl0' : ¬ (0 : Int) < (kids.length : Int) := by omega
      go_wp2_with fail
      go_meet
      case rel => exact ⟨_, _, _, rfl, Below.refl _ _, fun h => absurd h hl0⟩
  case rest =>
    obtain ⟨aa, an, ac, rfl, hB, HAV⟩ := hcut
    have HBW : Hid (Below w.heap.size w wc) := HB.out.trans (hB.mono HB.out.size)
    have hx : ∀ a v, W.cell? a = some v → wc.cell? a = some v := fun a v h => (hB.cell (World.block_lt_of_cell? _ _ h)).trans h
    replace c0 := hx _ _ c0
    replace c1 := hx _ _ c1
    replace c2 := hx _ _ c2
    replace c3 := hx _ _ c3
    replace c4 := hx _ _ c4
    replace c5 := hx _ _ c5
    replace d0 := hx _ _ d0
    replace d1 := hx _ _ d1
    have hwc : w.heap.size + 2 ≤ wc.heap.size := by rw [hws]; exact hB.size
    clear hx hB HB hws
    obtain ⟨wo, rfl⟩ : ∃ wo : World, wo = wc := ⟨_, rfl⟩
    go_upto_if 32 with fail
    go_cut [8, 32] (fun s8 _s32 w' => ∃ ba bn bc, s8 = .slice ba bn bc ∧ Below wo.heap.size wo w' ∧ Hid (1 < kids.length → BoolsAt w' (.slice ba bn bc) ((kids.getD 1 default).truth ps ls back)))
    case first =>
      by_cases hl0 : 1 < kids.length
      · obtain ⟨b, off, g1, q1, q2, q3, q4, a1, n1, cc1, rfl, hb, hfv, hf, hn1, e0, e1, e2, e3, e4, e5⟩ := form_read HK.out hl0 HBW.out
        have hc1 := fun W hW => HREC.out W 1 hW hl0 a1 n1 cc1 hf
        rw [hfv] at hc1
        simp only [Nat.one_mul] at e0 e1 e2 e3 e4 e5
        have HC1 := Lib.hid hc1
        have hl0' : (1 : Int) < (kids.length : Int) := by omega
        clear hc1 hf hfv
        go_wp2_with fail
        go_still_tail 6, (by kernel_rfl)
        change wpList _ _ _ _ _ wo.drew
        have hd : Hid (Below w.heap.size w wo.drew) := HBW.out.drew
        go_wp2_with fail
        refine (HC1.out _ hd.out).mono ?_
        rintro e w2 ⟨sv, rfl, ho, hb2⟩
        obtain ⟨sa, sc, rfl, -, -⟩ := row_slice ho
        have HP : Hid (Below wo.heap.size wo w2 ∧ BoolsAt w2 (.slice sa ls.length sc) ((kids.getD 1 default).truth ps ls back)) := ⟨(Below.refl _ _).drew.trans hb2, by have h := BoolsAt.of_row ho; rw [truth_len] at h; exact h⟩
        clear ho hb2
        rw [truth_len]
        go_wp2_with fail
        go_meet
        case rel => exact ⟨_, _, _, rfl, HP.out.1, fun _ => HP.out.2⟩
      · have hl0' : ¬ (1 : Int) < (kids.length : Int) := by omega
        go_wp2_with fail
        go_meet
        case rel => exact ⟨_, _, _, rfl, Below.refl _ _, fun h => absurd h hl0⟩
    case rest =>
      obtain ⟨ba, bn, bc, rfl, hB, HBV⟩ := hcut
      have HBW2 : Hid (Below w.heap.size w wc) := HBW.out.trans (hB.mono HBW.out.size)
      have hx : ∀ a v, wo.cell? a = some v → wc.cell? a = some v := fun a v h => (hB.cell (World.block_lt_of_cell? _ _ h)).trans h
      replace c0 := hx _ _ c0
      replace c1 := hx _ _ c1
      replace c2 := hx _ _ c2
      replace c3 := hx _ _ c3
      replace c4 := hx _ _ c4
      replace c5 := hx _ _ c5
      replace d0 := hx _ _ d0
      replace d1 := hx _ _ d1
      have hwc2 : w.heap.size + 2 ≤ wc.heap.size := Nat.le_trans hwc hB.size
      have HAV2 : Hid (0 < kids.length → BoolsAt wc (.slice aa an ac) ((kids.getD 0 default).truth ps ls back)) := fun h => (HAV.out h).below hB
      have HBV2 := HBV
      have HA2 : Hid (AskedR wc (.slice la ls.length lc) ls back (.slice pa ps.length pc) ps) := HA.out.below HBW2.out
      clear hx hB HBW hwc HAV HBV HREC HK
      obtain ⟨i0, hi0, hz0, hz1, hz2⟩ := info_parts bool_info
      have hb2 : i0.bytes * ls.length ≤ 281474976710656 := by rw [hz2]; omega
      clear hz2
      go_wp2_with (at_make; refine wpList_make_full _ rfl _ _ 41 rfl wc.heap.size 4 i0 (.bool false) 1 Try.underlying41 hi0 hz0 hz1 .i64 .i64 _ _ ls.length rfl rfl (by omega) (by omega) hb2 (by unfold maxLen; omega) (Nat.le_refl _) ?_; intro w1 hown1 hgr1)
      have HO := Lib.hid hown1
      have HB1 : Hid (Below wc.heap.size wc w1) := ((Since.refl (fun _ => False) wc).grown hgr1 (by simp)).below (Nat.le_refl _) (fun k h => h.elim)
      clear hown1 hgr1 hi0 hz0 hz1 hb2
      go_loopg [11] ls.length (fun g s11 wr => ∃ i : Nat, i ≤ ls.length ∧ Hid (g = ls.length - i) ∧ s11 = .int .i64 i ∧ Hid (wr.ownsRow wc.heap.size 4 1 (.slice (some ⟨wc.heap.size, 0, none⟩) ls.length ls.length) ls.length ((soFar r ls.length i).map Value.bool)) ∧ Hid (Below wc.heap.size wc wr))
      case atStart => exact ⟨0, Nat.zero_le _, rfl, rfl, by rw [Hid, soFar_zero]; exact HO.out, HB1.out⟩
      case round =>
        obtain ⟨i, hi, HG, rfl, HOW, HBR⟩ := hrel
        obtain ⟨wi, rfl⟩ : ∃ wi : World, wi = wr := ⟨_, rfl⟩
        clear HO HB1
        by_cases hlt : i < ls.length
        · have hx : ∀ a v, wc.cell? a = some v → wi.cell? a = some v := fun a v h => (HBR.out.cell (World.block_lt_of_cell? _ _ h)).trans h
          have HR1 := Lib.hid (HRR.out i hlt)
          have hzi := HBR.out.size
          have hfz : wi.frozen? ⟨wc.heap.size, i, none⟩ = false := HOW.out.frozenAt i
          obtain ⟨v0, hce⟩ := row_cell HOW.out hlt
          have k0 := hx _ _ c0
          have k1 := hx _ _ c1
          have k2 := hx _ _ c2
          have k3 := hx _ _ c3
          have k4 := hx _ _ c4
          have m0 := hx _ _ d0
          have m1 := hx _ _ d1
          clear hx
          rcases HKK.out with (hk | hk) | ⟨hk, hmem⟩ | ⟨hk | hk | hk | hk, hkl0⟩ | ⟨hk | hk | hk | hk | hk, hkl1⟩
          · as_aux_lemma =>
            subst hk
            go_wp2
            go_roundg (ls.length - (i + 1))
            case measure => rw [HG.out]; omega
            case rel => exact ⟨i + 1, by omega, rfl, by simp, store_row HOW.out (by rw [HR1.out]; simp [semKind]), HBR.out.setCell (Nat.le_refl _) _⟩
          · as_aux_lemma =>
            subst hk
            go_wp2
            go_roundg (ls.length - (i + 1))
            case measure => rw [HG.out]; omega
            case rel => exact ⟨i + 1, by omega, rfl, by simp, by rw [Hid, soFar_skip (by rw [HR1.out]; simp [semKind])]; exact HOW.out, HBR.out⟩
          · as_aux_lemma =>
            subst hk
            have hix : ps.idxOf ⟨p1, p2, p3, p4⟩ < ps.length := List.idxOf_lt_length_iff.2 hmem
            have hpl := placeIs_idx hmem
            obtain ⟨kk, hkk⟩ : ∃ kk, kk = ps.idxOf ⟨p1, p2, p3, p4⟩ := ⟨_, rfl⟩
            rw [← hkk] at hix hpl
            have hplace : ∀ W, Below wi.heap.size wi W → Calls Try.prog 43 #[.slice pa ps.length pc, .agg #[.int .i64 p1, .int .i64 p2, .int .i64 p3, .int .i64 p4]] W fun e w' => e = .returned (.int .i64 kk) ∧ Below W.heap.size W w' := fun W hW => place_any W _ ps ((HA2.out.props.below HBR.out).below hW) ⟨p1, p2, p3, p4⟩ kk hpl
            obtain ⟨la', lc', hle, hln, hlc⟩ := HA2.out.letters
            cases hle
            obtain ⟨bl, ofl, kvl, hlae, hbl, hkv, hbo⟩ := hlc i hlt
            subst hlae
            obtain ⟨bx, ofx, cx, rfl, hnx, hcx⟩ := hbo.get kk (by rw [HA2.out.wide i hlt]; exact hix)
            rw [HA2.out.wide i hlt] at hkv
            have hkvi := (HBR.out.cell (p := ⟨bl, ofl + i, none⟩) hbl).trans hkv
            have hbxl := World.block_lt_of_cell? _ _ hcx
            have hcxi := (HBR.out.cell (p := ⟨bx, ofx + kk, none⟩) hbxl).trans hcx
            obtain ⟨x, hx⟩ : ∃ x, x = (ls.getD i []).getD kk false := ⟨_, rfl⟩
            rw [← hx] at hcxi
            have HP := Lib.hid hplace
            have HX := Lib.hid hx
            have HKX := Lib.hid hkk
            have hpsl : ps.length ≤ 9223372036854775807 := hpl0
            clear hplace hx hkk hpl hlc hbo hkv hcx hnx hmem
            clear hfz hce
            have hs0 : w.heap.size < wc.heap.size := by omega
            have hs1 : w.heap.size + 1 < wc.heap.size := by omega
            go_wp2_with fail
            go_region_held3 (fun w' => w'.cell? ⟨w.heap.size + 1, 0, none⟩ = some (.slice (some ⟨bl, ofl, none⟩) ls.length lc) ∧ w'.cell? ⟨bl, ofl + i, none⟩ = some (.slice (some ⟨bx, ofx, none⟩) ps.length cx) ∧ w'.cell? ⟨w.heap.size, 1, none⟩ = some (.int .i64 p1) ∧ w'.cell? ⟨w.heap.size, 2, none⟩ = some (.int .i64 p2) ∧ w'.cell? ⟨w.heap.size, 3, none⟩ = some (.int .i64 p3) ∧ w'.cell? ⟨w.heap.size, 4, none⟩ = some (.int .i64 p4) ∧ w'.cell? ⟨bx, ofx + kk, none⟩ = some (.bool x)) (first | exact ⟨hx4 _ _ hs1 m0, hx4 _ _ hbl hkvi, hx4 _ _ hs0 k1, hx4 _ _ hs0 k2, hx4 _ _ hs0 k3, hx4 _ _ hs0 k4, hx4 _ _ hbxl hcxi⟩ | exact ⟨hx2 _ _ m0, hx2 _ _ hkvi, hx2 _ _ k1, hx2 _ _ k2, hx2 _ _ k3, hx2 _ _ k4, hx2 _ _ hcxi⟩ | go_keep) (first | (go_at_call 43; refine (HP.out _ ((Below.refl _ _).drew)).mono ?_; rintro e w2 ⟨rfl, hb2⟩; have hx2 : ∀ a v, wi.cell? a = some v → w2.cell? a = some v := (fun a v h => (hb2.cell (World.block_lt_of_cell? wi _ h)).trans h); have HOW2 : Hid (w2.ownsRow wc.heap.size 4 1 (.slice (some ⟨wc.heap.size, 0, none⟩) ls.length ls.length) ls.length ((soFar r ls.length i).map Value.bool)) := (row_below (w := wi.drew) HOW.out hb2); have HBR2 : Hid (Below wc.heap.size wc w2) := (HBR.out.drew.trans (hb2.mono hzi)); have hfz := HOW2.out.frozenAt i; obtain ⟨v0, hce⟩ := row_cell HOW2.out hlt; have hx4 : ∀ a v, a.block < wc.heap.size → wi.cell? a = some v → (w2.setCell ⟨wc.heap.size, i, none⟩ (.bool x)).cell? a = some v := (fun a v hl h => by rw [World.cell?_of_block (Below.heap_setCell w2 _ _ _ (Nat.ne_of_lt hl))]; exact hx2 a v h)))
            all_goals
              go_wp2_with fail
              go_roundg (ls.length - (i + 1))
              case measure => rw [HG.out]; omega
              case rel => exact ⟨i + 1, by omega, rfl, by simp, store_row HOW2.out (by rw [HR1.out]; simp only [semKind]; rw [HX.out, HKX.out]; simp), HBR2.out.setCell (Nat.le_refl _) _⟩
          · as_aux_lemma =>
            subst hk
            obtain ⟨hanA, bA, offA, heA, hbA, hA⟩ := (HAV2.out hkl0).part i (by rw [truth_len]; omega)
            rw [truth_len] at hanA
            rw [truth_get _ ps ls back _ (by omega)] at hA
            replace hA := (HBR.out.cell (p := ⟨bA, offA + i, none⟩) hbA).trans hA
            subst heA hanA
            obtain ⟨x, hx⟩ : ∃ x, x = (kids.getD 0 default).sem ps ls back i := ⟨_, rfl⟩
            rw [← hx] at hA
            have HX := Lib.hid hx
            clear hx
            go_wp2
            go_roundg (ls.length - (i + 1))
            case measure => rw [HG.out]; omega
            case rel => exact ⟨i + 1, by omega, rfl, by simp, store_row HOW.out (by rw [HR1.out, semK4]; simp only [← HX.out]), HBR.out.setCell (Nat.le_refl _) _⟩
          · as_aux_lemma =>
            subst hk
            have hnx := nx_lt hbk i
            obtain ⟨m, hm⟩ : ∃ m, m = nx ls.length back i := ⟨_, rfl⟩
            have hN := rnext_any wi la ls.length lc back hnn i hlt
            rw [← hm] at hnx hN
            obtain ⟨hanA, bA, offA, heA, hbA, hA⟩ := (HAV2.out hkl0).part m (by rw [truth_len]; omega)
            rw [truth_len] at hanA
            rw [truth_get _ ps ls back _ (by omega)] at hA
            replace hA := (HBR.out.cell (p := ⟨bA, offA + m, none⟩) hbA).trans hA
            subst heA hanA
            obtain ⟨x, hx⟩ : ∃ x, x = (kids.getD 0 default).sem ps ls back m := ⟨_, rfl⟩
            rw [← hx] at hA
            have HX := Lib.hid hx
            have HM := Lib.hid hm
            have HN := Lib.hid hN
            clear hx hm hN hfz hce
            go_wp2_with fail
            refine HN.out.mono ?_
            rintro e w2 ⟨rfl, hb2⟩
            have HOW2 : Hid (w2.ownsRow wc.heap.size 4 1 (.slice (some ⟨wc.heap.size, 0, none⟩) ls.length ls.length) ls.length ((soFar r ls.length i).map Value.bool)) := row_below HOW.out hb2
            have HBR2 : Hid (Below wc.heap.size wc w2) := HBR.out.trans (hb2.mono hzi)
            have hA2 := (hb2.cell (p := ⟨bA, offA + m, none⟩) (World.block_lt_of_cell? _ _ hA)).trans hA
            have hfz := HOW2.out.frozenAt i
            obtain ⟨v0, hce⟩ := row_cell HOW2.out hlt
            clear hb2 hA k0 k1 k2 k3 k4 m0 m1
            go_wp2
            go_roundg (ls.length - (i + 1))
            case measure => rw [HG.out]; omega
            case rel => exact ⟨i + 1, by omega, rfl, by simp, store_row HOW2.out (by rw [HR1.out, semK8]; simp only [← HM.out, ← HX.out]), HBR2.out.setCell (Nat.le_refl _) _⟩
          · as_aux_lemma =>
            subst hk
            obtain ⟨gf, hgf⟩ : ∃ gf : Nat → Bool, gf = ((kids.getD 0 default).sem ps ls back) := ⟨_, rfl⟩
            have HGF := Lib.hid hgf
            clear hgf
            have HRI : Hid (r i = !semU ls.length back (fun i => !gf i) (fun _ => true) i) := by rw [Hid, HR1.out, semK11, HGF.out]
            clear hce hfz
            go_wp2_with fail
            go_loopg [15, 17] ls.length (fun gg sk sj wr => ∃ j : Nat, j ≤ ls.length ∧ Hid (gg = ls.length - j) ∧ sk = .int .i64 (itn ls.length back j i) ∧ sj = .int .i64 j ∧ Hid (∀ m, m < j → (fun i => !gf i) (itn ls.length back m i) = false ∧ (fun _ => true) (itn ls.length back m i) = true) ∧ Hid (wr.ownsRow wc.heap.size 4 1 (.slice (some ⟨wc.heap.size, 0, none⟩) ls.length ls.length) ls.length ((soFar r ls.length i).map Value.bool)) ∧ Hid (Below wc.heap.size wc wr))
            case atStart => exact ⟨0, Nat.zero_le _, rfl, rfl, rfl, fun m hm => by omega, HOW.out, HBR.out⟩
            case round =>
              obtain ⟨j, hj, HG2, rfl, rfl, HJ, HOX, HBX⟩ := hrel
              obtain ⟨wx, rfl⟩ : ∃ wx : World, wx = wr := ⟨_, rfl⟩
              clear k0 k1 k2 k3 k4 m0 m1
              have hitl := itn_lt hbk j i hlt
              have hitn : itn ls.length back (j + 1) i = nx ls.length back (itn ls.length back j i) := rfl
              have HIT := Lib.hid hitn
              clear hitn
              obtain ⟨m, hm⟩ : ∃ m, m = itn ls.length back j i := ⟨_, rfl⟩
              rw [← hm] at hitl HIT ⊢
              have HM := Lib.hid hm
              clear hm
              obtain ⟨hanA, bA, offA, heA, hbA, hA⟩ := (HAV2.out hkl0).part m (by rw [truth_len]; omega)
              rw [truth_len] at hanA
              rw [truth_get _ ps ls back _ (by omega)] at hA
              replace hA := (HBX.out.cell (p := ⟨bA, offA + m, none⟩) hbA).trans hA
              subst heA hanA
              rw [← HGF.out] at hA
              obtain ⟨x, hx⟩ : ∃ x, x = gf m := ⟨_, rfl⟩
              rw [← hx] at hA
              have HX := Lib.hid hx
              clear hx
              have hfz := HOX.out.frozenAt i
              obtain ⟨v0, hce⟩ := row_cell HOX.out hlt
              have hxx : ∀ a v, wc.cell? a = some v → wx.cell? a = some v := fun a v h => (HBX.out.cell (World.block_lt_of_cell? _ _ h)).trans h
              have k0 := hxx _ _ c0
              have m0 := hxx _ _ d0
              have m1 := hxx _ _ d1
              clear hxx
              have hN := rnext_any wx la ls.length lc back hnn m hitl
              have HN := Lib.hid hN
              clear hN
              have hzx := HBX.out.size
              by_cases hjl : j < ls.length
              · cases x
                · have HE : Hid (r i = false) := by
                    have he := search_law hbk (g := (fun i => !gf i)) (s := (fun _ => true)) hlt hj HJ.out (.inr (.inl (by rw [← HM.out]; simp [← HX.out])))
                    rw [Hid, HRI.out, ← he, ← HM.out]
                    simp only [← HX.out]; simp
                  go_wp2
                  go_roundg (ls.length - (i + 1))
                  case measure => rw [HG.out]; omega
                  case rel => exact ⟨i + 1, by omega, rfl, by simp, store_row HOX.out (by exact HE.out), HBX.out.setCell (Nat.le_refl _) _⟩
                · go_wp2_with fail
                  refine HN.out.mono ?_
                  rintro e w2 ⟨rfl, hb2⟩
                  have HOW2 : Hid (w2.ownsRow wc.heap.size 4 1 (.slice (some ⟨wc.heap.size, 0, none⟩) ls.length ls.length) ls.length ((soFar r ls.length i).map Value.bool)) := row_below HOX.out hb2
                  have HBR2 : Hid (Below wc.heap.size wc w2) := HBX.out.trans (hb2.mono hzx)
                  clear hb2 hA k0 m0 m1 hce hfz
                  go_wp2
                  go_roundg (ls.length - (j + 1))
                  case measure => rw [HG2.out]; omega
                  case rel =>
                    refine ⟨j + 1, by omega, rfl, by rw [HIT.out], by simp, ?_, HOW2.out, HBR2.out⟩
                    intro q hq
                    by_cases he : q = j
                    · subst he; rw [← HM.out]; exact ⟨by simp [← HX.out], by simp⟩
                    · exact HJ.out q (by omega)
              · obtain rfl : j = ls.length := by omega
                have HE : Hid (r i = x) := by
                  have he := search_law hbk (g := (fun i => !gf i)) (s := (fun _ => true)) hlt hj HJ.out (.inl rfl)
                  rw [Hid, HRI.out, ← he, ← HM.out]
                  simp only [← HX.out]; simp
                go_wp2
                go_roundg (ls.length - (i + 1))
                case measure => rw [HG.out]; omega
                case rel => exact ⟨i + 1, by omega, rfl, by simp, store_row HOX.out (by exact HE.out), HBX.out.setCell (Nat.le_refl _) _⟩
          · as_aux_lemma =>
            subst hk
            obtain ⟨gf, hgf⟩ : ∃ gf : Nat → Bool, gf = ((kids.getD 0 default).sem ps ls back) := ⟨_, rfl⟩
            have HGF := Lib.hid hgf
            clear hgf
            have HRI : Hid (r i = semU ls.length back gf (fun _ => true) i) := by rw [Hid, HR1.out, semK12, HGF.out]
            clear hce hfz
            go_wp2_with fail
            go_loopg [12, 14] ls.length (fun gg sk sj wr => ∃ j : Nat, j ≤ ls.length ∧ Hid (gg = ls.length - j) ∧ sk = .int .i64 (itn ls.length back j i) ∧ sj = .int .i64 j ∧ Hid (∀ m, m < j → gf (itn ls.length back m i) = false ∧ (fun _ => true) (itn ls.length back m i) = true) ∧ Hid (wr.ownsRow wc.heap.size 4 1 (.slice (some ⟨wc.heap.size, 0, none⟩) ls.length ls.length) ls.length ((soFar r ls.length i).map Value.bool)) ∧ Hid (Below wc.heap.size wc wr))
            case atStart => exact ⟨0, Nat.zero_le _, rfl, rfl, rfl, fun m hm => by omega, HOW.out, HBR.out⟩
            case round =>
              obtain ⟨j, hj, HG2, rfl, rfl, HJ, HOX, HBX⟩ := hrel
              obtain ⟨wx, rfl⟩ : ∃ wx : World, wx = wr := ⟨_, rfl⟩
              clear k0 k1 k2 k3 k4 m0 m1
              have hitl := itn_lt hbk j i hlt
              have hitn : itn ls.length back (j + 1) i = nx ls.length back (itn ls.length back j i) := rfl
              have HIT := Lib.hid hitn
              clear hitn
              obtain ⟨m, hm⟩ : ∃ m, m = itn ls.length back j i := ⟨_, rfl⟩
              rw [← hm] at hitl HIT ⊢
              have HM := Lib.hid hm
              clear hm
              obtain ⟨hanA, bA, offA, heA, hbA, hA⟩ := (HAV2.out hkl0).part m (by rw [truth_len]; omega)
              rw [truth_len] at hanA
              rw [truth_get _ ps ls back _ (by omega)] at hA
              replace hA := (HBX.out.cell (p := ⟨bA, offA + m, none⟩) hbA).trans hA
              subst heA hanA
              rw [← HGF.out] at hA
              obtain ⟨x, hx⟩ : ∃ x, x = gf m := ⟨_, rfl⟩
              rw [← hx] at hA
              have HX := Lib.hid hx
              clear hx
              have hfz := HOX.out.frozenAt i
              obtain ⟨v0, hce⟩ := row_cell HOX.out hlt
              have hxx : ∀ a v, wc.cell? a = some v → wx.cell? a = some v := fun a v h => (HBX.out.cell (World.block_lt_of_cell? _ _ h)).trans h
              have k0 := hxx _ _ c0
              have m0 := hxx _ _ d0
              have m1 := hxx _ _ d1
              clear hxx
              have hN := rnext_any wx la ls.length lc back hnn m hitl
              have HN := Lib.hid hN
              clear hN
              have hzx := HBX.out.size
              by_cases hjl : j < ls.length
              · cases x
                · go_wp2_with fail
                  refine HN.out.mono ?_
                  rintro e w2 ⟨rfl, hb2⟩
                  have HOW2 : Hid (w2.ownsRow wc.heap.size 4 1 (.slice (some ⟨wc.heap.size, 0, none⟩) ls.length ls.length) ls.length ((soFar r ls.length i).map Value.bool)) := row_below HOX.out hb2
                  have HBR2 : Hid (Below wc.heap.size wc w2) := HBX.out.trans (hb2.mono hzx)
                  clear hb2 hA k0 m0 m1 hce hfz
                  go_wp2
                  go_roundg (ls.length - (j + 1))
                  case measure => rw [HG2.out]; omega
                  case rel =>
                    refine ⟨j + 1, by omega, rfl, by rw [HIT.out], by simp, ?_, HOW2.out, HBR2.out⟩
                    intro q hq
                    by_cases he : q = j
                    · subst he; rw [← HM.out]; exact ⟨by simp [← HX.out], by simp⟩
                    · exact HJ.out q (by omega)
                · have HE : Hid (r i = true) := by
                    have he := search_law hbk (g := gf) (s := (fun _ => true)) hlt hj HJ.out (.inr (.inl (by rw [← HM.out]; simp [← HX.out])))
                    rw [Hid, HRI.out, ← he, ← HM.out]
                    exact HX.out.symm
                  go_wp2
                  go_roundg (ls.length - (i + 1))
                  case measure => rw [HG.out]; omega
                  case rel => exact ⟨i + 1, by omega, rfl, by simp, store_row HOX.out (by exact HE.out), HBX.out.setCell (Nat.le_refl _) _⟩
              · obtain rfl : j = ls.length := by omega
                have HE : Hid (r i = x) := by
                  have he := search_law hbk (g := gf) (s := (fun _ => true)) hlt hj HJ.out (.inl rfl)
                  rw [Hid, HRI.out, ← he, ← HM.out]
                  exact HX.out.symm
                go_wp2
                go_roundg (ls.length - (i + 1))
                case measure => rw [HG.out]; omega
                case rel => exact ⟨i + 1, by omega, rfl, by simp, store_row HOX.out (by exact HE.out), HBX.out.setCell (Nat.le_refl _) _⟩
          · as_aux_lemma =>
            subst hk
            have hkl0 : 0 < kids.length := by omega
            obtain ⟨hanA, bA, offA, heA, hbA, hA⟩ := (HAV2.out hkl0).part i (by rw [truth_len]; omega)
            rw [truth_len] at hanA
            rw [truth_get _ ps ls back _ (by omega)] at hA
            replace hA := (HBR.out.cell (p := ⟨bA, offA + i, none⟩) hbA).trans hA
            obtain ⟨hanB, bB, offB, heB, hbB, hB⟩ := (HBV2.out hkl1).part i (by rw [truth_len]; omega)
            rw [truth_len] at hanB
            rw [truth_get _ ps ls back _ (by omega)] at hB
            replace hB := (HBR.out.cell (p := ⟨bB, offB + i, none⟩) hbB).trans hB
            subst heA hanA heB hanB
            obtain ⟨x, hx⟩ : ∃ x, x = (kids.getD 0 default).sem ps ls back i := ⟨_, rfl⟩
            rw [← hx] at hA
            obtain ⟨z, hz⟩ : ∃ z, z = (kids.getD 1 default).sem ps ls back i := ⟨_, rfl⟩
            rw [← hz] at hB
            have HX := Lib.hid hx
            clear hx
            have HZ := Lib.hid hz
            clear hz
            cases x <;> cases z
            all_goals
              go_wp2
              go_roundg (ls.length - (i + 1))
              case measure => rw [HG.out]; omega
              case rel => exact ⟨i + 1, by omega, rfl, by simp, store_row HOW.out (by rw [HR1.out, semK5]; simp only [← HX.out, ← HZ.out]; first | done | rfl), HBR.out.setCell (Nat.le_refl _) _⟩
          · as_aux_lemma =>
            subst hk
            have hkl0 : 0 < kids.length := by omega
            obtain ⟨hanA, bA, offA, heA, hbA, hA⟩ := (HAV2.out hkl0).part i (by rw [truth_len]; omega)
            rw [truth_len] at hanA
            rw [truth_get _ ps ls back _ (by omega)] at hA
            replace hA := (HBR.out.cell (p := ⟨bA, offA + i, none⟩) hbA).trans hA
            obtain ⟨hanB, bB, offB, heB, hbB, hB⟩ := (HBV2.out hkl1).part i (by rw [truth_len]; omega)
            rw [truth_len] at hanB
            rw [truth_get _ ps ls back _ (by omega)] at hB
            replace hB := (HBR.out.cell (p := ⟨bB, offB + i, none⟩) hbB).trans hB
            subst heA hanA heB hanB
            obtain ⟨x, hx⟩ : ∃ x, x = (kids.getD 0 default).sem ps ls back i := ⟨_, rfl⟩
            rw [← hx] at hA
            obtain ⟨z, hz⟩ : ∃ z, z = (kids.getD 1 default).sem ps ls back i := ⟨_, rfl⟩
            rw [← hz] at hB
            have HX := Lib.hid hx
            clear hx
            have HZ := Lib.hid hz
            clear hz
            cases x <;> cases z
            all_goals
              go_wp2
              go_roundg (ls.length - (i + 1))
              case measure => rw [HG.out]; omega
              case rel => exact ⟨i + 1, by omega, rfl, by simp, store_row HOW.out (by rw [HR1.out, semK6]; simp only [← HX.out, ← HZ.out]; first | done | rfl), HBR.out.setCell (Nat.le_refl _) _⟩
          · as_aux_lemma =>
            subst hk
            have hkl0 : 0 < kids.length := by omega
            obtain ⟨hanA, bA, offA, heA, hbA, hA⟩ := (HAV2.out hkl0).part i (by rw [truth_len]; omega)
            rw [truth_len] at hanA
            rw [truth_get _ ps ls back _ (by omega)] at hA
            replace hA := (HBR.out.cell (p := ⟨bA, offA + i, none⟩) hbA).trans hA
            obtain ⟨hanB, bB, offB, heB, hbB, hB⟩ := (HBV2.out hkl1).part i (by rw [truth_len]; omega)
            rw [truth_len] at hanB
            rw [truth_get _ ps ls back _ (by omega)] at hB
            replace hB := (HBR.out.cell (p := ⟨bB, offB + i, none⟩) hbB).trans hB
            subst heA hanA heB hanB
            obtain ⟨x, hx⟩ : ∃ x, x = (kids.getD 0 default).sem ps ls back i := ⟨_, rfl⟩
            rw [← hx] at hA
            obtain ⟨z, hz⟩ : ∃ z, z = (kids.getD 1 default).sem ps ls back i := ⟨_, rfl⟩
            rw [← hz] at hB
            have HX := Lib.hid hx
            clear hx
            have HZ := Lib.hid hz
            clear hz
            cases x <;> cases z
            all_goals
              go_wp2
              go_roundg (ls.length - (i + 1))
              case measure => rw [HG.out]; omega
              case rel => exact ⟨i + 1, by omega, rfl, by simp, store_row HOW.out (by rw [HR1.out, semK7]; simp only [← HX.out, ← HZ.out]; first | done | rfl), HBR.out.setCell (Nat.le_refl _) _⟩
          · as_aux_lemma =>
            subst hk
            have hkl0 : 0 < kids.length := by omega
            obtain ⟨gf, hgf⟩ : ∃ gf : Nat → Bool, gf = ((kids.getD 1 default).sem ps ls back) := ⟨_, rfl⟩
            obtain ⟨sf, hsf⟩ : ∃ sf : Nat → Bool, sf = ((kids.getD 0 default).sem ps ls back) := ⟨_, rfl⟩
            have HGF := Lib.hid hgf
            clear hgf
            have HSF := Lib.hid hsf
            clear hsf
            have HRI : Hid (r i = semU ls.length back gf sf i) := by rw [Hid, HR1.out, semK9, HGF.out, HSF.out]
            clear hce hfz
            go_wp2_with fail
            go_loopg [12, 14] ls.length (fun gg sk sj wr => ∃ j : Nat, j ≤ ls.length ∧ Hid (gg = ls.length - j) ∧ sk = .int .i64 (itn ls.length back j i) ∧ sj = .int .i64 j ∧ Hid (∀ m, m < j → gf (itn ls.length back m i) = false ∧ sf (itn ls.length back m i) = true) ∧ Hid (wr.ownsRow wc.heap.size 4 1 (.slice (some ⟨wc.heap.size, 0, none⟩) ls.length ls.length) ls.length ((soFar r ls.length i).map Value.bool)) ∧ Hid (Below wc.heap.size wc wr))
            case atStart => exact ⟨0, Nat.zero_le _, rfl, rfl, rfl, fun m hm => by omega, HOW.out, HBR.out⟩
            case round =>
              obtain ⟨j, hj, HG2, rfl, rfl, HJ, HOX, HBX⟩ := hrel
              obtain ⟨wx, rfl⟩ : ∃ wx : World, wx = wr := ⟨_, rfl⟩
              clear k0 k1 k2 k3 k4 m0 m1
              have hitl := itn_lt hbk j i hlt
              have hitn : itn ls.length back (j + 1) i = nx ls.length back (itn ls.length back j i) := rfl
              have HIT := Lib.hid hitn
              clear hitn
              obtain ⟨m, hm⟩ : ∃ m, m = itn ls.length back j i := ⟨_, rfl⟩
              rw [← hm] at hitl HIT ⊢
              have HM := Lib.hid hm
              clear hm
              obtain ⟨hanA, bA, offA, heA, hbA, hA⟩ := (HAV2.out hkl0).part m (by rw [truth_len]; omega)
              rw [truth_len] at hanA
              rw [truth_get _ ps ls back _ (by omega)] at hA
              replace hA := (HBX.out.cell (p := ⟨bA, offA + m, none⟩) hbA).trans hA
              obtain ⟨hanB, bB, offB, heB, hbB, hB⟩ := (HBV2.out hkl1).part m (by rw [truth_len]; omega)
              rw [truth_len] at hanB
              rw [truth_get _ ps ls back _ (by omega)] at hB
              replace hB := (HBX.out.cell (p := ⟨bB, offB + m, none⟩) hbB).trans hB
              subst heA hanA heB hanB
              rw [← HSF.out] at hA
              rw [← HGF.out] at hB
              obtain ⟨x, hx⟩ : ∃ x, x = gf m := ⟨_, rfl⟩
              rw [← hx] at hB
              obtain ⟨z, hz⟩ : ∃ z, z = sf m := ⟨_, rfl⟩
              rw [← hz] at hA
              have HX := Lib.hid hx
              clear hx
              have HZ := Lib.hid hz
              clear hz
              have hfz := HOX.out.frozenAt i
              obtain ⟨v0, hce⟩ := row_cell HOX.out hlt
              have hxx : ∀ a v, wc.cell? a = some v → wx.cell? a = some v := fun a v h => (HBX.out.cell (World.block_lt_of_cell? _ _ h)).trans h
              have k0 := hxx _ _ c0
              have m0 := hxx _ _ d0
              have m1 := hxx _ _ d1
              clear hxx
              have hN := rnext_any wx la ls.length lc back hnn m hitl
              have HN := Lib.hid hN
              clear hN
              have hzx := HBX.out.size
              by_cases hjl : j < ls.length
              · cases x
                · cases z
                  · have HE : Hid (r i = false) := by
                      have he := search_law hbk (g := gf) (s := sf) hlt hj HJ.out (.inr (.inr (by rw [← HM.out]; simp [← HZ.out])))
                      rw [Hid, HRI.out, ← he, ← HM.out]
                      exact HX.out.symm
                    go_wp2
                    go_roundg (ls.length - (i + 1))
                    case measure => rw [HG.out]; omega
                    case rel => exact ⟨i + 1, by omega, rfl, by simp, store_row HOX.out (by exact HE.out), HBX.out.setCell (Nat.le_refl _) _⟩
                  · go_wp2_with fail
                    refine HN.out.mono ?_
                    rintro e w2 ⟨rfl, hb2⟩
                    have HOW2 : Hid (w2.ownsRow wc.heap.size 4 1 (.slice (some ⟨wc.heap.size, 0, none⟩) ls.length ls.length) ls.length ((soFar r ls.length i).map Value.bool)) := row_below HOX.out hb2
                    have HBR2 : Hid (Below wc.heap.size wc w2) := HBX.out.trans (hb2.mono hzx)
                    clear hb2 hA hB k0 m0 m1 hce hfz
                    go_wp2
                    go_roundg (ls.length - (j + 1))
                    case measure => rw [HG2.out]; omega
                    case rel =>
                      refine ⟨j + 1, by omega, rfl, by rw [HIT.out], by simp, ?_, HOW2.out, HBR2.out⟩
                      intro q hq
                      by_cases he : q = j
                      · subst he; rw [← HM.out]; exact ⟨by simp [← HX.out], by simp [← HZ.out]⟩
                      · exact HJ.out q (by omega)
                · have HE : Hid (r i = true) := by
                    have he := search_law hbk (g := gf) (s := sf) hlt hj HJ.out (.inr (.inl (by rw [← HM.out]; simp [← HX.out])))
                    rw [Hid, HRI.out, ← he, ← HM.out]
                    exact HX.out.symm
                  go_wp2
                  go_roundg (ls.length - (i + 1))
                  case measure => rw [HG.out]; omega
                  case rel => exact ⟨i + 1, by omega, rfl, by simp, store_row HOX.out (by exact HE.out), HBX.out.setCell (Nat.le_refl _) _⟩
              · obtain rfl : j = ls.length := by omega
                have HE : Hid (r i = x) := by
                  have he := search_law hbk (g := gf) (s := sf) hlt hj HJ.out (.inl rfl)
                  rw [Hid, HRI.out, ← he, ← HM.out]
                  exact HX.out.symm
                go_wp2
                go_roundg (ls.length - (i + 1))
                case measure => rw [HG.out]; omega
                case rel => exact ⟨i + 1, by omega, rfl, by simp, store_row HOX.out (by exact HE.out), HBX.out.setCell (Nat.le_refl _) _⟩
          · as_aux_lemma =>
            subst hk
            have hkl0 : 0 < kids.length := by omega
            obtain ⟨gf, hgf⟩ : ∃ gf : Nat → Bool, gf = ((kids.getD 1 default).sem ps ls back) := ⟨_, rfl⟩
            obtain ⟨sf, hsf⟩ : ∃ sf : Nat → Bool, sf = ((kids.getD 0 default).sem ps ls back) := ⟨_, rfl⟩
            have HGF := Lib.hid hgf
            clear hgf
            have HSF := Lib.hid hsf
            clear hsf
            have HRI : Hid (r i = !semU ls.length back (fun i => !gf i) (fun i => !sf i) i) := by rw [Hid, HR1.out, semK10, HGF.out, HSF.out]
            clear hce hfz
            go_wp2_with fail
            go_loopg [15, 17] ls.length (fun gg sk sj wr => ∃ j : Nat, j ≤ ls.length ∧ Hid (gg = ls.length - j) ∧ sk = .int .i64 (itn ls.length back j i) ∧ sj = .int .i64 j ∧ Hid (∀ m, m < j → (fun i => !gf i) (itn ls.length back m i) = false ∧ (fun i => !sf i) (itn ls.length back m i) = true) ∧ Hid (wr.ownsRow wc.heap.size 4 1 (.slice (some ⟨wc.heap.size, 0, none⟩) ls.length ls.length) ls.length ((soFar r ls.length i).map Value.bool)) ∧ Hid (Below wc.heap.size wc wr))
            case atStart => exact ⟨0, Nat.zero_le _, rfl, rfl, rfl, fun m hm => by omega, HOW.out, HBR.out⟩
            case round =>
              obtain ⟨j, hj, HG2, rfl, rfl, HJ, HOX, HBX⟩ := hrel
              obtain ⟨wx, rfl⟩ : ∃ wx : World, wx = wr := ⟨_, rfl⟩
              clear k0 k1 k2 k3 k4 m0 m1
              have hitl := itn_lt hbk j i hlt
              have hitn : itn ls.length back (j + 1) i = nx ls.length back (itn ls.length back j i) := rfl
              have HIT := Lib.hid hitn
              clear hitn
              obtain ⟨m, hm⟩ : ∃ m, m = itn ls.length back j i := ⟨_, rfl⟩
              rw [← hm] at hitl HIT ⊢
              have HM := Lib.hid hm
              clear hm
              obtain ⟨hanA, bA, offA, heA, hbA, hA⟩ := (HAV2.out hkl0).part m (by rw [truth_len]; omega)
              rw [truth_len] at hanA
              rw [truth_get _ ps ls back _ (by omega)] at hA
              replace hA := (HBX.out.cell (p := ⟨bA, offA + m, none⟩) hbA).trans hA
              obtain ⟨hanB, bB, offB, heB, hbB, hB⟩ := (HBV2.out hkl1).part m (by rw [truth_len]; omega)
              rw [truth_len] at hanB
              rw [truth_get _ ps ls back _ (by omega)] at hB
              replace hB := (HBX.out.cell (p := ⟨bB, offB + m, none⟩) hbB).trans hB
              subst heA hanA heB hanB
              rw [← HSF.out] at hA
              rw [← HGF.out] at hB
              obtain ⟨x, hx⟩ : ∃ x, x = gf m := ⟨_, rfl⟩
              rw [← hx] at hB
              obtain ⟨z, hz⟩ : ∃ z, z = sf m := ⟨_, rfl⟩
              rw [← hz] at hA
              have HX := Lib.hid hx
              clear hx
              have HZ := Lib.hid hz
              clear hz
              have hfz := HOX.out.frozenAt i
              obtain ⟨v0, hce⟩ := row_cell HOX.out hlt
              have hxx : ∀ a v, wc.cell? a = some v → wx.cell? a = some v := fun a v h => (HBX.out.cell (World.block_lt_of_cell? _ _ h)).trans h
              have k0 := hxx _ _ c0
              have m0 := hxx _ _ d0
              have m1 := hxx _ _ d1
              clear hxx
              have hN := rnext_any wx la ls.length lc back hnn m hitl
              have HN := Lib.hid hN
              clear hN
              have hzx := HBX.out.size
              by_cases hjl : j < ls.length
              · cases x
                · have HE : Hid (r i = false) := by
                    have he := search_law hbk (g := (fun i => !gf i)) (s := (fun i => !sf i)) hlt hj HJ.out (.inr (.inl (by rw [← HM.out]; simp [← HX.out])))
                    rw [Hid, HRI.out, ← he, ← HM.out]
                    simp only [← HX.out]; simp
                  go_wp2
                  go_roundg (ls.length - (i + 1))
                  case measure => rw [HG.out]; omega
                  case rel => exact ⟨i + 1, by omega, rfl, by simp, store_row HOX.out (by exact HE.out), HBX.out.setCell (Nat.le_refl _) _⟩
                · cases z
                  · go_wp2_with fail
                    refine HN.out.mono ?_
                    rintro e w2 ⟨rfl, hb2⟩
                    have HOW2 : Hid (w2.ownsRow wc.heap.size 4 1 (.slice (some ⟨wc.heap.size, 0, none⟩) ls.length ls.length) ls.length ((soFar r ls.length i).map Value.bool)) := row_below HOX.out hb2
                    have HBR2 : Hid (Below wc.heap.size wc w2) := HBX.out.trans (hb2.mono hzx)
                    clear hb2 hA hB k0 m0 m1 hce hfz
                    go_wp2
                    go_roundg (ls.length - (j + 1))
                    case measure => rw [HG2.out]; omega
                    case rel =>
                      refine ⟨j + 1, by omega, rfl, by rw [HIT.out], by simp, ?_, HOW2.out, HBR2.out⟩
                      intro q hq
                      by_cases he : q = j
                      · subst he; rw [← HM.out]; exact ⟨by simp [← HX.out], by simp [← HZ.out]⟩
                      · exact HJ.out q (by omega)
                  · have HE : Hid (r i = true) := by
                      have he := search_law hbk (g := (fun i => !gf i)) (s := (fun i => !sf i)) hlt hj HJ.out (.inr (.inr (by rw [← HM.out]; simp [← HZ.out])))
                      rw [Hid, HRI.out, ← he, ← HM.out]
                      simp only [← HX.out]; simp
                    go_wp2
                    go_roundg (ls.length - (i + 1))
                    case measure => rw [HG.out]; omega
                    case rel => exact ⟨i + 1, by omega, rfl, by simp, store_row HOX.out (by exact HE.out), HBX.out.setCell (Nat.le_refl _) _⟩
              · obtain rfl : j = ls.length := by omega
                have HE : Hid (r i = x) := by
                  have he := search_law hbk (g := (fun i => !gf i)) (s := (fun i => !sf i)) hlt hj HJ.out (.inl rfl)
                  rw [Hid, HRI.out, ← he, ← HM.out]
                  simp only [← HX.out]; simp
                go_wp2
                go_roundg (ls.length - (i + 1))
                case measure => rw [HG.out]; omega
                case rel => exact ⟨i + 1, by omega, rfl, by simp, store_row HOX.out (by exact HE.out), HBX.out.setCell (Nat.le_refl _) _⟩
        · obtain rfl : i = ls.length := by omega
          go_wp2
          go_ret
          refine ⟨_, rfl, ?_, HBW2.out.trans (HBR.out.mono HBW2.out.size)⟩
          have := row_mono HOW.out HBW2.out.size
          rw [soFar_full] at this
          simpa using this
end Go.Proofs.Ytidnpdkibndpkaa
