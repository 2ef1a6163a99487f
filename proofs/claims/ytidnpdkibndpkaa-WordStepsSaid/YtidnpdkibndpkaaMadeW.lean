/- Words by numbers: the walk. -/
import Derived.Test.YtidnpdkibndpkaaMade
import Derived.Test.YtidnpdkibndpkaaWLaws2
namespace Go.Proofs.Ytidnpdkibndpkaa
open Go.RowKit

/-- How many letters. -/
def lettersN (l : List Int) : Nat := if l.length = 0 then 1 else if l.length < 8 then l.length else 8
theorem row_apart {w : World} {B B' : Nat} {e e' : TypeId} {s s' : Nat} {v v' : Value} {n n' : Nat} {xs xs' : List Value} (h : w.ownsRow B e s v n xs) (h' : w.ownsRow B' e' s' v' n' xs') (hne : e ≠ e') : ∀ k, v.ownBlock = some k → v'.ownBlock ≠ some k := by
  intro k hk hk'
  rcases h'.2 with ⟨rfl, _⟩ | ⟨g, cap, cur, rfl, _, hg, _⟩
  · simp [Value.ownBlock] at hk'
  · simp [Value.ownBlock] at hk'
    subst hk'
    exact row_type h hk hg hne

theorem letters_info : (Try.prog.info? 41).map (fun i => (i.zero, i.size, i.bytes)) = some (some (.slice none 0 0), 1, 24) := by kernel_rfl
/-- A bit of a number. -/
def bitOf (x : Int) (k : Nat) : Bool := decide (x / 2 ^ (k % 8) % 2 = 1)
def letterOf (l : List Int) (m i : Nat) : List Bool := (List.range m).map (bitOf (l.getD i 0))
theorem madeW_round {wi wx w4 : World} {Wb i m : Nat} {x : Int} {svs : List Value} {oa xa : Option Addr} {oc xc : Nat} {l : List Int} {V : Value} {cs : Array Value}
    (HLR : ∀ j, j < i → ∃ B', wi.ownsRow B' 4 1 (svs.getD j (.bool false)) m ((letterOf l m j).map Value.bool)) (HSL : svs.length = i) (HBX : Below wi.heap.size wi wx)
    (HXR : wx.ownsRow wi.heap.size 4 1 (.slice xa m xc) m (((List.range m).map (bitOf x)).map Value.bool)) (hx : x = l.getD i 0) (HOX : wx.ownsRow (Wb + 1) 41 1 (.slice oa i oc) i svs)
    (hW4 : w4.heap[Wb]? = some (.cells cs 29 (0, 0))) (hS4 : Since (fun k => (Value.slice oa i oc).ownBlock = some k) (wx.alloc (.cells #[.slice xa m xc] 41)) w4) :
    ∀ j, j < i + 1 → ∃ B', (w4.setCell ⟨Wb, 0, none⟩ V).ownsRow B' 4 1 ((svs ++ [Value.slice xa m xc]).getD j (.bool false)) m ((letterOf l m j).map Value.bool) := by
  have hstep : ∀ (B' : Nat) (v : Value) (xs : List Value), wx.ownsRow B' 4 1 v m xs → (w4.setCell ⟨Wb, 0, none⟩ V).ownsRow B' 4 1 v m xs := by
    intro B' v xs h
    have h2 := hS4.row (h.alloc (.cells #[.slice xa m xc] 41)) (fun k hk hk' => row_apart h HOX (by decide) k hk hk')
    exact ownsRow_setCell_other h2 (fun e => row_type h2 e hW4 (by decide)) V
  intro j hj
  by_cases he : j = i
  · subst he
    refine ⟨wi.heap.size, ?_⟩
    rw [List.getD_eq_getElem?_getD, List.getElem?_append_right (by omega), HSL, Nat.sub_self]
    unfold letterOf
    rw [← hx]
    exact hstep _ _ _ HXR
  · obtain ⟨B', h⟩ := HLR j (by omega)
    refine ⟨B', ?_⟩
    rw [List.getD_eq_getElem?_getD, List.getElem?_append_left (by omega), ← List.getD_eq_getElem?_getD]
    exact hstep _ _ _ (row_below h HBX)
theorem row_keep {w : World} {B : Nat} {e e' : TypeId} {s n a j : Nat} {v u : Value} {xs : List Value} {c : Array Value} {f : Nat × Nat} (h : w.ownsRow B e s v n xs) (hb : w.heap[a]? = some (.cells c e' f)) (hne : e ≠ e') : (w.setCell ⟨a, j, none⟩ u).ownsRow B e s v n xs :=
  ownsRow_setCell_other h (fun hk => row_type h hk hb hne) u
theorem letters_of_rows {w : World} {B i m : Nat} {svs : List Value} {oa : Option Addr} {oc : Nat} {l : List Int} (HOR : w.ownsRow B 41 1 (.slice oa i oc) i svs) (HSL : svs.length = i)
    (HLR : ∀ j, j < i → ∃ B', w.ownsRow B' 4 1 (svs.getD j (.bool false)) m ((letterOf l m j).map Value.bool)) : LettersAt w (.slice oa i oc) ((List.range i).map (letterOf l m)) := by
  obtain ⟨a, cap, he, h1, h2⟩ := row_slice HOR
  cases he
  refine ⟨oa, oc, by simp, by simp; unfold maxLen at h2; omega, fun j hj => ?_⟩
  simp only [List.length_map, List.length_range] at hj
  obtain ⟨g, cap', he, -, -⟩ := row_some HOR (by omega)
  cases he
  obtain ⟨B', hr⟩ := HLR j hj
  refine ⟨g, 0, svs.getD j (.bool false), rfl, (HOR.lt g rfl).2, ?_, ?_⟩
  · rw [show 0 + j = j by omega, HOR.cellAt j (by omega), List.getD_eq_getElem?_getD, List.getElem?_eq_getElem (by omega)]; rfl
  · have hlm : (letterOf l m j).length = m := by simp [letterOf]
    have : ((List.range i).map (letterOf l m)).getD j [] = letterOf l m j := by simp [List.getD_eq_getElem?_getD, hj]
    rw [this]
    rw [← hlm] at hr
    exact BoolsAt.of_row (l := letterOf l m j) (by rw [hlm] at hr ⊢; exact hr)
/-- A word by numbers is told. -/
def TellsWord (l : List Int) (m : Nat) (back : Int) (w : World) (e : Ending) (w' : World) : Prop := ∃ sv, e = .returned (.agg #[sv, .int .i64 (back % (lettersN l : Int))]) ∧ LettersAt w' sv ((List.range (lettersN l)).map (letterOf l m)) ∧ Below w.heap.size w w'
/-- Likewise, and there is room for it. -/
def TellsWordC (l : List Int) (m : Nat) (back : Int) (w : World) (e : Ending) (w' : World) : Prop := ∃ la lc, e = .returned (.agg #[.slice la (lettersN l) lc, .int .i64 (back % (lettersN l : Int))]) ∧ lettersN l ≤ lc ∧ LettersAt w' (.slice la (lettersN l) lc) ((List.range (lettersN l)).map (letterOf l m)) ∧ Below w.heap.size w w'
set_option maxRecDepth 100000 in
set_option maxHeartbeats 8000000 in
theorem madeWc_any (w : World) (d : Nat) (f : Form) (kv nv : Value) (l : List Int) (back : Int) (hb0 : 0 ≤ back) (hb1 : back ≤ 255) (h : FormAt w d f kv) (hs : f.size ≤ 1000) (hn : NumsAt w .u8 nv l) :
    Calls Try.prog 12 #[formV f kv, nv, .int .u8 back] w (TellsWordC l f.props.length back w) := by
  obtain ⟨ka, kc, rfl, hkl⟩ := h.slice
  have hpr := fun W (hW : Below w.heap.size w W) => rprops_any d W f _ (h.below hW) (by omega)
  have hml := props_len f
  obtain ⟨ps, hps⟩ : ∃ ps, ps = f.props := ⟨_, rfl⟩
  rw [← hps] at hpr hml ⊢
  obtain ⟨la, lc, rfl, hll, hwf, hcell⟩ := hn
  have HP := Lib.hid hpr
  have HN : Hid ((∀ n ∈ l, (Lit.int .u8 n).wf = true) ∧ ∀ j, j < l.length → ∃ b off, la = some ⟨b, off, none⟩ ∧ b < w.heap.size ∧ w.cell? ⟨b, off + j, none⟩ = some (.int .u8 (l.getD j 0))) := ⟨hwf, hcell⟩
  have hm1 : ps.length ≤ 1000 := by omega
  clear hpr h hps hwf hcell hml
  obtain ⟨k, ⟨p1, p2, p3, p4⟩, kids⟩ := f
  simp only [Form.kids] at hkl HP ⊢
  unfold formV at *
  simp only [Form.kind, Form.prop] at HP ⊢
  go_enter Try.func12, Try.ntmps12
  go_wp2_with fail
  refine (HP.out _ (boxes_below w _ _)).mono ?_
  rintro e w1 ⟨sv, rfl, ho, hb⟩
  unfold PropsOwn at ho
  obtain ⟨sa, sc, rfl, -, -⟩ := row_slice ho
  have hbx := boxes_first w (.cells #[.int .i64 k, .int .i64 p1, .int .i64 p2, .int .i64 p3, .int .i64 p4, .slice ka kids.length kc] 26) (.cells #[.slice none 0 0, .int .i64 0] 29)
  have hrx := boxes_second w (.cells #[.int .i64 k, .int .i64 p1, .int .i64 p2, .int .i64 p3, .int .i64 p4, .slice ka kids.length kc] 26) (.cells #[.slice none 0 0, .int .i64 0] 29)
  have HB1 : Hid (Below w.heap.size w w1) := (boxes_below w _ _).trans (hb.mono (by simp; omega))
  have HR1 : Hid (w1.heap[w.heap.size + 1]? = _) := (hb.block _ (lt_of_block hrx)).trans hrx
  obtain ⟨m, hm⟩ : ∃ m, m = ps.length := ⟨_, rfl⟩
  rw [← hm] at hm1 ⊢
  have HM := Lib.hid hm
  clear ho hb hbx hrx hm HP
  go_wp2_with fail
  have hW2 := heap_alloc_new w1 (.cells #[.slice none 0 0, .int .i64 0] 29)
  have HB2 : Hid (Below w1.heap.size w1 (w1.alloc (.cells #[.slice none 0 0, .int .i64 0] 29))) := (Below.refl _ _).alloc (Nat.le_refl _) _
  have HW2 := Lib.hid hW2
  clear hW2
  generalize World.alloc _ _ = W2 at HB2 HW2 ⊢
  obtain ⟨Wb, hWb⟩ : ∃ Wb, Wb = w1.heap.size := ⟨_, rfl⟩
  rw [← hWb] at HW2 ⊢
  have HWB := Lib.hid hWb
  clear hWb
  go_loopg [9] 8 (fun gg s9 wr => ∃ (i : Nat) (svs : List Value) (oa : Option Addr) (oc : Nat), s9 = .int .i64 i ∧ Hid (gg + i = 8) ∧ Hid (svs.length = i) ∧ i ≤ 8 ∧ Hid (wr.heap[Wb]? = some (.cells #[.slice oa i oc, .int .i64 0] 29 (0, 0))) ∧
    Hid (wr.ownsRow (Wb + 1) 41 1 (.slice oa i oc) i svs) ∧ Hid (∀ j, j < i → ∃ B', wr.ownsRow B' 4 1 (svs.getD j (.bool false)) m ((letterOf l m j).map Value.bool)) ∧ Hid (Below w1.heap.size w1 wr) ∧ Hid (i ≤ lettersN l))
  case atStart => exact ⟨0, [], none, 0, rfl, rfl, rfl, by omega, HW2.out, World.ownsRow_nil _ _ _ _, fun j hj => by omega, HB2.out, Nat.zero_le _⟩
  case round =>
    obtain ⟨i, svs, oa, oc, rfl, HG, HSL, hi8, HWR, HOR, HLR, HBR, HIN⟩ := hrel
    obtain ⟨wi, rfl⟩ : ∃ wi : World, wi = wr := ⟨_, rfl⟩
    clear HW2 HB2
    go_upto_region 4 with fail
    go_cut [1, 9, 28] (fun s1 s9 s28 w' => s1 = .slice la l.length lc ∧ s9 = .int .i64 i ∧ s28 = .bool (decide (i < lettersN l)) ∧ w' = wi)
    case first =>
      by_cases h8 : (i : Int) < 8
      · by_cases hlt : (i : Int) < (l.length : Int)
        · have : Hid (i < lettersN l) := by rw [Hid, lettersN]; split <;> (try split) <;> omega
          go_wp2_with fail
          go_meet
          case rel => exact ⟨rfl, rfl, by rw [decide_eq_true this.out], rfl⟩
        · by_cases h0 : i = 0
          · subst h0
            obtain rfl : l = [] := List.eq_nil_of_length_eq_zero (by omega)
            have : Hid (0 < lettersN []) := by rw [Hid, lettersN]; split <;> (try split) <;> omega
            clear hlt
            go_wp2_with fail
            go_meet
            case rel => exact ⟨rfl, rfl, by rw [decide_eq_true this.out], rfl⟩
          · have : Hid (¬ i < lettersN l) := by rw [Hid, lettersN]; split <;> (try split) <;> omega
            have h0' : ((i : Int) == 0) = false := by rw [beq_eq_false_iff_ne]; omega
            clear h0
            go_wp2_with fail
            go_meet
            case rel => exact ⟨rfl, rfl, by rw [decide_eq_false this.out], rfl⟩
      · have : Hid (¬ i < lettersN l) := by rw [Hid, lettersN]; split <;> (try split) <;> omega
        go_wp2_with fail
        go_meet
        case rel => exact ⟨rfl, rfl, by rw [decide_eq_false this.out], rfl⟩
    case rest =>
      obtain ⟨rfl, rfl, rfl, hwv⟩ := hcut
      obtain rfl : wi = wc := hwv.symm
      by_cases hc : i < lettersN l
      · have HC := Lib.hid hc
        rw [decide_eq_true hc]
        clear hc
        obtain ⟨x, hx⟩ : ∃ x, x = l.getD i 0 := ⟨_, rfl⟩
        have hxb : 0 ≤ x ∧ x ≤ 255 := by
          by_cases hlt : i < l.length
          · have hxw : (Lit.int .u8 x).wf = true := by
              rw [hx, List.getD_eq_getElem?_getD, List.getElem?_eq_getElem hlt]
              exact HN.out.1 _ (List.getElem_mem hlt)
            simp [Lit.wf, IntKind.min, IntKind.max, IntKind.signed, IntKind.bits] at hxw; omega
          · rw [hx, List.getD_eq_getElem?_getD, List.getElem?_eq_none (by omega)]; simp
        obtain ⟨hx0, hx1⟩ := hxb
        go_upto_if 34 with fail
        go_cut [10, 34] (fun s10 _s34 w' => s10 = .int .i64 x ∧ w' = wi)
        case first =>
          by_cases hlt : (i : Int) < (l.length : Int)
          · obtain ⟨b, off, rfl, hb, hcx⟩ := HN.out.2 i (by omega)
            rw [← hx] at hcx
            have hcx2 := ((HB1.out.trans (HBR.out.mono HB1.out.size)).cell (p := ⟨b, off + i, none⟩) hb).trans hcx
            clear hcx hx
            go_wp2_with fail
            go_meet
            case rel => exact ⟨rfl, rfl⟩
          · have hx00 : x = 0 := by rw [hx, List.getD_eq_getElem?_getD, List.getElem?_eq_none (by omega)]; rfl
            subst hx00
            clear hx
            go_wp2_with fail
            go_meet
            case rel => exact ⟨rfl, rfl⟩
        case rest =>
          obtain ⟨rfl, hwv⟩ := hcut
          obtain rfl : wi = wc := hwv.symm
          have HX := Lib.hid hx
          clear hx
          go_wp2_with fail
          have hrow0 : (wi.alloc (.cells #[] 4)).ownsRow wi.heap.size 4 1 (.slice (some ⟨wi.heap.size, 0, none⟩) 0 0) 0 ((([] : List Bool)).map Value.bool) :=
            ⟨rfl, .inr ⟨wi.heap.size, 0, #[], rfl, Nat.le_refl _, heap_alloc_new wi _, Nat.le_refl _, Nat.zero_le _, rfl, rfl⟩⟩
          have HROW0 := Lib.hid hrow0
          have HBA : Hid (Below wi.heap.size wi (wi.alloc (.cells #[] 4))) := (Below.refl _ _).alloc (Nat.le_refl _) _
          clear hrow0
          go_loopg [11, 12] m (fun gg s11 s12 wx => ∃ (k : Nat) (xa : Option Addr) (xc : Nat), k ≤ m ∧ Hid (gg = m - k) ∧ s11 = .slice xa k xc ∧ s12 = .int .i64 k ∧ Hid (wx.ownsRow wi.heap.size 4 1 (.slice xa k xc) k (((List.range k).map (bitOf x)).map Value.bool)) ∧ Hid (Below wi.heap.size wi wx))
          case atStart => exact ⟨0, some ⟨wi.heap.size, 0, none⟩, 0, Nat.zero_le _, rfl, rfl, rfl, HROW0.out, HBA.out⟩
          case round =>
            obtain ⟨kk, xa, xc, hkm, HG2, rfl, rfl, HXR, HBX⟩ := hrel
            obtain ⟨wx, rfl⟩ : ∃ wx : World, wx = wr := ⟨_, rfl⟩
            clear HROW0 HBA
            by_cases hkl2 : kk < m
            · have s0 : (0 : Int) ≤ (kk : Int) % 8 := by omega
              have s1 : (kk : Int) % 8 ≤ 64 := by omega
              have s2 : ((kk : Int) % 8).toNat = kk % 8 := by omega
              have q0 : (0 : Int) ≤ x / 2 ^ (kk % 8) := Int.ediv_nonneg hx0 (Int.pow_nonneg (by omega))
              have hbit : (x / 2 ^ (kk % 8) % 2 == 1) = bitOf x kk := by
                unfold bitOf
                by_cases h : x / 2 ^ (kk % 8) % 2 = 1 <;> simp [h]
              obtain ⟨bt, hbt⟩ : ∃ bt, bt = bitOf x kk := ⟨_, rfl⟩
              rw [← hbt] at hbit
              have HBT := Lib.hid hbt
              clear hbt
              have hzx := HBX.out.size
              go_wp2_with (at_builtin; go_must (refine wpList_append_at_ _ rfl _ _ 41 rfl 4 (.bool false) 1 1 Try.underlying41 bool_info rfl (by decide) wi.heap.size (.slice xa kk xc) kk (((List.range kk).map (bitOf x)).map Value.bool) rfl (HXR.out.alloc _) ⟨wx.heap.size, 0, none⟩ 1 1 [.bool bt] rfl rfl (cells_new wx _ _) (by simp [Value.oneCell']) (by unfold maxLen; omega) (by omega) (by simp; omega) ?_); intro xa' xc' w4 hown4 hxc1 hxc2 hS4 hloc4 _)
              go_roundg (m - (kk + 1))
              case measure => rw [HG2.out]; omega
              case rel =>
                refine ⟨kk + 1, xa', xc', by omega, rfl, rfl, by simp, ?_, ?_⟩
                · rw [Hid, List.range_succ, List.map_append, List.map_append, List.map_singleton, List.map_singleton, ← HBT.out]
                  exact hown4
                · exact ((HBX.out.alloc hzx _).trans (hS4.below (by simp; omega) (fun k hk => (HXR.out.lt k hk).1)))
            · obtain rfl : kk = m := by omega
              have hzx := HBX.out.size
              have hWi := lt_of_block HWR.out
              have hWx := (HBX.out.block Wb hWi).trans HWR.out
              have v0 := cell_of_block hWx 0
              have vf := free_of_block hWx 0
              simp only [List.getElem?_toArray, List.getElem?_cons_zero] at v0
              have HOX := Lib.hid (row_below HOR.out HBX.out)
              have HWX := Lib.hid hWx
              have hoi := row_slice HOR.out
              obtain ⟨oa2, oc2, hoe, hoc1, hoc2⟩ := hoi
              unfold maxLen at hoc2
              cases hoe
              clear hWx
              have v1 := fun o => (Below.cell ((Below.refl _ _).alloc (Nat.le_refl _) o) (World.block_lt_of_cell? wx _ v0)).trans v0
              go_wp2_with (at_builtin; go_must (refine wpList_append_at_ _ rfl _ _ 27 rfl 41 (.slice none 0 0) 1 24 Try.underlying27 letters_info rfl (by decide) (Wb + 1) (.slice oa i oc) i svs rfl (HOX.out.alloc _) ⟨wx.heap.size, 0, none⟩ 1 1 [.slice xa kk xc] rfl rfl (cells_new wx _ _) (by simp [Value.oneCell']) (by unfold maxLen; omega) (by omega) (by simp; omega) ?_); intro oa' oc' w4 hown4 hxc1 hxc2 hS4 hloc4 _; have hW4 := (hS4.block Wb (by simp; omega) (fun e => by have := (HOX.out.lt Wb e).1; omega)).trans ((Below.heap_alloc _ _ _ (by omega)).trans HWX.out); have v4 := cell_of_block hW4 0; have v4f := free_of_block hW4 0; simp only [List.getElem?_toArray, List.getElem?_cons_zero] at v4)
              have hrows := madeW_round (V := .slice oa' (i + 1) oc') HLR.out HSL.out HBX.out HXR.out HX.out HOX.out hW4 hS4
              have hset : (w4.setCell ⟨Wb, 0, none⟩ (.slice oa' (i + 1) oc')).heap[Wb]? = some (.cells #[.slice oa' (i + 1) oc', .int .i64 0] 29 (0, 0)) := by
                have := set_of_block hW4 0 (.slice oa' (i + 1) oc')
                simpa using this
              have H1 := Lib.hid hrows
              have H2 := Lib.hid hset
              have H3 := Lib.hid (ownsRow_setCell_below (a := ⟨Wb, 0, none⟩) hown4 (by simp) (.slice oa' (i + 1) oc'))
              have H4 : Hid (Below w1.heap.size w1 (w4.setCell ⟨Wb, 0, none⟩ (.slice oa' (i + 1) oc'))) := by
                have hz1 := HBR.out.size
                have hb4 : Below wi.heap.size wi (wx.alloc (.cells #[.slice xa kk xc] 41)) := HBX.out.alloc hzx _
                have hb5 : Below w1.heap.size w1 w4 := (HBR.out.trans (hb4.mono hz1)).trans (hS4.below (by simp; omega) (fun k hk => by have := (HOX.out.lt k hk).1; have := HWB.out; omega))
                exact hb5.setCell (by rw [HWB.out]; exact Nat.le_refl _) _
              go_roundg (8 - (i + 1))
              case measure => have := HG.out; have := HC.out; have : lettersN l ≤ 8 := (by unfold lettersN; split <;> (try split) <;> omega); omega
              case rel =>
                have hl8 : lettersN l ≤ 8 := by unfold lettersN; split <;> (try split) <;> omega
                have hc := HC.out
                exact ⟨i + 1, svs ++ [Value.slice xa kk xc], oa', oc', by simp, by rw [Hid]; omega, by rw [Hid, List.length_append, HSL.out]; rfl, by omega, H2.out, H3.out, H1.out, H4.out, by rw [Hid]; omega⟩
      · have hie : i = lettersN l := by have := HIN.out; omega
        have hi1 : 1 ≤ i := by rw [hie]; unfold lettersN; split <;> (try split) <;> omega
        have HIE := Lib.hid hie
        have v0 : wi.cell? ⟨Wb, 0, none⟩ = some (.slice oa i oc) := cell_of_block HWR.out 0
        have v1 : wi.cell? ⟨Wb, 1, none⟩ = some (.int .i64 0) := cell_of_block HWR.out 1
        have vf := free_of_block HWR.out 1
        have hRl := lt_of_block HR1.out
        have hR := (HBR.out.block _ hRl).trans HR1.out
        have z0 := cell_of_block hR 0
        have z1 := cell_of_block hR 1
        have zf : ∀ j, wi.frozen? ⟨w.heap.size + 1, j, none⟩ = false := fun j => free_of_block hR j
        simp only [List.getElem?_toArray, List.getElem?_cons_zero, List.getElem?_cons_succ] at z0 z1
        have HRR := Lib.hid hR
        have hneq : w.heap.size + 1 ≠ Wb := by rw [HWB.out]; omega
        have hneq2 : Wb ≠ w.heap.size + 1 := fun e => hneq e.symm
        rw [decide_eq_false hc]
        clear hie hc hR
        obtain ⟨q, hq⟩ : ∃ q, q = back % (i : Int) := ⟨_, rfl⟩
        have HQ := Lib.hid hq
        have hR2 : (wi.setCell ⟨Wb, 1, none⟩ (.int .i64 q)).heap[w.heap.size + 1]? = _ := (Below.heap_setCell _ _ _ _ hneq).trans HRR.out
        have hR3 := set_of_block hR2 0 (.slice oa i oc)
        have hR4 := set_of_block hR3 1 (.int .i64 q)
        have HR4 : Hid ((((wi.setCell ⟨Wb, 1, none⟩ (.int .i64 q)).setCell ⟨w.heap.size + 1, 0, none⟩ (.slice oa i oc)).setCell ⟨w.heap.size + 1, 1, none⟩ (.int .i64 q)).heap[w.heap.size + 1]? = some (.cells #[.slice oa i oc, .int .i64 q] 29 (0, 0))) := by
          rw [Hid]; simpa using hR4
        have HCAP : Hid (i ≤ oc) := by
          obtain ⟨a, cap, he, h1, -⟩ := row_slice HOR.out
          cases he; exact h1
        have hk : ∀ {B : Nat} {e : TypeId} {s n : Nat} {v : Value} {xs : List Value}, wi.ownsRow B e s v n xs → e ≠ 29 → (((wi.setCell ⟨Wb, 1, none⟩ (.int .i64 q)).setCell ⟨w.heap.size + 1, 0, none⟩ (.slice oa i oc)).setCell ⟨w.heap.size + 1, 1, none⟩ (.int .i64 q)).ownsRow B e s v n xs := fun h hne => row_keep (row_keep (row_keep h HWR.out hne) hR2 hne) hR3 hne
        have HLT : Hid (LettersAt (((wi.setCell ⟨Wb, 1, none⟩ (.int .i64 q)).setCell ⟨w.heap.size + 1, 0, none⟩ (.slice oa i oc)).setCell ⟨w.heap.size + 1, 1, none⟩ (.int .i64 q)) (.slice oa i oc) ((List.range i).map (letterOf l m))) :=
          letters_of_rows (hk HOR.out (by decide)) HSL.out (fun j hj => by obtain ⟨B', h⟩ := HLR.out j hj; exact ⟨B', hk h (by decide)⟩)
        have HBF : Hid (Below w.heap.size w (((wi.setCell ⟨Wb, 1, none⟩ (.int .i64 q)).setCell ⟨w.heap.size + 1, 0, none⟩ (.slice oa i oc)).setCell ⟨w.heap.size + 1, 1, none⟩ (.int .i64 q))) :=
          (((HB1.out.trans (HBR.out.mono HB1.out.size)).setCell (by rw [HWB.out]; exact HB1.out.size) _).setCell (by simp) _).setCell (by simp) _
        clear hR2 hR3 hR4 hk
        go_wp2
        rw [← HQ.out]
        generalize (((wi.setCell ⟨Wb, 1, none⟩ (.int .i64 q)).setCell ⟨w.heap.size + 1, 0, none⟩ (.slice oa i oc)).setCell ⟨w.heap.size + 1, 1, none⟩ (.int .i64 q)) = X at HR4 HLT HBF ⊢
        have y0 : X.cell? ⟨w.heap.size + 1, 0, none⟩ = some (.slice oa i oc) := cell_of_block HR4.out 0
        have y1 : X.cell? ⟨w.heap.size + 1, 1, none⟩ = some (.int .i64 q) := cell_of_block HR4.out 1
        refine bodyPost_ret (v := .agg #[.slice oa i oc, .int .i64 q]) (by simp [results, Try.results12, go_sem, y0, y1]) rfl ⟨oa, oc, ?_, ?_, ?_, HBF.out⟩
        · rw [← HIE.out, ← HQ.out]
        · rw [← HIE.out]; exact HCAP.out
        · rw [← HIE.out, ← HM.out]; exact HLT.out
/-- Likewise, without the room. -/
theorem madeW_any (w : World) (d : Nat) (f : Form) (kv nv : Value) (l : List Int) (back : Int) (hb0 : 0 ≤ back) (hb1 : back ≤ 255) (h : FormAt w d f kv) (hs : f.size ≤ 1000) (hn : NumsAt w .u8 nv l) :
    Calls Try.prog 12 #[formV f kv, nv, .int .u8 back] w (TellsWord l f.props.length back w) :=
  (madeWc_any w d f kv nv l back hb0 hb1 h hs hn).mono fun _ _ ⟨la, lc, he, _, hl, hb⟩ => ⟨.slice la (lettersN l) lc, he, hl, hb⟩
end Go.Proofs.Ytidnpdkibndpkaa
