/- The atoms of a formula: the walks of both. -/
import Derived.Test.YtidnpdkibndpkaaLogic
namespace Go.Proofs.Ytidnpdkibndpkaa
open Go.RowKit

theorem contains_any (w : World) (sv : Value) (l : List PropD) (hl : PropsAt w sv l) (p : PropD) :
    Calls Try.prog 34 #[sv, p.val] w fun e w' => e = .returned (.bool (decide (p ∈ l))) ∧ Below w.heap.size w w' := by
  obtain ⟨r, hr⟩ := placeIs_exists l p
  rw [← hr.mem]
  have hx : ∀ W, Below w.heap.size w W → Calls Try.prog 38 #[sv, p.val] W fun e w' => e = .returned (.int .i64 r) ∧ Below W.heap.size W w' := fun W hW => index_any W sv l (hl.below hW) p r hr
  have HX := Lib.hid hx
  clear hx hr
  obtain ⟨p1, p2, p3, p4⟩ := p
  unfold PropD.val at *
  go_enter Try.func34, Try.ntmps34
  go_wp2_with (go_at_call 38; go_must (refine (HX.out _ ((Below.refl _ _).alloc (Nat.le_refl _) _)).mono ?_); rintro e w' ⟨rfl, hb⟩)
  go_ret
  exact ⟨rfl, ((Below.refl _ _).alloc (Nat.le_refl _) _).trans (hb.mono (by simp))⟩

theorem prop_info : (Try.prog.info? 23).map (fun i => (i.zero, i.size, i.bytes)) = some (some (.agg #[.int .i64 0, .int .i64 0, .int .i64 0, .int .i64 0]), 4, 32) := by kernel_rfl

/-- Atoms in a row that a call has made. -/
def PropsOwn (w0 w : World) (sv : Value) (l : List PropD) : Prop := w.ownsRow w0.heap.size 23 4 sv l.length (l.flatMap PropD.cells)
/-- A call that tells a new list of atoms. -/
def TellsProps (l : List PropD) (w : World) (e : Ending) (w' : World) : Prop := ∃ sv, e = .returned sv ∧ PropsOwn w w' sv l ∧ Below w.heap.size w w'
theorem prop_cell {w : World} {B : Nat} {g : Nat} {n cap : Nat} {l : List PropD} (h : w.ownsRow B 23 4 (.slice (some ⟨g, 0, none⟩) n cap) n (l.flatMap PropD.cells)) (hn : n = l.length) (j : Nat) (hj : j < l.length) (i : Nat) (hi : i < 4) :
    w.cell? ⟨g, j * 4 + i, none⟩ = ((l.getD j default).cells)[i]? := by
  have hlt : j * 4 + i < n * 4 := by omega
  rw [h.cellAt _ hlt, flatMap_get PropD.cells 4 (fun _ => rfl) l j i hj hi]
  simp [List.getD, List.getElem?_eq_getElem hj]
theorem foldl_take (out ps : List PropD) (j : Nat) (h : j < ps.length) : (ps.take (j + 1)).foldl addP out = addP ((ps.take j).foldl addP out) (ps.getD j default) := by
  rw [List.take_succ_eq_append_getElem h, List.foldl_append]
  simp [List.getD, List.getElem?_eq_getElem h]

set_option maxRecDepth 100000 in
set_option maxHeartbeats 1000000 in
theorem props_any (d : Nat) : ∀ (w : World) (f : Form) (kv : Value), FormAt w d f kv → f.size ≤ 1000000 →
    Calls Try.prog 25 #[formV f kv] w (TellsProps f.props w) := by
  induction d with
  | zero => exact fun w f kv h => h.elim
  | succ d ih =>
    intro w f kv h hsz
    obtain ⟨k, p, kids⟩ := f
    obtain ⟨a, cap, rfl, hn, hk⟩ := h
    obtain ⟨p1, p2, p3, p4⟩ := p
    simp only [Form.kids] at hn hk ⊢
    unfold formV
    simp only [Form.kind, Form.prop]
    have hstart : ∃ out : List PropD, Hid (out = if k = 3 then [⟨p1, p2, p3, p4⟩] else []) := ⟨_, rfl⟩
    obtain ⟨out0, HO⟩ := hstart
    have hs0 : out0.length ≤ 1 := by rw [HO.out]; split <;> simp
    have hsk : sizeL kids ≤ 999999 := by simp only [Form.size] at hsz; omega
    clear hsz
    by_cases h3 : k = 3
    · subst h3
      go_enter Try.func25, Try.ntmps25
      go_wp2_with (at_builtin; go_must (refine wpList_append_at_ _ rfl _ _ 48 rfl 23 (.agg #[.int .i64 0, .int .i64 0, .int .i64 0, .int .i64 0]) 4 32 Try.underlying48 prop_info rfl (by decide) w.heap.size (.slice none 0 0) 0 [] rfl (World.ownsRow_nil _ _ _ _) ⟨w.heap.size + 1, 0, none⟩ 1 1 [.int .i64 p1, .int .i64 p2, .int .i64 p3, .int .i64 p4] rfl rfl (fun j u h => by simpa using cells_new (w.alloc (.cells #[.int .i64 3, .int .i64 p1, .int .i64 p2, .int .i64 p3, .int .i64 p4, .slice a kids.length cap] 26)) [.int .i64 p1, .int .i64 p2, .int .i64 p3, .int .i64 p4] 23 j u h) (by simp [Value.oneCell']) (by unfold maxLen; omega) (by omega) (by simp; omega) ?_); intro ya yc w1 hown1 hyc1 hyc2 hS1 hloc1 _; have hB1 : Below w.heap.size w w1 := (((Below.refl _ _).alloc (Nat.le_refl _) _).alloc (by simp) _).trans (hS1.below (by simp; omega) (fun k hk => by simp [Value.ownBlock] at hk)); have hxb : w1.heap[w.heap.size]? = some (.cells #[.int .i64 3, .int .i64 p1, .int .i64 p2, .int .i64 p3, .int .i64 p4, .slice a kids.length cap] 26 (0, 0)) := ((hS1.block w.heap.size (by simp; omega) (fun hk => by simp [Value.ownBlock] at hk)).trans (Below.heap_alloc _ _ _ (by simp))).trans (heap_alloc_new w _); have hx5 : w1.cell? ⟨w.heap.size, 5, none⟩ = some (.slice a kids.length cap) := cell_of_block hxb 5; clear hxb)
      go_loopg [2, 18] kids.length (fun g s2 s18 wr => ∃ (i : Nat) (out : List PropD) (oa : Option Addr) (oc : Nat), i ≤ kids.length ∧ Hid (g = kids.length - i) ∧ s18 = .int .i64 i ∧ s2 = .slice oa out.length oc ∧
        wr.ownsRow w.heap.size 23 4 (.slice oa out.length oc) out.length (out.flatMap PropD.cells) ∧ Below w.heap.size w wr ∧ Hid (out = propsL (kids.take i) out0))
      case atStart => exact ⟨0, [⟨p1, p2, p3, p4⟩], ya, yc, Nat.zero_le _, rfl, rfl, rfl, by simpa [PropD.cells] using hown1, hB1, by simp [Hid, HO.out, propsL]⟩
      case round =>
        obtain ⟨i, out, oa, oc, hi, HG, rfl, rfl, hown, hB, HP⟩ := hrel
        obtain ⟨wo, rfl⟩ : ∃ wo : World, wo = wr := ⟨_, rfl⟩
        have hz := hB.size
        by_cases hlt : i < kids.length
        · obtain ⟨b, off, kv, rfl, hb, hcell, hf⟩ := hk i hlt
          obtain ⟨g, hg⟩ : ∃ g, g = kids.getD i default := ⟨_, rfl⟩
          rw [← hg] at hcell hf
          obtain ⟨ga, gc, rfl, hgl⟩ := hf.slice
          have hgs : g.size ≤ 999999 := by rw [hg]; have := size_kid kids i hlt; omega
          have hol : out.length + g.size ≤ 1000000 := by rw [HP.out, hg]; have := propsL_len (kids.take i) out0; have := sizeL_take_succ kids i hlt; have := sizeL_take kids (i + 1); omega
          have HQ := Lib.hid hg
          have hrec := fun W (hW : Below w.heap.size w W) => ih W g _ (hf.below hW) (by omega)
          clear hg hk ih hf
          obtain ⟨gk', ⟨q1, q2, q3, q4⟩, gl⟩ := g
          simp only [Form.kids] at hgl
          simp only [formV, Form.kind, Form.prop, Form.kids] at hrec
          have HREC := Lib.hid hrec
          clear hrec
          have hy0 := (hB.cell (p := ⟨b, off + i * 6 + 0, none⟩) hb).trans (hcell 0 (by omega))
          have hy1 := (hB.cell (p := ⟨b, off + i * 6 + 1, none⟩) hb).trans (hcell 1 (by omega))
          have hy2 := (hB.cell (p := ⟨b, off + i * 6 + 2, none⟩) hb).trans (hcell 2 (by omega))
          have hy3 := (hB.cell (p := ⟨b, off + i * 6 + 3, none⟩) hb).trans (hcell 3 (by omega))
          have hy4 := (hB.cell (p := ⟨b, off + i * 6 + 4, none⟩) hb).trans (hcell 4 (by omega))
          have hy5 := (hB.cell (p := ⟨b, off + i * 6 + 5, none⟩) hb).trans (hcell 5 (by omega))
          simp only [formCells, Form.kind, Form.prop, Form.kids, List.getElem?_cons_zero, List.getElem?_cons_succ, Nat.add_zero] at hy0 hy1 hy2 hy3 hy4 hy5
          clear hcell
          go_wp2_with fail
          refine (HREC.out _ (hB.alloc hz _)).mono ?_
          obtain ⟨ps, hps⟩ : ∃ ps, ps = Form.props (.mk gk' ⟨q1, q2, q3, q4⟩ gl) := ⟨_, rfl⟩
          have hpl : out.length + ps.length ≤ 1000000 := by rw [hps]; have := props_len (.mk gk' ⟨q1, q2, q3, q4⟩ gl); omega
          rw [← hps]
          have HPS := Lib.hid hps
          clear hps HREC
          rintro e w2 ⟨lv, rfl, hlv, hb2⟩
          obtain ⟨la, lc, rfl, hl1, hl2⟩ := row_slice hlv
          unfold maxLen at hl2
          unfold PropsOwn at hlv
          have hown2 := row_below (hown.alloc (.cells #[.int .i64 gk', .int .i64 q1, .int .i64 q2, .int .i64 q3, .int .i64 q4, .slice ga gl.length gc] 26)) hb2
          have hB2 := (hB.alloc hz (.cells #[.int .i64 gk', .int .i64 q1, .int .i64 q2, .int .i64 q3, .int .i64 q4, .slice ga gl.length gc] 26)).trans (hb2.mono (by simp; omega))
          have hsep : ∀ k, (Value.slice oa out.length oc).ownBlock = some k → (Value.slice la ps.length lc).ownBlock ≠ some k := by
            intro k hk hk2
            have h1 := (hown.lt k hk).2
            have h2 := (hlv.lt k hk2).1
            simp at h2; omega
          have HOWN := Lib.hid hown2
          have HB2 := Lib.hid hB2
          clear hy0 hy1 hy2 hy3 hy4 hy5 hb2 hown hB hown2 hB2
          have HLV := Lib.hid hlv
          have HSEP := Lib.hid hsep
          clear hlv hsep
          go_wp2
          go_loopg [2, 25] ps.length (fun g s2 s25 wx => ∃ (j : Nat) (ou : List PropD) (xa : Option Addr) (xc : Nat), j ≤ ps.length ∧ Hid (g = ps.length - j) ∧ s25 = .int .i64 j ∧ s2 = .slice xa ou.length xc ∧
            wx.ownsRow w.heap.size 23 4 (.slice xa ou.length xc) ou.length (ou.flatMap PropD.cells) ∧ wx.ownsRow w.heap.size 23 4 (.slice la ps.length lc) ps.length (ps.flatMap PropD.cells) ∧
            Hid (∀ k, (Value.slice xa ou.length xc).ownBlock = some k → (Value.slice la ps.length lc).ownBlock ≠ some k) ∧ Below w.heap.size w wx ∧ Hid (ou = (ps.take j).foldl addP out))
          case atStart => exact ⟨0, out, oa, oc, Nat.zero_le _, rfl, rfl, rfl, HOWN.out, row_mono HLV.out (by simp; omega), HSEP.out, HB2.out, by simp [Hid]⟩
          case round =>
            obtain ⟨j, ou, xa, xc, hj, HG2, rfl, rfl, hxo, hlo, HSEP2, hBx, HOU⟩ := hrel
            have hzx := hBx.size
            have hoj : ou.length ≤ out.length + j := by rw [HOU.out]; have := addPs_len (ps.take j) out; simp at this; omega
            by_cases hjl : j < ps.length
            · obtain ⟨g, lc', he, -, -⟩ := row_some hlo (by omega)
              have hla : la = some ⟨g, 0, none⟩ := (Value.slice.inj he).1
              subst hla
              clear he
              obtain ⟨q, hq⟩ : ∃ q, q = ps.getD j default := ⟨_, rfl⟩
              have hcell := prop_cell hlo rfl j hjl
              rw [← hq] at hcell
              have HQ2 := Lib.hid hq
              clear hq
              obtain ⟨r1, r2, r3, r4⟩ := q
              have hy0 := hcell 0 (by omega)
              have hy1 := hcell 1 (by omega)
              have hy2 := hcell 2 (by omega)
              have hy3 := hcell 3 (by omega)
              simp only [PropD.cells, List.getElem?_cons_zero, List.getElem?_cons_succ, Nat.add_zero] at hy0 hy1 hy2 hy3
              clear hcell
              have HXO := Lib.hid hxo
              have HLO := Lib.hid hlo
              have HBX := Lib.hid hBx
              clear hxo hlo hBx
              have hxm := HXO.out.lt
              obtain ⟨xa2, xc2, hxe, hxl1, hxl2⟩ := row_slice HXO.out
              have hxc : ou.length ≤ 9223372036854775807 := by
                unfold maxLen at hxl2; have := (Value.slice.inj hxe).2.2; omega
              clear hxe hxl1 hxl2 hxm
              go_wp2_with fail
              refine (contains_any _ _ ou (PropsAt.of_row (HXO.out.alloc _)) ⟨r1, r2, r3, r4⟩).mono ?_
              rintro e w3 ⟨rfl, hb3⟩
              have hbw : ∀ i, w3.cell? ⟨wr.heap.size, i, none⟩ = (wr.alloc (.cells #[.int .i64 r1, .int .i64 r2, .int .i64 r3, .int .i64 r4] 23)).cell? ⟨wr.heap.size, i, none⟩ := fun i => hb3.cell (p := ⟨wr.heap.size, i, none⟩) (by simp)
              have hx0 : w3.cell? ⟨wr.heap.size, 0, none⟩ = some (.int .i64 r1) := (hbw 0).trans (cell_of_block (heap_alloc_new _ _) 0)
              have hx1 : w3.cell? ⟨wr.heap.size, 1, none⟩ = some (.int .i64 r2) := (hbw 1).trans (cell_of_block (heap_alloc_new _ _) 1)
              have hx2 : w3.cell? ⟨wr.heap.size, 2, none⟩ = some (.int .i64 r3) := (hbw 2).trans (cell_of_block (heap_alloc_new _ _) 2)
              have hx3 : w3.cell? ⟨wr.heap.size, 3, none⟩ = some (.int .i64 r4) := (hbw 3).trans (cell_of_block (heap_alloc_new _ _) 3)
              clear hbw hy0 hy1 hy2 hy3
              have hxo3 := row_below (HXO.out.alloc (.cells #[.int .i64 r1, .int .i64 r2, .int .i64 r3, .int .i64 r4] 23)) hb3
              have hlo3 := row_below (HLO.out.alloc (.cells #[.int .i64 r1, .int .i64 r2, .int .i64 r3, .int .i64 r4] 23)) hb3
              have hB3 := (HBX.out.alloc hzx (.cells #[.int .i64 r1, .int .i64 r2, .int .i64 r3, .int .i64 r4] 23)).trans (hb3.mono (by simp; omega))
              have hz3 := hB3.size
              clear hb3
              by_cases hm : (⟨r1, r2, r3, r4⟩ : PropD) ∈ ou
              · rw [decide_eq_true hm]
                have HO3 := Lib.hid hxo3
                have HL3 := Lib.hid hlo3
                have HB3 := Lib.hid hB3
                clear hxo3 hlo3 hB3
                have HM := Lib.hid hm
                clear hm
                go_wp2
                go_roundg (ps.length - (j + 1))
                case measure => rw [HG2.out]; omega
                case rel => exact ⟨j + 1, ou, xa, xc, by omega, rfl, by go_num, rfl, HO3.out, HL3.out, HSEP2.out, HB3.out, by rw [Hid, foldl_take out ps j hjl, ← HOU.out, ← HQ2.out, addP, if_pos HM.out]⟩
              · rw [decide_eq_false hm]
                have HL3 := Lib.hid hlo3
                have HB3 := Lib.hid hB3
                clear hlo3 hB3
                have HM := Lib.hid hm
                clear hm
                go_wp2_with (at_builtin; go_must (refine wpList_append_at_ _ rfl _ _ 48 rfl 23 (.agg #[.int .i64 0, .int .i64 0, .int .i64 0, .int .i64 0]) 4 32 Try.underlying48 prop_info rfl (by decide) w.heap.size (.slice xa ou.length xc) ou.length (ou.flatMap PropD.cells) rfl (hxo3.alloc _) ⟨w3.heap.size, 0, none⟩ 1 1 [.int .i64 r1, .int .i64 r2, .int .i64 r3, .int .i64 r4] rfl rfl (cells_new _ _ _) (by simp [Value.oneCell']) (by unfold maxLen; omega) (by omega) (by simp; omega) ?_); intro xa' xc' w4 hown4 hxc1 hxc2 hS4 hloc4 _)
                go_roundg (ps.length - (j + 1))
                case measure => rw [HG2.out]; omega
                case rel =>
                  have hS5 : Since (fun k => (Value.slice xa ou.length xc).ownBlock = some k) w3 w4 := ((Since.refl _ _).alloc _).trans hS4 (fun k hk => .inl hk)
                  refine ⟨j + 1, ou ++ [⟨r1, r2, r3, r4⟩], xa', xc', by omega, rfl, by go_num, by simp, by simpa [PropD.cells] using hown4, hS5.row HL3.out (fun k hk hx => HSEP2.out k hx hk), ?_, ?_, ?_⟩
                  · intro k hk hk2
                    have hk' := hloc4 k (by simpa using hk)
                    rcases hk' with h1 | h1
                    · exact HSEP2.out k h1 hk2
                    · have := (HL3.out.lt k hk2).2; simp at h1; omega
                  · exact HB3.out.trans (hS5.below hz3 (fun k hk => (hxo3.lt k hk).1))
                  · rw [Hid, foldl_take out ps j hjl, ← HOU.out, ← HQ2.out, addP, if_neg HM.out]
            · have hje : j = ps.length := by omega
              subst hje
              have HXO := Lib.hid hxo
              have HBX := Lib.hid hBx
              clear hxo hlo hBx
              go_wp2
              go_roundg (kids.length - (i + 1))
              case measure => rw [HG.out]; omega
              case rel =>
                refine ⟨i + 1, ou, xa, xc, by omega, rfl, by go_num, rfl, HXO.out, HBX.out, ?_⟩
                rw [Hid, propsL_take kids out0 i hlt, ← HP.out, ← HQ.out, ← HPS.out, HOU.out, List.take_length]
        · have hie : i = kids.length := by omega
          subst hie
          clear hk ih
          go_wp2
          go_ret
          refine ⟨_, rfl, ?_, hB⟩
          have : out = Form.props (.mk 3 ⟨p1, p2, p3, p4⟩ kids) := by
            rw [HP.out, List.take_length, HO.out]; simp [Form.props]
          rw [PropsOwn, ← this]; exact hown
    · have hk3 : (k == 3) = false := by simpa using h3
      go_enter Try.func25, Try.ntmps25
      go_wp2
      go_loopg [2, 18] kids.length (fun g s2 s18 wr => ∃ (i : Nat) (out : List PropD) (oa : Option Addr) (oc : Nat), i ≤ kids.length ∧ Hid (g = kids.length - i) ∧ s18 = .int .i64 i ∧ s2 = .slice oa out.length oc ∧
        wr.ownsRow w.heap.size 23 4 (.slice oa out.length oc) out.length (out.flatMap PropD.cells) ∧ Below w.heap.size w wr ∧ Hid (out = propsL (kids.take i) out0))
      case atStart => exact ⟨0, [], none, 0, Nat.zero_le _, rfl, rfl, rfl, World.ownsRow_nil _ _ _ _, (Below.refl _ _).alloc (Nat.le_refl _) _, by simp [Hid, HO.out, h3, propsL]⟩
      case round =>
        obtain ⟨i, out, oa, oc, hi, HG, rfl, rfl, hown, hB, HP⟩ := hrel
        obtain ⟨wo, rfl⟩ : ∃ wo : World, wo = wr := ⟨_, rfl⟩
        have hz := hB.size
        by_cases hlt : i < kids.length
        · obtain ⟨b, off, kv, rfl, hb, hcell, hf⟩ := hk i hlt
          obtain ⟨g, hg⟩ : ∃ g, g = kids.getD i default := ⟨_, rfl⟩
          rw [← hg] at hcell hf
          obtain ⟨ga, gc, rfl, hgl⟩ := hf.slice
          have hgs : g.size ≤ 999999 := by rw [hg]; have := size_kid kids i hlt; omega
          have hol : out.length + g.size ≤ 1000000 := by rw [HP.out, hg]; have := propsL_len (kids.take i) out0; have := sizeL_take_succ kids i hlt; have := sizeL_take kids (i + 1); omega
          have HQ := Lib.hid hg
          have hrec := fun W (hW : Below w.heap.size w W) => ih W g _ (hf.below hW) (by omega)
          clear hg hk ih hf
          obtain ⟨gk', ⟨q1, q2, q3, q4⟩, gl⟩ := g
          simp only [Form.kids] at hgl
          simp only [formV, Form.kind, Form.prop, Form.kids] at hrec
          have HREC := Lib.hid hrec
          clear hrec
          have hy0 := (hB.cell (p := ⟨b, off + i * 6 + 0, none⟩) hb).trans (hcell 0 (by omega))
          have hy1 := (hB.cell (p := ⟨b, off + i * 6 + 1, none⟩) hb).trans (hcell 1 (by omega))
          have hy2 := (hB.cell (p := ⟨b, off + i * 6 + 2, none⟩) hb).trans (hcell 2 (by omega))
          have hy3 := (hB.cell (p := ⟨b, off + i * 6 + 3, none⟩) hb).trans (hcell 3 (by omega))
          have hy4 := (hB.cell (p := ⟨b, off + i * 6 + 4, none⟩) hb).trans (hcell 4 (by omega))
          have hy5 := (hB.cell (p := ⟨b, off + i * 6 + 5, none⟩) hb).trans (hcell 5 (by omega))
          simp only [formCells, Form.kind, Form.prop, Form.kids, List.getElem?_cons_zero, List.getElem?_cons_succ, Nat.add_zero] at hy0 hy1 hy2 hy3 hy4 hy5
          clear hcell
          go_wp2_with fail
          refine (HREC.out _ (hB.alloc hz _)).mono ?_
          obtain ⟨ps, hps⟩ : ∃ ps, ps = Form.props (.mk gk' ⟨q1, q2, q3, q4⟩ gl) := ⟨_, rfl⟩
          have hpl : out.length + ps.length ≤ 1000000 := by rw [hps]; have := props_len (.mk gk' ⟨q1, q2, q3, q4⟩ gl); omega
          rw [← hps]
          have HPS := Lib.hid hps
          clear hps HREC
          rintro e w2 ⟨lv, rfl, hlv, hb2⟩
          obtain ⟨la, lc, rfl, hl1, hl2⟩ := row_slice hlv
          unfold maxLen at hl2
          unfold PropsOwn at hlv
          have hown2 := row_below (hown.alloc (.cells #[.int .i64 gk', .int .i64 q1, .int .i64 q2, .int .i64 q3, .int .i64 q4, .slice ga gl.length gc] 26)) hb2
          have hB2 := (hB.alloc hz (.cells #[.int .i64 gk', .int .i64 q1, .int .i64 q2, .int .i64 q3, .int .i64 q4, .slice ga gl.length gc] 26)).trans (hb2.mono (by simp; omega))
          have hsep : ∀ k, (Value.slice oa out.length oc).ownBlock = some k → (Value.slice la ps.length lc).ownBlock ≠ some k := by
            intro k hk hk2
            have h1 := (hown.lt k hk).2
            have h2 := (hlv.lt k hk2).1
            simp at h2; omega
          have HOWN := Lib.hid hown2
          have HB2 := Lib.hid hB2
          clear hy0 hy1 hy2 hy3 hy4 hy5 hb2 hown hB hown2 hB2
          have HLV := Lib.hid hlv
          have HSEP := Lib.hid hsep
          clear hlv hsep
          go_wp2
          go_loopg [2, 25] ps.length (fun g s2 s25 wx => ∃ (j : Nat) (ou : List PropD) (xa : Option Addr) (xc : Nat), j ≤ ps.length ∧ Hid (g = ps.length - j) ∧ s25 = .int .i64 j ∧ s2 = .slice xa ou.length xc ∧
            wx.ownsRow w.heap.size 23 4 (.slice xa ou.length xc) ou.length (ou.flatMap PropD.cells) ∧ wx.ownsRow w.heap.size 23 4 (.slice la ps.length lc) ps.length (ps.flatMap PropD.cells) ∧
            Hid (∀ k, (Value.slice xa ou.length xc).ownBlock = some k → (Value.slice la ps.length lc).ownBlock ≠ some k) ∧ Below w.heap.size w wx ∧ Hid (ou = (ps.take j).foldl addP out))
          case atStart => exact ⟨0, out, oa, oc, Nat.zero_le _, rfl, rfl, rfl, HOWN.out, row_mono HLV.out (by simp; omega), HSEP.out, HB2.out, by simp [Hid]⟩
          case round =>
            obtain ⟨j, ou, xa, xc, hj, HG2, rfl, rfl, hxo, hlo, HSEP2, hBx, HOU⟩ := hrel
            have hzx := hBx.size
            have hoj : ou.length ≤ out.length + j := by rw [HOU.out]; have := addPs_len (ps.take j) out; simp at this; omega
            by_cases hjl : j < ps.length
            · obtain ⟨g, lc', he, -, -⟩ := row_some hlo (by omega)
              have hla : la = some ⟨g, 0, none⟩ := (Value.slice.inj he).1
              subst hla
              clear he
              obtain ⟨q, hq⟩ : ∃ q, q = ps.getD j default := ⟨_, rfl⟩
              have hcell := prop_cell hlo rfl j hjl
              rw [← hq] at hcell
              have HQ2 := Lib.hid hq
              clear hq
              obtain ⟨r1, r2, r3, r4⟩ := q
              have hy0 := hcell 0 (by omega)
              have hy1 := hcell 1 (by omega)
              have hy2 := hcell 2 (by omega)
              have hy3 := hcell 3 (by omega)
              simp only [PropD.cells, List.getElem?_cons_zero, List.getElem?_cons_succ, Nat.add_zero] at hy0 hy1 hy2 hy3
              clear hcell
              have HXO := Lib.hid hxo
              have HLO := Lib.hid hlo
              have HBX := Lib.hid hBx
              clear hxo hlo hBx
              have hxm := HXO.out.lt
              obtain ⟨xa2, xc2, hxe, hxl1, hxl2⟩ := row_slice HXO.out
              have hxc : ou.length ≤ 9223372036854775807 := by
                unfold maxLen at hxl2; have := (Value.slice.inj hxe).2.2; omega
              clear hxe hxl1 hxl2 hxm
              go_wp2_with fail
              refine (contains_any _ _ ou (PropsAt.of_row (HXO.out.alloc _)) ⟨r1, r2, r3, r4⟩).mono ?_
              rintro e w3 ⟨rfl, hb3⟩
              have hbw : ∀ i, w3.cell? ⟨wr.heap.size, i, none⟩ = (wr.alloc (.cells #[.int .i64 r1, .int .i64 r2, .int .i64 r3, .int .i64 r4] 23)).cell? ⟨wr.heap.size, i, none⟩ := fun i => hb3.cell (p := ⟨wr.heap.size, i, none⟩) (by simp)
              have hx0 : w3.cell? ⟨wr.heap.size, 0, none⟩ = some (.int .i64 r1) := (hbw 0).trans (cell_of_block (heap_alloc_new _ _) 0)
              have hx1 : w3.cell? ⟨wr.heap.size, 1, none⟩ = some (.int .i64 r2) := (hbw 1).trans (cell_of_block (heap_alloc_new _ _) 1)
              have hx2 : w3.cell? ⟨wr.heap.size, 2, none⟩ = some (.int .i64 r3) := (hbw 2).trans (cell_of_block (heap_alloc_new _ _) 2)
              have hx3 : w3.cell? ⟨wr.heap.size, 3, none⟩ = some (.int .i64 r4) := (hbw 3).trans (cell_of_block (heap_alloc_new _ _) 3)
              clear hbw hy0 hy1 hy2 hy3
              have hxo3 := row_below (HXO.out.alloc (.cells #[.int .i64 r1, .int .i64 r2, .int .i64 r3, .int .i64 r4] 23)) hb3
              have hlo3 := row_below (HLO.out.alloc (.cells #[.int .i64 r1, .int .i64 r2, .int .i64 r3, .int .i64 r4] 23)) hb3
              have hB3 := (HBX.out.alloc hzx (.cells #[.int .i64 r1, .int .i64 r2, .int .i64 r3, .int .i64 r4] 23)).trans (hb3.mono (by simp; omega))
              have hz3 := hB3.size
              clear hb3
              by_cases hm : (⟨r1, r2, r3, r4⟩ : PropD) ∈ ou
              · rw [decide_eq_true hm]
                have HO3 := Lib.hid hxo3
                have HL3 := Lib.hid hlo3
                have HB3 := Lib.hid hB3
                clear hxo3 hlo3 hB3
                have HM := Lib.hid hm
                clear hm
                go_wp2
                go_roundg (ps.length - (j + 1))
                case measure => rw [HG2.out]; omega
                case rel => exact ⟨j + 1, ou, xa, xc, by omega, rfl, by go_num, rfl, HO3.out, HL3.out, HSEP2.out, HB3.out, by rw [Hid, foldl_take out ps j hjl, ← HOU.out, ← HQ2.out, addP, if_pos HM.out]⟩
              · rw [decide_eq_false hm]
                have HL3 := Lib.hid hlo3
                have HB3 := Lib.hid hB3
                clear hlo3 hB3
                have HM := Lib.hid hm
                clear hm
                go_wp2_with (at_builtin; go_must (refine wpList_append_at_ _ rfl _ _ 48 rfl 23 (.agg #[.int .i64 0, .int .i64 0, .int .i64 0, .int .i64 0]) 4 32 Try.underlying48 prop_info rfl (by decide) w.heap.size (.slice xa ou.length xc) ou.length (ou.flatMap PropD.cells) rfl (hxo3.alloc _) ⟨w3.heap.size, 0, none⟩ 1 1 [.int .i64 r1, .int .i64 r2, .int .i64 r3, .int .i64 r4] rfl rfl (cells_new _ _ _) (by simp [Value.oneCell']) (by unfold maxLen; omega) (by omega) (by simp; omega) ?_); intro xa' xc' w4 hown4 hxc1 hxc2 hS4 hloc4 _)
                go_roundg (ps.length - (j + 1))
                case measure => rw [HG2.out]; omega
                case rel =>
                  have hS5 : Since (fun k => (Value.slice xa ou.length xc).ownBlock = some k) w3 w4 := ((Since.refl _ _).alloc _).trans hS4 (fun k hk => .inl hk)
                  refine ⟨j + 1, ou ++ [⟨r1, r2, r3, r4⟩], xa', xc', by omega, rfl, by go_num, by simp, by simpa [PropD.cells] using hown4, hS5.row HL3.out (fun k hk hx => HSEP2.out k hx hk), ?_, ?_, ?_⟩
                  · intro k hk hk2
                    have hk' := hloc4 k (by simpa using hk)
                    rcases hk' with h1 | h1
                    · exact HSEP2.out k h1 hk2
                    · have := (HL3.out.lt k hk2).2; simp at h1; omega
                  · exact HB3.out.trans (hS5.below hz3 (fun k hk => (hxo3.lt k hk).1))
                  · rw [Hid, foldl_take out ps j hjl, ← HOU.out, ← HQ2.out, addP, if_neg HM.out]
            · have hje : j = ps.length := by omega
              subst hje
              have HXO := Lib.hid hxo
              have HBX := Lib.hid hBx
              clear hxo hlo hBx
              go_wp2
              go_roundg (kids.length - (i + 1))
              case measure => rw [HG.out]; omega
              case rel =>
                refine ⟨i + 1, ou, xa, xc, by omega, rfl, by go_num, rfl, HXO.out, HBX.out, ?_⟩
                rw [Hid, propsL_take kids out0 i hlt, ← HP.out, ← HQ.out, ← HPS.out, HOU.out, List.take_length]
        · have hie : i = kids.length := by omega
          subst hie
          clear hk ih
          go_wp2
          go_ret
          refine ⟨_, rfl, ?_, hB⟩
          have : out = Form.props (.mk k ⟨p1, p2, p3, p4⟩ kids) := by
            rw [HP.out, List.take_length, HO.out]; simp [Form.props]
          rw [PropsOwn, ← this]; exact hown
end Go.Proofs.Ytidnpdkibndpkaa
