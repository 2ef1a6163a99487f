/- The atoms of a formula: the document's walk. -/
import Derived.Test.YtidnpdkibndpkaaProps
namespace Go.Proofs.Ytidnpdkibndpkaa
open Go.RowKit

theorem take_mem_succ (l : List PropD) (p : PropD) (j : Nat) (h : j < l.length) : (p ∈ l.take (j + 1)) ↔ (p ∈ l.take j ∨ l.getD j default = p) := by
  rw [List.take_succ_eq_append_getElem h, List.mem_append, List.mem_singleton, List.getD_eq_getElem?_getD, List.getElem?_eq_getElem h]
  simp [eq_comm]

set_option maxRecDepth 100000 in
set_option maxHeartbeats 2000000 in
theorem rprops_any (d : Nat) : ∀ (w : World) (f : Form) (kv : Value), FormAt w d f kv → f.size ≤ 1000000 →
    Calls Try.prog 18 #[formV f kv] w (TellsProps f.props w) := by
  induction d with
  | zero => exact fun w f kv h => h.elim
  | succ d ih =>
    intro w f kv h hsz
    obtain ⟨k, p, kids⟩ := f
    obtain ⟨a, cap, rfl, hn, hk⟩ := h
    obtain ⟨p1, p2, p3, p4⟩ := p
    simp only [Form.kids] at hn hk ⊢
    unfold formV
    simp only [Form.kind, Form.prop]
    have hstart : ∃ out : List PropD, Hid (out = if k = 3 then [⟨p1, p2, p3, p4⟩] else []) := ⟨_, rfl⟩
    obtain ⟨out0, HO⟩ := hstart
    have hs0 : out0.length ≤ 1 := by rw [HO.out]; split <;> simp
    have hsk : sizeL kids ≤ 999999 := by simp only [Form.size] at hsz; omega
    clear hsz
    by_cases h3 : k = 3
    · subst h3
      go_enter Try.func18, Try.ntmps18
      go_wp2_with (at_builtin; go_must (refine wpList_append_at_ _ rfl _ _ 48 rfl 23 (.agg #[.int .i64 0, .int .i64 0, .int .i64 0, .int .i64 0]) 4 32 Try.underlying48 prop_info rfl (by decide) w.heap.size (.slice none 0 0) 0 [] rfl (World.ownsRow_nil _ _ _ _) ⟨w.heap.size + 1, 0, none⟩ 1 1 [.int .i64 p1, .int .i64 p2, .int .i64 p3, .int .i64 p4] rfl rfl (fun j u h => by simpa using cells_new (w.alloc (.cells #[.int .i64 3, .int .i64 p1, .int .i64 p2, .int .i64 p3, .int .i64 p4, .slice a kids.length cap] 26)) [.int .i64 p1, .int .i64 p2, .int .i64 p3, .int .i64 p4] 23 j u h) (by simp [Value.oneCell']) (by unfold maxLen; omega) (by omega) (by simp; omega) ?_); intro ya yc w1 hown1 hyc1 hyc2 hS1 hloc1 _; have hB1 : Below w.heap.size w w1 := (((Below.refl _ _).alloc (Nat.le_refl _) _).alloc (by simp) _).trans (hS1.below (by simp; omega) (fun k hk => by simp [Value.ownBlock] at hk)); have hxb : w1.heap[w.heap.size]? = some (.cells #[.int .i64 3, .int .i64 p1, .int .i64 p2, .int .i64 p3, .int .i64 p4, .slice a kids.length cap] 26 (0, 0)) := ((hS1.block w.heap.size (by simp; omega) (fun hk => by simp [Value.ownBlock] at hk)).trans (Below.heap_alloc _ _ _ (by simp))).trans (heap_alloc_new w _); have HXB := Lib.hid hxb; clear hxb)
      go_loopg [3, 4] kids.length (fun g s2 s18 wr => ∃ (i : Nat) (out : List PropD) (oa : Option Addr) (oc : Nat), i ≤ kids.length ∧ Hid (g = kids.length - i) ∧ s18 = .int .i64 i ∧ s2 = .slice oa out.length oc ∧
        wr.ownsRow w.heap.size 23 4 (.slice oa out.length oc) out.length (out.flatMap PropD.cells) ∧ Below w.heap.size w wr ∧ wr.heap[w.heap.size]? = some (.cells #[.int .i64 3, .int .i64 p1, .int .i64 p2, .int .i64 p3, .int .i64 p4, .slice a kids.length cap] 26 (0, 0)) ∧ Hid (out = propsL (kids.take i) out0))
      case atStart => exact ⟨0, [⟨p1, p2, p3, p4⟩], ya, yc, Nat.zero_le _, rfl, rfl, rfl, by simpa [PropD.cells] using hown1, hB1, HXB.out, by simp [Hid, HO.out, propsL]⟩
      case round =>
        obtain ⟨i, out, oa, oc, hi, HG, rfl, rfl, hown, hB, hxb, HP⟩ := hrel
        obtain ⟨wo, rfl⟩ : ∃ wo : World, wo = wr := ⟨_, rfl⟩
        have hz := hB.size
        have hx5 : wo.cell? ⟨w.heap.size, 5, none⟩ = some (.slice a kids.length cap) := cell_of_block hxb 5
        by_cases hlt : i < kids.length
        · obtain ⟨b, off, kv, rfl, hb, hcell, hf⟩ := hk i hlt
          obtain ⟨g, hg⟩ : ∃ g, g = kids.getD i default := ⟨_, rfl⟩
          rw [← hg] at hcell hf
          obtain ⟨ga, gc, rfl, hgl⟩ := hf.slice
          have hgs : g.size ≤ 999999 := by rw [hg]; have := size_kid kids i hlt; omega
          have hol : out.length + g.size ≤ 1000000 := by rw [HP.out, hg]; have := propsL_len (kids.take i) out0; have := sizeL_take_succ kids i hlt; have := sizeL_take kids (i + 1); omega
          have HQ := Lib.hid hg
          have hrec := ih wo g _ (hf.below hB) (by omega)
          clear hg hk ih hf
          obtain ⟨gk', ⟨q1, q2, q3, q4⟩, gl⟩ := g
          simp only [Form.kids] at hgl
          simp only [formV, Form.kind, Form.prop, Form.kids] at hrec
          have HREC := Lib.hid hrec
          clear hrec
          have hy0 := (hB.cell (p := ⟨b, off + i * 6 + 0, none⟩) hb).trans (hcell 0 (by omega))
          have hy1 := (hB.cell (p := ⟨b, off + i * 6 + 1, none⟩) hb).trans (hcell 1 (by omega))
          have hy2 := (hB.cell (p := ⟨b, off + i * 6 + 2, none⟩) hb).trans (hcell 2 (by omega))
          have hy3 := (hB.cell (p := ⟨b, off + i * 6 + 3, none⟩) hb).trans (hcell 3 (by omega))
          have hy4 := (hB.cell (p := ⟨b, off + i * 6 + 4, none⟩) hb).trans (hcell 4 (by omega))
          have hy5 := (hB.cell (p := ⟨b, off + i * 6 + 5, none⟩) hb).trans (hcell 5 (by omega))
          simp only [formCells, Form.kind, Form.prop, Form.kids, List.getElem?_cons_zero, List.getElem?_cons_succ, Nat.add_zero] at hy0 hy1 hy2 hy3 hy4 hy5
          have HXB := Lib.hid hxb
          clear hcell hxb
          go_wp2_with fail
          refine HREC.out.mono ?_
          obtain ⟨ps, hps⟩ : ∃ ps, ps = Form.props (.mk gk' ⟨q1, q2, q3, q4⟩ gl) := ⟨_, rfl⟩
          have hpl : out.length + ps.length ≤ 1000000 := by rw [hps]; have := props_len (.mk gk' ⟨q1, q2, q3, q4⟩ gl); omega
          rw [← hps]
          have HPS := Lib.hid hps
          clear hps HREC
          rintro e w2 ⟨lv, rfl, hlv, hb2⟩
          obtain ⟨la, lc, rfl, hl1, hl2⟩ := row_slice hlv
          unfold maxLen at hl2
          unfold PropsOwn at hlv
          have hown2 := row_below hown hb2
          have hB2 := hB.trans (hb2.mono hz)
          have hsep : ∀ k, (Value.slice oa out.length oc).ownBlock = some k → (Value.slice la ps.length lc).ownBlock ≠ some k := by
            intro k hk hk2
            have h1 := (hown.lt k hk).2
            have h2 := (hlv.lt k hk2).1
            omega
          have HXB2 : Hid (w2.heap[w.heap.size]? = _) := (hb2.block _ (lt_of_block HXB.out)).trans HXB.out
          have HOWN := Lib.hid hown2
          have HB2 := Lib.hid hB2
          clear hy0 hy1 hy2 hy3 hy4 hy5 hb2 hown hB hown2 hB2 hx5
          have HLV := Lib.hid hlv
          have HSEP := Lib.hid hsep
          clear hlv hsep
          go_wp2
          go_loopg [3, 6] ps.length (fun g s2 s25 wx => ∃ (j : Nat) (ou : List PropD) (xa : Option Addr) (xc : Nat), j ≤ ps.length ∧ Hid (g = ps.length - j) ∧ s25 = .int .i64 j ∧ s2 = .slice xa ou.length xc ∧
            wx.ownsRow w.heap.size 23 4 (.slice xa ou.length xc) ou.length (ou.flatMap PropD.cells) ∧ wx.ownsRow w.heap.size 23 4 (.slice la ps.length lc) ps.length (ps.flatMap PropD.cells) ∧
            Hid (∀ k, (Value.slice xa ou.length xc).ownBlock = some k → (Value.slice la ps.length lc).ownBlock ≠ some k ∧ k ≠ w.heap.size) ∧ Below w.heap.size w wx ∧ wx.heap[w.heap.size]? = some (.cells #[.int .i64 3, .int .i64 p1, .int .i64 p2, .int .i64 p3, .int .i64 p4, .slice (some ⟨b, off, none⟩) kids.length cap] 26 (0, 0)) ∧ Hid (ou = (ps.take j).foldl addP out))
          case atStart => exact ⟨0, out, oa, oc, Nat.zero_le _, rfl, rfl, rfl, HOWN.out, row_mono HLV.out hz, fun k hk => ⟨HSEP.out k hk, fun e => row_type HOWN.out hk (e ▸ HXB2.out) (by decide)⟩, HB2.out, HXB2.out, by simp [Hid]⟩
          case round =>
            obtain ⟨j, ou, xa, xc, hj, HG2, rfl, rfl, hxo, hlo, HSEP2, hBx, hxbx, HOU⟩ := hrel
            obtain ⟨wi, rfl⟩ : ∃ wi : World, wi = wr := ⟨_, rfl⟩
            have hzx := hBx.size
            have hoj : ou.length ≤ out.length + j := by rw [HOU.out]; have := addPs_len (ps.take j) out; simp at this; omega
            have HXBX := Lib.hid hxbx
            clear hxbx
            by_cases hjl : j < ps.length
            · obtain ⟨g, lc', he, -, -⟩ := row_some hlo (by omega)
              have hla : la = some ⟨g, 0, none⟩ := (Value.slice.inj he).1
              subst hla
              clear he
              obtain ⟨q, hq⟩ : ∃ q, q = ps.getD j default := ⟨_, rfl⟩
              have hcell := prop_cell hlo rfl j hjl
              rw [← hq] at hcell
              have HQ2 := Lib.hid hq
              clear hq
              obtain ⟨r1, r2, r3, r4⟩ := q
              have hy0 := hcell 0 (by omega)
              have hy1 := hcell 1 (by omega)
              have hy2 := hcell 2 (by omega)
              have hy3 := hcell 3 (by omega)
              simp only [PropD.cells, List.getElem?_cons_zero, List.getElem?_cons_succ, Nat.add_zero] at hy0 hy1 hy2 hy3
              clear hcell
              have HXO := Lib.hid hxo
              have HLO := Lib.hid hlo
              have HBX := Lib.hid hBx
              clear hxo hlo hBx
              obtain ⟨xa2, xc2, hxe, hxl1, hxl2⟩ := row_slice HXO.out
              have hxc : ou.length ≤ 9223372036854775807 := by omega
              clear hxe hxl1 hxl2
              go_wp2
              go_loopg [7, 8] ou.length (fun g s7 s8 wy => (∃ nn, wy = wi.drewN nn) ∧ ∃ (m : Nat) (had : Bool), m ≤ ou.length ∧ Hid (g = ou.length - m) ∧ s8 = .int .i64 m ∧ s7 = .bool had ∧ Hid (had = decide ((⟨r1, r2, r3, r4⟩ : PropD) ∈ ou.take m)))
              case atStart => exact ⟨⟨0, rfl⟩, 0, false, Nat.zero_le _, rfl, rfl, rfl, by simp [Hid]⟩
              case round =>
                obtain ⟨⟨nn, rfl⟩, m, had, hm, HG3, rfl, rfl, HH⟩ := hrel
                by_cases hml : m < ou.length
                · obtain ⟨g2, lc2, he, -, -⟩ := row_some HXO.out (by omega)
                  have hxa : xa = some ⟨g2, 0, none⟩ := (Value.slice.inj he).1
                  subst hxa
                  clear he
                  obtain ⟨q, hq⟩ : ∃ q, q = ou.getD m default := ⟨_, rfl⟩
                  have hcell := prop_cell HXO.out rfl m hml
                  rw [← hq] at hcell
                  have HQ3 := Lib.hid hq
                  clear hq
                  obtain ⟨t1, t2, t3, t4⟩ := q
                  have hu0 := hcell 0 (by omega)
                  have hu1 := hcell 1 (by omega)
                  have hu2 := hcell 2 (by omega)
                  have hu3 := hcell 3 (by omega)
                  simp only [PropD.cells, List.getElem?_cons_zero, List.getElem?_cons_succ, Nat.add_zero] at hu0 hu1 hu2 hu3
                  clear hcell
                  have hmI : (m : Int) < ou.length := by omega
                  have hjI : (j : Int) < ps.length := by omega
                  have hgd := prop_guard
                  obtain ⟨eq, heqd⟩ : ∃ eq, decide ((⟨t1, t2, t3, t4⟩ : PropD) = ⟨r1, r2, r3, r4⟩) = eq := ⟨_, rfl⟩
                  have heq := prop_eq eq heqd
                  have HED := Lib.hid heqd
                  clear heqd
                  cases had
                  · go_wp2
                    go_quiet (fail)
                    go_wp2
                    go_roundg (ou.length - (m + 1))
                    case measure => rw [HG3.out]; omega
                    case rel =>
                      refine ⟨⟨_, rfl⟩, m + 1, eq, by omega, rfl, by go_num, rfl, ?_⟩
                      have h0 : ¬ ((⟨r1, r2, r3, r4⟩ : PropD) ∈ ou.take m) := of_decide_eq_false HH.out.symm
                      rw [Hid, ← HED.out]
                      rw [decide_eq_decide, take_mem_succ ou _ m hml, ← HQ3.out]
                      simp [h0]
                  · clear heq
                    go_wp2
                    go_quiet (fail)
                    go_wp2
                    go_roundg (ou.length - (m + 1))
                    case measure => rw [HG3.out]; omega
                    case rel =>
                      refine ⟨⟨_, rfl⟩, m + 1, true, by omega, rfl, by go_num, rfl, ?_⟩
                      have h0 : ((⟨r1, r2, r3, r4⟩ : PropD) ∈ ou.take m) := of_decide_eq_true HH.out.symm
                      rw [Hid]; symm
                      exact decide_eq_true ((take_mem_succ ou _ m hml).2 (.inl h0))
                · have hme : m = ou.length := by omega
                  subst hme
                  rw [List.take_length] at HH
                  cases had
                  · have hm : ¬ ((⟨r1, r2, r3, r4⟩ : PropD) ∈ ou) := of_decide_eq_false HH.out.symm
                    have HM := Lib.hid hm
                    clear hm
                    clear HH
                    have hxo3 := row_below HXO.out (drewN_below (Below.refl wi.heap.size wi) nn)
                    go_wp2_with (at_builtin; go_must (refine wpList_append_at_ _ rfl _ _ 48 rfl 23 (.agg #[.int .i64 0, .int .i64 0, .int .i64 0, .int .i64 0]) 4 32 Try.underlying48 prop_info rfl (by decide) w.heap.size (.slice xa ou.length xc) ou.length (ou.flatMap PropD.cells) rfl (row_below HXO.out (drewN_below ((Below.refl wi.heap.size wi).alloc (Nat.le_refl _) _) nn)) ⟨wi.heap.size, 0, none⟩ 1 1 [.int .i64 r1, .int .i64 r2, .int .i64 r3, .int .i64 r4] rfl rfl (fun j u h => cells_new wi _ _ j u h) (by simp [Value.oneCell']) (by unfold maxLen; omega) (by omega) (by simp; omega) ?_); intro xa' xc' w4 hown4 hxc1 hxc2 hS4 hloc4 _)
                    go_roundg (ps.length - (j + 1))
                    case measure => rw [HG2.out]; omega
                    case rel =>
                      have hS5 : Since (fun k => (Value.slice xa ou.length xc).ownBlock = some k) wi w4 := (Since.drewN _ nn ((Since.refl _ _).alloc _)).trans hS4 (fun k hk => .inl hk)
                      have hz5 := hS5.size
                      refine ⟨j + 1, ou ++ [⟨r1, r2, r3, r4⟩], xa', xc', by omega, rfl, by go_num, by simp, by simpa [PropD.cells] using hown4, hS5.row HLO.out (fun k hk hx => (HSEP2.out k hx).1 hk), ?_, ?_, ?_, ?_⟩
                      · intro k hk
                        have hk' := hloc4 k (by simpa using hk)
                        rcases hk' with h1 | h1
                        · exact HSEP2.out k h1
                        · simp at h1
                          exact ⟨fun hk2 => by have := (HLO.out.lt k hk2).2; omega, by have := lt_of_block HXBX.out; omega⟩
                      · exact HBX.out.trans (hS5.below hzx (fun k hk => (HXO.out.lt k hk).1))
                      · exact (hS5.block _ (lt_of_block HXBX.out) (fun e => (HSEP2.out _ e).2 rfl)).trans HXBX.out
                      · rw [Hid, foldl_take out ps j hjl, ← HOU.out, ← HQ2.out, addP, if_neg HM.out]
                  · have hm : (⟨r1, r2, r3, r4⟩ : PropD) ∈ ou := of_decide_eq_true HH.out.symm
                    have HM := Lib.hid hm
                    clear hm
                    clear HH
                    go_wp2
                    go_roundg (ps.length - (j + 1))
                    case measure => rw [HG2.out]; omega
                    case rel => exact ⟨j + 1, ou, xa, xc, by omega, rfl, by go_num, rfl, row_below HXO.out (drewN_below (Below.refl wi.heap.size wi) nn), row_below HLO.out (drewN_below (Below.refl wi.heap.size wi) nn), HSEP2.out, drewN_below HBX.out nn, HXBX.out, by rw [Hid, foldl_take out ps j hjl, ← HOU.out, ← HQ2.out, addP, if_pos HM.out]⟩
            · have hje : j = ps.length := by omega
              subst hje
              have HXO := Lib.hid hxo
              have HBX := Lib.hid hBx
              clear hxo hlo hBx
              go_wp2
              go_roundg (kids.length - (i + 1))
              case measure => rw [HG.out]; omega
              case rel =>
                refine ⟨i + 1, ou, xa, xc, by omega, rfl, by go_num, rfl, HXO.out, HBX.out, HXBX.out, ?_⟩
                rw [Hid, propsL_take kids out0 i hlt, ← HP.out, ← HQ.out, ← HPS.out, HOU.out, List.take_length]
        · have hie : i = kids.length := by omega
          subst hie
          clear hk ih hxb
          go_wp2
          go_ret
          refine ⟨_, rfl, ?_, hB⟩
          have : out = Form.props (.mk 3 ⟨p1, p2, p3, p4⟩ kids) := by
            rw [HP.out, List.take_length, HO.out]; simp [Form.props]
          rw [PropsOwn, ← this]; exact hown
    · have hk3 : (k == 3) = false := by simpa using h3
      go_enter Try.func18, Try.ntmps18
      go_wp2
      go_loopg [3, 4] kids.length (fun g s2 s18 wr => ∃ (i : Nat) (out : List PropD) (oa : Option Addr) (oc : Nat), i ≤ kids.length ∧ Hid (g = kids.length - i) ∧ s18 = .int .i64 i ∧ s2 = .slice oa out.length oc ∧
        wr.ownsRow w.heap.size 23 4 (.slice oa out.length oc) out.length (out.flatMap PropD.cells) ∧ Below w.heap.size w wr ∧ wr.heap[w.heap.size]? = some (.cells #[.int .i64 k, .int .i64 p1, .int .i64 p2, .int .i64 p3, .int .i64 p4, .slice a kids.length cap] 26 (0, 0)) ∧ Hid (out = propsL (kids.take i) out0))
      case atStart => exact ⟨0, [], none, 0, Nat.zero_le _, rfl, rfl, rfl, World.ownsRow_nil _ _ _ _, (Below.refl _ _).alloc (Nat.le_refl _) _, heap_alloc_new _ _, by simp [Hid, HO.out, h3, propsL]⟩
      case round =>
        obtain ⟨i, out, oa, oc, hi, HG, rfl, rfl, hown, hB, hxb, HP⟩ := hrel
        obtain ⟨wo, rfl⟩ : ∃ wo : World, wo = wr := ⟨_, rfl⟩
        have hz := hB.size
        have hx5 : wo.cell? ⟨w.heap.size, 5, none⟩ = some (.slice a kids.length cap) := cell_of_block hxb 5
        by_cases hlt : i < kids.length
        · obtain ⟨b, off, kv, rfl, hb, hcell, hf⟩ := hk i hlt
          obtain ⟨g, hg⟩ : ∃ g, g = kids.getD i default := ⟨_, rfl⟩
          rw [← hg] at hcell hf
          obtain ⟨ga, gc, rfl, hgl⟩ := hf.slice
          have hgs : g.size ≤ 999999 := by rw [hg]; have := size_kid kids i hlt; omega
          have hol : out.length + g.size ≤ 1000000 := by rw [HP.out, hg]; have := propsL_len (kids.take i) out0; have := sizeL_take_succ kids i hlt; have := sizeL_take kids (i + 1); omega
          have HQ := Lib.hid hg
          have hrec := ih wo g _ (hf.below hB) (by omega)
          clear hg hk ih hf
          obtain ⟨gk', ⟨q1, q2, q3, q4⟩, gl⟩ := g
          simp only [Form.kids] at hgl
          simp only [formV, Form.kind, Form.prop, Form.kids] at hrec
          have HREC := Lib.hid hrec
          clear hrec
          have hy0 := (hB.cell (p := ⟨b, off + i * 6 + 0, none⟩) hb).trans (hcell 0 (by omega))
          have hy1 := (hB.cell (p := ⟨b, off + i * 6 + 1, none⟩) hb).trans (hcell 1 (by omega))
          have hy2 := (hB.cell (p := ⟨b, off + i * 6 + 2, none⟩) hb).trans (hcell 2 (by omega))
          have hy3 := (hB.cell (p := ⟨b, off + i * 6 + 3, none⟩) hb).trans (hcell 3 (by omega))
          have hy4 := (hB.cell (p := ⟨b, off + i * 6 + 4, none⟩) hb).trans (hcell 4 (by omega))
          have hy5 := (hB.cell (p := ⟨b, off + i * 6 + 5, none⟩) hb).trans (hcell 5 (by omega))
          simp only [formCells, Form.kind, Form.prop, Form.kids, List.getElem?_cons_zero, List.getElem?_cons_succ, Nat.add_zero] at hy0 hy1 hy2 hy3 hy4 hy5
          have HXB := Lib.hid hxb
          clear hcell hxb
          go_wp2_with fail
          refine HREC.out.mono ?_
          obtain ⟨ps, hps⟩ : ∃ ps, ps = Form.props (.mk gk' ⟨q1, q2, q3, q4⟩ gl) := ⟨_, rfl⟩
          have hpl : out.length + ps.length ≤ 1000000 := by rw [hps]; have := props_len (.mk gk' ⟨q1, q2, q3, q4⟩ gl); omega
          rw [← hps]
          have HPS := Lib.hid hps
          clear hps HREC
          rintro e w2 ⟨lv, rfl, hlv, hb2⟩
          obtain ⟨la, lc, rfl, hl1, hl2⟩ := row_slice hlv
          unfold maxLen at hl2
          unfold PropsOwn at hlv
          have hown2 := row_below hown hb2
          have hB2 := hB.trans (hb2.mono hz)
          have hsep : ∀ k, (Value.slice oa out.length oc).ownBlock = some k → (Value.slice la ps.length lc).ownBlock ≠ some k := by
            intro k hk hk2
            have h1 := (hown.lt k hk).2
            have h2 := (hlv.lt k hk2).1
            omega
          have HXB2 : Hid (w2.heap[w.heap.size]? = _) := (hb2.block _ (lt_of_block HXB.out)).trans HXB.out
          have HOWN := Lib.hid hown2
          have HB2 := Lib.hid hB2
          clear hy0 hy1 hy2 hy3 hy4 hy5 hb2 hown hB hown2 hB2 hx5
          have HLV := Lib.hid hlv
          have HSEP := Lib.hid hsep
          clear hlv hsep
          go_wp2
          go_loopg [3, 6] ps.length (fun g s2 s25 wx => ∃ (j : Nat) (ou : List PropD) (xa : Option Addr) (xc : Nat), j ≤ ps.length ∧ Hid (g = ps.length - j) ∧ s25 = .int .i64 j ∧ s2 = .slice xa ou.length xc ∧
            wx.ownsRow w.heap.size 23 4 (.slice xa ou.length xc) ou.length (ou.flatMap PropD.cells) ∧ wx.ownsRow w.heap.size 23 4 (.slice la ps.length lc) ps.length (ps.flatMap PropD.cells) ∧
            Hid (∀ k, (Value.slice xa ou.length xc).ownBlock = some k → (Value.slice la ps.length lc).ownBlock ≠ some k ∧ k ≠ w.heap.size) ∧ Below w.heap.size w wx ∧ wx.heap[w.heap.size]? = some (.cells #[.int .i64 k, .int .i64 p1, .int .i64 p2, .int .i64 p3, .int .i64 p4, .slice (some ⟨b, off, none⟩) kids.length cap] 26 (0, 0)) ∧ Hid (ou = (ps.take j).foldl addP out))
          case atStart => exact ⟨0, out, oa, oc, Nat.zero_le _, rfl, rfl, rfl, HOWN.out, row_mono HLV.out hz, fun k hk => ⟨HSEP.out k hk, fun e => row_type HOWN.out hk (e ▸ HXB2.out) (by decide)⟩, HB2.out, HXB2.out, by simp [Hid]⟩
          case round =>
            obtain ⟨j, ou, xa, xc, hj, HG2, rfl, rfl, hxo, hlo, HSEP2, hBx, hxbx, HOU⟩ := hrel
            obtain ⟨wi, rfl⟩ : ∃ wi : World, wi = wr := ⟨_, rfl⟩
            have hzx := hBx.size
            have hoj : ou.length ≤ out.length + j := by rw [HOU.out]; have := addPs_len (ps.take j) out; simp at this; omega
            have HXBX := Lib.hid hxbx
            clear hxbx
            by_cases hjl : j < ps.length
            · obtain ⟨g, lc', he, -, -⟩ := row_some hlo (by omega)
              have hla : la = some ⟨g, 0, none⟩ := (Value.slice.inj he).1
              subst hla
              clear he
              obtain ⟨q, hq⟩ : ∃ q, q = ps.getD j default := ⟨_, rfl⟩
              have hcell := prop_cell hlo rfl j hjl
              rw [← hq] at hcell
              have HQ2 := Lib.hid hq
              clear hq
              obtain ⟨r1, r2, r3, r4⟩ := q
              have hy0 := hcell 0 (by omega)
              have hy1 := hcell 1 (by omega)
              have hy2 := hcell 2 (by omega)
              have hy3 := hcell 3 (by omega)
              simp only [PropD.cells, List.getElem?_cons_zero, List.getElem?_cons_succ, Nat.add_zero] at hy0 hy1 hy2 hy3
              clear hcell
              have HXO := Lib.hid hxo
              have HLO := Lib.hid hlo
              have HBX := Lib.hid hBx
              clear hxo hlo hBx
              obtain ⟨xa2, xc2, hxe, hxl1, hxl2⟩ := row_slice HXO.out
              have hxc : ou.length ≤ 9223372036854775807 := by omega
              clear hxe hxl1 hxl2
              go_wp2
              go_loopg [7, 8] ou.length (fun g s7 s8 wy => (∃ nn, wy = wi.drewN nn) ∧ ∃ (m : Nat) (had : Bool), m ≤ ou.length ∧ Hid (g = ou.length - m) ∧ s8 = .int .i64 m ∧ s7 = .bool had ∧ Hid (had = decide ((⟨r1, r2, r3, r4⟩ : PropD) ∈ ou.take m)))
              case atStart => exact ⟨⟨0, rfl⟩, 0, false, Nat.zero_le _, rfl, rfl, rfl, by simp [Hid]⟩
              case round =>
                obtain ⟨⟨nn, rfl⟩, m, had, hm, HG3, rfl, rfl, HH⟩ := hrel
                by_cases hml : m < ou.length
                · obtain ⟨g2, lc2, he, -, -⟩ := row_some HXO.out (by omega)
                  have hxa : xa = some ⟨g2, 0, none⟩ := (Value.slice.inj he).1
                  subst hxa
                  clear he
                  obtain ⟨q, hq⟩ : ∃ q, q = ou.getD m default := ⟨_, rfl⟩
                  have hcell := prop_cell HXO.out rfl m hml
                  rw [← hq] at hcell
                  have HQ3 := Lib.hid hq
                  clear hq
                  obtain ⟨t1, t2, t3, t4⟩ := q
                  have hu0 := hcell 0 (by omega)
                  have hu1 := hcell 1 (by omega)
                  have hu2 := hcell 2 (by omega)
                  have hu3 := hcell 3 (by omega)
                  simp only [PropD.cells, List.getElem?_cons_zero, List.getElem?_cons_succ, Nat.add_zero] at hu0 hu1 hu2 hu3
                  clear hcell
                  have hmI : (m : Int) < ou.length := by omega
                  have hjI : (j : Int) < ps.length := by omega
                  have hgd := prop_guard
                  obtain ⟨eq, heqd⟩ : ∃ eq, decide ((⟨t1, t2, t3, t4⟩ : PropD) = ⟨r1, r2, r3, r4⟩) = eq := ⟨_, rfl⟩
                  have heq := prop_eq eq heqd
                  have HED := Lib.hid heqd
                  clear heqd
                  cases had
                  · go_wp2
                    go_quiet (fail)
                    go_wp2
                    go_roundg (ou.length - (m + 1))
                    case measure => rw [HG3.out]; omega
                    case rel =>
                      refine ⟨⟨_, rfl⟩, m + 1, eq, by omega, rfl, by go_num, rfl, ?_⟩
                      have h0 : ¬ ((⟨r1, r2, r3, r4⟩ : PropD) ∈ ou.take m) := of_decide_eq_false HH.out.symm
                      rw [Hid, ← HED.out]
                      rw [decide_eq_decide, take_mem_succ ou _ m hml, ← HQ3.out]
                      simp [h0]
                  · clear heq
                    go_wp2
                    go_quiet (fail)
                    go_wp2
                    go_roundg (ou.length - (m + 1))
                    case measure => rw [HG3.out]; omega
                    case rel =>
                      refine ⟨⟨_, rfl⟩, m + 1, true, by omega, rfl, by go_num, rfl, ?_⟩
                      have h0 : ((⟨r1, r2, r3, r4⟩ : PropD) ∈ ou.take m) := of_decide_eq_true HH.out.symm
                      rw [Hid]; symm
                      exact decide_eq_true ((take_mem_succ ou _ m hml).2 (.inl h0))
                · have hme : m = ou.length := by omega
                  subst hme
                  rw [List.take_length] at HH
                  cases had
                  · have hm : ¬ ((⟨r1, r2, r3, r4⟩ : PropD) ∈ ou) := of_decide_eq_false HH.out.symm
                    have HM := Lib.hid hm
                    clear hm
                    clear HH
                    have hxo3 := row_below HXO.out (drewN_below (Below.refl wi.heap.size wi) nn)
                    go_wp2_with (at_builtin; go_must (refine wpList_append_at_ _ rfl _ _ 48 rfl 23 (.agg #[.int .i64 0, .int .i64 0, .int .i64 0, .int .i64 0]) 4 32 Try.underlying48 prop_info rfl (by decide) w.heap.size (.slice xa ou.length xc) ou.length (ou.flatMap PropD.cells) rfl (row_below HXO.out (drewN_below ((Below.refl wi.heap.size wi).alloc (Nat.le_refl _) _) nn)) ⟨wi.heap.size, 0, none⟩ 1 1 [.int .i64 r1, .int .i64 r2, .int .i64 r3, .int .i64 r4] rfl rfl (fun j u h => cells_new wi _ _ j u h) (by simp [Value.oneCell']) (by unfold maxLen; omega) (by omega) (by simp; omega) ?_); intro xa' xc' w4 hown4 hxc1 hxc2 hS4 hloc4 _)
                    go_roundg (ps.length - (j + 1))
                    case measure => rw [HG2.out]; omega
                    case rel =>
                      have hS5 : Since (fun k => (Value.slice xa ou.length xc).ownBlock = some k) wi w4 := (Since.drewN _ nn ((Since.refl _ _).alloc _)).trans hS4 (fun k hk => .inl hk)
                      have hz5 := hS5.size
                      refine ⟨j + 1, ou ++ [⟨r1, r2, r3, r4⟩], xa', xc', by omega, rfl, by go_num, by simp, by simpa [PropD.cells] using hown4, hS5.row HLO.out (fun k hk hx => (HSEP2.out k hx).1 hk), ?_, ?_, ?_, ?_⟩
                      · intro k hk
                        have hk' := hloc4 k (by simpa using hk)
                        rcases hk' with h1 | h1
                        · exact HSEP2.out k h1
                        · simp at h1
                          exact ⟨fun hk2 => by have := (HLO.out.lt k hk2).2; omega, by have := lt_of_block HXBX.out; omega⟩
                      · exact HBX.out.trans (hS5.below hzx (fun k hk => (HXO.out.lt k hk).1))
                      · exact (hS5.block _ (lt_of_block HXBX.out) (fun e => (HSEP2.out _ e).2 rfl)).trans HXBX.out
                      · rw [Hid, foldl_take out ps j hjl, ← HOU.out, ← HQ2.out, addP, if_neg HM.out]
                  · have hm : (⟨r1, r2, r3, r4⟩ : PropD) ∈ ou := of_decide_eq_true HH.out.symm
                    have HM := Lib.hid hm
                    clear hm
                    clear HH
                    go_wp2
                    go_roundg (ps.length - (j + 1))
                    case measure => rw [HG2.out]; omega
                    case rel => exact ⟨j + 1, ou, xa, xc, by omega, rfl, by go_num, rfl, row_below HXO.out (drewN_below (Below.refl wi.heap.size wi) nn), row_below HLO.out (drewN_below (Below.refl wi.heap.size wi) nn), HSEP2.out, drewN_below HBX.out nn, HXBX.out, by rw [Hid, foldl_take out ps j hjl, ← HOU.out, ← HQ2.out, addP, if_pos HM.out]⟩
            · have hje : j = ps.length := by omega
              subst hje
              have HXO := Lib.hid hxo
              have HBX := Lib.hid hBx
              clear hxo hlo hBx
              go_wp2
              go_roundg (kids.length - (i + 1))
              case measure => rw [HG.out]; omega
              case rel =>
                refine ⟨i + 1, ou, xa, xc, by omega, rfl, by go_num, rfl, HXO.out, HBX.out, HXBX.out, ?_⟩
                rw [Hid, propsL_take kids out0 i hlt, ← HP.out, ← HQ.out, ← HPS.out, HOU.out, List.take_length]
        · have hie : i = kids.length := by omega
          subst hie
          clear hk ih hxb
          go_wp2
          go_ret
          refine ⟨_, rfl, ?_, hB⟩
          have : out = Form.props (.mk k ⟨p1, p2, p3, p4⟩ kids) := by
            rw [HP.out, List.take_length, HO.out]; simp [Form.props]
          rw [PropsOwn, ← this]; exact hown
end Go.Proofs.Ytidnpdkibndpkaa
