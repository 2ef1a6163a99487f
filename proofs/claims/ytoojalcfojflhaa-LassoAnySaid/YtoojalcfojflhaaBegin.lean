/- Edges from a node that is initial to a group: the walk. -/
import Derived.Test.YtoojalcfojflhaaSeek
namespace Go.Proofs.Ytoojalcfojflhaa
open Go.RowKit

theorem reach_way {g : GraphD} {a b : Nat} (h : Reach g.succ a b) : ∃ l, Way g (fun _ => true) a l b := by
  induction h with
  | refl a => exact ⟨[], .nil a⟩
  | @step a k b he _ ih =>
    obtain ⟨q, h1, rfl⟩ := g.succ_has he
    obtain ⟨l, hl⟩ := ih
    exact ⟨(a, q) :: l, .cons h1 rfl hl⟩
theorem Way.split {g : GraphD} {may : Nat → Bool} {a b : Nat} {l : List (Nat × Nat)} (h : Way g may a l b) (hl : l ≠ []) : ∃ r y k, l = r ++ [(y, k)] ∧ Way g may a r y ∧ g.has y k ∧ may (g.toOf y k) = true ∧ g.toOf y k = b := by
  induction h with
  | nil a => exact absurd rfl hl
  | @cons a k b l h1 h2 r ih =>
    by_cases he : l = []
    · subst he
      cases r
      exact ⟨[], a, k, rfl, .nil a, h1, h2, rfl⟩
    · obtain ⟨r', y, q, e1, e2, e3, e4, e5⟩ := ih he
      exact ⟨(a, k) :: r', y, q, by rw [e1]; rfl, .cons h1 h2 e2, e3, e4, e5⟩
theorem told_none {g : GraphD} {may : Nat → Bool} {found : Nat → Nat → Bool} {x : Nat} (h : ∀ y r k, Way g may x r y → g.has y k → may (g.toOf y k) = true → found y k = false) {l : List (Nat × Nat)} {b : Nat} (hw : Way g may x l b) (hl : l ≠ []) (hf : ∀ y k, g.toOf y k = b → found y k = true) : False := by
  obtain ⟨r, y, k, -, h1, h2, h3, h4⟩ := hw.split hl
  have := h y r k h1 h2 h3
  rw [hf y k h4] at this; cases this
set_option maxRecDepth 100000 in
set_option maxHeartbeats 4000000 in
theorem begin_any (w : World) (g : GraphD) (hright : g.right = true) (sb : Nat) (ea : Option Addr) (ec : Nat) (iv : Value) (hs : SeekAt w sb g ea ec iv (.func (.func 21) #[] #[])) (grp : Nat → Int) (gb t : Nat) (hgrp : w.heap[gb]? = some (.cells (intsA g.edges.length grp) 3 (0, 0)))
    (hex : ∃ x0 : Nat, (x0 : Int) ∈ g.initial ∧ ∃ y, Reach g.succ x0 y ∧ grp y = (t : Int)) :
    Calls Try.prog 22 #[.pointer (some ⟨sb, 0, none⟩), .slice (some ⟨gb, 0, none⟩) g.edges.length g.edges.length, .int .i64 (t : Int)] w fun e w' => ∃ v l x at_, e = .returned (.tuple #[v, .int .i64 ((at_ : Nat) : Int)]) ∧ StepsRow w' w.heap.size v l ∧ Below w.heap.size w w' ∧
      ((x : Nat) : Int) ∈ g.initial ∧ Way g (fun _ => true) x l at_ ∧ grp at_ = (t : Int) ∧ l.length ≤ g.edges.length := by
  obtain ⟨ia, ic, rfl, hil⟩ := hs.initial.slice
  obtain ⟨N, hN⟩ : ∃ N, N = g.edges.length := ⟨_, rfl⟩
  obtain ⟨q, hq⟩ : ∃ q, q = g.initial.length := ⟨_, rfl⟩
  have hN1 : N ≤ 1000000 := by
    unfold GraphD.right at hright
    simp only [Bool.and_eq_true, decide_eq_true_eq] at hright
    omega
  have HB := Lib.hid (boxes_below w (.cells #[.slice (some ⟨gb, 0, none⟩) N N] 23) (.cells #[.int .i64 (t : Int)] 3))
  have H1 := Lib.hid (boxes_first w (.cells #[.slice (some ⟨gb, 0, none⟩) N N] 23) (.cells #[.int .i64 (t : Int)] 3))
  have H2 := Lib.hid (boxes_second w (.cells #[.slice (some ⟨gb, 0, none⟩) N N] 23) (.cells #[.int .i64 (t : Int)] 3))
  rw [← hN] at hgrp ⊢
  rw [← hq] at hil hs
  have HS := Lib.hid hs
  have HGRP := Lib.hid hgrp
  have HEX := Lib.hid hex
  have HRIGHT := Lib.hid hright
  have HN := Lib.hid hN
  have HQ := Lib.hid hq
  clear hs hgrp hex hright hN hq
  go_enter Try.func22, Try.ntmps22
  go_upto_region 1 with fail
  generalize World.alloc _ _ = W at HB H1 H2 ⊢
  obtain ⟨gx, hgx⟩ : ∃ gx, gx = w.heap.size := ⟨_, rfl⟩
  rw [← hgx] at H1 H2 ⊢
  clear hgx
  have hsk := HS.out.below HB.out
  have hga : GroupAt W N grp gx (gx + 1) gb t := ⟨H1.out, (HB.out.block gb (lt_of_block HGRP.out)).trans HGRP.out, H2.out⟩
  have HSK := Lib.hid hsk
  have HGA := Lib.hid hga
  have c1 := cell_of_block hsk.block 1
  simp only [List.getElem?_toArray, List.getElem?_cons_zero, List.getElem?_cons_succ] at c1
  clear hsk hga
  go_wp2_with fail
  clear c1
  go_loopg [17] q (fun gg s17 wr => ∃ j : Nat, j ≤ q ∧ Hid (gg = q - j) ∧ s17 = .int .i64 j ∧ Hid (Below W.heap.size W wr) ∧ Hid (∀ j', j' < j → ∀ x : Nat, g.initial.getD j' 0 = (x : Int) → grp x ≠ (t : Int) ∧ ∀ y r k, Way g (fun _ => true) x r y → g.has y k → grp (g.toOf y k) ≠ (t : Int)))
  case atStart => exact ⟨0, Nat.zero_le _, rfl, rfl, Below.refl _ _, fun j hj => by omega⟩
  case round =>
    obtain ⟨j, hj, HG, rfl, HBR, HJ⟩ := hrel
    by_cases hlt : j < q
    · have hjI : (j : Int) < (q : Int) := by omega
      have hsr := HSK.out.below HBR.out
      obtain ⟨-, ib, io, rfl, -, hc, -⟩ := hsr.initial.part j (by rw [← HQ.out]; exact hlt)
      obtain ⟨x, hx1, hx2⟩ := GraphD.right_init HRIGHT.out (j := j) (by rw [← HQ.out]; exact hlt)
      rw [hx1] at hc
      have hmem : (x : Int) ∈ g.initial := by
        rw [← hx1, List.getD_eq_getElem?_getD, List.getElem?_eq_getElem (by rw [← HQ.out]; exact hlt)]; exact List.getElem_mem _
      have hgr := HGA.out.below HBR.out
      have d1 := cell_of_block hgr.box 0
      have d2 := cell_of_block hgr.it 0
      rw [← HN.out] at hx2
      have d3 : wr.cell? ⟨gb, x, none⟩ = some (.int .i64 (grp x)) := by rw [cell_of_block hgr.list, intsA_get hx2]
      simp only [List.getElem?_toArray, List.getElem?_cons_zero] at d1 d2
      obtain ⟨gy, hgy⟩ : ∃ gy, gy = grp x := ⟨_, rfl⟩
      rw [← hgy] at d3
      have hxI : (x : Int) < (N : Int) := by omega
      have HSR := Lib.hid hsr
      have HGR := Lib.hid hgr
      have HMEM := Lib.hid hmem
      have HX1 := Lib.hid hx1
      have HGY := Lib.hid hgy
      clear hsr hgr hmem hx1 hgy
      by_cases hge : gy = (t : Int)
      · have hgb : ((gy : Int) == (t : Int)) = true := by simp [hge]
        have HGE : Hid (grp x = (t : Int)) := by rw [Hid, ← HGY.out]; exact hge
        clear hge
        go_wp2_with fail
        go_region
        go_wp2_with fail
        go_ret2
        exact ⟨_, [], x, x, rfl, World.ownsRow_nil _ _ _ _, (below_then HB.out HBR.out).drew, HMEM.out, .nil x, HGE.out, by simp⟩
      · have hgb : ((gy : Int) == (t : Int)) = false := by simp [hge]
        have HGE : Hid (grp x ≠ (t : Int)) := by rw [Hid, ← HGY.out]; exact hge
        clear hge
        go_wp2_with fail
        go_region
        have hway := way_any wr.drew g HRIGHT.out sb ea ec (.slice (some ⟨ib, io, none⟩) q ic) 21 #[] (HSR.out.below ((Below.refl _ _).drew)) (fun _ => true) (fun y k => decide (grp (g.toOf y k) = (t : Int))) 37 #[.pointer (some ⟨gx, 0, none⟩), .pointer (some ⟨gx + 1, 0, none⟩)] (fun _ _ => rfl) (fun _ _ => rfl)
          (fun X hX y hy => find1_any X y)
          (fun X hX y k hk => begin1_any X N grp gx (gx + 1) gb t ((HGR.out.below ((Below.refl _ _).drew)).below hX) _ _ _ (by rw [HN.out]; exact (GraphD.right_to HRIGHT.out hk).1))
          x (by rw [← HN.out]; exact hx2)
        have HWAY := Lib.hid hway
        clear hway d1 d2 d3 hc
        go_wp2_with fail
        refine HWAY.out.mono ?_
        rintro e w3 ⟨v, l, rfl, hr3, hb3, ht3⟩
        have hb4 : Below W.heap.size W w3 := below_then HBR.out.drew hb3
        have hs4 := (HSK.out.below hb4)
        have HB4 := Lib.hid hb4
        have HR3 := Lib.hid (hr3.mono (Nat.le_trans HB.out.size HBR.out.size : w.heap.size ≤ wr.drew.heap.size))
        obtain ⟨oa, oc, rfl, ho1, ho2⟩ := hr3.slice
        rcases ht3 with ⟨hne, hle, i', k', r', hl', hf', hw'⟩ | ⟨rfl, hnone⟩
        · have hk' : g.has i' k' := by
            have hs := hw'.split hne
            obtain ⟨r2, y2, k2, e1, -, e2, -⟩ := hs
            rw [hl'] at e1
            have := List.append_inj' e1 rfl
            simp at this
            obtain ⟨-, rfl, rfl⟩ := this
            exact e2
          have hto := to_any w3 g HRIGHT.out sb ea ec _ _ hs4 w.heap.size _ l HR3.out i' k' r' hl' hk'
          have HTO := Lib.hid hto
          have HW' := Lib.hid hw'
          have HF' : Hid (grp (g.toOf i' k') = (t : Int)) := by rw [Hid]; simpa using hf'
          have HLE := Lib.hid hle
          obtain ⟨ln, hln⟩ : ∃ ln, ln = l.length := ⟨_, rfl⟩
          have hlp : (0 : Int) < (ln : Int) := by have := List.length_pos_iff.2 hne; omega
          rw [← hln] at HTO ho1 ⊢
          have HLN := Lib.hid hln
          clear hr3 hb3 hb4 hs4 hto hw' hf' hle hk' hl' hne hln HWAY
          go_wp2_with fail
          refine HTO.out.mono ?_
          rintro e w5 ⟨rfl, hb5⟩
          have HB5 := Lib.hid hb5
          clear hb5 HTO
          go_wp2_with fail
          go_ret2
          exact ⟨_, l, x, _, rfl, by rw [HLN.out]; exact HR3.out.below HB5.out, below_then (below_then HB.out HB4.out) HB5.out, HMEM.out, HW'.out, HF'.out, by rw [HN.out]; exact HLE.out⟩
        · have HNONE := Lib.hid hnone
          simp only [List.length_nil] at ho1 ⊢
          clear hr3 hb3 hb4 hs4 hnone HWAY
          go_wp2_with fail
          go_roundg (q - (j + 1))
          case measure => rw [HG.out]; omega
          case rel =>
            refine ⟨j + 1, by omega, rfl, by simp, HB4.out, fun j' hj' x' hx' => ?_⟩
            by_cases he : j' = j
            · subst he
              have : x' = x := by have := HX1.out; omega
              subst this
              exact ⟨HGE.out, fun y r k hw hk => by simpa using HNONE.out y r k hw hk (by trivial)⟩
            · exact HJ.out j' (by omega) x' hx'
    · exfalso
      obtain rfl : j = q := by omega
      obtain ⟨x0, h0, y, hr, hy⟩ := HEX.out
      obtain ⟨j', hj', hx0⟩ := List.getElem_of_mem h0
      obtain ⟨h1, h2⟩ := HJ.out j' (by rw [HQ.out]; exact hj') x0 (by rw [List.getD_eq_getElem?_getD, List.getElem?_eq_getElem hj']; exact hx0)
      obtain ⟨l, hl⟩ := reach_way hr
      by_cases he : l = []
      · subst he
        cases hl
        exact h1 hy
      · obtain ⟨r, y2, k2, -, e1, e2, -, e3⟩ := hl.split he
        exact h2 y2 r k2 e1 e2 (by rw [e3]; exact hy)
end Go.Proofs.Ytoojalcfojflhaa
