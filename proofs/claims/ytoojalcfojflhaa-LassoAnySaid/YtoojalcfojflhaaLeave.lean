/- The walker goes back from a node: the walk. -/
import Derived.Test.YtoojalcfojflhaaEnter
namespace Go.Proofs.Ytoojalcfojflhaa
open Go.RowKit

theorem WalkV.openNums {w B k oa oc pa pc s} (h : WalkV w B k oa oc pa pc s) (hl : s.openL.length ≤ 1000000) (hn : ∀ v ∈ s.openL, v < 1000000) : NumsAt w .i64 (.slice oa s.openL.length oc) (s.openL.map fun v : Nat => (v : Int)) := by
  refine ⟨oa, oc, by simp, by simp; omega, ?_, ?_⟩
  · intro x hx
    obtain ⟨v, hv, rfl⟩ := List.mem_map.1 hx
    have := hn v hv
    simp [Lit.wf, IntKind.min, IntKind.max, IntKind.signed, IntKind.bits]
    omega
  · intro j hj
    simp only [List.length_map] at hj
    obtain ⟨g, hg, hc⟩ := h.openAt (List.getElem?_eq_getElem hj)
    subst hg
    refine ⟨g, 0, rfl, World.block_lt_of_cell? w _ hc, ?_⟩
    rw [Nat.zero_add, hc]
    simp [List.getD_eq_getElem?_getD, List.getElem?_eq_getElem hj]
/-- The walker's path is told shorter. -/
theorem WalkV.dropPath {w : World} {B k oa oc pc s} {pa : Option Addr} (h : WalkV w B k oa oc pa pc s) {P : List Nat} {i : Nat} (hP : s.path = P ++ [i]) :
    WalkV (w.setCell ⟨k.b, 7, none⟩ (.slice pa P.length pc)) B k oa oc pa pc { s with path := P } := by
  obtain ⟨n1, n2, n3, n4, -⟩ := h.ne
  obtain ⟨r1, r2⟩ := h.rows (p := ⟨k.b, 7, none⟩) (u := .slice pa P.length pc) (by simp [Wk.own])
  have hs := kept_set (w := w) (p := ⟨k.b, 7, none⟩) (u := .slice pa P.length pc)
  have hpn : s.path.length = P.length + 1 := by rw [hP]; simp
  have hown : ∀ x, (Value.slice pa P.length pc).ownBlock = some x → (Value.slice pa s.path.length pc).ownBlock = some x := fun x hx => by cases pa <;> simp [Value.ownBlock] at hx ⊢; exact hx
  have hpa : pa ≠ none := by
    obtain ⟨g, cap, he, -, -⟩ := row_some h.prow (by omega)
    cases he; simp
  have r3 := row_shorter r2 (m := P.length) (by omega) hpa
  rw [show (natsV s.path).take P.length = natsV P from by rw [hP]; simp [natsV]] at r3
  exact ⟨by rw [set_of_block h.block]; simp, hs _ _ n1.symm h.order, hs _ _ n2.symm h.low, hs _ _ n3.symm h.group, hs _ _ n4.symm h.next, r1, r3, h.nodup, h.base, h.on, fun x hx => h.pn x (hown x hx), fun x hx e => h.op x hx (hown x e)⟩
/-- The walker's open nodes are told shorter. -/
theorem WalkV.dropOpen {w : World} {B k oa oc pc s} {pa : Option Addr} (h : WalkV w B k oa oc pa pc s) {m : Nat} (hm : m ≤ s.openL.length) (hpos : 0 < s.openL.length) :
    WalkV (w.setCell ⟨k.b, 6, none⟩ (.slice oa m oc)) B k oa oc pa pc { s with openL := s.openL.take m } := by
  obtain ⟨n1, n2, n3, n4, -⟩ := h.ne
  obtain ⟨r1, r2⟩ := h.rows (p := ⟨k.b, 6, none⟩) (u := .slice oa m oc) (by simp [Wk.own])
  have hs := kept_set (w := w) (p := ⟨k.b, 6, none⟩) (u := .slice oa m oc)
  have hln : (s.openL.take m).length = m := by rw [List.length_take]; omega
  have hown : ∀ x, (Value.slice oa m oc).ownBlock = some x → (Value.slice oa s.openL.length oc).ownBlock = some x := fun x hx => by cases oa <;> simp [Value.ownBlock] at hx ⊢; exact hx
  have hpa : oa ≠ none := by
    obtain ⟨g, cap, he, -, -⟩ := row_some h.orow hpos
    cases he; simp
  have r3 := row_shorter r1 (m := m) hm hpa
  rw [show (natsV s.openL).take m = natsV (s.openL.take m) from by simp [natsV, List.map_take]] at r3
  refine ⟨by rw [set_of_block h.block]; simp [hln], hs _ _ n1.symm h.order, hs _ _ n2.symm h.low, hs _ _ n3.symm h.group, hs _ _ n4.symm h.next, by rw [hln]; exact r3, r2, h.nodup, h.base, fun x hx => h.on x (hown x (by rw [hln] at hx; exact hx)), h.pn, fun x hx => h.op x (hown x (by rw [hln] at hx; exact hx))⟩
theorem idxOf_first {i : Nat} : ∀ {l : List Nat} {a : Nat} (h1 : a < l.length) (_ : l[a] = i) (_ : ∀ j, j < a → ∀ hj : j < l.length, l[j] ≠ i), l.idxOf i = a
  | [], _, h1, _, _ => by simp at h1
  | x :: l, 0, _, h2, _ => by simp at h2; simp [h2]
  | x :: l, a + 1, h1, h2, h3 => by
    have hx : x ≠ i := h3 0 (by omega) (by simp)
    have := idxOf_first (i := i) (l := l) (a := a) (by simpa using h1) (by simpa using h2) (fun j hj hj' => h3 (j + 1) (by omega) (by simpa using hj'))
    rw [List.idxOf_cons, this, beq_eq_false_iff_ne.2 hx]; rfl
/-- So many of the open nodes from a place on are in the group. -/
def TS.shutTo (s : TS) (i at_ j : Nat) : TS := { s with group := fun v => if v ∈ (s.openL.drop at_).take j then (i : Int) else s.group v }
theorem shutTo_zero (s : TS) (i at_ : Nat) : s.shutTo i at_ 0 = s := by unfold TS.shutTo; simp
theorem shutTo_next {s : TS} {i at_ j x : Nat} (hx : s.openL[at_ + j]? = some x) : { s.shutTo i at_ j with group := upd (s.shutTo i at_ j).group x (i : Int) } = s.shutTo i at_ (j + 1) := by
  have : upd (s.shutTo i at_ j).group x (i : Int) = (s.shutTo i at_ (j + 1)).group := by
    funext v
    unfold TS.shutTo upd
    have hd : (s.openL.drop at_)[j]? = some x := by rw [List.getElem?_drop]; exact hx
    have ht : (s.openL.drop at_).take (j + 1) = (s.openL.drop at_).take j ++ [x] := by rw [List.take_add_one, hd]; rfl
    simp only [ht, List.mem_append, List.mem_singleton]
    by_cases e : v = x
    · simp [e]
    · simp [e]
  unfold TS.shutTo at this ⊢
  simp only [] at this ⊢
  rw [this]
def TS.gone (s : TS) (i : Nat) : TS := if (s.back i).low i < (s.back i).order i then s.back i else (s.back i).shut i
set_option maxRecDepth 100000 in
set_option maxHeartbeats 4000000 in
theorem leave_any (w : World) (B : Nat) (k : Wk) (s : TS) (h : WalkAt w B k s) (i : Nat) (hi : s.path.getLast? = some i) (hio : i ∈ s.openL) (hsub : ∀ v ∈ s.path, v < k.N) (hon : ∀ v ∈ s.openL, v < k.N) (hN : k.N ≤ 1000000) (ho : s.openL.length ≤ 1000000) (hp : s.path.length ≤ 1000000) :
    Calls Try.prog 46 #[.pointer (some ⟨k.b, 0, none⟩), .int .i64 i] w fun e w' => e = .returned (.tuple #[]) ∧ WalkAt w' B k (s.gone i) ∧ Below B w w' := by
  obtain ⟨oa, oc, pa, pc, h⟩ := h
  obtain ⟨P, hP⟩ : ∃ P, s.path = P ++ [i] := List.getLast?_eq_some_iff.1 hi
  obtain ⟨c0, c3, c4, c5, c6, c7, c8, c9⟩ := h.cells
  have f7 : w.frozen? ⟨k.b, 7, none⟩ = false := free_of_block h.block 7
  have hpn : s.path.length = P.length + 1 := by rw [hP]; simp
  obtain ⟨pg, hpg, hpc1, hpc2⟩ : ∃ pg, pa = some ⟨pg, 0, none⟩ ∧ P.length + 1 ≤ pc ∧ pc ≤ 9223372036854775807 := by
    obtain ⟨g, cap, he, h1, h2⟩ := row_some h.prow (by omega)
    cases he
    exact ⟨g, rfl, by omega, by unfold maxLen at h2; omega⟩
  obtain ⟨s1, hs1⟩ : ∃ s1 : TS, s1 = { s with path := P } := ⟨_, rfl⟩
  have h1 := h.dropPath hP
  rw [← hs1] at h1
  have hB1 : Below B w (w.setCell ⟨k.b, 7, none⟩ (.slice pa P.length pc)).drew := ((Below.refl B w).setCell (h.base k.b (by simp [Wk.own])) _).drew
  have h1' : WalkV (w.setCell ⟨k.b, 7, none⟩ (.slice pa P.length pc)).drew B k oa oc pa pc s1 := h1.below ((Below.refl _ _).drew)
  subst hpg
  obtain ⟨pn, hpnn⟩ : ∃ pn, pn = P.length := ⟨_, rfl⟩
  rw [hpn, ← hpnn] at c7
  rw [← hpnn] at hpc1 h1' hB1
  have H := Lib.hid h
  have HP := Lib.hid hP
  have HS1 := Lib.hid hs1
  have HPN := Lib.hid hpnn
  have H1 := Lib.hid h1'
  have HB1 := Lib.hid hB1
  clear h h1 h1' hB1 hP hs1 hpnn hpn c0 c3 c4 c5 c6 c8 c9
  go_enter Try.func46, Try.ntmps46
  go_wp2_with fail
  go_region
  by_cases hpz : pn = 0
  · have hP0 : P = [] := List.eq_nil_of_length_eq_zero (by rw [← HPN.out]; exact hpz)
    have hback : s.back i = s1 := by
      rw [HS1.out]; unfold TS.back; rw [HP.out, hP0]; rfl
    have HBACK := Lib.hid hback
    obtain ⟨s2, rfl⟩ : ∃ s2, s2 = s1 := ⟨_, rfl⟩
    clear hback hP0 c7 f7
    generalize World.drew _ = W2 at H1 HB1 ⊢
    have H2 := H1
    have HB2 := HB1
    clear H1 HB1
    have c7 := H2.out.cells.2.2.2.2.2.1
    have hpth : s2.path.length = pn := by rw [HS1.out, HPN.out]
    rw [hpth] at c7
    subst hpz
    clear hpth
    as_aux_lemma =>
      have a3 := H2.out.cells.2.1
      have a4 := H2.out.cells.2.2.1
      have a5 := H2.out.cells.2.2.2.1
      have a6 := H2.out.cells.2.2.2.2.1
      have hopen : s2.openL = s.openL := by rw [← HBACK.out]; rfl
      have hlen : s2.openL.length = s.openL.length := by rw [hopen]
      have hiN : i < k.N := hon i hio
      have hiJ : (i : Int) < (k.N : Int) := by omega
      have b1 := H2.out.lowAt hiN
      have b2 := H2.out.orderAt hiN
      obtain ⟨lo, hlo⟩ : ∃ lo, lo = s2.low i := ⟨_, rfl⟩
      obtain ⟨od, hod⟩ : ∃ od, od = s2.order i := ⟨_, rfl⟩
      rw [← hlo] at b1
      rw [← hod] at b2
      have HLO := Lib.hid hlo
      have HOD := Lib.hid hod
      have HOPEN := Lib.hid hopen
      obtain ⟨n, hn⟩ : ∃ n, n = s.openL.length := ⟨_, rfl⟩
      rw [hlen, ← hn] at a6
      have hno : n ≤ 1000000 := by rw [hn]; exact ho
      have HNN := Lib.hid hn
      have HHON := Lib.hid hon
      have HHIO := Lib.hid hio
      clear hlo hod hopen hlen hn hon ho hsub hio
      go_wp2_with fail
      go_region
      by_cases hlt : lo < od
      · have hltI : (lo : Int) < (od : Int) := by omega
        have hgone : s.gone i = s2 := by unfold TS.gone; rw [HBACK.out, ← HLO.out, ← HOD.out, if_pos hlt]
        go_wp2_with fail
        (try simp only [Exit.inBlock, Exit.then]); refine bodyPost_ret (results_none rfl _ _ _) rfl ?_
        exact ⟨rfl, by rw [hgone]; exact ⟨_, _, _, _, H2.out.below ((Below.refl _ _).drew)⟩, HB2.out.drew⟩
      · have hltI : ¬ (lo : Int) < (od : Int) := by omega
        have hgone : s.gone i = s2.shut i := by unfold TS.gone; rw [HBACK.out, ← HLO.out, ← HOD.out, if_neg hlt]
        have HGONE := Lib.hid hgone
        clear hgone
        have H3 := Lib.hid (H2.out.below ((Below.refl W2.heap.size W2).drew))
        have HB3 := Lib.hid (HB2.out.drew)
        replace a6 : W2.drew.cell? ⟨k.b, 6, none⟩ = _ := a6
        clear H2 HB2 a3 a4 a5 c7 b1 b2
        generalize World.drew W2 = W3 at H3 HB3 a6 ⊢
        go_wp2_with fail
        have hidx := indexI_any W3 _ _ (H3.out.openNums (by rw [HOPEN.out, ← HNN.out]; exact hno) (fun v hv => by rw [HOPEN.out] at hv; have := HHON.out v hv; omega)) (i : Int)
        rw [HOPEN.out, ← HNN.out] at hidx
        refine hidx.mono ?_
        rintro e W4 ⟨hw4, hres⟩
        obtain rfl : W3 = W4 := hw4
        have hres2 : ∃ at_ : Nat, e = .returned (.int .i64 at_) ∧ at_ = s.openL.idxOf i ∧ at_ < n := by
          rcases hres with ⟨a, h1, h2, h3, h4⟩ | ⟨-, h1⟩
          · simp only [List.length_map] at h1
            have hget : s.openL[a] = i := by
              rw [List.getD_eq_getElem?_getD, List.getElem?_map, List.getElem?_eq_getElem h1] at h3
              simp at h3; omega
            refine ⟨a, h2, ?_, by rw [HNN.out]; exact h1⟩
            symm
            refine idxOf_first h1 hget (fun j hj hj' => ?_)
            have := h4 j hj
            rw [List.getD_eq_getElem?_getD, List.getElem?_map, List.getElem?_eq_getElem hj'] at this
            simp at this; omega
          · exfalso
            obtain ⟨j, hj, hji⟩ := List.getElem_of_mem HHIO.out
            have := h1 j (by simpa using hj)
            rw [List.getD_eq_getElem?_getD, List.getElem?_map, List.getElem?_eq_getElem hj] at this
            simp [hji] at this
        obtain ⟨at_, rfl, hat, hatn⟩ := hres2
        have HAT := Lib.hid hat
        clear hidx hres hat
        obtain ⟨og, hog, hoc1, hoc2⟩ : ∃ og, oa = some ⟨og, 0, none⟩ ∧ n ≤ oc ∧ oc ≤ 9223372036854775807 := by
          have h5 : s2.openL.length = n := by rw [HOPEN.out, ← HNN.out]
          obtain ⟨g, cap, he, h1, h2⟩ := row_some H3.out.orow (by omega)
          cases he
          exact ⟨g, rfl, by omega, by unfold maxLen at h2; omega⟩
        subst hog
        have haI : (at_ : Int) ≤ (n : Int) := by omega
        obtain ⟨m, hm⟩ : ∃ m, m = n - at_ := ⟨_, rfl⟩
        go_wp2_with fail
        go_loopg [89] m (fun gg s89 wr => ∃ j : Nat, j ≤ m ∧ Hid (gg = m - j) ∧ s89 = .int .i64 j ∧ Hid (WalkV wr B k (some ⟨og, 0, none⟩) oc (some ⟨pg, 0, none⟩) pc (s2.shutTo i at_ j)) ∧ Hid (Below B w wr))
        case atStart => exact ⟨0, Nat.zero_le _, rfl, rfl, by rw [shutTo_zero]; exact H3.out, HB3.out⟩
        case round =>
          obtain ⟨j, hj, HG, rfl, HW, HBW⟩ := hrel
          by_cases hjm : j < m
          · have hjt : at_ + j < s.openL.length := by rw [← HNN.out]; omega
            obtain ⟨x, hx⟩ : ∃ x, s.openL[at_ + j]? = some x := ⟨_, List.getElem?_eq_getElem hjt⟩
            have hxN : x < k.N := HHON.out x (List.mem_of_getElem? hx)
            have hxI : (x : Int) < (k.N : Int) := by omega
            obtain ⟨g', hg', hc1⟩ := HW.out.openAt (j := at_ + j) (x := x) (by show s2.openL[at_ + j]? = _; rw [HOPEN.out]; exact hx)
            cases hg'
            have hc2 := HW.out.cells.2.2.2.1
            have hc3 := HW.out.groupAt hxN
            have hc4 : wr.frozen? ⟨k.gb, x, none⟩ = false := free_of_block HW.out.group x
            have hnext := HW.out.setGroup x (i : Int)
            rw [shutTo_next (by rw [HOPEN.out]; exact hx)] at hnext
            have HNX := Lib.hid hnext
            have hjI : (j : Int) < (m : Int) := by omega
            have hmI : (m : Int) = (n : Int) - (at_ : Int) := by omega
            clear hx hjt hnext a6
            go_wp2_with fail
            go_roundg (m - (j + 1))
            case measure => rw [HG.out]; omega
            case rel => exact ⟨j + 1, by omega, rfl, by simp, HNX.out, HBW.out.setCell (HW.out.base k.gb (by simp [Wk.own])) _⟩
          · obtain rfl : j = m := by omega
            have hc1 : wr.cell? ⟨k.b, 6, none⟩ = some (.slice (some ⟨og, 0, none⟩) n oc) := by
              have := HW.out.cells.2.2.2.2.1
              rwa [show (s2.shutTo i at_ j).openL.length = n from by show s2.openL.length = n; rw [HOPEN.out, ← HNN.out]] at this
            have hc2 : wr.frozen? ⟨k.b, 6, none⟩ = false := free_of_block HW.out.block 6
            have hend := HW.out.dropOpen (m := at_) (by show at_ ≤ s2.openL.length; rw [HOPEN.out, ← HNN.out]; omega) (by show 0 < s2.openL.length; rw [HOPEN.out, ← HNN.out]; omega)
            have heq : ({ s2.shutTo i at_ j with openL := (s2.shutTo i at_ j).openL.take at_ } : TS) = s2.shut i := by
              unfold TS.shutTo TS.shut
              rw [HOPEN.out, ← HAT.out]
              have : (s.openL.drop at_).take j = s.openL.drop at_ := List.take_of_length_le (by rw [List.length_drop, ← HNN.out]; omega)
              simp only [this]
            rw [heq, ← HGONE.out] at hend
            have HEND := Lib.hid hend
            clear hend heq
            go_wp2_with fail
            go_end0
            exact ⟨rfl, ⟨_, _, _, _, HEND.out⟩, HBW.out.setCell (HW.out.base k.b (by simp [Wk.own])) _⟩
  · obtain ⟨P', p, hPp⟩ : ∃ P' p, P = P' ++ [p] := by
      rcases List.eq_nil_or_concat P with e | ⟨P', p, e⟩
      · rw [HPN.out, e] at hpz; simp at hpz
      · exact ⟨P', p, by simpa using e⟩
    have hpl : p < k.N := hsub p (by rw [HP.out, hPp]; simp)
    have hpn' : pn = P'.length + 1 := by rw [HPN.out, hPp]; simp
    have hip : i < k.N := hon i hio
    generalize World.drew _ = V at H1 HB1 ⊢
    clear c7 f7
    obtain ⟨c0, c3, c4, c5, c6, c7, c8, c9⟩ := H1.out.cells
    have hpth : s1.path.length = pn := by rw [HS1.out, HPN.out]
    rw [hpth] at c7
    have hpc : V.cell? ⟨pg, P'.length, none⟩ = some (.int .i64 p) := by
      obtain ⟨g, hg, hc⟩ := H1.out.pathAt (j := P'.length) (x := p) (by rw [HS1.out]; show P[P'.length]? = _; rw [hPp]; simp)
      cases hg; exact hc
    have l1 := H1.out.lowAt hpl
    have l2 := H1.out.lowAt hip
    have fl : V.frozen? ⟨k.lb, p, none⟩ = false := free_of_block H1.out.low p
    have hpI : (p : Int) < (k.N : Int) := by omega
    have hiI : (i : Int) < (k.N : Int) := by omega
    obtain ⟨q, hq⟩ : ∃ q, q = P'.length := ⟨_, rfl⟩
    rw [← hq] at hpn' hpc
    clear hq
    subst hpn'
    obtain ⟨lp, hlp⟩ : ∃ lp, lp = s1.low p := ⟨_, rfl⟩
    obtain ⟨li, hli⟩ : ∃ li, li = s1.low i := ⟨_, rfl⟩
    rw [← hlp] at l1
    rw [← hli] at l2
    have HLP := Lib.hid hlp
    have HLI := Lib.hid hli
    clear hlp hli hpth c0 c3 c5 c6 c8 c9
    go_wp2_with fail
    go_region
    go_wp2_with fail
    go_region
    obtain ⟨mv, hmv⟩ : ∃ mv, mv = min lp li := ⟨_, rfl⟩
    obtain ⟨s2, hs2⟩ : ∃ s2 : TS, s2 = { s1 with low := upd s1.low p mv } := ⟨_, rfl⟩
    have hback : s.back i = s2 := by
      rw [hs2, hmv, HLP.out, HLI.out, HS1.out]; unfold TS.back
      have hd : s.path.dropLast = P' ++ [p] := by rw [HP.out, hPp]; simp
      have hg : (P' ++ [p]).getLast? = some p := by simp
      simp only [hd, hg, hPp]
    have hv : (if li < lp then (li : Int) else (lp : Int)) = (mv : Int) := by split <;> omega
    rw [hv]
    have h2 : WalkV (V.setCell ⟨k.lb, p, none⟩ (.int .i64 (mv : Int))).drew.drew B k oa oc (some ⟨pg, 0, none⟩) pc s2 := by
      rw [hs2]; exact (H1.out.setLow p mv).below ((Below.refl _ _).drew.drew)
    have hb2 : Below B w (V.setCell ⟨k.lb, p, none⟩ (.int .i64 (mv : Int))).drew.drew := (HB1.out.setCell (H1.out.base k.lb (by simp [Wk.own])) _).drew.drew
    have HBACK := Lib.hid hback
    have H2 := Lib.hid h2
    have HB2 := Lib.hid hb2
    clear hback h2 hb2 hv hs2 hmv
    clear H1 HB1 c7 c4 hpc l1 l2 fl hPp hpI hiI hip hpl hpz
    generalize World.drew _ = W2 at H2 HB2 ⊢
    have c7 : True := trivial
    as_aux_lemma =>
      have a3 := H2.out.cells.2.1
      have a4 := H2.out.cells.2.2.1
      have a5 := H2.out.cells.2.2.2.1
      have a6 := H2.out.cells.2.2.2.2.1
      have hopen : s2.openL = s.openL := by rw [← HBACK.out]; rfl
      have hlen : s2.openL.length = s.openL.length := by rw [hopen]
      have hiN : i < k.N := hon i hio
      have hiJ : (i : Int) < (k.N : Int) := by omega
      have b1 := H2.out.lowAt hiN
      have b2 := H2.out.orderAt hiN
      obtain ⟨lo, hlo⟩ : ∃ lo, lo = s2.low i := ⟨_, rfl⟩
      obtain ⟨od, hod⟩ : ∃ od, od = s2.order i := ⟨_, rfl⟩
      rw [← hlo] at b1
      rw [← hod] at b2
      have HLO := Lib.hid hlo
      have HOD := Lib.hid hod
      have HOPEN := Lib.hid hopen
      obtain ⟨n, hn⟩ : ∃ n, n = s.openL.length := ⟨_, rfl⟩
      rw [hlen, ← hn] at a6
      have hno : n ≤ 1000000 := by rw [hn]; exact ho
      have HNN := Lib.hid hn
      have HHON := Lib.hid hon
      have HHIO := Lib.hid hio
      clear hlo hod hopen hlen hn hon ho hsub hio
      go_wp2_with fail
      go_region
      by_cases hlt : lo < od
      · have hltI : (lo : Int) < (od : Int) := by omega
        have hgone : s.gone i = s2 := by unfold TS.gone; rw [HBACK.out, ← HLO.out, ← HOD.out, if_pos hlt]
        go_wp2_with fail
        (try simp only [Exit.inBlock, Exit.then]); refine bodyPost_ret (results_none rfl _ _ _) rfl ?_
        exact ⟨rfl, by rw [hgone]; exact ⟨_, _, _, _, H2.out.below ((Below.refl _ _).drew)⟩, HB2.out.drew⟩
      · have hltI : ¬ (lo : Int) < (od : Int) := by omega
        have hgone : s.gone i = s2.shut i := by unfold TS.gone; rw [HBACK.out, ← HLO.out, ← HOD.out, if_neg hlt]
        have HGONE := Lib.hid hgone
        clear hgone
        have H3 := Lib.hid (H2.out.below ((Below.refl W2.heap.size W2).drew))
        have HB3 := Lib.hid (HB2.out.drew)
        replace a6 : W2.drew.cell? ⟨k.b, 6, none⟩ = _ := a6
        clear H2 HB2 a3 a4 a5 c7 b1 b2
        generalize World.drew W2 = W3 at H3 HB3 a6 ⊢
        go_wp2_with fail
        have hidx := indexI_any W3 _ _ (H3.out.openNums (by rw [HOPEN.out, ← HNN.out]; exact hno) (fun v hv => by rw [HOPEN.out] at hv; have := HHON.out v hv; omega)) (i : Int)
        rw [HOPEN.out, ← HNN.out] at hidx
        refine hidx.mono ?_
        rintro e W4 ⟨hw4, hres⟩
        obtain rfl : W3 = W4 := hw4
        have hres2 : ∃ at_ : Nat, e = .returned (.int .i64 at_) ∧ at_ = s.openL.idxOf i ∧ at_ < n := by
          rcases hres with ⟨a, h1, h2, h3, h4⟩ | ⟨-, h1⟩
          · simp only [List.length_map] at h1
            have hget : s.openL[a] = i := by
              rw [List.getD_eq_getElem?_getD, List.getElem?_map, List.getElem?_eq_getElem h1] at h3
              simp at h3; omega
            refine ⟨a, h2, ?_, by rw [HNN.out]; exact h1⟩
            symm
            refine idxOf_first h1 hget (fun j hj hj' => ?_)
            have := h4 j hj
            rw [List.getD_eq_getElem?_getD, List.getElem?_map, List.getElem?_eq_getElem hj'] at this
            simp at this; omega
          · exfalso
            obtain ⟨j, hj, hji⟩ := List.getElem_of_mem HHIO.out
            have := h1 j (by simpa using hj)
            rw [List.getD_eq_getElem?_getD, List.getElem?_map, List.getElem?_eq_getElem hj] at this
            simp [hji] at this
        obtain ⟨at_, rfl, hat, hatn⟩ := hres2
        have HAT := Lib.hid hat
        clear hidx hres hat
        obtain ⟨og, hog, hoc1, hoc2⟩ : ∃ og, oa = some ⟨og, 0, none⟩ ∧ n ≤ oc ∧ oc ≤ 9223372036854775807 := by
          have h5 : s2.openL.length = n := by rw [HOPEN.out, ← HNN.out]
          obtain ⟨g, cap, he, h1, h2⟩ := row_some H3.out.orow (by omega)
          cases he
          exact ⟨g, rfl, by omega, by unfold maxLen at h2; omega⟩
        subst hog
        have haI : (at_ : Int) ≤ (n : Int) := by omega
        obtain ⟨m, hm⟩ : ∃ m, m = n - at_ := ⟨_, rfl⟩
        go_wp2_with fail
        go_loopg [89] m (fun gg s89 wr => ∃ j : Nat, j ≤ m ∧ Hid (gg = m - j) ∧ s89 = .int .i64 j ∧ Hid (WalkV wr B k (some ⟨og, 0, none⟩) oc (some ⟨pg, 0, none⟩) pc (s2.shutTo i at_ j)) ∧ Hid (Below B w wr))
        case atStart => exact ⟨0, Nat.zero_le _, rfl, rfl, by rw [shutTo_zero]; exact H3.out, HB3.out⟩
        case round =>
          obtain ⟨j, hj, HG, rfl, HW, HBW⟩ := hrel
          by_cases hjm : j < m
          · have hjt : at_ + j < s.openL.length := by rw [← HNN.out]; omega
            obtain ⟨x, hx⟩ : ∃ x, s.openL[at_ + j]? = some x := ⟨_, List.getElem?_eq_getElem hjt⟩
            have hxN : x < k.N := HHON.out x (List.mem_of_getElem? hx)
            have hxI : (x : Int) < (k.N : Int) := by omega
            obtain ⟨g', hg', hc1⟩ := HW.out.openAt (j := at_ + j) (x := x) (by show s2.openL[at_ + j]? = _; rw [HOPEN.out]; exact hx)
            cases hg'
            have hc2 := HW.out.cells.2.2.2.1
            have hc3 := HW.out.groupAt hxN
            have hc4 : wr.frozen? ⟨k.gb, x, none⟩ = false := free_of_block HW.out.group x
            have hnext := HW.out.setGroup x (i : Int)
            rw [shutTo_next (by rw [HOPEN.out]; exact hx)] at hnext
            have HNX := Lib.hid hnext
            have hjI : (j : Int) < (m : Int) := by omega
            have hmI : (m : Int) = (n : Int) - (at_ : Int) := by omega
            clear hx hjt hnext a6
            go_wp2_with fail
            go_roundg (m - (j + 1))
            case measure => rw [HG.out]; omega
            case rel => exact ⟨j + 1, by omega, rfl, by simp, HNX.out, HBW.out.setCell (HW.out.base k.gb (by simp [Wk.own])) _⟩
          · obtain rfl : j = m := by omega
            have hc1 : wr.cell? ⟨k.b, 6, none⟩ = some (.slice (some ⟨og, 0, none⟩) n oc) := by
              have := HW.out.cells.2.2.2.2.1
              rwa [show (s2.shutTo i at_ j).openL.length = n from by show s2.openL.length = n; rw [HOPEN.out, ← HNN.out]] at this
            have hc2 : wr.frozen? ⟨k.b, 6, none⟩ = false := free_of_block HW.out.block 6
            have hend := HW.out.dropOpen (m := at_) (by show at_ ≤ s2.openL.length; rw [HOPEN.out, ← HNN.out]; omega) (by show 0 < s2.openL.length; rw [HOPEN.out, ← HNN.out]; omega)
            have heq : ({ s2.shutTo i at_ j with openL := (s2.shutTo i at_ j).openL.take at_ } : TS) = s2.shut i := by
              unfold TS.shutTo TS.shut
              rw [HOPEN.out, ← HAT.out]
              have : (s.openL.drop at_).take j = s.openL.drop at_ := List.take_of_length_le (by rw [List.length_drop, ← HNN.out]; omega)
              simp only [this]
            rw [heq, ← HGONE.out] at hend
            have HEND := Lib.hid hend
            clear hend heq
            go_wp2_with fail
            go_end0
            exact ⟨rfl, ⟨_, _, _, _, HEND.out⟩, HBW.out.setCell (HW.out.base k.b (by simp [Wk.own])) _⟩
end Go.Proofs.Ytoojalcfojflhaa
