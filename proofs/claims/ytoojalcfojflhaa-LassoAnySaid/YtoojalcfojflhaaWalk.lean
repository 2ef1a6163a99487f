/- The walker walks through all that is come to from a node: the walk. -/
import Derived.Test.YtoojalcfojflhaaWalkP
namespace Go.Proofs.Ytoojalcfojflhaa
open Go.RowKit

/-- What is so behind a walk. -/
structure Walked (w' : World) (B : Nat) (k : Wk) (succ : Nat → List Nat) (I : Nat → Prop) (o : Nat → Nat) (r : Nat) (s : TS) : Prop where
  at_ : WalkAt w' B k s
  inv : WInv k.N succ I o s
  path : s.path = []
  come : 0 < s.order r
set_option maxRecDepth 100000 in
set_option maxHeartbeats 4000000 in
theorem walk_any (w : World) (B : Nat) (k : Wk) (g : GraphD) (I : Nat → Prop) (o : Nat → Nat) (s0 : TS) (h : WalkAt w B k s0) (hT : WInv k.N g.succ I o s0) (hp : s0.path = []) (r : Nat) (hr : r < k.N) (hI : I r) (hN : k.N = g.edges.length) (hle : k.N ≤ 1000000) (hright : g.right = true)
    (hE : ∀ X, Below B w X → EdgesAt X (.slice k.ea k.N k.ec) g.edges) (hB : B ≤ w.heap.size) :
    Calls Try.prog 35 #[.pointer (some ⟨k.b, 0, none⟩), .int .i64 r] w fun e w' => e = .returned (.tuple #[]) ∧ (∃ s, Walked w' B k g.succ I o r s) ∧ Below B w w' := by
  have HW0 := Lib.hid h
  have HT0 := Lib.hid hT
  have HP0 := Lib.hid hp
  have HE := Lib.hid hE
  have HRIGHT := Lib.hid hright
  have HN := Lib.hid hN
  have HI := Lib.hid hI
  obtain ⟨oa, oc, pa, pc, hv⟩ := h
  have a3 := hv.cells.2.1
  have b1 := hv.orderAt hr
  have hrI : (r : Int) < (k.N : Int) := by omega
  obtain ⟨od, hod⟩ : ∃ od, od = s0.order r := ⟨_, rfl⟩
  rw [← hod] at b1
  have HOD := Lib.hid hod
  clear hT hp hE hright hN hI hv hod
  by_cases hpos : 0 < od
  · have hposI : (0 : Int) < (od : Int) := by omega
    go_enter Try.func35, Try.ntmps35
    go_wp2
    go_step3
    go_wp2_with fail
    (try simp only [Exit.inBlock, Exit.then]); (try rw [Exit.noGoto_ret]); refine bodyPost_ret (results_none rfl _ _ _) rfl ?_
    exact ⟨rfl, ⟨s0, HW0.out, HT0.out, HP0.out, by rw [← HOD.out]; exact hpos⟩, Below.refl _ _⟩
  · obtain rfl : od = 0 := by omega
    have henter := enter_any w B k s0 HW0.out r hr (Nat.le_trans HT0.out.many_le hle) (Nat.le_trans HT0.out.open_le hle) (Nat.le_trans HT0.out.path_le hle) hB
    have HENT := Lib.hid henter
    clear henter hpos
    go_enter Try.func35, Try.ntmps35
    go_wp2
    go_step3
    go_wp2_with fail
    refine HENT.out.mono ?_
    rintro e w1 ⟨rfl, hw1, hb1⟩
    have HW1 := Lib.hid hw1
    have HB1 := Lib.hid hb1
    have HI1 := Lib.hid (HT0.out.begun HP0.out hr HOD.out.symm HI.out)
    have HC1 : Hid (0 < (s0.enter r).order r) := by show 0 < upd s0.order r (s0.many + 1) r; rw [upd_same]; omega
    generalize s0.enter r = s1 at HW1 HI1 HC1
    clear hw1 hb1 HENT HT0 HP0 HOD HW0 a3 b1
    go_wp2_with fail
    go_step3
    go_wp2_with fail
    go_loopg [] (2 * s1.left g.succ k.N + s1.path.length) (fun gg wr => ∃ s : TS, Hid (WInv k.N g.succ I o s) ∧ Hid (WalkAt wr B k s) ∧ Hid (Below B w wr) ∧ Hid (gg = 2 * s.left g.succ k.N + s.path.length) ∧ Hid (0 < s.order r))
    case atStart => exact ⟨s1, HI1.out, HW1.out, HB1.out, rfl, HC1.out⟩
    case round =>
      obtain ⟨s, HT, HW, HBW, HG, HC⟩ := hrel
      clear HI1 HC1 HW1 HB1
      obtain ⟨oa, oc, pa, pc, hv⟩ := HW.out
      have a7 := hv.cells.2.2.2.2.2.1
      rcases List.eq_nil_or_concat s.path with hp | ⟨l, i, hp⟩
      · rw [hp] at a7
        simp only [List.length_nil] at a7
        have HP := Lib.hid hp
        clear hv hp
        go_wp2_with fail
        (try simp only [Exit.inBlock, Exit.then]); (try rw [Exit.noGoto_ret]); (try rw [Exit.noGoto_normal]); first | refine bodyPost_end (results_none rfl _ _ _) rfl ?_ | refine bodyPost_ret (results_none rfl _ _ _) rfl ?_
        exact ⟨rfl, ⟨s, HW.out, HT.out, HP.out, HC.out⟩, HBW.out⟩
      · have hp' : s.path = l ++ [i] := by simpa using hp
        have hlast : s.path.getLast? = some i := by rw [hp']; simp
        have hiN : i < k.N := HT.out.path_lt i (by rw [hp']; simp)
        have hiI : (i : Int) < (k.N : Int) := by omega
        obtain ⟨pg, hpg, hpc1⟩ := hv.pathAt (j := l.length) (x := i) (by rw [hp']; simp)
        subst hpg
        have hlen : s.path.length = l.length + 1 := by rw [hp']; simp
        rw [hlen] at a7
        obtain ⟨ll, hll⟩ : ∃ ll, ll = l.length := ⟨_, rfl⟩
        rw [← hll] at a7 hpc1
        have hllb : ll ≤ 1000000 := by have := HT.out.path_le; omega
        have HLAST := Lib.hid hlast
        have HP := Lib.hid hp'
        have HLEN : Hid (s.path.length = ll + 1) := by rw [Hid, hlen, hll]
        clear hv hp hp' hlast hlen hll
        go_wp2_with fail
        go_region
        have HW2 : Hid (WalkAt wr.drew B k s) := ⟨_, _, _, _, (HW.out.choose_spec.choose_spec.choose_spec.choose_spec).below ((Below.refl _ _).drew)⟩
        have HBW2 : Hid (Below B w wr.drew) := HBW.out.drew
        clear HW HBW a7 hpc1
        generalize World.drew wr = wr1 at HW2 HBW2 ⊢
        go_wp2_with fail
        go_loopg [] ((g.succ i).length - s.next i) (fun gg2 wi => ∃ s' : TS, Hid (WInv k.N g.succ I o s') ∧ Hid (WalkAt wi B k s') ∧ Hid (Below B w wi) ∧ Hid (s'.path = l ++ [i]) ∧ Hid (gg2 = (g.succ i).length - s'.next i) ∧ Hid (s'.left g.succ k.N ≤ s.left g.succ k.N) ∧ Hid (0 < s'.order r))
        case atStart => exact ⟨s, HT.out, HW2.out, HBW2.out, HP.out, rfl, Nat.le_refl _, HC.out⟩
        case round =>
          obtain ⟨s', HT', HW', HBW', HP', HG', HL', HC'⟩ := hrel
          clear HT HW2 HBW2 HC HLAST HLEN
          obtain ⟨wi2, rfl⟩ : ∃ wi2 : World, wi2 = wr := ⟨_, rfl⟩
          obtain ⟨oa, oc, pa, pc, hv⟩ := HW'.out
          have d0 := hv.cells.1
          have d3 := hv.cells.2.1
          have d5 := hv.cells.2.2.2.1
          have d8 := hv.cells.2.2.2.2.2.2.1
          have n1 := hv.nextAt hiN
          have fn : wi2.frozen? ⟨k.nb, i, none⟩ = false := free_of_block hv.next i
          have heg := HE.out wi2 HBW'.out
          obtain ⟨eb, eo, ka, kc, hke, he1, he2⟩ : ∃ eb eo ka kc, k.ea = some ⟨eb, eo, none⟩ ∧ wi2.cell? ⟨eb, eo + i, none⟩ = some (.slice ka (g.edges.getD i []).length kc) ∧ EdgeLAt wi2 (.slice ka (g.edges.getD i []).length kc) (g.edges.getD i []) := by
            obtain ⟨-, b, off, ka, kc, e1, e2, e3, e4⟩ := heg.part i (by rw [← HN.out]; exact hiN)
            exact ⟨b, off, ka, kc, e1, e3, e4⟩
          rw [hke] at d0
          obtain ⟨ln, hln⟩ : ∃ ln, ln = (g.edges.getD i []).length := ⟨_, rfl⟩
          have hsl : (g.succ i).length = ln := by unfold GraphD.succ; rw [List.length_map, hln]
          rw [← hln] at he1 he2
          have hlb : ln ≤ 9223372036854775807 := by obtain ⟨_, _, _, h⟩ := he2.slice; omega
          obtain ⟨nx, hnx⟩ : ∃ nx, nx = s'.next i := ⟨_, rfl⟩
          rw [← hnx] at n1
          have hnle := HT'.out.inv.next_le i
          rw [hsl, ← hnx] at hnle
          have HV := Lib.hid hv
          have HLN := Lib.hid hln
          have HSL := Lib.hid hsl
          have HNXT := Lib.hid hnx
          have HEL := Lib.hid he2
          have HKE := Lib.hid hke
          clear hv heg hke hln hsl hnx he2
          have hlast : s'.path.getLast? = some i := by rw [HP'.out]; simp
          have HLAST := Lib.hid hlast
          clear hlast
          as_aux_lemma =>
            by_cases hnl : nx < ln
            · have hnI : (nx : Int) < (ln : Int) := by omega
              have hhas : g.has i nx := by unfold GraphD.has; rw [← HLN.out]; exact hnl
              obtain ⟨-, qb, qo, rfl, -, q1, -⟩ := HEL.out.part nx (by rw [← HLN.out]; exact hnl)
              obtain ⟨x, hx⟩ : ∃ x, x = g.toOf i nx := ⟨_, rfl⟩
              have hto := GraphD.right_to HRIGHT.out hhas
              rw [hto.2, ← hx] at q1
              have hxN : x < k.N := by rw [HN.out, hx]; exact hto.1
              have hxI : (x : Int) < (k.N : Int) := by omega
              have hget : (g.succ i)[s'.next i]? = some x := by
                rw [← HNXT.out, hx]
                unfold GraphD.succ GraphD.toOf
                unfold GraphD.has at hhas
                rw [List.getElem?_map, List.getD_eq_getElem?_getD (l := g.edges.getD i []), List.getElem?_eq_getElem hhas]; rfl
              have HGET := Lib.hid hget
              clear hget hto hx hhas hnle
              go_wp2_with fail
              go_region
              go_wp2_with fail
              go_region
              go_upto_region 7 with fail
              have hadv : WalkV (wi2.setCell ⟨k.nb, i, none⟩ (.int .i64 ((nx : Int) + 1))).drew.drew B k oa oc pa pc (s'.advance i) := by
                have h5 := HV.out.setNext i (nx + 1)
                rw [show (((nx + 1 : Nat)) : Int) = (nx : Int) + 1 by omega] at h5
                have h6 := h5.below ((Below.refl _ _).drew.drew)
                unfold TS.advance; rw [← HNXT.out]; exact h6
              have hbadv : Below B w (wi2.setCell ⟨k.nb, i, none⟩ (.int .i64 ((nx : Int) + 1))).drew.drew := (HBW'.out.setCell (HV.out.base k.nb (by simp [Wk.own])) _).drew.drew
              clear d0 d3 d5 d8 n1 fn he1 q1 HV HW' HBW' HEL
              generalize World.drew _ = V at hadv hbadv ⊢
              have d3 := hadv.cells.2.1
              have d4 := hadv.cells.2.2.1
              have d5 := hadv.cells.2.2.2.1
              have n1 := hadv.orderAt hxN
              have n2 := hadv.groupAt hxN
              have n3 := hadv.lowAt hiN
              have fl : V.frozen? ⟨k.lb, i, none⟩ = false := free_of_block hadv.low i
              have e1 : (s'.advance i).order = s'.order := rfl
              have e2 : (s'.advance i).group = s'.group := rfl
              have e3 : (s'.advance i).low = s'.low := rfl
              rw [e1] at n1
              rw [e2] at n2
              rw [e3] at n3
              obtain ⟨od, hod⟩ : ∃ od, od = s'.order x := ⟨_, rfl⟩
              obtain ⟨gr, hgr⟩ : ∃ gr, gr = s'.group x := ⟨_, rfl⟩
              obtain ⟨lo, hlo⟩ : ∃ lo, lo = s'.low i := ⟨_, rfl⟩
              rw [← hod] at n1
              rw [← hgr] at n2
              rw [← hlo] at n3
              have HOD := Lib.hid hod
              have HGR := Lib.hid hgr
              have HLO := Lib.hid hlo
              have HA := Lib.hid hadv
              have HBA := Lib.hid hbadv
              have hleft := left_upd (s := s') (succ := g.succ) (i := i) (by rw [← HNXT.out, HSL.out]; exact hnl) k.N hiN
              have HLEFT := Lib.hid hleft
              clear hod hgr hlo hadv hbadv e1 e2 e3 hleft
              as_aux_lemma =>
                by_cases hod0 : od = 0
                · subst hod0
                  have hent := enter_any V B k (s'.advance i) ⟨_, _, _, _, HA.out⟩ x hxN (Nat.le_trans HT'.out.many_le hle) (Nat.le_trans HT'.out.open_le hle) (Nat.le_trans HT'.out.path_le hle) (Nat.le_trans hB HBA.out.size)
                  have HENT := Lib.hid hent
                  have HT3 := Lib.hid (HT'.out.entered HLAST.out HGET.out hxN HOD.out.symm)
                  clear hent n2 n3 fl d4 d5
                  go_wp2_with fail
                  refine HENT.out.mono ?_
                  rintro e w3 ⟨rfl, hw3, hb3⟩
                  have HW3 := Lib.hid hw3
                  have HB3 : Hid (Below B w w3) := HBA.out.trans hb3
                  clear hw3 hb3 HENT n1 d3
                  go_wp2_with fail
                  go_roundg (2 * ((s'.advance i).enter x).left g.succ k.N + ((s'.advance i).enter x).path.length)
                  case measure =>
                    rw [HG.out, left_enter]
                    have h1 := HLEFT.out
                    have h2 := HL'.out
                    have h3 : ((s'.advance i).enter x).path.length = s'.path.length + 1 := by show (s'.path ++ [x]).length = _; simp
                    rw [h3, HP'.out, HP.out]
                    omega
                  case rel =>
                    refine ⟨_, HT3.out, HW3.out, HB3.out, rfl, ?_⟩
                    show 0 < upd s'.order x (s'.many + 1) r
                    unfold upd; split
                    · omega
                    · exact HC'.out
                · have hodI : ¬ (od : Int) = 0 := by omega
                  have hpos : 0 < s'.order x := by rw [← HOD.out]; omega
                  have HPOS := Lib.hid hpos
                  clear hpos
                  by_cases hg0 : gr < 0
                  · have HT3 := Lib.hid (HT'.out.relaxed HLAST.out HGET.out HPOS.out (by rw [← HGR.out]; exact hg0))
                    go_wp2_with fail
                    go_region
                    obtain ⟨mv, hmv⟩ : ∃ mv, mv = min lo od := ⟨_, rfl⟩
                    have hv : (if od < lo then (od : Int) else (lo : Int)) = (mv : Int) := by split <;> omega
                    rw [hv]
                    have h5 : WalkV (V.setCell ⟨k.lb, i, none⟩ (.int .i64 (mv : Int))).drew B k oa oc pa pc ((s'.advance i).relax i x) := by
                      have h6 := (HA.out.setLow i mv).below (w' := (V.setCell ⟨k.lb, i, none⟩ (.int .i64 (mv : Int))).drew) ((Below.refl _ _).drew)
                      rw [hmv, HLO.out, HOD.out] at h6
                      rw [hmv, HLO.out, HOD.out]
                      exact h6
                    have h6 : Below B w (V.setCell ⟨k.lb, i, none⟩ (.int .i64 (mv : Int))).drew := (HBA.out.setCell (HA.out.base k.lb (by simp [Wk.own])) _).drew
                    have H5 := Lib.hid h5
                    have H6 := Lib.hid h6
                    clear h5 h6 hmv hv d3 d4 d5 n1 n2 n3 fl
                    generalize World.drew _ = V2 at H5 H6 ⊢
                    go_wp2_with fail
                    go_roundg (ln - (nx + 1))
                    case measure => rw [HG'.out, HSL.out, ← HNXT.out]; omega
                    case rel => exact ⟨(s'.advance i).relax i x, HT3.out, ⟨_, _, _, _, H5.out⟩, H6.out, HP'.out, by rw [Hid, HSL.out, HNXT.out]; show _ = _ - upd s'.next i (s'.next i + 1) i; rw [upd_same], by rw [Hid, left_relax]; have := HLEFT.out; have := HL'.out; omega, HC'.out⟩
                  · have HT3 := Lib.hid (HT'.out.passed HLAST.out HGET.out HPOS.out (by rw [← HGR.out]; omega))
                    clear n3 fl d4
                    go_wp2_with fail
                    go_roundg (ln - (nx + 1))
                    case measure => rw [HG'.out, HSL.out, ← HNXT.out]; omega
                    case rel => exact ⟨s'.advance i, HT3.out, ⟨_, _, _, _, HA.out⟩, HBA.out, HP'.out, by rw [Hid, HSL.out, HNXT.out]; show _ = _ - upd s'.next i (s'.next i + 1) i; rw [upd_same], Nat.le_trans (by have := HLEFT.out; omega) HL'.out, HC'.out⟩
            · obtain rfl : nx = ln := by omega
              clear hnle hnl
              have hgone := HT'.out.gone HP'.out (by rw [← HNXT.out, HSL.out])
              have HGONE := Lib.hid hgone
              have hmem : i ∈ s'.path := by rw [HP'.out]; simp
              have HLV : Hid (∀ X, WalkAt X B k s' → Calls Try.prog 46 #[.pointer (some ⟨k.b, 0, none⟩), .int .i64 i] X fun e w' => e = .returned (.tuple #[]) ∧ WalkAt w' B k (s'.gone i) ∧ Below B X w') := fun X hX =>
                leave_any X B k s' hX i HLAST.out (HT'.out.inv.sub.subset hmem) HT'.out.path_lt HT'.out.open_lt hle (Nat.le_trans HT'.out.open_le hle) (Nat.le_trans HT'.out.path_le hle)
              clear hgone hmem
              as_aux_lemma =>
                go_wp2_with fail
                go_region
                go_wp2_with fail
                refine (HLV.out _ ⟨_, _, _, _, HV.out.below ((Below.refl _ _).drew)⟩).mono ?_
                rintro e w3 ⟨rfl, hw3, hb3⟩
                have HW3 := Lib.hid hw3
                have HB3 : Hid (Below B w w3) := HBW'.out.drew.trans hb3
                clear hw3 hb3 HLV d0 d3 d5 d8 n1 fn he1
                go_wp2_with fail
                go_roundg (2 * (s'.gone i).left g.succ k.N + (s'.gone i).path.length)
                case measure =>
                  rw [HG.out, left_gone, gone_path, HP'.out, HP.out]
                  have h2 := HL'.out
                  simp; omega
                case rel => exact ⟨_, HGONE.out, HW3.out, HB3.out, rfl, by rw [Hid, gone_order]; exact HC'.out⟩
end Go.Proofs.Ytoojalcfojflhaa
