/- The marks of a graph's groups: the walk. -/
import Derived.Test.YtoojalcfojflhaaGroups
import Derived.Test.YtoojalcfojflhaaIMap
namespace Go.Proofs.Ytoojalcfojflhaa
open Go.RowKit

/-- An edge within a group. -/
def Inner (g : GraphD) (grp : Nat → Int) (t : Int) (a k : Nat) : Prop := g.has a k ∧ grp a = t ∧ 0 ≤ t ∧ grp (g.toOf a k) = t
/-- What is told of the groups' marks, as far as edges were looked at. -/
def MetTo (g : GraphD) (grp : Nat → Int) (P : Nat → Nat → Prop) (l : List (Int × Value)) : Prop :=
  ∀ t, (mfind l t = none ∧ ∀ a k, P a k → ¬ Inner g grp t a k) ∨ (∃ m, mfind l t = some (.int .i64 m) ∧ (∃ a k, P a k ∧ Inner g grp t a k) ∧ ∀ bit, bitI m bit = true ↔ ∃ a k, P a k ∧ Inner g grp t a k ∧ bitI (g.markOf a k) bit = true)
section
variable {g : GraphD} {grp : Nat → Int} {P P' : Nat → Nat → Prop} {l : List (Int × Value)} {i j : Nat}
theorem MetTo.start : MetTo g grp (fun a _ => a < 0) [] := fun _ => .inl ⟨rfl, fun a _ h => absurd h (Nat.not_lt_zero a)⟩
theorem MetTo.same (h : MetTo g grp P l) (hP : ∀ a k, g.has a k → (P' a k ↔ P a k)) : MetTo g grp P' l := fun t => by
  rcases h t with ⟨h1, h2⟩ | ⟨m, h1, ⟨a, k, h2, h3⟩, h4⟩
  · exact .inl ⟨h1, fun a k hp hi => h2 a k ((hP a k hi.1).1 hp) hi⟩
  · refine .inr ⟨m, h1, ⟨a, k, (hP a k h3.1).2 h2, h3⟩, fun bit => (h4 bit).trans ⟨?_, ?_⟩⟩
    · rintro ⟨a, k, e1, e2, e3⟩; exact ⟨a, k, (hP a k e2.1).2 e1, e2, e3⟩
    · rintro ⟨a, k, e1, e2, e3⟩; exact ⟨a, k, (hP a k e2.1).1 e1, e2, e3⟩
theorem MetTo.skip (h : MetTo g grp P l) (hP : ∀ a k, P' a k ↔ P a k ∨ (a = i ∧ k = j)) (hn : ∀ t, ¬ Inner g grp t i j) : MetTo g grp P' l := fun t => by
  have hP2 : ∀ a k, Inner g grp t a k → (P' a k ↔ P a k) := fun a k hi => by
    rw [hP]
    exact ⟨fun h => h.elim id (fun e => absurd hi (by rw [e.1, e.2]; exact hn t)), .inl⟩
  rcases h t with ⟨h1, h2⟩ | ⟨m, h1, ⟨a, k, h2, h3⟩, h4⟩
  · exact .inl ⟨h1, fun a k hp hi => h2 a k ((hP2 a k hi).1 hp) hi⟩
  · refine .inr ⟨m, h1, ⟨a, k, (hP2 a k h3).2 h2, h3⟩, fun bit => (h4 bit).trans ⟨?_, ?_⟩⟩
    · rintro ⟨a, k, e1, e2, e3⟩; exact ⟨a, k, (hP2 a k e2).2 e1, e2, e3⟩
    · rintro ⟨a, k, e1, e2, e3⟩; exact ⟨a, k, (hP2 a k e2).1 e1, e2, e3⟩
theorem MetTo.old (h : MetTo g grp P l) (t : Int) : ∃ old, (mfind l t).getD (.int .i64 0) = .int .i64 old ∧ ∀ bit, bitI old bit = true ↔ ∃ a k, P a k ∧ Inner g grp t a k ∧ bitI (g.markOf a k) bit = true := by
  rcases h t with ⟨h1, h2⟩ | ⟨m, h1, -, h4⟩
  · refine ⟨0, by rw [h1]; rfl, fun bit => ?_⟩
    rw [bitI_zero]
    exact ⟨(nofun), fun ⟨a, k, e1, e2, _⟩ => absurd e2 (h2 a k e1)⟩
  · exact ⟨m, by rw [h1]; rfl, h4⟩
theorem MetTo.add (h : MetTo g grp P l) (hP : ∀ a k, P' a k ↔ P a k ∨ (a = i ∧ k = j)) {t0 old : Int} (hin : Inner g grp t0 i j) (hold : ∀ bit, bitI old bit = true ↔ ∃ a k, P a k ∧ Inner g grp t0 a k ∧ bitI (g.markOf a k) bit = true) :
    MetTo g grp P' (mput l t0 (.int .i64 (bits .or .i64 old (g.markOf i j)))) := fun t => by
  rw [mfind_mput]
  by_cases e : t0 = t
  · subst e
    rw [if_pos rfl]
    refine .inr ⟨_, rfl, ⟨i, j, (hP i j).2 (.inr ⟨rfl, rfl⟩), hin⟩, fun bit => ?_⟩
    rw [bitI_or, Bool.or_eq_true, hold]
    constructor
    · rintro (⟨a, k, e1, e2, e3⟩ | e3)
      · exact ⟨a, k, (hP a k).2 (.inl e1), e2, e3⟩
      · exact ⟨i, j, (hP i j).2 (.inr ⟨rfl, rfl⟩), hin, e3⟩
    · rintro ⟨a, k, e1, e2, e3⟩
      rcases (hP a k).1 e1 with e1 | ⟨rfl, rfl⟩
      · exact .inl ⟨a, k, e1, e2, e3⟩
      · exact .inr e3
  · rw [if_neg e]
    have hP2 : ∀ a k, Inner g grp t a k → (P' a k ↔ P a k) := fun a k hi => by
      rw [hP]
      refine ⟨fun h => h.elim id (fun e' => absurd ?_ e), .inl⟩
      have h1 := hi.2.1
      rw [e'.1] at h1
      exact hin.2.1.symm.trans h1
    rcases h t with ⟨h1, h2⟩ | ⟨m, h1, ⟨a, k, h2, h3⟩, h4⟩
    · exact .inl ⟨h1, fun a k hp hi => h2 a k ((hP2 a k hi).1 hp) hi⟩
    · refine .inr ⟨m, h1, ⟨a, k, (hP2 a k h3).2 h2, h3⟩, fun bit => (h4 bit).trans ⟨?_, ?_⟩⟩
      · rintro ⟨a, k, e1, e2, e3⟩; exact ⟨a, k, (hP2 a k e2).2 e1, e2, e3⟩
      · rintro ⟨a, k, e1, e2, e3⟩; exact ⟨a, k, (hP2 a k e2).1 e1, e2, e3⟩
end
theorem zero_int_run (P : World) : (zeroValue 3).run Try.prog P = .ok (.int .i64 0) P := by
  obtain ⟨i0, hi, hz0, hz1, hz2⟩ := info_parts int_info
  simp [zeroValue, typeInfo, hi, hz0]
set_option maxRecDepth 100000 in
set_option maxHeartbeats 4000000 in
theorem met_any (w : World) (g : GraphD) (ev iv : Value) (h : GraphAt w g ev iv) (hright : g.right = true) (grp : Nat → Int) (gb : Nat) (hgrp : w.heap[gb]? = some (.cells (intsA g.edges.length grp) 3 (0, 0))) :
    Calls Try.prog 20 #[graphV g ev iv, .slice (some ⟨gb, 0, none⟩) g.edges.length g.edges.length] w fun e w' => ∃ b l, e = .returned (.map (some b)) ∧ MapInts w' b l ∧ w.heap.size ≤ b ∧ Below w.heap.size w w' ∧ MetTo g grp (fun _ _ => True) l := by
  obtain ⟨ea, ec, rfl, hel⟩ := h.edges.slice
  obtain ⟨n, hn⟩ : ∃ n, n = g.edges.length := ⟨_, rfl⟩
  obtain ⟨m, hm⟩ : ∃ m, m = g.marks := ⟨_, rfl⟩
  have HG := Lib.hid h
  unfold graphV
  rw [← hn] at hel hgrp HG ⊢
  rw [← hm]
  have HRIGHT := Lib.hid hright
  have HN := Lib.hid hn
  have HGRP := Lib.hid hgrp
  have HGB := Lib.hid (lt_of_block hgrp)
  have hal := fun o => ((Below.refl w.heap.size w).alloc (Nat.le_refl _) o)
  have HB := Lib.hid (hal (.cells #[.slice ea n ec, iv, .int .i64 m] 25))
  have H1 := Lib.hid (heap_alloc_new w (.cells #[.slice ea n ec, iv, .int .i64 m] 25))
  clear h hright hn hm hgrp hal
  go_enter Try.func20, Try.ntmps20
  go_upto_region 1 with fail
  generalize World.alloc _ _ = W at HB H1 ⊢
  obtain ⟨b0, hb0⟩ : ∃ b0, b0 = w.heap.size := ⟨_, rfl⟩
  rw [← hb0] at H1 ⊢
  have HB0 := Lib.hid hb0
  clear hb0
  have c0 := cell_of_block H1.out 0
  simp only [List.getElem?_toArray, List.getElem?_cons_zero] at c0
  have c0' : (W.alloc (.map #[] 0)).cell? ⟨b0, 0, none⟩ = some (.slice ea n ec) := cells_kept ((Below.refl _ _).alloc (Nat.le_refl _) _) _ _ c0
  have h0 : MapInts (W.alloc (.map #[] 0)) W.heap.size [] := ⟨#[], 0, heap_alloc_new W _, rfl⟩
  have HM0 := Lib.hid h0
  have HBV := Lib.hid (below_then HB.out ((Below.refl _ _).alloc (Nat.le_refl _) (.map #[] 0)))
  have HWB := Lib.hid HB.out.size
  have hmk := fun X => run_makeMap (P := Try.prog) 48 X
  clear h0
  go_wp2_with fail
  clear hmk
  generalize World.alloc W _ = V at c0' HM0 HBV ⊢
  obtain ⟨mb, hmb⟩ : ∃ mb, mb = W.heap.size := ⟨_, rfl⟩
  rw [← hmb] at HM0 ⊢
  have HMB : Hid (w.heap.size ≤ mb) := by rw [hmb]; exact HWB.out
  clear hmb c0 c0'
  go_loopg [14] n (fun gg s14 wr => ∃ i : Nat, i ≤ n ∧ Hid (gg = n - i) ∧ s14 = .int .i64 i ∧ ∃ l, Hid (MapInts wr mb l) ∧ Hid (MetTo g grp (fun a _ => a < i) l) ∧ Hid (Below w.heap.size w wr))
  case atStart => exact ⟨0, Nat.zero_le _, rfl, rfl, [], HM0.out, MetTo.start, HBV.out⟩
  case round =>
    obtain ⟨i, hi, HGG, rfl, l, HML, HMT, HBR⟩ := hrel
    clear HM0 HBV
    by_cases hlt : i < n
    · have hltI : (i : Int) < (n : Int) := by omega
      obtain ⟨-, eb, eo, ka, kc, rfl, -, he0, he2⟩ := HG.out.edges.part i (by rw [← HN.out]; exact hlt)
      obtain ⟨ln, hln⟩ : ∃ ln, ln = (g.edges.getD i []).length := ⟨_, rfl⟩
      rw [← hln] at he0 he2
      have hlb : ln ≤ 9223372036854775807 := by obtain ⟨_, _, _, h⟩ := he2.slice; omega
      have he1 := cells_kept HBR.out _ _ he0
      have HLN := Lib.hid hln
      have HEL := Lib.hid he2
      clear hln he2 he0
      go_wp2_with fail
      clear he1
      go_loopg [21] ln (fun gg2 s21 wr => ∃ j : Nat, j ≤ ln ∧ Hid (gg2 = ln - j) ∧ s21 = .int .i64 j ∧ ∃ l, Hid (MapInts wr mb l) ∧ Hid (MetTo g grp (fun a k => a < i ∨ (a = i ∧ k < j)) l) ∧ Hid (Below w.heap.size w wr))
      case atStart => exact ⟨0, Nat.zero_le _, rfl, rfl, l, HML.out, HMT.out.same (fun a k _ => by simp), HBR.out⟩
      case round =>
        obtain ⟨j, hj, HG2, rfl, l2, HML2, HMT2, HBR2⟩ := hrel
        clear HML HMT HBR
        by_cases hjl : j < ln
        · have hjI : (j : Int) < (ln : Int) := by omega
          have hhas : g.has i j := by unfold GraphD.has; rw [← HLN.out]; exact hjl
          obtain ⟨-, qb, qo, rfl, -, q1, q2⟩ := HEL.out.part j (by rw [← HLN.out]; exact hjl)
          have hto := GraphD.right_to HRIGHT.out hhas
          obtain ⟨x, hx⟩ : ∃ x, x = g.toOf i j := ⟨_, rfl⟩
          obtain ⟨mk, hmk⟩ : ∃ mk, mk = g.markOf i j := ⟨_, rfl⟩
          rw [hto.2, ← hx] at q1
          rw [show ((g.edges.getD i []).getD j default).marks = mk from hmk.symm] at q2
          replace q1 := cells_kept HBR2.out _ _ q1
          replace q2 := cells_kept HBR2.out _ _ q2
          have hxN : x < n := by rw [HN.out, hx]; exact hto.1
          have hxI : (x : Int) < (n : Int) := by omega
          have HX := Lib.hid hx
          have HMK := Lib.hid hmk
          have HHAS := Lib.hid hhas
          have hal := (Below.refl wr.heap.size wr).alloc (Nat.le_refl _) (.cells #[.int .i64 x, .int .i64 mk] 37)
          have hnw := heap_alloc_new wr (.cells #[.int .i64 x, .int .i64 mk] 37)
          have hm3 := HML2.out.below hal
          have hb3 := below_then HBR2.out hal
          have HM3 := Lib.hid hm3
          have HB3 := Lib.hid hb3
          have HNW := Lib.hid hnw
          clear hx hmk hhas hto hal hnw hm3 hb3
          go_upto_region 8 with fail
          generalize World.alloc wr _ = V at HM3 HB3 HNW ⊢
          clear HML2 HBR2 q1 q2
          obtain ⟨e9, he9⟩ : ∃ e9, e9 = wr.heap.size := ⟨_, rfl⟩
          rw [← he9] at HNW ⊢
          clear he9
          have r0 := cell_of_block HNW.out 0
          have r1 := cell_of_block HNW.out 1
          simp only [List.getElem?_toArray, List.getElem?_cons_zero, List.getElem?_cons_succ] at r0 r1
          have hgv : V.heap[gb]? = some (.cells (intsA n grp) 3 (0, 0)) := (HB3.out.block gb HGB.out).trans HGRP.out
          have g1 : V.cell? ⟨gb, i, none⟩ = some (.int .i64 (grp i)) := by rw [cell_of_block hgv, intsA_get hlt]
          have g2 : V.cell? ⟨gb, x, none⟩ = some (.int .i64 (grp x)) := by rw [cell_of_block hgv, intsA_get hxN]
          obtain ⟨gi, hgi⟩ : ∃ gi, gi = grp i := ⟨_, rfl⟩
          obtain ⟨gx, hgx⟩ : ∃ gx, gx = grp x := ⟨_, rfl⟩
          rw [← hgi] at g1
          rw [← hgx] at g2
          have HGI := Lib.hid hgi
          have HGX := Lib.hid hgx
          clear hgv hgi hgx
          have hpp : ∀ a k : Nat, (a < i ∨ (a = i ∧ k < j + 1)) ↔ (a < i ∨ (a = i ∧ k < j)) ∨ (a = i ∧ k = j) := fun a k => by omega
          have HPP := Lib.hid hpp
          clear hpp
          by_cases hg0 : gi < 0
          · have hskip := HMT2.out.skip (P' := fun a k => a < i ∨ (a = i ∧ k < j + 1)) HPP.out (fun t hin => by have := hin.2.1; have := hin.2.2.1; have := HGI.out; omega)
            have HSK := Lib.hid hskip
            have hd0 : decide (0 ≤ gi) = false := by simp; omega
            clear hskip
            go_quiet (fail)
            go_wp2_with fail
            go_roundg (ln - (j + 1))
            case measure => rw [HG2.out]; omega
            case rel => exact ⟨j + 1, by omega, rfl, by simp, l2, HM3.out.below (drewN_below (Below.refl _ _) _), HSK.out, drewN_below HB3.out _⟩
          · by_cases hgg : gx = gi
            · have hin : Inner g grp gi i j := ⟨HHAS.out, HGI.out.symm, by omega, by rw [← HX.out, ← HGX.out]; exact hgg⟩
              obtain ⟨old, ho1, ho2⟩ := HMT2.out.old gi
              have hadd := HMT2.out.add (P' := fun a k => a < i ∨ (a = i ∧ k < j + 1)) HPP.out hin ho2
              rw [← HMK.out] at hadd
              have HADD := Lib.hid hadd
              have HO1 := Lib.hid ho1
              have hd0 : decide (0 ≤ gi) = true := by simp; omega
              have hgb : ((gx : Int) == gi) = true := by rw [beq_iff_eq]; exact hgg
              clear hin hadd ho1 ho2 hgg
              go_quiet (fail)
              go_upto_region 9 with fail
              have HM9 := Lib.hid (HM3.out.below (drewN_below (Below.refl V.heap.size V) nq))
              have HB9 := Lib.hid (drewN_below HB3.out nq)
              replace g1 : (V.drewN nq).cell? _ = _ := g1
              replace r1 : (V.drewN nq).cell? _ = _ := r1
              replace r0 : (V.drewN nq).cell? _ = _ := r0
              clear HM3 HB3 HNW g2
              generalize World.drewN V nq = V9 at HM9 HB9 g1 r1 r0 ⊢
              have hm9 := HM9.out.below ((Below.refl V9.heap.size V9).drew)
              have hlk : (Instr.lookup 48 (.map (some mb)) (.int .i64 gi) false).run Try.prog V9.drew = .ok (.int .i64 old) V9.drew := by
                rw [run_lookup_ints hm9 Try.underlying48 Try.underlying3 (zero_int_run V9.drew) gi false, HO1.out]; rfl
              obtain ⟨W2, hup, hm2, hs2, hz2⟩ := run_update_ints (P := Try.prog) hm9 Try.underlying48 Try.underlying3 gi (.int .i64 (bits .or .i64 old mk))
              have HM2 := Lib.hid hm2
              have HS2 : Hid (Below w.heap.size w W2) := HB9.out.drew.trans (hs2.below (Nat.le_trans HB9.out.size (Nat.le_refl _)) (fun k hk => by rw [hk]; exact HMB.out))
              clear hm2 hs2 hz2 hm9
              go_region
              clear hlk hup
              go_wp2_with fail
              go_roundg (ln - (j + 1))
              case measure => rw [HG2.out]; omega
              case rel => exact ⟨j + 1, by omega, rfl, by simp, _, HM2.out, HADD.out, HS2.out⟩
            · have hskip := HMT2.out.skip (P' := fun a k => a < i ∨ (a = i ∧ k < j + 1)) HPP.out (fun t hin => by have h1 := hin.2.1; have h2 := hin.2.2.2; rw [← HX.out] at h2; have := HGI.out; have := HGX.out; omega)
              have HSK := Lib.hid hskip
              have hd0 : decide (0 ≤ gi) = true := by simp; omega
              have hgb : ((gx : Int) == gi) = false := by rw [beq_eq_false_iff_ne]; exact hgg
              clear hskip hgg
              go_quiet (fail)
              go_wp2_with fail
              go_roundg (ln - (j + 1))
              case measure => rw [HG2.out]; omega
              case rel => exact ⟨j + 1, by omega, rfl, by simp, l2, HM3.out.below (drewN_below (Below.refl _ _) _), HSK.out, drewN_below HB3.out _⟩
        · obtain rfl : j = ln := by omega
          go_wp2_with fail
          go_roundg (n - (i + 1))
          case measure => rw [HGG.out]; omega
          case rel => exact ⟨i + 1, by omega, rfl, by simp, l2, HML2.out, HMT2.out.same (fun a k hk => by
            constructor
            · intro h
              by_cases e : a = i
              · subst e; right; refine ⟨rfl, ?_⟩; unfold GraphD.has at hk; rw [HLN.out]; exact hk
              · left; omega
            · omega), HBR2.out⟩
    · obtain rfl : i = n := by omega
      go_wp2_with fail
      go_ret
      exact ⟨mb, l, rfl, HML.out, HMB.out, HBR.out, HMT.out.same (fun a k hk => by have := g.has_lt hk; have := HN.out; simp; omega)⟩
end Go.Proofs.Ytoojalcfojflhaa
