/- The edges by which one came to a node: the walk. -/
import Derived.Test.YtoojalcfojflhaaStepL
namespace Go.Proofs.Ytoojalcfojflhaa
open Go.RowKit

theorem two_new (w : World) (a b : Value) (t : TypeId) : ∀ j u, [a, b][j]? = some u → (w.alloc (.cells #[a, b] t)).cell? ((⟨w.heap.size, 0, none⟩ : Addr).add j) = some u := by
  intro j u hj
  have h := fun i => cell_of_block (heap_alloc_new w (.cells #[a, b] t)) i
  match j with
  | 0 => simp only [List.getElem?_cons_zero, Option.some.injEq] at hj; subst hj; simp [Addr.add, h 0]
  | 1 => simp only [List.getElem?_cons_succ, List.getElem?_cons_zero, Option.some.injEq] at hj; subst hj; simp [Addr.add, h 1]
  | j + 2 => simp at hj
theorem field_step (W : World) (a b : Value) : (Instr.field 60 (.agg #[a, b]) 0).run Try.prog W = .ok a W := by kernel_rfl
theorem zero_step_run (W : World) : (zeroValue 60).run Try.prog W = .ok (.agg #[.int .i64 0, .int .i64 0]) W := by
  obtain ⟨i0, hi, hz0, hz1, hz2⟩ := info_parts step_info
  simp [zeroValue, typeInfo, hi, hz0]
/-- A map of steps. -/
structure MapSteps (w : World) (b : Nat) (A : Nat → Option (Nat × Nat)) (ml : List (Int × Value)) : Prop where
  at_ : MapInts w b ml
  holds : ∀ x : Nat, mfind ml (x : Int) = (A x).map stepV
theorem MapSteps.below {w w' : World} {b : Nat} {A : Nat → Option (Nat × Nat)} {ml : List (Int × Value)} (h : MapSteps w b A ml) (hb : Below w.heap.size w w') : MapSteps w' b A ml := ⟨h.at_.below hb, h.holds⟩
theorem MapSteps.look {w : World} {b : Nat} {A : Nat → Option (Nat × Nat)} {ml : List (Int × Value)} (h : MapSteps w b A ml) {x : Nat} {p1 p2 : Nat} (hx : A x = some (p1, p2)) :
    (Instr.lookup 84 (.map (some b)) (.int .i64 (x : Int)) false).run Try.prog w = .ok (.agg #[.int .i64 (p1 : Int), .int .i64 (p2 : Int)]) w := by
  rw [run_lookup_ints h.at_ Try.underlying84 Try.underlying3 (zero_step_run w) x false, h.holds, hx]; rfl
theorem StepsRow.below {w w' : World} {B : Nat} {v : Value} {l : List (Nat × Nat)} (h : StepsRow w B v l) (hb : Below w.heap.size w w') : StepsRow w' B v l := row_below h hb
theorem StepsRow.mono {w : World} {B C : Nat} {v : Value} {l : List (Nat × Nat)} (h : StepsRow w B v l) (hC : C ≤ B) : StepsRow w C v l := row_mono h hC
theorem StepsRow.slice {w : World} {B : Nat} {v : Value} {l : List (Nat × Nat)} (h : StepsRow w B v l) : ∃ a cap, v = .slice a l.length cap ∧ l.length ≤ cap ∧ cap ≤ 9223372036854775807 := by
  obtain ⟨a, cap, rfl, h1, h2⟩ := row_slice h
  exact ⟨a, cap, rfl, h1, by unfold maxLen at h2; omega⟩
set_option maxRecDepth 100000 in
set_option maxHeartbeats 4000000 in
theorem back_any (w : World) (mb : Nat) (A : Nat → Option (Nat × Nat)) (ml : List (Int × Value)) (hm : MapSteps w mb A ml) (x y : Nat) (l : List (Nat × Nat)) (hb : Back A x y l) (hl : l.length ≤ 1000000) :
    Calls Try.prog 47 #[.map (some mb), .int .i64 x, .int .i64 y] w fun e w' => ∃ v, e = .returned v ∧ StepsRow w' w.heap.size v l.reverse ∧ Below w.heap.size w w' := by
  have HM := Lib.hid hm
  have HB := Lib.hid hb
  clear hm hb
  go_enter Try.func47, Try.ntmps47
  go_wp2_with fail
  go_loopg [2, 6] l.length (fun gg s2 s6 wr => ∃ (i : Nat) (r rest : List (Nat × Nat)) (oa : Option Addr) (oc : Nat), s2 = .int .i64 i ∧ s6 = .slice oa r.length oc ∧ Hid (StepsRow wr w.heap.size (.slice oa r.length oc) r) ∧ Hid (l = r ++ rest) ∧ Hid (Back A x i rest) ∧ Hid (gg = rest.length) ∧ Hid (Below w.heap.size w wr))
  case atStart => exact ⟨y, [], l, none, 0, rfl, rfl, World.ownsRow_nil _ _ _ _, rfl, HB.out, rfl, Below.refl _ _⟩
  case round =>
    obtain ⟨i, r, rest, oa, oc, rfl, rfl, HR, HLR, HBK, HG, HBR⟩ := hrel
    obtain ⟨n, hn⟩ : ∃ n, n = r.length := ⟨_, rfl⟩
    have hn1 : n ≤ 1000000 := by have h := HLR.out; rw [h] at hl; simp at hl; omega
    have hrow := HR.out
    unfold StepsRow at hrow
    rw [← hn] at hrow ⊢
    have HN := Lib.hid hn
    have HROW := Lib.hid hrow
    clear hrow hn HR
    by_cases he : i = x
    · have hrest : rest = [] := by
        have h := HBK.out
        cases h with
        | here => rfl
        | step hy _ _ => exact absurd he hy
      have hlr : l = r := by have := HLR.out; rw [hrest] at this; simpa using this
      have HL2 := Lib.hid hlr
      subst he
      have hrev := fun X (hX : StepsRow X w.heap.size (.slice oa n oc) l) => reverse_any X w.heap.size (.slice oa n oc) l hX
      have HREV := Lib.hid hrev
      clear hrest hlr hrev
      go_wp2_with fail
      refine (HREV.out _ (by unfold StepsRow; rw [HL2.out, ← HN.out]; exact HROW.out)).mono ?_
      rintro e w2 ⟨rfl, hs2, hb2⟩
      have HS2 := Lib.hid hs2
      have HB2 : Hid (Below w.heap.size w w2) := HBR.out.trans (hb2.below HBR.out.size (fun k hk => (HROW.out.lt k hk).1))
      clear hs2 hb2 HREV
      go_wp2_with fail
      go_ret
      exact ⟨_, rfl, HS2.out, HB2.out⟩
    · have hne : ((i : Int) != (x : Int)) = true := by rw [bne_iff_ne]; omega
      obtain ⟨p1, p2, rest', hA, hr', hbk⟩ : ∃ p1 p2 rest', A i = some (p1, p2) ∧ rest = (p1, p2) :: rest' ∧ Back A x p1 rest' := by
        have h := HBK.out
        cases h with
        | here => exact absurd rfl he
        | step hy ha hr => exact ⟨_, _, _, ha, rfl, hr⟩
      have HLK : Hid (∀ X, Below w.heap.size w X → (Instr.lookup 84 (.map (some mb)) (.int .i64 (i : Int)) false).run Try.prog X = .ok (.agg #[.int .i64 (p1 : Int), .int .i64 (p2 : Int)]) X) := fun X hX => (HM.out.below hX).look hA
      have hlk1 := HLK.out wr HBR.out
      have HRR := Lib.hid hr'
      have HBK2 := Lib.hid hbk
      have hfl := fun X => field_step X (.int .i64 (p1 : Int)) (.int .i64 (p2 : Int))
      clear hA hr' hbk he
      go_wp2_with (at_builtin; go_must (refine wpList_append_at_ _ rfl _ _ 55 rfl 60 (.agg #[.int .i64 0, .int .i64 0]) 2 16 Try.underlying55 step_info rfl (by decide) w.heap.size (.slice oa n oc) n (stepsV r) rfl (HROW.out.alloc _) ⟨wr.heap.size, 0, none⟩ 1 1 [.int .i64 (p1 : Int), .int .i64 (p2 : Int)] rfl rfl (two_new _ _ _ _) (by simp [Value.oneCell']) (by unfold maxLen; omega) (by omega) (by have := HBR.out.size; simp; omega) ?_); intro a' c' w2 e1 e2 e3 e4 e5 e6; have HE1 := Lib.hid e1; have HB2 : Hid (Below w.heap.size w w2) := (HBR.out.alloc HBR.out.size _).trans (e4.below (by have := HBR.out.size; simp; omega) (fun k hk => (HROW.out.lt k hk).1)); have hlk2 := HLK.out w2 HB2.out; clear e1 e2 e3 e4 e5 e6 hlk1)
      have hlen : r.length + 1 = (r ++ [(p1, p2)]).length := by simp
      go_roundg rest'.length
      case measure => rw [HG.out, HRR.out]; simp
      case rel =>
        refine ⟨p1, r ++ [(p1, p2)], rest', a', c', rfl, by rw [← hlen, ← HN.out], ?_, by rw [Hid, HLR.out, HRR.out]; simp, HBK2.out, rfl, HB2.out⟩
        have h1 := HE1.out
        rw [Hid]
        unfold StepsRow
        rw [stepsV_append, ← hlen, ← HN.out]
        exact h1
end Go.Proofs.Ytoojalcfojflhaa
