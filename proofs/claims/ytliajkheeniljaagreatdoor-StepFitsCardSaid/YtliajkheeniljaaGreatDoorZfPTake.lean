/- The oldest store to a variable, and the others: the program's answer: the walk. -/
import Derived.IntWalk
import Derived.Test.YtliajkheeniljaaGreatDoorZfKFuncs
import Derived.Test.YtliajkheeniljaaGreatDoorZfPClone
import Derived.Test.YtliajkheeniljaaGreatDoorZfShort
set_option linter.all false
namespace Go.Proofs.YtliajkheeniljaaGreatDoor
open Go.RowKit
set_option maxRecDepth 100000
set_option maxHeartbeats 16000000
theorem takeTo_no (l : List EntryD) (v : Int) : ∀ k, k ≤ l.length → (∀ j, j < k → (l.getD j default).var ≠ v) → takeTo l v k = (none, l.take k) := by
 intro k
 induction k with
 | zero => intro _ _; simp [takeTo]
 | succ k ih =>
  intro hk h
  unfold takeTo
  rw [ih (by omega) (fun j hj => h j (by omega))]
  have e : decide ((l.getD k default).var = v) = false := decide_eq_false (h k (by omega))
  rw [e]
  simp only [Option.isNone_none, Bool.and_false, Bool.false_eq_true, if_false]
  rw [take_more (by omega) rfl]
theorem takeTo_yes (l : List EntryD) (v : Int) (i : Nat) (hi : i < l.length) (h : ∀ j, j < i → (l.getD j default).var ≠ v) (hv : (l.getD i default).var = v) : ∀ k, i < k → k ≤ l.length → takeTo l v k = (some (l.getD i default), l.take i ++ (l.take k).drop (i + 1)) := by
 intro k hk
 induction k with
 | zero => omega
 | succ k ih =>
  intro hkl
  unfold takeTo
  by_cases he : k = i
  ·subst he
   rw [takeTo_no l v k (by omega) h, decide_eq_true hv]
   simp only [Option.isNone_none, Bool.and_true, if_true]
   rw [List.drop_eq_nil_of_le (by rw [List.length_take]; omega), List.append_nil]
  ·rw [ih (by omega) (by omega)]
   simp only [Option.isNone_some, Bool.false_and, Bool.false_eq_true, if_false]
   rw [take_more (l := l) (i := k) (by omega) rfl, List.drop_append_of_le_length (by rw [List.length_take]; omega), List.append_assoc]
theorem takeB_no (l : List EntryD) (v : Int) (h : ∀ j, j < l.length → (l.getD j default).var ≠ v) : takeB l v = (none, l) := by unfold takeB; rw [takeTo_no l v _ (Nat.le_refl _) h, List.take_length]
theorem takeB_yes (l : List EntryD) (v : Int) (i : Nat) (hi : i < l.length) (h : ∀ j, j < i → (l.getD j default).var ≠ v) (hv : (l.getD i default).var = v) : takeB l v = (some (l.getD i default), l.take i ++ l.drop (i + 1)) := by
 unfold takeB; rw [takeTo_yes l v i hi h hv _ hi (Nat.le_refl _), List.take_length]
theorem wrap_succ (i : Nat) (h : i ≤ 1000000000) : IntKind.i64.wrap ((i : Int) + 1) = (i : Int) + 1 := IntWalk.i64_in _ (by omega)
theorem flatC_take {α : Type} {f : α → List Value} {size : Nat} (hf : ∀ x, (f x).length = size) : ∀ (l : List α) (i : Nat), (flatC f l).take (i * size) = flatC f (l.take i) := by
 intro l
 induction l with
 | nil => intro i; simp [flatC]
 | cons x l ih =>
  intro i
  cases i with
  | zero => simp [flatC]
  | succ i =>
   have e := ih i
   simp only [flatC, List.flatMap_cons, List.take_succ_cons] at e ⊢
   rw [List.take_append, List.take_of_length_le (by rw [hf, Nat.add_mul]; omega), hf, show (i + 1) * size - size = i * size by rw [Nat.add_mul]; omega, e]
theorem flatC_drop {α : Type} {f : α → List Value} {size : Nat} (hf : ∀ x, (f x).length = size) : ∀ (l : List α) (i : Nat), (flatC f l).drop (i * size) = flatC f (l.drop i) := by
 intro l
 induction l with
 | nil => intro i; simp [flatC]
 | cons x l ih =>
  intro i
  cases i with
  | zero => simp [flatC]
  | succ i =>
   have e := ih i
   simp only [flatC, List.flatMap_cons, List.drop_succ_cons] at e ⊢
   rw [List.drop_append, List.drop_of_length_le (by rw [hf, Nat.add_mul]; omega), hf, show (i + 1) * size - size = i * size by rw [Nat.add_mul]; omega, e]
   rfl
theorem ptake1_any (w : World) (x y v : Int) (g : Nat) (hg : w.cell? ⟨g, 0, none⟩ = some (.int .i64 v)) : Calls Tryz.prog 138 #[.agg #[.int .i64 x, .int .i64 y], .pointer (some ⟨g, 0, none⟩)] w fun e w' => e = .returned (.bool (x == v)) ∧ Below w.heap.size w w' := by
 have HA := qh ((Below.refl w.heap.size w).alloc (Nat.le_refl _) (.cells #[.int .i64 x, .int .i64 y] 50))
 have HX := qh (qhn w (.cells #[.int .i64 x, .int .i64 y] 50))
 replace hg := qck HA.out _ _ hg
 go_enter Tryz.func138, Tryz.ntmps138
 go_upto_region 1 with fail
 generalize World.alloc w _ = W at HA HX hg ⊢
 obtain ⟨gi, hgi⟩ : ∃ g, g = w.heap.size := ⟨_, rfl⟩
 rw [← hgi] at HX ⊢
 clear hgi
 have c0 : W.cell? ⟨gi, 0, none⟩ = some (.int .i64 x) := qcb HX.out 0
 go_wp2_with fail
 go_ret
 exact ⟨by first | rfl | simp, HA.out⟩
theorem ptake_any (w : World) (bv : Value) (l : List EntryD) (h : BufAt w bv l) (hl : l.length ≤ 1000000) (v : Int) :
  Calls Tryz.prog 109 #[bv, .int .i64 v] w fun e w' => (∃ sv, e = .returned (.tuple #[((takeB l v).1.getD default).val, sv, .bool (takeB l v).1.isSome]) ∧ BufAt w' sv (takeB l v).2 ∧ ((takeB l v).1.isSome = true → w'.ownsRow w.heap.size 50 2 sv (takeB l v).2.length (flatC EntryD.cells (takeB l v).2))) ∧ Below w.heap.size w w' := by
 obtain ⟨ba, bc, rfl, -⟩ := SliceR.slice h
 have hB := boxes_below w (.cells #[.int .i64 v] 3) (.cells #[.int .i64 0, .int .i64 0] 50)
 have HB := qh hB
 have H1 := qh (boxes_first w (.cells #[.int .i64 v] 3) (.cells #[.int .i64 0, .int .i64 0] 50))
 have H2 := qh (boxes_second w (.cells #[.int .i64 v] 3) (.cells #[.int .i64 0, .int .i64 0] 50))
 have HL := qh h
 obtain ⟨n, hn⟩ : ∃ n, n = l.length := ⟨_, rfl⟩
 have HN := qh hn
 have hix := fun W (hW : Below w.heap.size w W) (hg : W.cell? ⟨w.heap.size, 0, none⟩ = some (.int .i64 v)) => indexEntry_any EntryR EntryR.stays W _ l (BufAt.below h hW) 138 #[] #[.pointer (some ⟨w.heap.size, 0, none⟩)] (fun j => (l.getD j default).var == v) (fun _ _ => rfl)
  (fun j hj W' cs hcl hq hW' => by
   obtain rfl : cs = EntryD.cells _ := hq
   exact ptake1_any W' _ _ v w.heap.size (qck hW' _ _ hg))
 rw [← hn] at hix ⊢
 have HIX := qh hix
 clear h hB hn hix
 go_enter Tryz.func109, Tryz.ntmps109
 go_upto_region 1 with fail
 generalize World.alloc (World.alloc w _) _ = W at HB H1 H2 ⊢
 obtain ⟨gx, hgx⟩ : ∃ gx, gx = w.heap.size := ⟨_, rfl⟩
 rw [← hgx] at H1 H2 HIX ⊢
 have HGX := qh hgx
 clear hgx
 go_wp2_with fail
 have HW : Hid (Below w.heap.size w W) := HB.out
 refine (HIX.out W (by rw [HGX.out]; exact HB.out) (qcb H1.out 0)).mono ?_
 rintro e w2 (⟨i, hi, rfl, hp, hb⟩ | ⟨rfl, hp, hb⟩)
 ·have HB2 : Hid (Below w.heap.size w w2) := HB.out.trans (hb.mono HB.out.size)
  have HG : Hid (w2.heap[gx + 1]? = some (.cells #[.int .i64 0, .int .i64 0] 50)) := (hb.block (gx + 1) (qlb H2.out)).trans H2.out
  have HTK : Hid (takeB l v = (some (l.getD i default), l.take i ++ l.drop (i + 1))) := takeB_yes l v i (by rw [← HN.out]; exact hi) (fun j hj => by have := hp.2 j hj; simpa using this) (by have := hp.1; simpa using this)
  clear hb hp HIX HB H1 H2 HW
  obtain ⟨bb, bo, rfl, hbb, q0, q1⟩ := HL.out.part i (by rw [← HN.out]; exact hi)
  obtain ⟨x0, hx0⟩ : ∃ x, x = (l.getD i default).var := ⟨_, rfl⟩
  obtain ⟨x1, hx1⟩ : ∃ x, x = (l.getD i default).n := ⟨_, rfl⟩
  rw [← hx0] at q0
  rw [← hx1] at q1
  have HV : Hid ((l.getD i default).val = .agg #[.int .i64 x0, .int .i64 x1]) := by rw [hx0, hx1]; rfl
  have CC : Hid (∀ X, Below w.heap.size w X → X.cell? ⟨bb, bo + i * 2, none⟩ = some (.int .i64 x0) ∧ X.cell? ⟨bb, bo + i * 2 + 1, none⟩ = some (.int .i64 x1)) := fun X hX => ⟨qck hX _ _ q0, qck hX _ _ q1⟩
  have HSRC : Hid (∀ X, Below w.heap.size w X → SrcOf X (.slice (some ⟨bb, bo, none⟩) n bc) n 2 (flatC EntryD.cells l)) := fun X hX => by
   have := SrcOf.of_slice (R := EntryR) (by decide) entry_len (fun _ _ _ h => h) (BufAt.below HL.out hX)
   rw [← HN.out] at this; exact this
  have HCUT : Hid ((flatC EntryD.cells l).take (i * 2) ++ (flatC EntryD.cells l).drop (i * 2 + 2) = flatC EntryD.cells (l.take i ++ l.drop (i + 1))) := by
   rw [Hid, flatC_append, flatC_take entry_len, show i * 2 + 2 = (i + 1) * 2 by omega, flatC_drop entry_len]
  have HLEN : Hid ((l.take i ++ l.drop (i + 1)).length = n - 1) := by rw [Hid, List.length_append, List.length_take, List.length_drop, ← HN.out]; omega
  have hiI : (i : Int) < (n : Int) := by omega
  have hn0 : 0 < n := by omega
  have hnl : n ≤ 100000000 := by rw [HN.out]; omega
  have hwr := wrap_succ i (by omega)
  clear q0 q1 hx0 hx1 hbb
  go_upto_region 4 with fail
  refine wp_region_noPanic ?_
  refine wp_region_held_drew (S := fun x => Below w.heap.size w x) (by kernel_rfl) (HB2.out.drew) (fun hH => ?_)
  refine qta 0 15 ?vh1 rfl ?hyh1 ?_
  case hyh1 => (intro x h; have e := CC.out x h; go_simp <;> rfl)
  simp only [Act.put, qz1, qz2, qz3]
  refine qta 1 16 ?vh2 rfl ?hyh2 ?_
  case hyh2 => (intro x h; have e := CC.out x h; go_simp <;> rfl)
  simp only [Act.put, qz1, qz2, qz3]
  refine qta 2 17 ?vh3 rfl ?hyh3 ?_
  case hyh3 => (intro x h; have e := CC.out x h; go_simp <;> rfl)
  simp only [Act.put, qz1, qz2, qz3]
  refine qta 3 18 ?vh4 rfl ?hyh4 ?_
  case hyh4 => (intro x h; have e := CC.out x h; go_simp <;> rfl)
  simp only [Act.put, qz1, qz2, qz3]
  refine qta 4 19 ?vh5 rfl ?hyh5 ?_
  case hyh5 => (intro x h; have e := CC.out x h; go_simp <;> rfl)
  simp only [Act.put, qz1, qz2, qz3]
  refine qta 6 21 ?vh6 rfl ?hyh6 ?_
  case hyh6 => (intro x h; have e := CC.out x h; go_simp <;> rfl)
  simp only [Act.put, qz1, qz2, qz3]
  refine qta 7 22 ?vh7 rfl ?hyh7 ?_
  case hyh7 => (intro x h; have e := CC.out x h; go_simp <;> rfl)
  simp only [Act.put, qz1, qz2, qz3]
  refine qta 8 23 ?vh8 rfl ?hyh8 ?_
  case hyh8 => (intro x h; have e := CC.out x h; go_simp <;> rfl)
  simp only [Act.put, qz1, qz2, qz3]
  refine qrH 5 rfl (fun K hK => ?_)
  go_simp
  refine (cloneEntry_any w2.drew _ n (flatC EntryD.cells l) (HSRC.out w2.drew hH) entry_one hnl).mono ?_
  rintro e hw5 ⟨⟨ca, cc, rfl, hrow⟩, hb⟩
  obtain ⟨cg, cap', hce, hcg, -⟩ := row_some hrow hn0
  cases hce
  have HG5 : Hid (hw5.heap[gx + 1]? = some (.cells #[.int .i64 0, .int .i64 0] 50)) := (hb.block (gx + 1) (qlb (w := w2) HG.out)).trans HG.out
  have HROW5 := qh hrow
  have HCG := qh (show w2.heap.size ≤ cg from (hrow.lt cg rfl).1)
  clear hrow hcg
  have hHh5 : Below w.heap.size w hw5 := qbt hH hb
  refine hK.out _ _ hHh5 (fun _ => ?_)
  clear hK K hb hH
  refine qrH 9 rfl (fun K hK => ?_)
  go_simp
  with_reducible refine (pdelete_any hw5 _ cg n cc i _ HROW5.out entry_one hi hnl).mono ?_
  rintro e hw9 ⟨rfl, hrow, hs⟩
  rw [HCUT.out] at hrow
  have HROW9 := qh hrow
  have HGG := qh (show gx + 1 < w2.heap.size from qlb HG.out)
  have HG9 : Hid (hw9.heap[gx + 1]? = some (.cells #[.int .i64 0, .int .i64 0] 50)) := (hs.block (gx + 1) (qlb HG5.out) (by have := HGG.out; have := HCG.out; omega)).trans HG5.out
  have hb := hs
  clear hrow
  have hHh9 : Below w.heap.size w hw9 := (hHh5).trans (hs.below (hHh5).size (fun k (e : k = cg) => by have := HCG.out; have := HB2.out.size; omega))
  refine hK.out _ _ hHh9 (fun _ => ?_)
  clear hK K hb hHh5
  refine qrH 10 rfl (fun K hK => ?_)
  go_simp
  have d2 : hw9.cell? ⟨gx + 1, 0, none⟩ = some (.int .i64 0) := qcb HG9.out 0
  have d3 : hw9.cell? ⟨gx + 1, 1, none⟩ = some (.int .i64 0) := qcb HG9.out 1
  have f0 : hw9.frozen? ⟨gx + 1, 0, none⟩ = false := qfb HG9.out 0
  have f1 : hw9.frozen? ⟨gx + 1, 1, none⟩ = false := qfb HG9.out 1
  go_simp
  have hHs10 := ((hHh9).setCell (p := ⟨gx + 1, 0, none⟩) (by rw [HGX.out]; simp) (.int .i64 x0)).setCell (p := ⟨gx + 1, 1, none⟩) (by rw [HGX.out]; simp) (.int .i64 x1)
  clear d2 d3 f0 f1
  refine hK.out _ _ hHs10 (fun _ => ?_)
  clear hK K hHh9
  refine qta 11 5 ?vh9 rfl ?hyh9 ?_
  case hyh9 => (intro x h; have e := CC.out x h; go_simp <;> rfl)
  simp only [Act.put, qz1, qz2, qz3]
  refine qta 12 6 ?vh10 rfl ?hyh10 ?_
  case hyh10 => (intro x h; have e := CC.out x h; go_simp <;> rfl)
  simp only [Act.put, qz1, qz2, qz3]
  refine wpAnyH_done (by kernel_rfl) ?_ _
  refine NoPanic.normal ?_
  have hfin := Since.setCell (p := ⟨gx + 1, 1, none⟩) (Since.setCell (F := fun k => k = gx + 1) (p := ⟨gx + 1, 0, none⟩) (Since.refl _ hw9) (.inl rfl) (.int .i64 x0)) (.inl rfl) (.int .i64 x1)
  have hset := set_of_block (set_of_block HG9.out 0 (.int .i64 x0)) 1 (.int .i64 x1)
  simp only [List.setIfInBounds_toArray, List.set_cons_zero, List.set_cons_succ] at hset
  have HSET := qh hset
  have HFIN := qh hfin
  have HEND := qh (hHs10)
  clear hset hfin
  go_wp2_with fail
  refine bodyPost_ret (results_cell2 rfl _ _ (gx + 1) 50 _ (0, 0) _ rfl HSET.out Tryz.underlying50 rfl entry_size) rfl ?_
  rw [HTK.out]
  have hrow9 : ((hw9.setCell ⟨gx + 1, 0, none⟩ (.int .i64 x0)).setCell ⟨gx + 1, 1, none⟩ (.int .i64 x1)).ownsRow w2.heap.size 50 2 (.slice (some ⟨cg, 0, none⟩) (n - 1) cc) (l.take i ++ l.drop (i + 1)).length (flatC EntryD.cells (l.take i ++ l.drop (i + 1))) := by
   rw [HLEN.out]
   exact HFIN.out.row HROW9.out (fun k hk e => by have h1 : w2.heap.size ≤ k := (HROW9.out.lt k hk).1; have := HGG.out; omega)
  exact ⟨⟨_, by rw [Option.getD_some, HV.out]; rfl, buf_of hrow9, fun _ => own_lower hrow9 HB2.out.size⟩, HEND.out⟩
 ·have HB2 : Hid (Below w.heap.size w w2) := HB.out.trans (hb.mono HB.out.size)
  have HG : Hid (w2.heap[gx + 1]? = some (.cells #[.int .i64 0, .int .i64 0] 50)) := (hb.block (gx + 1) (qlb H2.out)).trans H2.out
  have HTK : Hid (takeB l v = (none, l)) := takeB_no l v (fun j hj => by have := hp j (by rw [HN.out]; exact hj); simpa using this)
  clear hb hp HIX HB H1 H2 HW
  have d2 : w2.cell? ⟨gx + 1, 0, none⟩ = some (.int .i64 0) := qcb HG.out 0
  have d3 : w2.cell? ⟨gx + 1, 1, none⟩ = some (.int .i64 0) := qcb HG.out 1
  have f0 : w2.frozen? ⟨gx + 1, 0, none⟩ = false := qfb HG.out 0
  have f1 : w2.frozen? ⟨gx + 1, 1, none⟩ = false := qfb HG.out 1
  have hset := set_of_block (set_of_block HG.out 0 (.int .i64 0)) 1 (.int .i64 0)
  simp only [List.setIfInBounds_toArray, List.set_cons_zero, List.set_cons_succ] at hset
  have HSET := qh hset
  have HEND := qh ((HB2.out.setCell (p := ⟨gx + 1, 0, none⟩) (by rw [HGX.out]; simp) (.int .i64 0)).setCell (p := ⟨gx + 1, 1, none⟩) (by rw [HGX.out]; simp) (.int .i64 0))
  clear hset
  go_wp2_with fail
  refine bodyPost_ret (results_cell2 rfl _ _ (gx + 1) 50 _ (0, 0) _ rfl HSET.out Tryz.underlying50 rfl entry_size) rfl ?_
  rw [HTK.out]
  refine ⟨⟨.slice ba n bc, rfl, ?_, fun e => by cases e⟩, HEND.out⟩
  have := BufAt.below HL.out HEND.out
  rw [← HN.out] at this
  exact this
end Go.Proofs.YtliajkheeniljaaGreatDoor
