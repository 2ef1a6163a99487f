/- A final is put among others: the document's answer: the walk. -/
import Derived.Test.YtnlkbboghcdpnaaRBelow
import Derived.Test.YtnlkbboghcdpnaaOf11
namespace Go.Proofs.Ytnlkbboghcdpnaa
open Go.RowKit

theorem final_info : (Try.prog.info? 70).map (fun i => (i.zero, i.size, i.bytes)) = some (some (.agg #[.slice none 0 0, .slice none 0 0]), 2, 48) := by kernel_rfl
/-- A row of the call's own of things that were there when it began. -/
structure RowW {α : Type} [Inhabited α] (W X : World) (R : World → α → List Value → Prop) (size : Nat) (e : TypeId) (v : Value) (l : List α) (css : List (List Value)) : Prop where
  below : Below W.heap.size W X
  len : css.length = l.length
  part : ∀ j, j < l.length → (css.getD j []).length = size ∧ R W (l.getD j default) (css.getD j [])
  row : X.ownsRow W.heap.size e size v l.length css.flatten
section
variable {α : Type} [Inhabited α] {W X X' : World} {R : World → α → List Value → Prop} {size : Nat} {e : TypeId} {v v' : Value} {l : List α} {css : List (List Value)}
theorem RowW.nil (W : World) (R : World → α → List Value → Prop) (size : Nat) (e : TypeId) {X : World} (h : Below W.heap.size W X) : RowW W X R size e (.slice none 0 0) [] [] := ⟨h, rfl, fun j hj => by simp at hj, World.ownsRow_nil _ _ _ _⟩
theorem RowW.later (h : RowW W X R size e v l css) (hb : Below X.heap.size X X') : RowW W X' R size e v l css := ⟨below_then h.below hb, h.len, h.part, row_below h.row hb⟩
theorem RowW.push (h : RowW W X R size e v l css) {x : α} {cs : List Value} {o : Obj} (hx : R W x cs) (hc : cs.length = size) (h1 : X'.ownsRow W.heap.size e size v' (l.length + 1) (css.flatten ++ cs)) (h4 : Since (fun k => v.ownBlock = some k) (X.alloc o) X') : RowW W X' R size e v' (l ++ [x]) (css ++ [cs]) := by
  have s1 : Since (fun k => v.ownBlock = some k) X X' := ((Since.refl _ X).alloc o).trans h4 (fun k hk => .inl hk)
  refine ⟨h.below.trans (s1.below h.below.size (fun k hk => (h.row.lt k hk).1)), by simp [h.len], fun j hj => ?_, ?_⟩
  · rw [List.length_append] at hj
    simp only [List.length_cons, List.length_nil] at hj
    by_cases e : j = l.length
    · subst e
      rw [getD_snoc_eq, show l.length = css.length from h.len.symm, getD_snoc_eq]
      exact ⟨hc, hx⟩
    · have hj' : j < l.length := by omega
      rw [getD_snoc_lt hj', getD_snoc_lt (by rw [h.len]; exact hj')]
      exact h.part j hj'
  · rw [List.length_append, List.flatten_append]
    simpa using h1
theorem RowW.slice (h : RowW W X R size e v l css) (hR : Stays R) : SliceR R size X v l :=
  SliceR.of_row h.row fun j hj => ⟨css.getD j [], (h.part j hj).1, fun i hi => flatten_at (fun j hj => (h.part j (by rw [← h.len]; exact hj)).1) (by rw [h.len]; exact hj) hi, hR _ _ _ _ (h.part j hj).2 h.below⟩
end
theorem addF_drop {l : List FinalD} {i : Nat} (hi : i < l.length) (f : FinalD) : addF (l.drop i) f = if sameOneD (l.getD i default) f then l.drop i else if belowD f (l.getD i default) then f :: l.drop i else l.getD i default :: addF (l.drop (i + 1)) f := by
  have h : l.drop i = l.getD i default :: l.drop (i + 1) := by
    rw [List.getD_eq_getElem?_getD, List.getElem?_eq_getElem hi]; exact List.drop_eq_getElem_cons hi
  rw [h]; rfl
theorem drop_get {l : List FinalD} {i : Nat} (hi : i < l.length) : l.drop i = l.getD i default :: l.drop (i + 1) := by
  rw [List.getD_eq_getElem?_getD, List.getElem?_eq_getElem hi]; exact List.drop_eq_getElem_cons hi
theorem take_get {l : List FinalD} {i : Nat} (hi : i < l.length) : l.take (i + 1) = l.take i ++ [l.getD i default] := by
  rw [List.take_succ_eq_append_getElem hi, List.getD_eq_getElem?_getD, List.getElem?_eq_getElem hi]; rfl
def restF (L : List FinalD) (f : FinalD) (done : Bool) (i : Nat) : List FinalD := if done then L.drop i else addF (L.drop i) f
def AddEnd (w : World) (l : List FinalD) (e : Ending) (w' : World) : Prop := (∃ xa xc, e = .returned (.slice xa l.length xc) ∧ FinalsAt w' (.slice xa l.length xc) l) ∧ Below w.heap.size w w'
theorem addEnd_of {w w' : World} {l : List FinalD} {xa : Option Addr} {xn xc : Nat} (hn : xn = l.length) (h : FinalsAt w' (.slice xa xn xc) l) (hb : Below w.heap.size w w') : AddEnd w l (.returned (.slice xa xn xc)) w' := by subst hn; exact ⟨⟨xa, xc, rfl, h⟩, hb⟩
set_option maxRecDepth 100000 in
set_option maxHeartbeats 8000000 in
theorem refAdd_any (w : World) (L : List FinalD) (lv : Value) (hL : FinalsAt w lv L) (f : FinalD) (mv rv : Value) (hf : FinalAt w f mv rv) (hfew : ∀ j, j < L.length → fewD (L.getD j default)) (hff : fewD f) (hn : L.length ≤ 1000000) :
    Calls Try.prog 32 #[lv, finalV mv rv] w (AddEnd w (addF L f)) := by
  obtain ⟨la, lc, rfl, -⟩ := SliceR.slice hL
  obtain ⟨ma, mc, rfl, -⟩ := SliceR.slice hf.mem
  obtain ⟨ra, rc, rfl, -⟩ := SliceR.slice hf.regs
  obtain ⟨A, hA⟩ : ∃ A, A = addF L f := ⟨_, rfl⟩
  rw [← hA]
  have hA0 : A = restF L f false 0 := by rw [hA]; rfl
  unfold finalV
  obtain ⟨n, hnn⟩ : ∃ n, n = L.length := ⟨_, rfl⟩
  obtain ⟨fm, hfm⟩ : ∃ n, n = f.mem.length := ⟨_, rfl⟩
  obtain ⟨fr, hfr⟩ : ∃ n, n = f.regs.length := ⟨_, rfl⟩
  rw [← hnn] at hL hn hfew ⊢
  rw [← hfm, ← hfr] at hf
  rw [← hfm, ← hfr]
  have hB := (Below.refl w.heap.size w).alloc (Nat.le_refl _) (.cells #[.slice ma fm mc, .slice ra fr rc] 70)
  have H1 := Lib.hid (heap_alloc_new w (.cells #[.slice ma fm mc, .slice ra fr rc] 70))
  have HL := Lib.hid (SliceR.below FinalR.stays hL hB)
  have HF := Lib.hid (hf.below hB)
  have HB := Lib.hid hB
  have HN := Lib.hid hnn
  have HFEW := Lib.hid hfew
  have HFF := Lib.hid hff
  have HA0 := Lib.hid hA0
  have HA := Lib.hid hA
  have HFM := Lib.hid hfm
  have HFR := Lib.hid hfr
  clear hL hf hB hnn hfew hff hA0 hA hfm hfr
  go_enter Try.func32, Try.ntmps32
  go_upto_region 1 with fail
  generalize World.alloc w _ = W at HB H1 HL HF ⊢
  generalize w.heap.size = gx at H1 ⊢
  have HFIN : Hid (∀ x, Below W.heap.size W x → Below w.heap.size w x) := fun x hx => HB.out.trans (hx.mono HB.out.size)
  have HC : Hid (∀ x, Below W.heap.size W x → x.cell? ⟨gx, 0, none⟩ = some (.slice ma fm mc) ∧ x.cell? ⟨gx, 1, none⟩ = some (.slice ra fr rc)) := fun x hx => ⟨cells_kept hx _ _ (cell_of_block H1.out 0), cells_kept hx _ _ (cell_of_block H1.out 1)⟩
  go_wp2_with fail
  go_loopg [5, 6, 7] n (fun gg s5 s6 s7 wr => ∃ (i : Nat) (done : Bool) (oa : Option Addr) (on oc : Nat) (ol : List FinalD) (css : List (List Value)), i ≤ n ∧ Hid (gg = n - i) ∧ s5 = .slice oa on oc ∧ s6 = .bool done ∧ s7 = .int .i64 i ∧ on ≤ i + 1 ∧ Hid (A = ol ++ restF L f done i) ∧ Hid (done = false → ol = L.take i) ∧ Hid (RowW W wr FinalR 2 70 (.slice oa on oc) ol css) ∧ Hid (ol.length = on))
  case atStart => exact ⟨0, false, none, 0, 0, [], [], Nat.zero_le _, rfl, rfl, rfl, rfl, by omega, HA0.out, fun _ => rfl, RowW.nil _ _ _ _ (Below.refl _ _), rfl⟩
  case round =>
    obtain ⟨i, done, oa, on, oc, ol, css, hi, HG, rfl, rfl, rfl, hon, HAL, HT, HO, HON⟩ := hrel
    by_cases hlt : i < n
    · have hltI : (i : Int) < (n : Int) := by omega
      obtain ⟨b, off, ga, gc, ka, kc, hea, -, x0, x1, hfi⟩ := FinalsAt.part HL.out i (by rw [← HN.out]; exact hlt)
      subst hea
      have hdg := drop_get (l := L) (i := i) (by rw [← HN.out]; exact hlt)
      have htg := take_get (l := L) (i := i) (by rw [← HN.out]; exact hlt)
      have had := addF_drop (l := L) (i := i) (by rw [← HN.out]; exact hlt) f
      have hfw := HFEW.out i hlt
      generalize L.getD i default = g at x0 x1 hfi hdg htg had hfw
      have hcp : FinalR W g [.slice ga g.mem.length gc, .slice ka g.regs.length kc] := ⟨_, _, rfl, hfi⟩
      obtain ⟨gm, hgm⟩ : ∃ n, n = g.mem.length := ⟨_, rfl⟩
      obtain ⟨gr, hgr⟩ : ∃ n, n = g.regs.length := ⟨_, rfl⟩
      have hsame : ∀ y, Below W.heap.size W y → Calls Try.prog 29 #[.agg #[.slice ga gm gc, .slice ka gr kc], .agg #[.slice ma fm mc, .slice ra fr rc]] y fun e w' => e = .returned (.bool (sameOneD g f)) ∧ Below y.heap.size y w' := fun y hy => by
        rw [hgm, hgr]; exact refSameOne_any y g f _ _ _ _ (hfi.below hy) (HF.out.below hy) hfw HFF.out
      have hbel : ∀ y, Below W.heap.size W y → Calls Try.prog 23 #[.agg #[.slice ma fm mc, .slice ra fr rc], .agg #[.slice ga gm gc, .slice ka gr kc]] y fun e w' => e = .returned (.bool (belowD f g)) ∧ Below y.heap.size y w' := fun y hy => by
        rw [hgm, hgr]; exact refBelow_any y f g _ _ _ _ (HF.out.below hy) (hfi.below hy) HFF.out hfw
      rw [← hgm, ← hgr] at hcp
      rw [← hgm] at x0
      rw [← hgr] at x1
      have CC : Hid (∀ y, Below W.heap.size W y → y.cell? ⟨b, off + i * 2, none⟩ = some (.slice ga gm gc) ∧ y.cell? ⟨b, off + i * 2 + 1, none⟩ = some (.slice ka gr kc) ∧ y.cell? ⟨gx, 0, none⟩ = some (.slice ma fm mc) ∧ y.cell? ⟨gx, 1, none⟩ = some (.slice ra fr rc)) := fun y hy => ⟨cells_kept hy _ _ x0, cells_kept hy _ _ x1, (HC.out y hy).1, (HC.out y hy).2⟩
      obtain ⟨sm, hsm⟩ : ∃ q, q = sameOneD g f := ⟨_, rfl⟩
      obtain ⟨bl, hbl⟩ : ∃ q, q = belowD f g := ⟨_, rfl⟩
      rw [← hsm] at hsame had
      rw [← hbl] at hbel had
      have HSAME := Lib.hid hsame
      have HBEL := Lib.hid hbel
      have HCP := Lib.hid hcp
      have HDG := Lib.hid hdg
      have HTG := Lib.hid htg
      have HAD := Lib.hid had
      clear hsame hbel hcp hdg htg had hfw hfi hgm hgr hsm hbl x0 x1
      cases done with
      | true =>
        have HAL2 : Hid (A = (ol ++ [g]) ++ restF L f true (i + 1)) := by
          have h := HAL.out
          unfold restF at h ⊢
          rw [if_pos rfl] at h ⊢
          rw [Hid, h, HDG.out]; simp
        go_upto_region 8 with fail
        go_quiet (fail)
        go_upto_region 11 with fail
        go_quiet (fail)
        go_upto_region 11 with fail
        generalize hX9 : World.drewN (World.drewN wr _) _ = X9
        have HO9 := Lib.hid (show RowW W X9 FinalR 2 70 (.slice oa on oc) ol css by rw [← hX9]; exact HO.out.later (drewN_below (drewN_below (Below.refl _ _) _) _))
        clear hX9
        have hrow := HO9.out.row
        rw [HON.out] at hrow
        have HROW := Lib.hid hrow
        clear hrow
        obtain ⟨x0, x1, -, -⟩ := CC.out X9 HO9.out.below
        go_wp2_with (at_builtin; go_must (refine wpList_append_at_ _ rfl _ _ 34 rfl 70 (.agg #[.slice none 0 0, .slice none 0 0]) 2 48 Try.underlying34 final_info rfl (by decide) W.heap.size (.slice oa on oc) on (css.flatten) rfl ((HROW.out).alloc _) ⟨X9.heap.size, 0, none⟩ 1 1 [Value.slice ga gm gc, Value.slice ka gr kc] rfl rfl (row_new _ [Value.slice ga gm gc, Value.slice ka gr kc] _) (by simp [Value.oneCell']) (by unfold maxLen; omega) (by omega) (by have := HO9.out.below.size; simp; omega) ?_); intro ja jc X f1 f2 f3 f4 f5 f6; have HP := Lib.hid (HO9.out.push (x := g) (cs := [Value.slice ga gm gc, Value.slice ka gr kc]) HCP.out rfl (by rw [HON.out]; exact f1) f4); clear f1 f2 f3 f4 f5 f6)
        clear HROW
        go_roundg (n - (i + 1))
        case measure => rw [HG.out]; omega
        case rel => exact ⟨i + 1, true, ja, on + 1, jc, ol ++ [g], _, by omega, rfl, rfl, rfl, by simp, by omega, HAL2.out, (fun e => by cases e), HP.out, by rw [Hid, List.length_append, HON.out]; rfl⟩
      | false =>
        have hoi : on ≤ i := by rw [← HON.out, HT.out (by trivial), List.length_take]; omega
        go_upto_region 6 with fail
        have C6 : Hid (∀ y, Below wr.heap.size wr y → y.cell? ⟨b, off + i * 2, none⟩ = some (.slice ga gm gc) ∧ y.cell? ⟨b, off + i * 2 + 1, none⟩ = some (.slice ka gr kc) ∧ y.cell? ⟨gx, 0, none⟩ = some (.slice ma fm mc) ∧ y.cell? ⟨gx, 1, none⟩ = some (.slice ra fr rc)) := fun y hy => CC.out y (below_then HO.out.below hy)
        refine wp_region_noPanic ?_
        refine wp_region_held_drew (S := fun x => Below wr.heap.size wr x) (by kernel_rfl) (Below.refl _ _).drew (fun hH => ?_)
        refine wpAnyH_take (i := 0) (v := ?vh1) rfl (by kernel_rfl) (by kernel_rfl) (by kernel_rfl) (fun _ _ _ h => h) (Or.inl ⟨by rfl, ?hyh1⟩) (by assumption) ?_
        case hyh1 => (intro x' hxx; obtain ⟨e0, e1, e2, e3⟩ := C6.out x' hxx; go_simp; try with_reducible rfl)
        change wpAnyH _ _ _ _ _ _ _ (Act.put _ (some 14) _) _
        simp only [Act.put, List.setIfInBounds_toArray, List.set_cons_zero, List.set_cons_succ]
        refine wpAnyH_take (i := 1) (v := ?vh2) rfl (by kernel_rfl) (by kernel_rfl) (by kernel_rfl) (fun _ _ _ h => h) (Or.inl ⟨by rfl, ?hyh2⟩) (by assumption) ?_
        case hyh2 => (intro x' hxx; obtain ⟨e0, e1, e2, e3⟩ := C6.out x' hxx; go_simp; try with_reducible rfl)
        change wpAnyH _ _ _ _ _ _ _ (Act.put _ (some 15) _) _
        simp only [Act.put, List.setIfInBounds_toArray, List.set_cons_zero, List.set_cons_succ]
        refine wpAnyH_take (i := 2) (v := ?vh3) rfl (by kernel_rfl) (by kernel_rfl) (by kernel_rfl) (fun _ _ _ h => h) (Or.inl ⟨by rfl, ?hyh3⟩) (by assumption) ?_
        case hyh3 => (intro x' hxx; obtain ⟨e0, e1, e2, e3⟩ := C6.out x' hxx; go_simp; try with_reducible rfl)
        change wpAnyH _ _ _ _ _ _ _ (Act.put _ (some 16) _) _
        simp only [Act.put, List.setIfInBounds_toArray, List.set_cons_zero, List.set_cons_succ]
        refine wpAnyH_take (i := 3) (v := ?vh4) rfl (by kernel_rfl) (by kernel_rfl) (by kernel_rfl) (fun _ _ _ h => h) (Or.inl ⟨by rfl, ?hyh4⟩) (by assumption) ?_
        case hyh4 => (intro x' hxx; obtain ⟨e0, e1, e2, e3⟩ := C6.out x' hxx; go_simp; try with_reducible rfl)
        change wpAnyH _ _ _ _ _ _ _ (Act.put _ (some 17) _) _
        simp only [Act.put, List.setIfInBounds_toArray, List.set_cons_zero, List.set_cons_succ]
        refine wpAnyH_take (i := 4) (v := ?vh5) rfl (by kernel_rfl) (by kernel_rfl) (by kernel_rfl) (fun _ _ _ h => h) (Or.inl ⟨by rfl, ?hyh5⟩) (by assumption) ?_
        case hyh5 => (intro x' hxx; obtain ⟨e0, e1, e2, e3⟩ := C6.out x' hxx; go_simp; try with_reducible rfl)
        change wpAnyH _ _ _ _ _ _ _ (Act.put _ (some 18) _) _
        simp only [Act.put, List.setIfInBounds_toArray, List.set_cons_zero, List.set_cons_succ]
        refine wpAnyH_take (i := 5) (v := ?vh6) rfl (by kernel_rfl) (by kernel_rfl) (by kernel_rfl) (fun _ _ _ h => h) (Or.inl ⟨by rfl, ?hyh6⟩) (by assumption) ?_
        case hyh6 => (intro x' hxx; obtain ⟨e0, e1, e2, e3⟩ := C6.out x' hxx; go_simp; try with_reducible rfl)
        change wpAnyH _ _ _ _ _ _ _ (Act.put _ (some 19) _) _
        simp only [Act.put, List.setIfInBounds_toArray, List.set_cons_zero, List.set_cons_succ]
        refine wpAnyH_take (i := 6) (v := ?vh7) rfl (by kernel_rfl) (by kernel_rfl) (by kernel_rfl) (fun _ _ _ h => h) (Or.inl ⟨by rfl, ?hyh7⟩) (by assumption) ?_
        case hyh7 => (intro x' hxx; obtain ⟨e0, e1, e2, e3⟩ := C6.out x' hxx; go_simp; try with_reducible rfl)
        change wpAnyH _ _ _ _ _ _ _ (Act.put _ (some 20) _) _
        simp only [Act.put, List.setIfInBounds_toArray, List.set_cons_zero, List.set_cons_succ]
        refine wpAnyH_take (i := 7) (v := ?vh8) rfl (by kernel_rfl) (by kernel_rfl) (by kernel_rfl) (fun _ _ _ h => h) (Or.inl ⟨by rfl, ?hyh8⟩) (by assumption) ?_
        case hyh8 => (intro x' hxx; obtain ⟨e0, e1, e2, e3⟩ := C6.out x' hxx; go_simp; try with_reducible rfl)
        change wpAnyH _ _ _ _ _ _ _ (Act.put _ (some 21) _) _
        simp only [Act.put, List.setIfInBounds_toArray, List.set_cons_zero, List.set_cons_succ]
        refine wpAnyH_ready (rs := [8]) (by kernel_rfl) (by simp) ?_
        refine AllReadyH.cons rfl (fun K hK => ?_) AllReadyH.nil
        go_simp
        refine (HSAME.out wr.drew (below_then HO.out.below hH)).mono ?_
        rintro e hw8 ⟨rfl, hb⟩
        have hHh8 : Below wr.heap.size wr hw8 := below_then hH hb
        refine hK.out _ _ hHh8 (fun _ => ?_)
        clear hK K hb hH
        refine wpAnyH_take (i := 9) (v := ?vh9) rfl (by kernel_rfl) (by kernel_rfl) (by kernel_rfl) (fun _ _ _ h => h) (Or.inl ⟨by rfl, ?hyh9⟩) (by assumption) ?_
        case hyh9 => (intro x' hxx; obtain ⟨e0, e1, e2, e3⟩ := C6.out x' hxx; go_simp; try with_reducible rfl)
        change wpAnyH _ _ _ _ _ _ _ (Act.put _ (some 23) _) _
        simp only [Act.put, List.setIfInBounds_toArray, List.set_cons_zero, List.set_cons_succ]
        refine wpAnyH_done (by kernel_rfl) ?_ _
        refine NoPanic.normal ?_
        have HE6 := Lib.hid hHh8
        clear hHh8 C6
        cases sm with
        | true =>
          have hAL : A = L := by
            have h := HAL.out
            unfold restF at h
            rw [if_neg (by simp), HAD.out, if_pos rfl, HT.out (by trivial), List.take_append_drop] at h
            exact h
          have HAL2 := Lib.hid hAL
          clear hAL

          go_wp2_with fail
          go_ret
          exact addEnd_of (by rw [HAL2.out]; exact HN.out) (by rw [HAL2.out]; exact SliceR.below FinalR.stays HL.out (below_then HO.out.below HE6.out)) (HFIN.out _ (below_then HO.out.below HE6.out))
        | false =>
          have HO6 := Lib.hid (HO.out.later HE6.out)
          go_upto_region 8 with fail
          have C8 : Hid (∀ y, Below hw8.heap.size hw8 y → y.cell? ⟨b, off + i * 2, none⟩ = some (.slice ga gm gc) ∧ y.cell? ⟨b, off + i * 2 + 1, none⟩ = some (.slice ka gr kc) ∧ y.cell? ⟨gx, 0, none⟩ = some (.slice ma fm mc) ∧ y.cell? ⟨gx, 1, none⟩ = some (.slice ra fr rc)) := fun y hy => CC.out y (below_then HO6.out.below hy)
          refine wp_region_noPanic ?_
          refine wp_region_held_drew (S := fun x => Below hw8.heap.size hw8 x) (by kernel_rfl) (Below.refl _ _).drew (fun hH => ?_)
          refine wpAnyH_take (i := 0) (v := ?vk1) rfl (by kernel_rfl) (by kernel_rfl) (by kernel_rfl) (fun _ _ _ h => h) (Or.inl ⟨by rfl, ?hyk1⟩) (by assumption) ?_
          case hyk1 => (intro x' hxx; obtain ⟨e0, e1, e2, e3⟩ := C8.out x' hxx; go_simp; try with_reducible rfl)
          change wpAnyH _ _ _ _ _ _ _ (Act.put _ (some 25) _) _
          simp only [Act.put, List.setIfInBounds_toArray, List.set_cons_zero, List.set_cons_succ]
          refine wpAnyH_take (i := 1) (v := ?vk2) rfl (by kernel_rfl) (by kernel_rfl) (by kernel_rfl) (fun _ _ _ h => h) (Or.inl ⟨by rfl, ?hyk2⟩) (by assumption) ?_
          case hyk2 => (intro x' hxx; obtain ⟨e0, e1, e2, e3⟩ := C8.out x' hxx; go_simp; try with_reducible rfl)
          change wpAnyH _ _ _ _ _ _ _ (Act.put _ (some 26) _) _
          simp only [Act.put, List.setIfInBounds_toArray, List.set_cons_zero, List.set_cons_succ]
          refine wpAnyH_take (i := 2) (v := ?vk3) rfl (by kernel_rfl) (by kernel_rfl) (by kernel_rfl) (fun _ _ _ h => h) (Or.inl ⟨by rfl, ?hyk3⟩) (by assumption) ?_
          case hyk3 => (intro x' hxx; obtain ⟨e0, e1, e2, e3⟩ := C8.out x' hxx; go_simp; try with_reducible rfl)
          change wpAnyH _ _ _ _ _ _ _ (Act.put _ (some 27) _) _
          simp only [Act.put, List.setIfInBounds_toArray, List.set_cons_zero, List.set_cons_succ]
          refine wpAnyH_take (i := 3) (v := ?vk4) rfl (by kernel_rfl) (by kernel_rfl) (by kernel_rfl) (fun _ _ _ h => h) (Or.inl ⟨by rfl, ?hyk4⟩) (by assumption) ?_
          case hyk4 => (intro x' hxx; obtain ⟨e0, e1, e2, e3⟩ := C8.out x' hxx; go_simp; try with_reducible rfl)
          change wpAnyH _ _ _ _ _ _ _ (Act.put _ (some 28) _) _
          simp only [Act.put, List.setIfInBounds_toArray, List.set_cons_zero, List.set_cons_succ]
          refine wpAnyH_take (i := 4) (v := ?vk5) rfl (by kernel_rfl) (by kernel_rfl) (by kernel_rfl) (fun _ _ _ h => h) (Or.inl ⟨by rfl, ?hyk5⟩) (by assumption) ?_
          case hyk5 => (intro x' hxx; obtain ⟨e0, e1, e2, e3⟩ := C8.out x' hxx; go_simp; try with_reducible rfl)
          change wpAnyH _ _ _ _ _ _ _ (Act.put _ (some 29) _) _
          simp only [Act.put, List.setIfInBounds_toArray, List.set_cons_zero, List.set_cons_succ]
          refine wpAnyH_take (i := 5) (v := ?vk6) rfl (by kernel_rfl) (by kernel_rfl) (by kernel_rfl) (fun _ _ _ h => h) (Or.inl ⟨by rfl, ?hyk6⟩) (by assumption) ?_
          case hyk6 => (intro x' hxx; obtain ⟨e0, e1, e2, e3⟩ := C8.out x' hxx; go_simp; try with_reducible rfl)
          change wpAnyH _ _ _ _ _ _ _ (Act.put _ (some 30) _) _
          simp only [Act.put, List.setIfInBounds_toArray, List.set_cons_zero, List.set_cons_succ]
          refine wpAnyH_take (i := 6) (v := ?vk7) rfl (by kernel_rfl) (by kernel_rfl) (by kernel_rfl) (fun _ _ _ h => h) (Or.inl ⟨by rfl, ?hyk7⟩) (by assumption) ?_
          case hyk7 => (intro x' hxx; obtain ⟨e0, e1, e2, e3⟩ := C8.out x' hxx; go_simp; try with_reducible rfl)
          change wpAnyH _ _ _ _ _ _ _ (Act.put _ (some 31) _) _
          simp only [Act.put, List.setIfInBounds_toArray, List.set_cons_zero, List.set_cons_succ]
          refine wpAnyH_take (i := 7) (v := ?vk8) rfl (by kernel_rfl) (by kernel_rfl) (by kernel_rfl) (fun _ _ _ h => h) (Or.inl ⟨by rfl, ?hyk8⟩) (by assumption) ?_
          case hyk8 => (intro x' hxx; obtain ⟨e0, e1, e2, e3⟩ := C8.out x' hxx; go_simp; try with_reducible rfl)
          change wpAnyH _ _ _ _ _ _ _ (Act.put _ (some 32) _) _
          simp only [Act.put, List.setIfInBounds_toArray, List.set_cons_zero, List.set_cons_succ]
          refine wpAnyH_ready (rs := [8]) (by kernel_rfl) (by simp) ?_
          refine AllReadyH.cons rfl (fun K hK => ?_) AllReadyH.nil
          go_simp
          refine (HBEL.out hw8.drew (below_then HO6.out.below hH)).mono ?_
          rintro e kw8 ⟨rfl, hb⟩
          have hHk8 : Below hw8.heap.size hw8 kw8 := below_then hH hb
          refine hK.out _ _ hHk8 (fun _ => ?_)
          clear hK K hb hH
          refine wpAnyH_take (i := 9) (v := ?vk9) rfl (by kernel_rfl) (by kernel_rfl) (by kernel_rfl) (fun _ _ _ h => h) (Or.inl ⟨by rfl, ?hyk9⟩) (by assumption) ?_
          case hyk9 => (intro x' hxx; obtain ⟨e0, e1, e2, e3⟩ := C8.out x' hxx; go_simp; try with_reducible rfl)
          change wpAnyH _ _ _ _ _ _ _ (Act.put _ (some 34) _) _
          simp only [Act.put, List.setIfInBounds_toArray, List.set_cons_zero, List.set_cons_succ]
          refine wpAnyH_done (by kernel_rfl) ?_ _
          refine NoPanic.normal ?_
          have HE8 := Lib.hid hHk8
          clear hHk8 C8
          have HO8 := Lib.hid (HO6.out.later HE8.out)
          obtain ⟨c0, c1⟩ := HC.out kw8 HO8.out.below
          cases bl with
          | true =>
            have HAL2 : Hid (A = (ol ++ [f]) ++ [g] ++ restF L f true (i + 1)) := by
              have h := HAL.out
              unfold restF at h ⊢
              rw [if_neg (by simp), HAD.out, if_neg (by simp), if_pos rfl] at h
              rw [if_pos rfl, Hid, h, HDG.out]; simp
            have hrow := HO8.out.row
            rw [HON.out] at hrow
            have HROW := Lib.hid hrow
            clear hrow
            go_upto_region 10 with (at_builtin; go_must (refine wpList_append_at_ _ rfl _ _ 34 rfl 70 (.agg #[.slice none 0 0, .slice none 0 0]) 2 48 Try.underlying34 final_info rfl (by decide) W.heap.size (.slice oa on oc) on (css.flatten) rfl ((HROW.out).alloc _) ⟨kw8.heap.size, 0, none⟩ 1 1 [Value.slice ma fm mc, Value.slice ra fr rc] rfl rfl (row_new _ [Value.slice ma fm mc, Value.slice ra fr rc] _) (by simp [Value.oneCell']) (by unfold maxLen; omega) (by omega) (by have := HO8.out.below.size; simp; omega) ?_); intro ja jc X f1 f2 f3 f4 f5 f6; have HP := Lib.hid (HO8.out.push (x := f) (cs := [Value.slice ma fm mc, Value.slice ra fr rc]) ⟨_, _, rfl, HF.out⟩ rfl (by rw [HON.out]; exact f1) f4); clear f1 f2 f3 f4 f5 f6)
            clear HROW
            have HON2 : Hid ((ol ++ [f]).length = on + 1) := by rw [Hid, List.length_append, HON.out]; rfl
            go_upto_region 11 with fail
            have hrow := HP.out.row
            rw [HON2.out] at hrow
            have HROW := Lib.hid hrow
            clear hrow
            obtain ⟨x0, x1, -, -⟩ := CC.out X HP.out.below
            go_wp2_with (at_builtin; go_must (refine wpList_append_at_ _ rfl _ _ 34 rfl 70 (.agg #[.slice none 0 0, .slice none 0 0]) 2 48 Try.underlying34 final_info rfl (by decide) W.heap.size (.slice ja (on + 1) jc) (on + 1) ((css ++ [[Value.slice ma fm mc, Value.slice ra fr rc]]).flatten) rfl ((HROW.out).alloc _) ⟨X.heap.size, 0, none⟩ 1 1 [Value.slice ga gm gc, Value.slice ka gr kc] rfl rfl (row_new _ [Value.slice ga gm gc, Value.slice ka gr kc] _) (by simp [Value.oneCell']) (by unfold maxLen; omega) (by omega) (by have := HP.out.below.size; simp; omega) ?_); intro ja2 jc2 X2 f1 f2 f3 f4 f5 f6; have HP2 := Lib.hid (HP.out.push (x := g) (cs := [Value.slice ga gm gc, Value.slice ka gr kc]) HCP.out rfl (by rw [HON2.out]; exact f1) f4); clear f1 f2 f3 f4 f5 f6)
            clear HROW
            go_roundg (n - (i + 1))
            case measure => rw [HG.out]; omega
            case rel => exact ⟨i + 1, true, ja2, on + 1 + 1, jc2, (ol ++ [f]) ++ [g], _, by omega, rfl, rfl, rfl, by simp, by omega, HAL2.out, (fun e => by cases e), HP2.out, by rw [Hid, List.length_append, HON2.out]; rfl⟩
          | false =>
            have HAL2 : Hid (A = (ol ++ [g]) ++ restF L f false (i + 1)) := by
              have h := HAL.out
              unfold restF at h ⊢
              rw [if_neg (by simp), HAD.out, if_neg (by simp), if_neg (by simp)] at h
              rw [if_neg (by simp), Hid, h]; simp
            go_upto_region 11 with fail
            have hrow := HO8.out.row
            rw [HON.out] at hrow
            have HROW := Lib.hid hrow
            clear hrow
            obtain ⟨x0, x1, -, -⟩ := CC.out kw8 HO8.out.below
            go_wp2_with (at_builtin; go_must (refine wpList_append_at_ _ rfl _ _ 34 rfl 70 (.agg #[.slice none 0 0, .slice none 0 0]) 2 48 Try.underlying34 final_info rfl (by decide) W.heap.size (.slice oa on oc) on (css.flatten) rfl ((HROW.out).alloc _) ⟨kw8.heap.size, 0, none⟩ 1 1 [Value.slice ga gm gc, Value.slice ka gr kc] rfl rfl (row_new _ [Value.slice ga gm gc, Value.slice ka gr kc] _) (by simp [Value.oneCell']) (by unfold maxLen; omega) (by omega) (by have := HO8.out.below.size; simp; omega) ?_); intro ja jc X f1 f2 f3 f4 f5 f6; have HP := Lib.hid (HO8.out.push (x := g) (cs := [Value.slice ga gm gc, Value.slice ka gr kc]) HCP.out rfl (by rw [HON.out]; exact f1) f4); clear f1 f2 f3 f4 f5 f6)
            clear HROW
            go_roundg (n - (i + 1))
            case measure => rw [HG.out]; omega
            case rel => exact ⟨i + 1, false, ja, on + 1, jc, ol ++ [g], _, by omega, rfl, rfl, rfl, by simp, by omega, HAL2.out, (fun _ => by rw [HTG.out, HT.out (by trivial)]), HP.out, by rw [Hid, List.length_append, HON.out]; rfl⟩
    · obtain rfl : n = i := by omega
      obtain ⟨c0, c1⟩ := HC.out wr HO.out.below
      cases done with
      | true =>
        have hAL : A = ol := by
          have h := HAL.out
          unfold restF at h
          rw [if_pos rfl, HN.out, List.drop_length, List.append_nil] at h
          exact h
        have HAL2 := Lib.hid hAL
        clear hAL

        go_wp2_with fail
        go_ret
        exact addEnd_of (by rw [HAL2.out]; exact HON.out.symm) (by rw [HAL2.out]; exact HO.out.slice FinalR.stays) (HFIN.out _ HO.out.below)
      | false =>
        have hAL : A = ol ++ [f] := by
          have h := HAL.out
          unfold restF at h
          rw [if_neg (by simp), HN.out, List.drop_length] at h
          exact h
        have HAL2 := Lib.hid hAL
        clear hAL

        have hrow := HO.out.row
        rw [HON.out] at hrow
        have HROW := Lib.hid hrow
        clear hrow
        go_upto_region 14 with (at_builtin; go_must (refine wpList_append_at_ _ rfl _ _ 34 rfl 70 (.agg #[.slice none 0 0, .slice none 0 0]) 2 48 Try.underlying34 final_info rfl (by decide) W.heap.size (.slice oa on oc) on (css.flatten) rfl ((HROW.out).alloc _) ⟨wr.heap.size, 0, none⟩ 1 1 [Value.slice ma fm mc, Value.slice ra fr rc] rfl rfl (row_new _ [Value.slice ma fm mc, Value.slice ra fr rc] _) (by simp [Value.oneCell']) (by unfold maxLen; omega) (by omega) (by have := HO.out.below.size; simp; omega) ?_); intro ja jc X f1 f2 f3 f4 f5 f6; have HP := Lib.hid (HO.out.push (x := f) (cs := [Value.slice ma fm mc, Value.slice ra fr rc]) ⟨_, _, rfl, HF.out⟩ rfl (by rw [HON.out]; exact f1) f4); clear f1 f2 f3 f4 f5 f6)
        clear HROW
        go_wp2_with fail
        go_ret
        exact addEnd_of (by rw [HAL2.out, List.length_append, HON.out]; rfl) (by rw [HAL2.out]; exact HP.out.slice FinalR.stays) (HFIN.out _ HP.out.below)
end Go.Proofs.Ytnlkbboghcdpnaa
