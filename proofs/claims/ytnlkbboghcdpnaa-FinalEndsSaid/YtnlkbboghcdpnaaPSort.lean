/- Finals in order, each once: the program's answer: the walk. -/
import Derived.Test.YtnlkbboghcdpnaaSortP
import Derived.Test.YtnlkbboghcdpnaaRAdd
namespace Go.Proofs.Ytnlkbboghcdpnaa
open Go.RowKit

theorem zip_cells {l : List FinalD} {css : List (List Value)} (h : css.length = l.length) : cellsP (l.zip css) = css.flatten := by
  induction l generalizing css with
  | nil => cases css with
    | nil => rfl
    | cons c css => simp at h
  | cons x l ih =>
    cases css with
    | nil => simp at h
    | cons c css =>
      have := ih (css := css) (by simpa using h)
      simp only [cellsP, List.zip_cons_cons, List.flatMap_cons, List.flatten_cons] at this ⊢
      rw [this]
theorem zip_mem {l : List FinalD} {css : List (List Value)} (h : css.length = l.length) {p : FinP} (hp : p ∈ l.zip css) : ∃ j, j < l.length ∧ p = (l.getD j default, css.getD j []) := by
  obtain ⟨j, hj, e⟩ := List.getElem_of_mem hp
  have hj2 : j < l.length := by simp at hj; omega
  refine ⟨j, hj2, ?_⟩
  rw [← e, List.getElem_zip, List.getD_eq_getElem?_getD, List.getD_eq_getElem?_getD, List.getElem?_eq_getElem hj2, List.getElem?_eq_getElem (by omega)]
  rfl
theorem zip_has {l : List FinalD} {css : List (List Value)} (h : css.length = l.length) {x : FinalD} (hx : x ∈ l) : ∃ p ∈ l.zip css, p.1 = x := by
  obtain ⟨j, hj, e⟩ := List.getElem_of_mem hx
  refine ⟨(l.zip css)[j]'(by simp; omega), List.getElem_mem _, ?_⟩
  rw [List.getElem_zip]; exact e
/-- Sorted, and equal neighbours gone: they rise. -/
theorem comp_rises {M : Nat} {P : List FinP} (hM : ∀ p ∈ P, p.1.mem.length = M) (hs : ∀ i j, i < j → j < P.length → ¬ cmpI (flatD (P.getD j default).1) (flatD (P.getD i default).1) < 0) :
    ∀ i, i ≤ P.length → Rises ((compTo P i).map (·.1)) ∧ (0 < i → ∀ p ∈ compTo P i, ¬ cmpI (flatD (P.getD (i - 1) default).1) (flatD p.1) < 0) ∧ (∀ j, j < i → ∃ p ∈ compTo P i, flatD p.1 = flatD (P.getD j default).1) := by
  intro i
  induction i with
  | zero => intro _; exact ⟨by simp [compTo, Rises], fun h => absurd h (by omega), fun j hj => by omega⟩
  | succ i ih =>
    intro hi
    obtain ⟨h1, h2, h3⟩ := ih (by omega)
    rcases Nat.eq_zero_or_pos i with e0 | e0
    · subst e0
      have : compTo P (0 + 1) = [P.getD 0 default] := by unfold compTo; rw [if_pos (.inl rfl)]; rfl
      rw [this]
      refine ⟨by simp [Rises], fun _ p hp => ?_, fun j hj => ⟨_, List.mem_singleton.2 rfl, by rw [show j = 0 by omega]⟩⟩
      rw [List.mem_singleton.1 hp]
      simp only [Nat.add_sub_cancel]
      rw [cmpI_self]; omega
    · have hge : ∀ p ∈ compTo P i, ¬ cmpI (flatD (P.getD i default).1) (flatD p.1) < 0 := fun p hp hlt => by
        have a := h2 e0 p hp
        have b := hs (i - 1) i (by omega) (by omega)
        rcases cmpI_three (flatD (P.getD i default).1) (flatD (P.getD (i - 1) default).1) with e | e | e
        · omega
        · rw [cmpI_eq e] at hlt; exact a hlt
        · have c : cmpI (flatD (P.getD (i - 1) default).1) (flatD (P.getD i default).1) < 0 := by rw [cmpI_swap (flatD (P.getD i default).1)]; omega
          exact a (cmpI_trans c hlt)
      by_cases he : eqP (P.getD i default) (P.getD (i - 1) default) = true
      · rw [compTo_no e0 he]
        have hfe : flatD (P.getD i default).1 = flatD (P.getD (i - 1) default).1 := by
          unfold eqP at he
          simp only [Bool.and_eq_true, decide_eq_true_eq] at he
          exact cmpI_eq he.1
        refine ⟨h1, fun _ p hp => ?_, fun j hj => ?_⟩
        · simp only [Nat.add_sub_cancel]; exact hge p hp
        · by_cases hj2 : j = i
          · subst hj2
            obtain ⟨p, hp, e⟩ := h3 (j - 1) (by omega)
            exact ⟨p, hp, by rw [e, hfe]⟩
          · exact h3 j (by omega)
      · have he : eqP (P.getD i default) (P.getD (i - 1) default) = false := by simpa using he
        rw [compTo_yes he]
        have hne : flatD (P.getD i default).1 ≠ flatD (P.getD (i - 1) default).1 := fun e => by
          unfold eqP at he
          rw [e, cmpI_self, hM _ (getD_mem (by omega)), hM _ (getD_mem (by omega))] at he
          simp at he
        have hlt : ∀ p ∈ compTo P i, cmpI (flatD p.1) (flatD (P.getD i default).1) < 0 := fun p hp => by
          have a := h2 e0 p hp
          have b : cmpI (flatD (P.getD (i - 1) default).1) (flatD (P.getD i default).1) < 0 := by
            have b0 := hs (i - 1) i (by omega) (by omega)
            rw [cmpI_swap (flatD (P.getD i default).1)]
            rcases cmpI_three (flatD (P.getD i default).1) (flatD (P.getD (i - 1) default).1) with e | e | e
            · omega
            · exact absurd (cmpI_eq e) hne
            · omega
          rcases cmpI_three (flatD (P.getD (i - 1) default).1) (flatD p.1) with e | e | e
          · omega
          · rw [← cmpI_eq e]; exact b
          · have c : cmpI (flatD p.1) (flatD (P.getD (i - 1) default).1) < 0 := by rw [cmpI_swap (flatD (P.getD (i - 1) default).1)]; omega
            exact cmpI_trans c b
        refine ⟨?_, fun _ p hp => ?_, fun j hj => ?_⟩
        · rw [List.map_append]
          unfold Rises at h1 ⊢
          rw [List.pairwise_append]
          refine ⟨h1, by simp, fun x hx y hy => ?_⟩
          simp only [List.map_cons, List.map_nil, List.mem_singleton] at hy
          obtain ⟨p, hp, rfl⟩ := List.mem_map.1 hx
          rw [hy]; exact hlt p hp
        · simp only [Nat.add_sub_cancel]
          rcases List.mem_append.1 hp with hp | hp
          · exact hge p hp
          · rw [List.mem_singleton.1 hp, cmpI_self]; omega
        · by_cases hj2 : j = i
          · subst hj2; exact ⟨_, List.mem_append_right _ (List.mem_singleton.2 rfl), rfl⟩
          · obtain ⟨p, hp, e⟩ := h3 j (by omega)
            exact ⟨p, List.mem_append_left _ hp, e⟩
def SortRes (_M : Nat) (l r : List FinalD) : Prop := Rises r ∧ (∀ x ∈ r, x ∈ l) ∧ ∀ x ∈ l, ∃ y ∈ r, flatD y = flatD x
def PSortEnd (w : World) (M : Nat) (l : List FinalD) (e : Ending) (w' : World) : Prop := ∃ r, SortRes M l r ∧ AddEnd w r e w'
theorem comp_res {M : Nat} {l : List FinalD} {css : List (List Value)} (hc : css.length = l.length) (hM : ∀ x ∈ l, x.mem.length = M) {P' : List FinP} (_h1 : P'.length = (l.zip css).length) (h2 : ∀ p ∈ P', p ∈ l.zip css) (h3 : ∀ p ∈ l.zip css, p ∈ P')
    (hs : ∀ i j, i < j → j < P'.length → ¬ cmpI (flatD (P'.getD j default).1) (flatD (P'.getD i default).1) < 0) : SortRes M l ((compTo P' P'.length).map (·.1)) := by
  have hin : ∀ p ∈ P', p.1 ∈ l := fun p hp => by
    obtain ⟨j, hj, rfl⟩ := zip_mem hc (h2 p hp)
    exact getD_mem hj
  obtain ⟨a, -, b⟩ := comp_rises (M := M) (fun p hp => hM _ (hin p hp)) hs P'.length (Nat.le_refl _)
  refine ⟨a, fun x hx => ?_, fun x hx => ?_⟩
  · obtain ⟨p, hp, rfl⟩ := List.mem_map.1 hx
    exact hin p (compTo_mem (Nat.le_refl _) hp)
  · obtain ⟨p, hp, rfl⟩ := zip_has hc hx
    obtain ⟨j, hj, e⟩ := List.getElem_of_mem (h3 p hp)
    obtain ⟨q, hq, e2⟩ := b j hj
    refine ⟨q.1, List.mem_map.2 ⟨q, hq, rfl⟩, ?_⟩
    rw [e2, List.getD_eq_getElem?_getD, List.getElem?_eq_getElem hj, ← e]; rfl
theorem take_one {l : List FinalD} {i : Nat} (hi : i < l.length) : l.take (i + 1) = l.take i ++ [l.getD i default] := take_get hi
set_option maxRecDepth 100000 in
set_option maxHeartbeats 8000000 in
theorem psort_any (w : World) (M : Nat) (l : List FinalD) (lv : Value) (hl : FinalsAt w lv l) (hM : ∀ x ∈ l, x.mem.length = M) (hfew : ∀ x ∈ l, fewD x) (hn : l.length ≤ 1000000) :
    Calls Try.prog 31 #[lv] w (PSortEnd w M l) := by
  obtain ⟨la, lc, rfl, -⟩ := SliceR.slice hl
  obtain ⟨n, hnn⟩ : ∃ n, n = l.length := ⟨_, rfl⟩
  rw [← hnn] at hl hn ⊢
  have HL := Lib.hid hl
  have HN := Lib.hid hnn
  have HFEW := Lib.hid hfew
  have HM := Lib.hid hM
  clear hl hnn hfew hM
  go_enter Try.func31, Try.ntmps31
  go_wp2_with fail
  go_loopg [3, 10] n (fun gg s3 s10 wr => ∃ (i : Nat) (oa : Option Addr) (oc : Nat) (css : List (List Value)), i ≤ n ∧ Hid (gg = n - i) ∧ s3 = .slice oa i oc ∧ s10 = .int .i64 i ∧ Hid (RowW w wr FinalR 2 103 (.slice oa i oc) (l.take i) css))
  case atStart => exact ⟨0, none, 0, [], Nat.zero_le _, rfl, rfl, rfl, RowW.nil _ _ _ _ (Below.refl _ _)⟩
  case round =>
    obtain ⟨i, oa, oc, css, hi, HG, rfl, rfl, HR⟩ := hrel
    by_cases hlt : i < n
    · have hltI : (i : Int) < (n : Int) := by omega
      obtain ⟨b, off, ga, gc, ka, kc, hea, -, x0, x1, hfi⟩ := FinalsAt.part HL.out i (by rw [← HN.out]; exact hlt)
      subst hea
      have htg := take_one (l := l) (i := i) (by rw [← HN.out]; exact hlt)
      have hlen : (l.take i).length = i := by rw [List.length_take, ← HN.out]; omega
      generalize l.getD i default = f at x0 x1 hfi htg
      generalize f.mem.length = fm at x0 hfi
      generalize f.regs.length = fr at x1 hfi
      have hcp : FinalR w f [.slice ga fm gc, .slice ka fr kc] := ⟨_, _, rfl, hfi⟩
      have HCP := Lib.hid hcp
      have HTG := Lib.hid htg
      have HLEN := Lib.hid hlen
      replace x0 := cells_kept HR.out.below _ _ x0
      replace x1 := cells_kept HR.out.below _ _ x1
      clear hcp hfi htg hlen
      go_upto_region 5 with fail
      clear x0 x1
      have hrx := HR.out.later ((Below.refl wr.heap.size wr).alloc (Nat.le_refl _) (.cells #[.slice ga fm gc, .slice ka fr kc] 70))
      have htb := heap_alloc_new wr (.cells #[.slice ga fm gc, .slice ka fr kc] 70)
      have HRX := Lib.hid hrx
      have HTB := Lib.hid htb
      clear hrx htb
      generalize World.alloc wr _ = X at HRX HTB ⊢
      generalize wr.heap.size = tb at HTB ⊢
      have t0 := cell_of_block HTB.out 0
      have t1 := cell_of_block HTB.out 1
      have hrow := HRX.out.row
      rw [HLEN.out] at hrow
      have HROW := Lib.hid hrow
      clear hrow
      go_wp2_with (at_builtin; go_must (refine wpList_append_at_ _ rfl _ _ 102 rfl 103 (.agg #[.slice none 0 0, .slice none 0 0]) 2 48 Try.underlying102 one_info rfl (by decide) w.heap.size (.slice oa i oc) i (css.flatten) rfl ((HROW.out).alloc _) ⟨X.heap.size, 0, none⟩ 1 1 [.slice ga fm gc, .slice ka fr kc] rfl rfl (row_new _ [.slice ga fm gc, .slice ka fr kc] _) (by simp [Value.oneCell']) (by unfold maxLen; omega) (by omega) (by have := HRX.out.below.size; simp; omega) ?_); intro ja jc X2 f1 f2 f3 f4 f5 f6; (have HP := Lib.hid (HRX.out.push (x := f) (cs := [.slice ga fm gc, .slice ka fr kc]) HCP.out rfl (by rw [HLEN.out]; exact f1) f4)); clear f1 f2 f3 f4 f5 f6)
      go_roundg (n - (i + 1))
      case measure => rw [HG.out]; omega
      case rel => exact ⟨i + 1, ja, jc, _, by omega, rfl, rfl, by simp, by rw [Hid, HTG.out]; exact HP.out⟩
    · obtain rfl : n = i := by omega
      have hR := HR.out
      rw [HN.out, List.take_length] at hR
      rw [← HN.out] at hR
      have HRL := Lib.hid hR
      clear hR HR
      -- what is sorted
      have hcl : css.length = l.length := HRL.out.len
      have hzl : (l.zip css).length = n := by rw [List.length_zip, hcl, ← HN.out]; omega
      have hrow0 : wr.ownsRow w.heap.size 103 2 (.slice oa n oc) (l.zip css).length (cellsP (l.zip css)) := by
        rw [zip_cells hcl, hzl]
        have := HRL.out.row
        rw [← HN.out] at this
        exact this
      have hF : ∀ k, (Value.slice oa n oc).ownBlock = some k → w.heap.size ≤ k := fun k hk => (hrow0.lt k hk).1
      have hok : ∀ p ∈ l.zip css, okP (fun k => (Value.slice oa n oc).ownBlock = some k) wr p := fun p hp => by
        obtain ⟨j, hj, rfl⟩ := zip_mem hcl hp
        obtain ⟨a, b⟩ := HRL.out.part j hj
        exact ⟨a, fun y hy => FinalR.stays _ _ _ _ b (HRL.out.below.trans (hy.below HRL.out.below.size (fun k hk => hF k hk))), HFEW.out _ (getD_mem hj)⟩
      have hsort := sortFunc_any wr w.heap.size (.slice oa n oc) (l.zip css) hrow0 hok (by rw [hzl]; exact hn)
      have HSORT := Lib.hid hsort
      have HOK := Lib.hid hok
      have HF := Lib.hid hF
      have HZL := Lib.hid hzl
      have HCLN := Lib.hid hcl
      clear hcl hzl hrow0 hF hok hsort
      go_upto_region 8 with (go_at_call 47; go_must (refine HSORT.out.mono ?_); rintro e W2 ⟨rfl, ⟨P', hp1, hp2, hp3, hp4, hp5⟩, hs2⟩; (have HP1 := Lib.hid hp1); (have HP2 := Lib.hid hp2); (have HP3 := Lib.hid hp3); (have HP4 := Lib.hid hp4); (have HP5 := Lib.hid hp5); (have HS2 := Lib.hid hs2); clear hp1 hp2 hp3 hp4 hp5 hs2)
      have hb2 : Below w.heap.size w W2 := HRL.out.below.trans (HS2.out.below HRL.out.below.size (fun k hk => HF.out k hk))
      have hpl : P'.length = n := by rw [HP1.out, HZL.out]
      have hok2 : ∀ p ∈ P', okP (fun k => (Value.slice oa n oc).ownBlock = some k) W2 p := fun p hp => by
        obtain ⟨a, b, c⟩ := HOK.out p (HP2.out p hp)
        exact ⟨a, b.step HS2.out (fun k hk => .inl hk) (fun k hk => .inl hk), c⟩
      have hcomp := compact_any W2 w.heap.size (.slice oa n oc) P' (by have := HP5.out; rw [HZL.out] at this; rw [hpl]; exact this) hok2 (by rw [hpl]; exact hn)
      have hres := comp_res HCLN.out HM.out HP1.out HP2.out HP3.out (fun i j h1 h2 => by have := HP4.out i j h1 h2; omega)
      have hdl : (compTo P' P'.length).length ≤ n := by have := compTo_len P' P'.length; omega
      have HB2 := Lib.hid hb2
      have HCOMP := Lib.hid hcomp
      have HRES := Lib.hid hres
      clear hb2 hok2 hcomp hres HP1 HP2 HP3 HP4 HP5 HSORT HOK HS2
      clear hpl
      generalize compTo P' P'.length = D at HCOMP HRES hdl
      obtain ⟨r, hr⟩ : ∃ r, r = D.map (·.1) := ⟨_, rfl⟩
      obtain ⟨m, hm⟩ : ∃ m, m = r.length := ⟨_, rfl⟩
      have hmd : D.length = m := by rw [hm, hr, List.length_map]
      have hcomp2 : Calls Try.prog 49 #[.slice oa n oc, .func (.func 50) #[] #[]] W2 fun e w' => (∃ xa xc, e = .returned (.slice xa m xc) ∧ FinalsAt w' (.slice xa m xc) r) ∧ Since (fun k => (Value.slice oa n oc).ownBlock = some k) W2 w' := by
        have := HCOMP.out
        unfold CompEnd at this
        rw [hmd, ← hr] at this
        exact this
      rw [← hr] at HRES
      have HCOMP2 := Lib.hid hcomp2
      have HMR := Lib.hid hm
      have hml : m ≤ 1000000 := by omega
      clear hr hm hmd hcomp2 HCOMP hdl
      go_upto_region 9 with (go_at_call 49; go_must (refine HCOMP2.out.mono ?_); rintro e W3 ⟨⟨xa, xc, rfl, hx⟩, hs3⟩; (have HX := Lib.hid hx); (have HB3 : Hid (Below w.heap.size w W3) := HB2.out.trans (hs3.below HB2.out.size (fun k hk => HF.out k hk))); clear hx hs3)
      go_wp2_with fail
      go_loopg [2, 24] m (fun gg s2 s24 wr => ∃ (i : Nat) (ya : Option Addr) (yc : Nat) (cs2 : List (List Value)), i ≤ m ∧ Hid (gg = m - i) ∧ s2 = .slice ya i yc ∧ s24 = .int .i64 i ∧ Hid (RowW W3 wr FinalR 2 70 (.slice ya i yc) (r.take i) cs2))
      case atStart => exact ⟨0, none, 0, [], Nat.zero_le _, rfl, rfl, rfl, RowW.nil _ _ _ _ (Below.refl _ _)⟩
      case round =>
        obtain ⟨i, ya, yc, cs2, hi2, HG2, rfl, rfl, HR⟩ := hrel
        by_cases hlt2 : i < m
        · have hltI : (i : Int) < (m : Int) := by omega
          obtain ⟨b, off, ga, gc, ka, kc, hea, -, x0, x1, hfi⟩ := FinalsAt.part HX.out i (by rw [← HMR.out]; exact hlt2)
          subst hea
          have htg := take_one (l := r) (i := i) (by rw [← HMR.out]; exact hlt2)
          have hlen : (r.take i).length = i := by rw [List.length_take, ← HMR.out]; omega
          generalize r.getD i default = f at x0 x1 hfi htg
          generalize f.mem.length = fm at x0 hfi
          generalize f.regs.length = fr at x1 hfi
          have hcp : FinalR W3 f [.slice ga fm gc, .slice ka fr kc] := ⟨_, _, rfl, hfi⟩
          have HCP := Lib.hid hcp
          have HTG := Lib.hid htg
          have HLEN := Lib.hid hlen
          replace x0 := cells_kept HR.out.below _ _ x0
          replace x1 := cells_kept HR.out.below _ _ x1
          clear hcp hfi htg hlen
          go_upto_region 11 with fail
          clear x0 x1
          have hrx := HR.out.later ((Below.refl wr.heap.size wr).alloc (Nat.le_refl _) (.cells #[.slice ga fm gc, .slice ka fr kc] 103))
          have htb := heap_alloc_new wr (.cells #[.slice ga fm gc, .slice ka fr kc] 103)
          have HRX := Lib.hid hrx
          have HTB := Lib.hid htb
          clear hrx htb
          generalize World.alloc wr _ = X at HRX HTB ⊢
          generalize wr.heap.size = tb at HTB ⊢
          have t0 := cell_of_block HTB.out 0
          have t1 := cell_of_block HTB.out 1
          have hrow := HRX.out.row
          rw [HLEN.out] at hrow
          have HROW := Lib.hid hrow
          clear hrow
          go_wp2_with (at_builtin; go_must (refine wpList_append_at_ _ rfl _ _ 34 rfl 70 (.agg #[.slice none 0 0, .slice none 0 0]) 2 48 Try.underlying34 final_info rfl (by decide) W3.heap.size (.slice ya i yc) i (cs2.flatten) rfl ((HROW.out).alloc _) ⟨X.heap.size, 0, none⟩ 1 1 [.slice ga fm gc, .slice ka fr kc] rfl rfl (row_new _ [.slice ga fm gc, .slice ka fr kc] _) (by simp [Value.oneCell']) (by unfold maxLen; omega) (by omega) (by have := HRX.out.below.size; simp; omega) ?_); intro ja jc X2 f1 f2 f3 f4 f5 f6; (have HP := Lib.hid (HRX.out.push (x := f) (cs := [.slice ga fm gc, .slice ka fr kc]) HCP.out rfl (by rw [HLEN.out]; exact f1) f4)); clear f1 f2 f3 f4 f5 f6)
          go_roundg (m - (i + 1))
          case measure => rw [HG2.out]; omega
          case rel => exact ⟨i + 1, ja, jc, _, by omega, rfl, rfl, by simp, by rw [Hid, HTG.out]; exact HP.out⟩
        · obtain rfl : m = i := by omega
          have hR := HR.out
          rw [HMR.out, List.take_length] at hR
          rw [← HMR.out] at hR
          have HRR := Lib.hid hR
          clear hR HR
          go_wp2_with fail
          go_ret
          exact ⟨r, HRES.out, addEnd_of HMR.out (HRR.out.slice FinalR.stays) (HB3.out.trans (HRR.out.below.mono HB3.out.size))⟩
end Go.Proofs.Ytnlkbboghcdpnaa
