/- Whatever code and whatever states: finals are told alike: the walk of the law. -/
import Derived.Test.YtnlkbboghcdpnaaAwakeF
namespace Go.Proofs.Ytnlkbboghcdpnaa
open Go.RowKit

def smallS (s : StateD) : Bool := decide (s.threads.length < 20) && decide (s.mem.length < 20)
set_option maxRecDepth 100000 in
set_option maxHeartbeats 4000000 in
theorem small_any (w : World) (s : StateD) (tv mv : Value) (hs : StateAt w s tv mv) : Calls Try.prog 8 #[stateV s tv mv] w fun e w' => e = .returned (.bool (smallS s)) ∧ Below w.heap.size w w' := by
  obtain ⟨ta, tc, rfl, -⟩ := SliceR.slice hs.threads
  obtain ⟨ma, mc, rfl, -⟩ := SliceR.slice hs.mem
  unfold stateV smallS
  generalize s.threads.length = n
  generalize s.mem.length = m
  by_cases h1 : n < 20
  · have h1I : (n : Int) < 20 := by omega
    by_cases h2 : m < 20
    · have h2I : (m : Int) < 20 := by omega
      go_enter Try.func8, Try.ntmps8
      go_wp2
      go_ret
      exact ⟨by simp [h1, h2], (Below.refl _ _).alloc (Nat.le_refl _) _⟩
    · have h2I : ¬ (m : Int) < 20 := by omega
      go_enter Try.func8, Try.ntmps8
      go_wp2
      go_ret
      exact ⟨by simp, (Below.refl _ _).alloc (Nat.le_refl _) _⟩
  · have h1I : ¬ (n : Int) < 20 := by omega
    go_enter Try.func8, Try.ntmps8
    go_wp2
    go_ret
    exact ⟨by simp, (Below.refl _ _).alloc (Nat.le_refl _) _⟩
set_option maxRecDepth 100000 in
set_option maxHeartbeats 8000000 in
theorem finalAny_any (w : World) (d : Nat) (c : CodeD) (cv : Value) (hc : RowsAt d w cv c.threads) (l : List StateD) (lv : Value) (hl : StatesAt w lv l) :
    Calls Try.prog 3 #[codeV c cv, lv] w fun e w' => e = .returned (.bool true) ∧ Below w.heap.size w w' := by
  obtain ⟨ca, cc, rfl, -⟩ := SliceR.slice hc
  obtain ⟨la, lc, rfl, -⟩ := SliceR.slice hl
  have hend : ∀ W, RowsAt d W (.slice ca c.threads.length cc) c.threads → ∀ s sv mv, StateAt W s sv mv → Calls Try.prog 11 #[codeV c (.slice ca c.threads.length cc), stateV s sv mv] W fun e w' => e = .returned (.bool (endedS c s)) ∧ Below W.heap.size W w' := fun W hc s sv mv hs => ended_any W d c (.slice ca c.threads.length cc) hc s sv mv hs
  have hend2 : ∀ W, RowsAt d W (.slice ca c.threads.length cc) c.threads → ∀ s sv mv, StateAt W s sv mv → Calls Try.prog 12 #[codeV c (.slice ca c.threads.length cc), stateV s sv mv] W fun e w' => e = .returned (.bool (endedS c s)) ∧ Below W.heap.size W w' := fun W hc s sv mv hs => refEnded_any W d c (.slice ca c.threads.length cc) hc s sv mv hs
  have hfin : ∀ W, RowsAt d W (.slice ca c.threads.length cc) c.threads → StatesAt W (.slice la l.length lc) l → (∀ s ∈ l, s.mem.length = (l.getD 0 default).mem.length) → (∀ s ∈ l, fewS s) → l.length ≤ 100000 → Calls Try.prog 14 #[codeV c (.slice ca c.threads.length cc), .slice la l.length lc] W (AddEnd W (finalsS c l)) := fun W h1 h2 h3 h4 h5 => finals_any W d c _ h1 l _ h2 _ h3 h4 h5
  have hfin2 : ∀ W, RowsAt d W (.slice ca c.threads.length cc) c.threads → StatesAt W (.slice la l.length lc) l → (∀ s ∈ l, fewS s) → l.length ≤ 100000 → Calls Try.prog 15 #[codeV c (.slice ca c.threads.length cc), .slice la l.length lc] W (AddEnd W (finalsS c l)) := fun W h1 h2 h4 h5 => refFinals_any W d c _ h1 l _ h2 h4 h5
  have hmem : ∀ x ∈ finalsS c l, ∃ s ∈ l, x = ofS s := fun x hx => finalsTo_mem hx
  obtain ⟨R, hR⟩ : ∃ R, R = finalsS c l := ⟨_, rfl⟩
  rw [← hR] at hfin hfin2 hmem
  obtain ⟨ES, hES⟩ : ∃ ES, ES = endedS c := ⟨_, rfl⟩
  have hES2 : ∀ s, endedS c s = ES s := fun s => by rw [hES]
  simp only [hES2] at hend hend2
  clear hES hES2 hR
  unfold codeV at hend hend2 hfin hfin2 ⊢
  generalize c.vars = vars at hend hend2 hfin hfin2 ⊢
  generalize c.domain = dom at hend hend2 hfin hfin2 ⊢
  obtain ⟨n, hnn⟩ : ∃ n, n = l.length := ⟨_, rfl⟩
  obtain ⟨cn, hcn⟩ : ∃ n, n = c.threads.length := ⟨_, rfl⟩
  rw [← hnn] at hl hfin hfin2 ⊢
  rw [← hcn] at hc hend hend2 hfin hfin2 ⊢
  have hB := (Below.refl w.heap.size w).alloc (Nat.le_refl _) (.cells #[.int .i64 vars, .int .i64 dom, .slice ca cn cc] 24)
  have H1 := Lib.hid (heap_alloc_new w (.cells #[.int .i64 vars, .int .i64 dom, .slice ca cn cc] 24))
  have HL := Lib.hid (SliceR.below StateR.stays hl hB)
  have HCS := Lib.hid (SliceR.below (RowR.stays d) hc hB)
  have HB := Lib.hid hB
  have HN := Lib.hid hnn
  have HEND := Lib.hid hend
  have HEND2 := Lib.hid hend2
  have HFI := Lib.hid hfin
  have HFI2 := Lib.hid hfin2
  have HMEM := Lib.hid hmem
  clear hc hl hB hnn hcn hend hend2 hfin hfin2 hmem
  have HAW : Hid (∀ y : World, Calls Try.prog 7 #[] y fun e w' => e = .returned (.bool true) ∧ Below y.heap.size y w') := fun y => awakeF_any y
  by_cases hbig : 20 < n
  · have hbigI : (n : Int) > 20 := by omega
    go_enter Try.func3, Try.ntmps3
    go_wp2_with (go_at_call 7; go_must (refine (HAW.out _).mono ?_); rintro e W2 ⟨rfl, hb⟩)
    go_ret
    exact ⟨rfl, HB.out.trans (hb.mono HB.out.size)⟩
  have hbigI : ¬ (n : Int) > 20 := by omega
  go_enter Try.func3, Try.ntmps3
  go_upto_region 1 with fail
  generalize World.alloc w _ = W at HB H1 HL HCS ⊢
  generalize w.heap.size = gx at H1 ⊢
  have HOUT : Hid (∀ x, Below W.heap.size W x → Below w.heap.size w x) := fun x hx => HB.out.trans (hx.mono HB.out.size)
  go_wp2_with fail
  go_loopg [5] n (fun gg s5 wr => ∃ i : Nat, i ≤ n ∧ Hid (gg = n - i) ∧ s5 = .int .i64 i ∧ Hid (∀ j, j < i → smallS (l.getD j default) = true ∧ (l.getD j default).mem.length = (l.getD 0 default).mem.length) ∧ Hid (Below W.heap.size W wr))
  case atStart => exact ⟨0, Nat.zero_le _, rfl, rfl, fun j hj => by omega, Below.refl _ _⟩
  case round =>
    obtain ⟨i, hi, HG, rfl, HJ, HBR⟩ := hrel
    by_cases hlt : i < n
    · have hltI : (i : Int) < (n : Int) := by omega
      obtain ⟨b, off, tv, yv, hea, -, x0, x1, x2, hst⟩ := StatesAt.part HL.out i (by rw [← HN.out]; exact hlt)
      obtain ⟨b', off', tv', yv', hea', -, -, y1, -, hst'⟩ := StatesAt.part HL.out 0 (by rw [← HN.out]; omega)
      subst hea
      obtain ⟨rfl, rfl⟩ : b = b' ∧ off = off' := by simpa using hea'
      obtain ⟨ta, tac, rfl, -⟩ := SliceR.slice hst.threads
      obtain ⟨ya, yac, rfl, -⟩ := SliceR.slice hst.mem
      obtain ⟨ya', yac', rfl, -⟩ := SliceR.slice hst'.mem
      have hsm := fun y (hy : Below W.heap.size W y) => small_any y (l.getD i default) _ _ (hst.below hy)
      have hnew : ∀ (h1 : smallS (l.getD i default) = true) (h2 : (l.getD i default).mem.length = (l.getD 0 default).mem.length), ∀ j, j < i + 1 → smallS (l.getD j default) = true ∧ (l.getD j default).mem.length = (l.getD 0 default).mem.length := fun h1 h2 j hj => by
        by_cases e : j = i
        · subst e; exact ⟨h1, h2⟩
        · exact HJ.out j (by omega)
      unfold stateV at hsm
      obtain ⟨k0, hk0⟩ : ∃ k, k = (l.getD 0 default).mem.length := ⟨_, rfl⟩
      rw [← hk0] at y1
      have HK0 := Lib.hid hk0
      clear hk0
      generalize l.getD i default = s at x0 x1 x2 hsm hnew
      generalize s.threads.length = n1 at x0 hsm
      generalize s.mem.length = n2 at x1 hsm hnew
      generalize s.bad = bd at x2 hsm
      obtain ⟨sm, hsme⟩ : ∃ q, q = smallS s := ⟨_, rfl⟩
      rw [← hsme] at hsm hnew
      have HSM := Lib.hid hsm
      have HNEW := Lib.hid hnew
      have C6 : Hid (∀ y, Below wr.heap.size wr y → y.cell? ⟨b, off + i * 3, none⟩ = some (.slice ta n1 tac) ∧ y.cell? ⟨b, off + i * 3 + 1, none⟩ = some (.slice ya n2 yac) ∧ y.cell? ⟨b, off + i * 3 + 2, none⟩ = some (.bool bd) ∧ y.cell? ⟨b, off + 1, none⟩ = some (.slice ya' k0 yac')) := fun y hy => by
        have hw := below_then HBR.out hy
        refine ⟨cells_kept hw _ _ x0, cells_kept hw _ _ x1, cells_kept hw _ _ x2, ?_⟩
        have := cells_kept hw _ _ y1
        rw [Nat.zero_mul, Nat.add_zero] at this
        exact this
      clear hsm hnew hst hst' hsme x0 x1 x2 y1
      have hn0 : 0 < n := by omega
      go_upto_region 6 with fail
      cases sm with
      | false =>
        refine wp_region_noPanic ?_
        refine wp_region_held_drew (S := fun x => Below wr.heap.size wr x) (by kernel_rfl) (Below.refl _ _).drew (fun hH => ?_)
        refine wpAnyH_take (i := 0) (v := ?vn1) rfl (by kernel_rfl) (by kernel_rfl) (by kernel_rfl) (fun _ _ _ h => h) (Or.inl ⟨by rfl, ?hyn1⟩) (by assumption) ?_
        case hyn1 => (intro x' hxx; obtain ⟨e0, e1, e2, e3⟩ := C6.out x' hxx; go_simp; try with_reducible rfl)
        change wpAnyH _ _ _ _ _ _ _ (Act.put _ (some 17) _) _
        simp only [Act.put, List.setIfInBounds_toArray, List.set_cons_zero, List.set_cons_succ]
        refine wpAnyH_take (i := 1) (v := ?vn2) rfl (by kernel_rfl) (by kernel_rfl) (by kernel_rfl) (fun _ _ _ h => h) (Or.inl ⟨by rfl, ?hyn2⟩) (by assumption) ?_
        case hyn2 => (intro x' hxx; obtain ⟨e0, e1, e2, e3⟩ := C6.out x' hxx; go_simp; try with_reducible rfl)
        change wpAnyH _ _ _ _ _ _ _ (Act.put _ (some 18) _) _
        simp only [Act.put, List.setIfInBounds_toArray, List.set_cons_zero, List.set_cons_succ]
        refine wpAnyH_take (i := 2) (v := ?vn3) rfl (by kernel_rfl) (by kernel_rfl) (by kernel_rfl) (fun _ _ _ h => h) (Or.inl ⟨by rfl, ?hyn3⟩) (by assumption) ?_
        case hyn3 => (intro x' hxx; obtain ⟨e0, e1, e2, e3⟩ := C6.out x' hxx; go_simp; try with_reducible rfl)
        change wpAnyH _ _ _ _ _ _ _ (Act.put _ (some 19) _) _
        simp only [Act.put, List.setIfInBounds_toArray, List.set_cons_zero, List.set_cons_succ]
        refine wpAnyH_take (i := 3) (v := ?vn4) rfl (by kernel_rfl) (by kernel_rfl) (by kernel_rfl) (fun _ _ _ h => h) (Or.inl ⟨by rfl, ?hyn4⟩) (by assumption) ?_
        case hyn4 => (intro x' hxx; obtain ⟨e0, e1, e2, e3⟩ := C6.out x' hxx; go_simp; try with_reducible rfl)
        change wpAnyH _ _ _ _ _ _ _ (Act.put _ (some 20) _) _
        simp only [Act.put, List.setIfInBounds_toArray, List.set_cons_zero, List.set_cons_succ]
        refine wpAnyH_ready (rs := [4]) (by kernel_rfl) (by simp) ?_
        refine AllReadyH.cons rfl (fun K hK => ?_) AllReadyH.nil
        go_simp
        refine (HSM.out wr.drew (below_then HBR.out hH)).mono ?_
        rintro e nw4 ⟨rfl, hb⟩
        have hHn4 : Below wr.heap.size wr nw4 := below_then hH hb
        refine hK.out _ _ hHn4 (fun _ => ?_)
        clear hK K hb hH
        refine wpAnyH_take (i := 5) (v := ?vn5) rfl (by kernel_rfl) (by kernel_rfl) (by kernel_rfl) (fun _ _ _ h => h) (Or.inl ⟨by rfl, ?hyn5⟩) (by assumption) ?_
        case hyn5 => (intro x' hxx; obtain ⟨e0, e1, e2, e3⟩ := C6.out x' hxx; go_simp; try with_reducible rfl)
        change wpAnyH _ _ _ _ _ _ _ (Act.put _ (some 22) _) _
        simp only [Act.put, List.setIfInBounds_toArray, List.set_cons_zero, List.set_cons_succ]
        refine wpAnyH_take (i := 6) (v := ?vn6) rfl (by kernel_rfl) (by kernel_rfl) (by kernel_rfl) (fun _ _ _ h => h) (Or.inl ⟨by rfl, ?hyn6⟩) (by assumption) ?_
        case hyn6 => (intro x' hxx; obtain ⟨e0, e1, e2, e3⟩ := C6.out x' hxx; go_simp; try with_reducible rfl)
        change wpAnyH _ _ _ _ _ _ _ (Act.put _ (some 23) _) _
        simp only [Act.put, List.setIfInBounds_toArray, List.set_cons_zero, List.set_cons_succ]
        refine wpAnyH_take (i := 7) (v := undef) rfl (by kernel_rfl) (by kernel_rfl) (by kernel_rfl) (fun _ _ _ h => h) (Or.inr ⟨by rfl, rfl⟩) (by assumption) ?_
        change wpAnyH _ _ _ _ _ _ _ (Act.put _ (some 24) _) _
        simp only [Act.put, List.setIfInBounds_toArray, List.set_cons_zero, List.set_cons_succ]
        refine wpAnyH_take (i := 8) (v := undef) rfl (by kernel_rfl) (by kernel_rfl) (by kernel_rfl) (fun _ _ _ h => h) (Or.inr ⟨by rfl, rfl⟩) (by assumption) ?_
        change wpAnyH _ _ _ _ _ _ _ (Act.put _ (some 25) _) _
        simp only [Act.put, List.setIfInBounds_toArray, List.set_cons_zero, List.set_cons_succ]
        refine wpAnyH_take (i := 9) (v := undef) rfl (by kernel_rfl) (by kernel_rfl) (by kernel_rfl) (fun _ _ _ h => h) (Or.inr ⟨by rfl, rfl⟩) (by assumption) ?_
        change wpAnyH _ _ _ _ _ _ _ (Act.put _ (some 26) _) _
        simp only [Act.put, List.setIfInBounds_toArray, List.set_cons_zero, List.set_cons_succ]
        refine wpAnyH_take (i := 10) (v := undef) rfl (by kernel_rfl) (by kernel_rfl) (by kernel_rfl) (fun _ _ _ h => h) (Or.inr ⟨by rfl, rfl⟩) (by assumption) ?_
        change wpAnyH _ _ _ _ _ _ _ (Act.put _ (some 27) _) _
        simp only [Act.put, List.setIfInBounds_toArray, List.set_cons_zero, List.set_cons_succ]
        refine wpAnyH_take (i := 11) (v := undef) rfl (by kernel_rfl) (by kernel_rfl) (by kernel_rfl) (fun _ _ _ h => h) (Or.inr ⟨by rfl, rfl⟩) (by assumption) ?_
        change wpAnyH _ _ _ _ _ _ _ (Act.put _ (some 28) _) _
        simp only [Act.put, List.setIfInBounds_toArray, List.set_cons_zero, List.set_cons_succ]
        refine wpAnyH_take (i := 12) (v := undef) rfl (by kernel_rfl) (by kernel_rfl) (by kernel_rfl) (fun _ _ _ h => h) (Or.inr ⟨by rfl, rfl⟩) (by assumption) ?_
        change wpAnyH _ _ _ _ _ _ _ (Act.put _ (some 29) _) _
        simp only [Act.put, List.setIfInBounds_toArray, List.set_cons_zero, List.set_cons_succ]
        refine wpAnyH_take (i := 13) (v := undef) rfl (by kernel_rfl) (by kernel_rfl) (by kernel_rfl) (fun _ _ _ h => h) (Or.inr ⟨by rfl, rfl⟩) (by assumption) ?_
        change wpAnyH _ _ _ _ _ _ _ (Act.put _ (some 30) _) _
        simp only [Act.put, List.setIfInBounds_toArray, List.set_cons_zero, List.set_cons_succ]
        refine wpAnyH_take (i := 14) (v := undef) rfl (by kernel_rfl) (by kernel_rfl) (by kernel_rfl) (fun _ _ _ h => h) (Or.inr ⟨by rfl, rfl⟩) (by assumption) ?_
        change wpAnyH _ _ _ _ _ _ _ (Act.put _ (some 31) _) _
        simp only [Act.put, List.setIfInBounds_toArray, List.set_cons_zero, List.set_cons_succ]
        refine wpAnyH_take (i := 15) (v := undef) rfl (by kernel_rfl) (by kernel_rfl) (by kernel_rfl) (fun _ _ _ h => h) (Or.inr ⟨by rfl, rfl⟩) (by assumption) ?_
        change wpAnyH _ _ _ _ _ _ _ (Act.put _ (some 32) _) _
        simp only [Act.put, List.setIfInBounds_toArray, List.set_cons_zero, List.set_cons_succ]
        refine wpAnyH_take (i := 16) (v := undef) rfl (by kernel_rfl) (by kernel_rfl) (by kernel_rfl) (fun _ _ _ h => h) (Or.inr ⟨by rfl, rfl⟩) (by assumption) ?_
        change wpAnyH _ _ _ _ _ _ _ (Act.put _ (some 33) _) _
        simp only [Act.put, List.setIfInBounds_toArray, List.set_cons_zero, List.set_cons_succ]
        refine wpAnyH_take (i := 17) (v := undef) rfl (by kernel_rfl) (by kernel_rfl) (by kernel_rfl) (fun _ _ _ h => h) (Or.inr ⟨by rfl, rfl⟩) (by assumption) ?_
        change wpAnyH _ _ _ _ _ _ _ (Act.put _ (some 34) _) _
        simp only [Act.put, List.setIfInBounds_toArray, List.set_cons_zero, List.set_cons_succ]
        refine wpAnyH_take (i := 18) (v := undef) rfl (by kernel_rfl) (by kernel_rfl) (by kernel_rfl) (fun _ _ _ h => h) (Or.inr ⟨by rfl, rfl⟩) (by assumption) ?_
        change wpAnyH _ _ _ _ _ _ _ (Act.put _ (some 35) _) _
        simp only [Act.put, List.setIfInBounds_toArray, List.set_cons_zero, List.set_cons_succ]
        refine wpAnyH_take (i := 19) (v := ?vn19) rfl (by kernel_rfl) (by kernel_rfl) (by kernel_rfl) (fun _ _ _ h => h) (Or.inl ⟨by rfl, ?hyn19⟩) (by assumption) ?_
        case hyn19 => (intro x' hxx; obtain ⟨e0, e1, e2, e3⟩ := C6.out x' hxx; go_simp; try with_reducible rfl)
        change wpAnyH _ _ _ _ _ _ _ (Act.put _ (some 36) _) _
        simp only [Act.put, List.setIfInBounds_toArray, List.set_cons_zero, List.set_cons_succ]
        refine wpAnyH_done (by kernel_rfl) ?_ _
        refine NoPanic.normal ?_
        have HE6 := Lib.hid hHn4
        clear hHn4
        go_wp2_with (go_at_call 7; go_must (refine (HAW.out _).mono ?_); rintro e W2 ⟨rfl, hb⟩)
        go_ret
        exact ⟨rfl, HOUT.out _ (below_then (below_then HBR.out HE6.out) hb)⟩
      | true =>
        refine wp_region_noPanic ?_
        refine wp_region_held_drew (S := fun x => Below wr.heap.size wr x) (by kernel_rfl) (Below.refl _ _).drew (fun hH => ?_)
        refine wpAnyH_take (i := 0) (v := ?vy1) rfl (by kernel_rfl) (by kernel_rfl) (by kernel_rfl) (fun _ _ _ h => h) (Or.inl ⟨by rfl, ?hyy1⟩) (by assumption) ?_
        case hyy1 => (intro x' hxx; obtain ⟨e0, e1, e2, e3⟩ := C6.out x' hxx; go_simp; try with_reducible rfl)
        change wpAnyH _ _ _ _ _ _ _ (Act.put _ (some 17) _) _
        simp only [Act.put, List.setIfInBounds_toArray, List.set_cons_zero, List.set_cons_succ]
        refine wpAnyH_take (i := 1) (v := ?vy2) rfl (by kernel_rfl) (by kernel_rfl) (by kernel_rfl) (fun _ _ _ h => h) (Or.inl ⟨by rfl, ?hyy2⟩) (by assumption) ?_
        case hyy2 => (intro x' hxx; obtain ⟨e0, e1, e2, e3⟩ := C6.out x' hxx; go_simp; try with_reducible rfl)
        change wpAnyH _ _ _ _ _ _ _ (Act.put _ (some 18) _) _
        simp only [Act.put, List.setIfInBounds_toArray, List.set_cons_zero, List.set_cons_succ]
        refine wpAnyH_take (i := 2) (v := ?vy3) rfl (by kernel_rfl) (by kernel_rfl) (by kernel_rfl) (fun _ _ _ h => h) (Or.inl ⟨by rfl, ?hyy3⟩) (by assumption) ?_
        case hyy3 => (intro x' hxx; obtain ⟨e0, e1, e2, e3⟩ := C6.out x' hxx; go_simp; try with_reducible rfl)
        change wpAnyH _ _ _ _ _ _ _ (Act.put _ (some 19) _) _
        simp only [Act.put, List.setIfInBounds_toArray, List.set_cons_zero, List.set_cons_succ]
        refine wpAnyH_take (i := 3) (v := ?vy4) rfl (by kernel_rfl) (by kernel_rfl) (by kernel_rfl) (fun _ _ _ h => h) (Or.inl ⟨by rfl, ?hyy4⟩) (by assumption) ?_
        case hyy4 => (intro x' hxx; obtain ⟨e0, e1, e2, e3⟩ := C6.out x' hxx; go_simp; try with_reducible rfl)
        change wpAnyH _ _ _ _ _ _ _ (Act.put _ (some 20) _) _
        simp only [Act.put, List.setIfInBounds_toArray, List.set_cons_zero, List.set_cons_succ]
        refine wpAnyH_ready (rs := [4]) (by kernel_rfl) (by simp) ?_
        refine AllReadyH.cons rfl (fun K hK => ?_) AllReadyH.nil
        go_simp
        refine (HSM.out wr.drew (below_then HBR.out hH)).mono ?_
        rintro e yw4 ⟨rfl, hb⟩
        have hHy4 : Below wr.heap.size wr yw4 := below_then hH hb
        refine hK.out _ _ hHy4 (fun _ => ?_)
        clear hK K hb hH
        refine wpAnyH_take (i := 5) (v := ?vy5) rfl (by kernel_rfl) (by kernel_rfl) (by kernel_rfl) (fun _ _ _ h => h) (Or.inl ⟨by rfl, ?hyy5⟩) (by assumption) ?_
        case hyy5 => (intro x' hxx; obtain ⟨e0, e1, e2, e3⟩ := C6.out x' hxx; go_simp; try with_reducible rfl)
        change wpAnyH _ _ _ _ _ _ _ (Act.put _ (some 22) _) _
        simp only [Act.put, List.setIfInBounds_toArray, List.set_cons_zero, List.set_cons_succ]
        refine wpAnyH_take (i := 6) (v := ?vy6) rfl (by kernel_rfl) (by kernel_rfl) (by kernel_rfl) (fun _ _ _ h => h) (Or.inl ⟨by rfl, ?hyy6⟩) (by assumption) ?_
        case hyy6 => (intro x' hxx; obtain ⟨e0, e1, e2, e3⟩ := C6.out x' hxx; go_simp; try with_reducible rfl)
        change wpAnyH _ _ _ _ _ _ _ (Act.put _ (some 23) _) _
        simp only [Act.put, List.setIfInBounds_toArray, List.set_cons_zero, List.set_cons_succ]
        refine wpAnyH_take (i := 7) (v := ?vy7) rfl (by kernel_rfl) (by kernel_rfl) (by kernel_rfl) (fun _ _ _ h => h) (Or.inl ⟨by rfl, ?hyy7⟩) (by assumption) ?_
        case hyy7 => (intro x' hxx; obtain ⟨e0, e1, e2, e3⟩ := C6.out x' hxx; go_simp; try with_reducible rfl)
        change wpAnyH _ _ _ _ _ _ _ (Act.put _ (some 24) _) _
        simp only [Act.put, List.setIfInBounds_toArray, List.set_cons_zero, List.set_cons_succ]
        refine wpAnyH_take (i := 8) (v := ?vy8) rfl (by kernel_rfl) (by kernel_rfl) (by kernel_rfl) (fun _ _ _ h => h) (Or.inl ⟨by rfl, ?hyy8⟩) (by assumption) ?_
        case hyy8 => (intro x' hxx; obtain ⟨e0, e1, e2, e3⟩ := C6.out x' hxx; go_simp; try with_reducible rfl)
        change wpAnyH _ _ _ _ _ _ _ (Act.put _ (some 25) _) _
        simp only [Act.put, List.setIfInBounds_toArray, List.set_cons_zero, List.set_cons_succ]
        refine wpAnyH_take (i := 9) (v := ?vy9) rfl (by kernel_rfl) (by kernel_rfl) (by kernel_rfl) (fun _ _ _ h => h) (Or.inl ⟨by rfl, ?hyy9⟩) (by assumption) ?_
        case hyy9 => (intro x' hxx; obtain ⟨e0, e1, e2, e3⟩ := C6.out x' hxx; go_simp; try with_reducible rfl)
        change wpAnyH _ _ _ _ _ _ _ (Act.put _ (some 26) _) _
        simp only [Act.put, List.setIfInBounds_toArray, List.set_cons_zero, List.set_cons_succ]
        refine wpAnyH_take (i := 10) (v := ?vy10) rfl (by kernel_rfl) (by kernel_rfl) (by kernel_rfl) (fun _ _ _ h => h) (Or.inl ⟨by rfl, ?hyy10⟩) (by assumption) ?_
        case hyy10 => (intro x' hxx; obtain ⟨e0, e1, e2, e3⟩ := C6.out x' hxx; go_simp; try with_reducible rfl)
        change wpAnyH _ _ _ _ _ _ _ (Act.put _ (some 27) _) _
        simp only [Act.put, List.setIfInBounds_toArray, List.set_cons_zero, List.set_cons_succ]
        refine wpAnyH_take (i := 11) (v := ?vy11) rfl (by kernel_rfl) (by kernel_rfl) (by kernel_rfl) (fun _ _ _ h => h) (Or.inl ⟨by rfl, ?hyy11⟩) (by assumption) ?_
        case hyy11 => (intro x' hxx; obtain ⟨e0, e1, e2, e3⟩ := C6.out x' hxx; go_simp; try with_reducible rfl)
        change wpAnyH _ _ _ _ _ _ _ (Act.put _ (some 28) _) _
        simp only [Act.put, List.setIfInBounds_toArray, List.set_cons_zero, List.set_cons_succ]
        refine wpAnyH_take (i := 12) (v := ?vy12) rfl (by kernel_rfl) (by kernel_rfl) (by kernel_rfl) (fun _ _ _ h => h) (Or.inl ⟨by rfl, ?hyy12⟩) (by assumption) ?_
        case hyy12 => (intro x' hxx; obtain ⟨e0, e1, e2, e3⟩ := C6.out x' hxx; go_simp; try with_reducible rfl)
        change wpAnyH _ _ _ _ _ _ _ (Act.put _ (some 29) _) _
        simp only [Act.put, List.setIfInBounds_toArray, List.set_cons_zero, List.set_cons_succ]
        refine wpAnyH_take (i := 13) (v := ?vy13) rfl (by kernel_rfl) (by kernel_rfl) (by kernel_rfl) (fun _ _ _ h => h) (Or.inl ⟨by rfl, ?hyy13⟩) (by assumption) ?_
        case hyy13 => (intro x' hxx; obtain ⟨e0, e1, e2, e3⟩ := C6.out x' hxx; go_simp; try with_reducible rfl)
        change wpAnyH _ _ _ _ _ _ _ (Act.put _ (some 30) _) _
        simp only [Act.put, List.setIfInBounds_toArray, List.set_cons_zero, List.set_cons_succ]
        refine wpAnyH_take (i := 14) (v := ?vy14) rfl (by kernel_rfl) (by kernel_rfl) (by kernel_rfl) (fun _ _ _ h => h) (Or.inl ⟨by rfl, ?hyy14⟩) (by assumption) ?_
        case hyy14 => (intro x' hxx; obtain ⟨e0, e1, e2, e3⟩ := C6.out x' hxx; go_simp; try with_reducible rfl)
        change wpAnyH _ _ _ _ _ _ _ (Act.put _ (some 31) _) _
        simp only [Act.put, List.setIfInBounds_toArray, List.set_cons_zero, List.set_cons_succ]
        refine wpAnyH_take (i := 15) (v := ?vy15) rfl (by kernel_rfl) (by kernel_rfl) (by kernel_rfl) (fun _ _ _ h => h) (Or.inl ⟨by rfl, ?hyy15⟩) (by assumption) ?_
        case hyy15 => (intro x' hxx; obtain ⟨e0, e1, e2, e3⟩ := C6.out x' hxx; go_simp; try with_reducible rfl)
        change wpAnyH _ _ _ _ _ _ _ (Act.put _ (some 32) _) _
        simp only [Act.put, List.setIfInBounds_toArray, List.set_cons_zero, List.set_cons_succ]
        refine wpAnyH_take (i := 16) (v := ?vy16) rfl (by kernel_rfl) (by kernel_rfl) (by kernel_rfl) (fun _ _ _ h => h) (Or.inl ⟨by rfl, ?hyy16⟩) (by assumption) ?_
        case hyy16 => (intro x' hxx; obtain ⟨e0, e1, e2, e3⟩ := C6.out x' hxx; go_simp; try with_reducible rfl)
        change wpAnyH _ _ _ _ _ _ _ (Act.put _ (some 33) _) _
        simp only [Act.put, List.setIfInBounds_toArray, List.set_cons_zero, List.set_cons_succ]
        refine wpAnyH_take (i := 17) (v := ?vy17) rfl (by kernel_rfl) (by kernel_rfl) (by kernel_rfl) (fun _ _ _ h => h) (Or.inl ⟨by rfl, ?hyy17⟩) (by assumption) ?_
        case hyy17 => (intro x' hxx; obtain ⟨e0, e1, e2, e3⟩ := C6.out x' hxx; go_simp; try with_reducible rfl)
        change wpAnyH _ _ _ _ _ _ _ (Act.put _ (some 34) _) _
        simp only [Act.put, List.setIfInBounds_toArray, List.set_cons_zero, List.set_cons_succ]
        refine wpAnyH_take (i := 18) (v := ?vy18) rfl (by kernel_rfl) (by kernel_rfl) (by kernel_rfl) (fun _ _ _ h => h) (Or.inl ⟨by rfl, ?hyy18⟩) (by assumption) ?_
        case hyy18 => (intro x' hxx; obtain ⟨e0, e1, e2, e3⟩ := C6.out x' hxx; go_simp; try with_reducible rfl)
        change wpAnyH _ _ _ _ _ _ _ (Act.put _ (some 35) _) _
        simp only [Act.put, List.setIfInBounds_toArray, List.set_cons_zero, List.set_cons_succ]
        refine wpAnyH_take (i := 19) (v := ?vy19) rfl (by kernel_rfl) (by kernel_rfl) (by kernel_rfl) (fun _ _ _ h => h) (Or.inl ⟨by rfl, ?hyy19⟩) (by assumption) ?_
        case hyy19 => (intro x' hxx; obtain ⟨e0, e1, e2, e3⟩ := C6.out x' hxx; go_simp; try with_reducible rfl)
        change wpAnyH _ _ _ _ _ _ _ (Act.put _ (some 36) _) _
        simp only [Act.put, List.setIfInBounds_toArray, List.set_cons_zero, List.set_cons_succ]
        refine wpAnyH_done (by kernel_rfl) ?_ _
        refine NoPanic.normal ?_
        have HE6 := Lib.hid hHy4
        clear hHy4
        by_cases he : n2 = k0
        · have HNEW3 := Lib.hid (HNEW.out rfl (he.trans HK0.out))
          clear HK0 HNEW
          subst he
          go_wp2_with fail
          go_roundg (n - (i + 1))
          case measure => rw [HG.out]; omega
          case rel => exact ⟨i + 1, by omega, rfl, by simp, HNEW3.out, below_then HBR.out HE6.out⟩
        · have he2 : ((n2 : Int) != (k0 : Int)) = true := by simp; omega
          go_wp2_with (go_at_call 7; go_must (refine (HAW.out _).mono ?_); rintro e W2 ⟨rfl, hb⟩)
          go_ret
          exact ⟨rfl, HOUT.out _ (below_then (below_then HBR.out HE6.out) hb)⟩
    · obtain rfl : n = i := by omega
      have hall : ∀ s ∈ l, smallS s = true ∧ s.mem.length = (l.getD 0 default).mem.length := fun s hs => by
        obtain ⟨j, hj, e⟩ := List.getElem_of_mem hs
        have := HJ.out j (by rw [HN.out]; exact hj)
        rw [show l.getD j default = s by rw [List.getD_eq_getElem?_getD, List.getElem?_eq_getElem hj, ← e]; rfl] at this
        exact this
      have hfew : ∀ s ∈ l, fewS s := fun s hs => by
        have h := (hall s hs).1
        unfold smallS at h
        simp only [Bool.and_eq_true, decide_eq_true_eq] at h
        exact ⟨by omega, by omega⟩
      have HALL := Lib.hid hall
      have HFEW := Lib.hid hfew
      obtain ⟨wo, rfl⟩ : ∃ wo : World, wo = wr := ⟨_, rfl⟩
      have HBO := HBR
      clear hall hfew HJ HBR HG
      go_wp2_with fail
      go_loopg [6] n (fun gg s6 wr => ∃ i : Nat, i ≤ n ∧ Hid (gg = n - i) ∧ s6 = .int .i64 i ∧ Hid (Below W.heap.size W wr))
      case atStart => exact ⟨0, Nat.zero_le _, rfl, rfl, HBO.out⟩
      case round =>
        obtain ⟨i, hi, HG, rfl, HBR⟩ := hrel
        by_cases hlt : i < n
        · have hltI : (i : Int) < (n : Int) := by omega
          obtain ⟨b, off, tv, yv, hea, -, x0, x1, x2, hst⟩ := StatesAt.part HL.out i (by rw [← HN.out]; exact hlt)
          subst hea
          obtain ⟨ta, tac, rfl, -⟩ := SliceR.slice hst.threads
          obtain ⟨ya, yac, rfl, -⟩ := SliceR.slice hst.mem
          have hE1 := fun y (hy : Below W.heap.size W y) => HEND.out y (SliceR.below (RowR.stays d) HCS.out hy) (l.getD i default) _ _ (hst.below hy)
          have hE2 := fun y (hy : Below W.heap.size W y) => HEND2.out y (SliceR.below (RowR.stays d) HCS.out hy) (l.getD i default) _ _ (hst.below hy)
          have hC1 := fun y (hy : Below W.heap.size W y) => clear_any y (l.getD i default) _ _ (hst.below hy)
          have hC2 := fun y (hy : Below W.heap.size W y) => refClear_any y (l.getD i default) _ _ (hst.below hy)
          unfold stateV at hE1 hE2 hC1 hC2
          generalize l.getD i default = s at x0 x1 x2 hE1 hE2 hC1 hC2
          generalize s.threads.length = n1 at x0 hE1 hE2 hC1 hC2
          generalize s.mem.length = n2 at x1 hE1 hE2 hC1 hC2
          generalize s.bad = bd at x2 hE1 hE2 hC1 hC2
          generalize ES s = en at hE1 hE2
          generalize clearS s = cl at hC1 hC2
          have HE1 := Lib.hid hE1
          have HE2 := Lib.hid hE2
          have HC1 := Lib.hid hC1
          have HC2 := Lib.hid hC2
          have C11 : Hid (∀ y, Below wr.heap.size wr y → y.cell? ⟨gx, 0, none⟩ = some (.int .i64 vars) ∧ y.cell? ⟨gx, 1, none⟩ = some (.int .i64 dom) ∧ y.cell? ⟨gx, 2, none⟩ = some (.slice ca cn cc) ∧ y.cell? ⟨b, off + i * 3, none⟩ = some (.slice ta n1 tac) ∧ y.cell? ⟨b, off + i * 3 + 1, none⟩ = some (.slice ya n2 yac) ∧ y.cell? ⟨b, off + i * 3 + 2, none⟩ = some (.bool bd)) := fun y hy => by
            have hw := below_then HBR.out hy
            exact ⟨cells_kept hw _ _ (cell_of_block H1.out 0), cells_kept hw _ _ (cell_of_block H1.out 1), cells_kept hw _ _ (cell_of_block H1.out 2), cells_kept hw _ _ x0, cells_kept hw _ _ x1, cells_kept hw _ _ x2⟩
          clear hE1 hE2 hC1 hC2 hst x0 x1 x2
          go_upto_region 11 with fail
          refine wp_region_noPanic ?_
          refine wp_region_held_drew (S := fun x => Below wr.heap.size wr x) (by kernel_rfl) (Below.refl _ _).drew (fun hH => ?_)
          refine wpAnyH_take (i := 0) (v := ?vm1) rfl (by kernel_rfl) (by kernel_rfl) (by kernel_rfl) (fun _ _ _ h => h) (Or.inl ⟨by rfl, ?hym1⟩) (by assumption) ?_
          case hym1 => (intro x' hxx; obtain ⟨e0, e1, e2, e3, e4, e5⟩ := C11.out x' hxx; go_simp; try with_reducible rfl)
          change wpAnyH _ _ _ _ _ _ _ (Act.put _ (some 44) _) _
          simp only [Act.put, List.setIfInBounds_toArray, List.set_cons_zero, List.set_cons_succ]
          refine wpAnyH_take (i := 1) (v := ?vm2) rfl (by kernel_rfl) (by kernel_rfl) (by kernel_rfl) (fun _ _ _ h => h) (Or.inl ⟨by rfl, ?hym2⟩) (by assumption) ?_
          case hym2 => (intro x' hxx; obtain ⟨e0, e1, e2, e3, e4, e5⟩ := C11.out x' hxx; go_simp; try with_reducible rfl)
          change wpAnyH _ _ _ _ _ _ _ (Act.put _ (some 45) _) _
          simp only [Act.put, List.setIfInBounds_toArray, List.set_cons_zero, List.set_cons_succ]
          refine wpAnyH_take (i := 2) (v := ?vm3) rfl (by kernel_rfl) (by kernel_rfl) (by kernel_rfl) (fun _ _ _ h => h) (Or.inl ⟨by rfl, ?hym3⟩) (by assumption) ?_
          case hym3 => (intro x' hxx; obtain ⟨e0, e1, e2, e3, e4, e5⟩ := C11.out x' hxx; go_simp; try with_reducible rfl)
          change wpAnyH _ _ _ _ _ _ _ (Act.put _ (some 46) _) _
          simp only [Act.put, List.setIfInBounds_toArray, List.set_cons_zero, List.set_cons_succ]
          refine wpAnyH_take (i := 3) (v := ?vm4) rfl (by kernel_rfl) (by kernel_rfl) (by kernel_rfl) (fun _ _ _ h => h) (Or.inl ⟨by rfl, ?hym4⟩) (by assumption) ?_
          case hym4 => (intro x' hxx; obtain ⟨e0, e1, e2, e3, e4, e5⟩ := C11.out x' hxx; go_simp; try with_reducible rfl)
          change wpAnyH _ _ _ _ _ _ _ (Act.put _ (some 47) _) _
          simp only [Act.put, List.setIfInBounds_toArray, List.set_cons_zero, List.set_cons_succ]
          refine wpAnyH_take (i := 5) (v := ?vm5) rfl (by kernel_rfl) (by kernel_rfl) (by kernel_rfl) (fun _ _ _ h => h) (Or.inl ⟨by rfl, ?hym5⟩) (by assumption) ?_
          case hym5 => (intro x' hxx; obtain ⟨e0, e1, e2, e3, e4, e5⟩ := C11.out x' hxx; go_simp; try with_reducible rfl)
          change wpAnyH _ _ _ _ _ _ _ (Act.put _ (some 49) _) _
          simp only [Act.put, List.setIfInBounds_toArray, List.set_cons_zero, List.set_cons_succ]
          refine wpAnyH_take (i := 6) (v := ?vm6) rfl (by kernel_rfl) (by kernel_rfl) (by kernel_rfl) (fun _ _ _ h => h) (Or.inl ⟨by rfl, ?hym6⟩) (by assumption) ?_
          case hym6 => (intro x' hxx; obtain ⟨e0, e1, e2, e3, e4, e5⟩ := C11.out x' hxx; go_simp; try with_reducible rfl)
          change wpAnyH _ _ _ _ _ _ _ (Act.put _ (some 50) _) _
          simp only [Act.put, List.setIfInBounds_toArray, List.set_cons_zero, List.set_cons_succ]
          refine wpAnyH_take (i := 7) (v := ?vm7) rfl (by kernel_rfl) (by kernel_rfl) (by kernel_rfl) (fun _ _ _ h => h) (Or.inl ⟨by rfl, ?hym7⟩) (by assumption) ?_
          case hym7 => (intro x' hxx; obtain ⟨e0, e1, e2, e3, e4, e5⟩ := C11.out x' hxx; go_simp; try with_reducible rfl)
          change wpAnyH _ _ _ _ _ _ _ (Act.put _ (some 51) _) _
          simp only [Act.put, List.setIfInBounds_toArray, List.set_cons_zero, List.set_cons_succ]
          refine wpAnyH_take (i := 8) (v := ?vm8) rfl (by kernel_rfl) (by kernel_rfl) (by kernel_rfl) (fun _ _ _ h => h) (Or.inl ⟨by rfl, ?hym8⟩) (by assumption) ?_
          case hym8 => (intro x' hxx; obtain ⟨e0, e1, e2, e3, e4, e5⟩ := C11.out x' hxx; go_simp; try with_reducible rfl)
          change wpAnyH _ _ _ _ _ _ _ (Act.put _ (some 52) _) _
          simp only [Act.put, List.setIfInBounds_toArray, List.set_cons_zero, List.set_cons_succ]
          refine wpAnyH_ready (rs := [4]) (by kernel_rfl) (by simp) ?_
          refine AllReadyH.cons rfl (fun K hK => ?_) AllReadyH.nil
          go_simp
          refine (HC1.out wr.drew (below_then HBR.out hH)).mono ?_
          rintro e mw4 ⟨rfl, hb⟩
          have hHm4 : Below wr.heap.size wr mw4 := below_then hH hb
          refine hK.out _ _ hHm4 (fun _ => ?_)
          clear hK K hb hH
          refine wpAnyH_ready (rs := [9]) (by kernel_rfl) (by simp) ?_
          refine AllReadyH.cons rfl (fun K hK => ?_) AllReadyH.nil
          go_simp
          refine (HC2.out mw4 (below_then HBR.out hHm4)).mono ?_
          rintro e mw9 ⟨rfl, hb⟩
          have hHm9 : Below wr.heap.size wr mw9 := below_then hHm4 hb
          refine hK.out _ _ hHm9 (fun _ => ?_)
          clear hK K hb hHm4
          refine wpAnyH_take (i := 10) (v := ?vm9) rfl (by kernel_rfl) (by kernel_rfl) (by kernel_rfl) (fun _ _ _ h => h) (Or.inl ⟨by rfl, ?hym9⟩) (by assumption) ?_
          case hym9 => (intro x' hxx; obtain ⟨e0, e1, e2, e3, e4, e5⟩ := C11.out x' hxx; go_simp; try with_reducible rfl)
          change wpAnyH _ _ _ _ _ _ _ (Act.put _ (some 54) _) _
          simp only [Act.put, List.setIfInBounds_toArray, List.set_cons_zero, List.set_cons_succ]
          refine wpAnyH_take (i := 11) (v := ?vm10) rfl (by kernel_rfl) (by kernel_rfl) (by kernel_rfl) (fun _ _ _ h => h) (Or.inl ⟨by rfl, ?hym10⟩) (by assumption) ?_
          case hym10 => (intro x' hxx; obtain ⟨e0, e1, e2, e3, e4, e5⟩ := C11.out x' hxx; go_simp; try with_reducible rfl)
          change wpAnyH _ _ _ _ _ _ _ (Act.put _ (some 55) _) _
          simp only [Act.put, List.setIfInBounds_toArray, List.set_cons_zero, List.set_cons_succ]
          refine wpAnyH_take (i := 12) (v := ?vm11) rfl (by kernel_rfl) (by kernel_rfl) (by kernel_rfl) (fun _ _ _ h => h) (Or.inl ⟨by rfl, ?hym11⟩) (by assumption) ?_
          case hym11 => (intro x' hxx; obtain ⟨e0, e1, e2, e3, e4, e5⟩ := C11.out x' hxx; go_simp; try with_reducible rfl)
          change wpAnyH _ _ _ _ _ _ _ (Act.put _ (some 56) _) _
          simp only [Act.put, List.setIfInBounds_toArray, List.set_cons_zero, List.set_cons_succ]
          refine wpAnyH_take (i := 13) (v := ?vm12) rfl (by kernel_rfl) (by kernel_rfl) (by kernel_rfl) (fun _ _ _ h => h) (Or.inl ⟨by rfl, ?hym12⟩) (by assumption) ?_
          case hym12 => (intro x' hxx; obtain ⟨e0, e1, e2, e3, e4, e5⟩ := C11.out x' hxx; go_simp; try with_reducible rfl)
          change wpAnyH _ _ _ _ _ _ _ (Act.put _ (some 57) _) _
          simp only [Act.put, List.setIfInBounds_toArray, List.set_cons_zero, List.set_cons_succ]
          refine wpAnyH_take (i := 14) (v := ?vm13) rfl (by kernel_rfl) (by kernel_rfl) (by kernel_rfl) (fun _ _ _ h => h) (Or.inl ⟨by rfl, ?hym13⟩) (by assumption) ?_
          case hym13 => (intro x' hxx; obtain ⟨e0, e1, e2, e3, e4, e5⟩ := C11.out x' hxx; go_simp; try with_reducible rfl)
          change wpAnyH _ _ _ _ _ _ _ (Act.put _ (some 58) _) _
          simp only [Act.put, List.setIfInBounds_toArray, List.set_cons_zero, List.set_cons_succ]
          refine wpAnyH_take (i := 15) (v := ?vm14) rfl (by kernel_rfl) (by kernel_rfl) (by kernel_rfl) (fun _ _ _ h => h) (Or.inl ⟨by rfl, ?hym14⟩) (by assumption) ?_
          case hym14 => (intro x' hxx; obtain ⟨e0, e1, e2, e3, e4, e5⟩ := C11.out x' hxx; go_simp; try with_reducible rfl)
          change wpAnyH _ _ _ _ _ _ _ (Act.put _ (some 59) _) _
          simp only [Act.put, List.setIfInBounds_toArray, List.set_cons_zero, List.set_cons_succ]
          refine wpAnyH_take (i := 16) (v := ?vm15) rfl (by kernel_rfl) (by kernel_rfl) (by kernel_rfl) (fun _ _ _ h => h) (Or.inl ⟨by rfl, ?hym15⟩) (by assumption) ?_
          case hym15 => (intro x' hxx; obtain ⟨e0, e1, e2, e3, e4, e5⟩ := C11.out x' hxx; go_simp; try with_reducible rfl)
          change wpAnyH _ _ _ _ _ _ _ (Act.put _ (some 60) _) _
          simp only [Act.put, List.setIfInBounds_toArray, List.set_cons_zero, List.set_cons_succ]
          refine wpAnyH_take (i := 18) (v := ?vm16) rfl (by kernel_rfl) (by kernel_rfl) (by kernel_rfl) (fun _ _ _ h => h) (Or.inl ⟨by rfl, ?hym16⟩) (by assumption) ?_
          case hym16 => (intro x' hxx; obtain ⟨e0, e1, e2, e3, e4, e5⟩ := C11.out x' hxx; go_simp; try with_reducible rfl)
          change wpAnyH _ _ _ _ _ _ _ (Act.put _ (some 62) _) _
          simp only [Act.put, List.setIfInBounds_toArray, List.set_cons_zero, List.set_cons_succ]
          refine wpAnyH_take (i := 19) (v := ?vm17) rfl (by kernel_rfl) (by kernel_rfl) (by kernel_rfl) (fun _ _ _ h => h) (Or.inl ⟨by rfl, ?hym17⟩) (by assumption) ?_
          case hym17 => (intro x' hxx; obtain ⟨e0, e1, e2, e3, e4, e5⟩ := C11.out x' hxx; go_simp; try with_reducible rfl)
          change wpAnyH _ _ _ _ _ _ _ (Act.put _ (some 63) _) _
          simp only [Act.put, List.setIfInBounds_toArray, List.set_cons_zero, List.set_cons_succ]
          refine wpAnyH_take (i := 20) (v := ?vm18) rfl (by kernel_rfl) (by kernel_rfl) (by kernel_rfl) (fun _ _ _ h => h) (Or.inl ⟨by rfl, ?hym18⟩) (by assumption) ?_
          case hym18 => (intro x' hxx; obtain ⟨e0, e1, e2, e3, e4, e5⟩ := C11.out x' hxx; go_simp; try with_reducible rfl)
          change wpAnyH _ _ _ _ _ _ _ (Act.put _ (some 64) _) _
          simp only [Act.put, List.setIfInBounds_toArray, List.set_cons_zero, List.set_cons_succ]
          refine wpAnyH_take (i := 21) (v := ?vm19) rfl (by kernel_rfl) (by kernel_rfl) (by kernel_rfl) (fun _ _ _ h => h) (Or.inl ⟨by rfl, ?hym19⟩) (by assumption) ?_
          case hym19 => (intro x' hxx; obtain ⟨e0, e1, e2, e3, e4, e5⟩ := C11.out x' hxx; go_simp; try with_reducible rfl)
          change wpAnyH _ _ _ _ _ _ _ (Act.put _ (some 65) _) _
          simp only [Act.put, List.setIfInBounds_toArray, List.set_cons_zero, List.set_cons_succ]
          refine wpAnyH_take (i := 22) (v := ?vm20) rfl (by kernel_rfl) (by kernel_rfl) (by kernel_rfl) (fun _ _ _ h => h) (Or.inl ⟨by rfl, ?hym20⟩) (by assumption) ?_
          case hym20 => (intro x' hxx; obtain ⟨e0, e1, e2, e3, e4, e5⟩ := C11.out x' hxx; go_simp; try with_reducible rfl)
          change wpAnyH _ _ _ _ _ _ _ (Act.put _ (some 66) _) _
          simp only [Act.put, List.setIfInBounds_toArray, List.set_cons_zero, List.set_cons_succ]
          refine wpAnyH_ready (rs := [17]) (by kernel_rfl) (by simp) ?_
          refine AllReadyH.cons rfl (fun K hK => ?_) AllReadyH.nil
          go_simp
          refine (HE1.out mw9 (below_then HBR.out hHm9)).mono ?_
          rintro e mw17 ⟨rfl, hb⟩
          have hHm17 : Below wr.heap.size wr mw17 := below_then hHm9 hb
          refine hK.out _ _ hHm17 (fun _ => ?_)
          clear hK K hb hHm9
          refine wpAnyH_ready (rs := [23]) (by kernel_rfl) (by simp) ?_
          refine AllReadyH.cons rfl (fun K hK => ?_) AllReadyH.nil
          go_simp
          refine (HE2.out mw17 (below_then HBR.out hHm17)).mono ?_
          rintro e mw23 ⟨rfl, hb⟩
          have hHm23 : Below wr.heap.size wr mw23 := below_then hHm17 hb
          refine hK.out _ _ hHm23 (fun _ => ?_)
          clear hK K hb hHm17
          refine wpAnyH_take (i := 24) (v := ?vm21) rfl (by kernel_rfl) (by kernel_rfl) (by kernel_rfl) (fun _ _ _ h => h) (Or.inl ⟨by rfl, ?hym21⟩) (by assumption) ?_
          case hym21 => (intro x' hxx; obtain ⟨e0, e1, e2, e3, e4, e5⟩ := C11.out x' hxx; go_simp; try with_reducible rfl)
          change wpAnyH _ _ _ _ _ _ _ (Act.put _ (some 68) _) _
          simp only [Act.put, List.setIfInBounds_toArray, List.set_cons_zero, List.set_cons_succ]
          refine wpAnyH_take (i := 25) (v := ?vm22) rfl (by kernel_rfl) (by kernel_rfl) (by kernel_rfl) (fun _ _ _ h => h) (Or.inl ⟨by rfl, ?hym22⟩) (by assumption) ?_
          case hym22 => (intro x' hxx; obtain ⟨e0, e1, e2, e3, e4, e5⟩ := C11.out x' hxx; go_simp; try with_reducible rfl)
          change wpAnyH _ _ _ _ _ _ _ (Act.put _ (some 69) _) _
          simp only [Act.put, List.setIfInBounds_toArray, List.set_cons_zero, List.set_cons_succ]
          refine wpAnyH_done (by kernel_rfl) ?_ _
          refine NoPanic.normal ?_
          have HE11 := Lib.hid hHm23
          clear hHm23
          go_wp2_with fail
          go_roundg (n - (i + 1))
          case measure => rw [HG.out]; omega
          case rel => exact ⟨i + 1, by omega, rfl, by simp, below_then HBR.out HE11.out⟩
        · obtain rfl : n = i := by omega
          have hfi := fun y (hy : Below W.heap.size W y) => HFI.out y (SliceR.below (RowR.stays d) HCS.out hy) (SliceR.below StateR.stays HL.out hy) (fun s hs => (HALL.out s hs).2) HFEW.out (by omega)
          have hfi2 := fun y (hy : Below W.heap.size W y) => HFI2.out y (SliceR.below (RowR.stays d) HCS.out hy) (SliceR.below StateR.stays HL.out hy) HFEW.out (by omega)
          have hfr : ∀ j, j < R.length → fewD (R.getD j default) := fun j hj => by
            obtain ⟨s, hs, e⟩ := HMEM.out _ (getD_mem (x := default) hj)
            rw [e]; exact fewS_of (HFEW.out s hs)
          have HX1 := Lib.hid hfi
          have HX2 := Lib.hid hfi2
          have HFR := Lib.hid hfr
          have C13 : Hid (∀ y, Below wr.heap.size wr y → y.cell? ⟨gx, 0, none⟩ = some (.int .i64 vars) ∧ y.cell? ⟨gx, 1, none⟩ = some (.int .i64 dom) ∧ y.cell? ⟨gx, 2, none⟩ = some (.slice ca cn cc)) := fun y hy => by
            have hw := below_then HBR.out hy
            exact ⟨cells_kept hw _ _ (cell_of_block H1.out 0), cells_kept hw _ _ (cell_of_block H1.out 1), cells_kept hw _ _ (cell_of_block H1.out 2)⟩
          clear hfi hfi2 hfr
          go_upto_region 13 with fail
          refine wp_region_noPanic ?_
          refine wp_region_held_drew (S := fun x => Below wr.heap.size wr x) (by kernel_rfl) (Below.refl _ _).drew (fun hH => ?_)
          refine wpAnyH_ready (rs := [0]) (by kernel_rfl) (by simp) ?_
          refine AllReadyH.cons rfl (fun K hK => ?_) AllReadyH.nil
          go_simp
          refine (HAW.out _).mono ?_
          rintro e qw0 ⟨rfl, hb⟩
          have hHq0 : Below wr.heap.size wr qw0 := below_then hH hb
          refine hK.out _ _ hHq0 (fun _ => ?_)
          clear hK K hb hH
          refine wpAnyH_take (i := 1) (v := ?vq1) rfl (by kernel_rfl) (by kernel_rfl) (by kernel_rfl) (fun _ _ _ h => h) (Or.inl ⟨by rfl, ?hyq1⟩) (by assumption) ?_
          case hyq1 => (intro x' hxx; obtain ⟨e0, e1, e2⟩ := C13.out x' hxx; go_simp; try with_reducible rfl)
          change wpAnyH _ _ _ _ _ _ _ (Act.put _ (some 71) _) _
          simp only [Act.put, List.setIfInBounds_toArray, List.set_cons_zero, List.set_cons_succ]
          refine wpAnyH_take (i := 2) (v := ?vq2) rfl (by kernel_rfl) (by kernel_rfl) (by kernel_rfl) (fun _ _ _ h => h) (Or.inl ⟨by rfl, ?hyq2⟩) (by assumption) ?_
          case hyq2 => (intro x' hxx; obtain ⟨e0, e1, e2⟩ := C13.out x' hxx; go_simp; try with_reducible rfl)
          change wpAnyH _ _ _ _ _ _ _ (Act.put _ (some 72) _) _
          simp only [Act.put, List.setIfInBounds_toArray, List.set_cons_zero, List.set_cons_succ]
          refine wpAnyH_take (i := 3) (v := ?vq3) rfl (by kernel_rfl) (by kernel_rfl) (by kernel_rfl) (fun _ _ _ h => h) (Or.inl ⟨by rfl, ?hyq3⟩) (by assumption) ?_
          case hyq3 => (intro x' hxx; obtain ⟨e0, e1, e2⟩ := C13.out x' hxx; go_simp; try with_reducible rfl)
          change wpAnyH _ _ _ _ _ _ _ (Act.put _ (some 73) _) _
          simp only [Act.put, List.setIfInBounds_toArray, List.set_cons_zero, List.set_cons_succ]
          refine wpAnyH_take (i := 5) (v := ?vq4) rfl (by kernel_rfl) (by kernel_rfl) (by kernel_rfl) (fun _ _ _ h => h) (Or.inl ⟨by rfl, ?hyq4⟩) (by assumption) ?_
          case hyq4 => (intro x' hxx; obtain ⟨e0, e1, e2⟩ := C13.out x' hxx; go_simp; try with_reducible rfl)
          change wpAnyH _ _ _ _ _ _ _ (Act.put _ (some 75) _) _
          simp only [Act.put, List.setIfInBounds_toArray, List.set_cons_zero, List.set_cons_succ]
          refine wpAnyH_take (i := 6) (v := ?vq5) rfl (by kernel_rfl) (by kernel_rfl) (by kernel_rfl) (fun _ _ _ h => h) (Or.inl ⟨by rfl, ?hyq5⟩) (by assumption) ?_
          case hyq5 => (intro x' hxx; obtain ⟨e0, e1, e2⟩ := C13.out x' hxx; go_simp; try with_reducible rfl)
          change wpAnyH _ _ _ _ _ _ _ (Act.put _ (some 76) _) _
          simp only [Act.put, List.setIfInBounds_toArray, List.set_cons_zero, List.set_cons_succ]
          refine wpAnyH_ready (rs := [4]) (by kernel_rfl) (by simp) ?_
          refine AllReadyH.cons rfl (fun K hK => ?_) AllReadyH.nil
          go_simp
          refine (HX1.out qw0 (below_then HBR.out hHq0)).mono ?_
          rintro e qw4 ⟨⟨xa, xc, rfl, hx⟩, hb⟩
          have HXA := Lib.hid hx
          clear hx
          have hHq4 : Below wr.heap.size wr qw4 := below_then hHq0 hb
          refine hK.out _ _ hHq4 (fun _ => ?_)
          clear hK K hb hHq0
          refine wpAnyH_ready (rs := [7]) (by kernel_rfl) (by simp) ?_
          refine AllReadyH.cons rfl (fun K hK => ?_) AllReadyH.nil
          go_simp
          refine (HX2.out qw4 (below_then HBR.out hHq4)).mono ?_
          rintro e qw7 ⟨⟨ya, yc, rfl, hy⟩, hb⟩
          have HYA := Lib.hid hy
          have HXB := Lib.hid (SliceR.below FinalR.stays HXA.out hb)
          clear hy
          have hHq7 : Below wr.heap.size wr qw7 := below_then hHq4 hb
          refine hK.out _ _ hHq7 (fun _ => ?_)
          clear hK K hb hHq4
          refine wpAnyH_ready (rs := [8]) (by kernel_rfl) (by simp) ?_
          refine AllReadyH.cons rfl (fun K hK => ?_) AllReadyH.nil
          go_simp
          refine (refSame_any qw7 R R _ _ HXB.out HYA.out HFR.out HFR.out).mono ?_
          rintro e qw8 ⟨rfl, hb⟩
          rw [sameF_self]
          have hHq8 : Below wr.heap.size wr qw8 := below_then hHq7 hb
          refine hK.out _ _ hHq8 (fun _ => ?_)
          clear hK K hb hHq7
          refine wpAnyH_take (i := 9) (v := ?vq6) rfl (by kernel_rfl) (by kernel_rfl) (by kernel_rfl) (fun _ _ _ h => h) (Or.inl ⟨by rfl, ?hyq6⟩) (by assumption) ?_
          case hyq6 => (intro x' hxx; obtain ⟨e0, e1, e2⟩ := C13.out x' hxx; go_simp; try with_reducible rfl)
          change wpAnyH _ _ _ _ _ _ _ (Act.put _ (some 79) _) _
          simp only [Act.put, List.setIfInBounds_toArray, List.set_cons_zero, List.set_cons_succ]
          refine wpAnyH_take (i := 10) (v := ?vq7) rfl (by kernel_rfl) (by kernel_rfl) (by kernel_rfl) (fun _ _ _ h => h) (Or.inl ⟨by rfl, ?hyq7⟩) (by assumption) ?_
          case hyq7 => (intro x' hxx; obtain ⟨e0, e1, e2⟩ := C13.out x' hxx; go_simp; try with_reducible rfl)
          change wpAnyH _ _ _ _ _ _ _ (Act.put _ (some 4) _) _
          simp only [Act.put, List.setIfInBounds_toArray, List.set_cons_zero, List.set_cons_succ]
          refine wpAnyH_done (by kernel_rfl) ?_ _
          refine NoPanic.normal ?_
          have HE13 := Lib.hid hHq8
          clear hHq8
          go_wp2_with fail
          go_ret
          exact ⟨by first | rfl | simp, HOUT.out _ (below_then HBR.out HE13.out)⟩
end Go.Proofs.Ytnlkbboghcdpnaa
