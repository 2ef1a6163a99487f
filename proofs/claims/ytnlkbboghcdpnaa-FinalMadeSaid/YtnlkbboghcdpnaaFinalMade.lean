/- Of code by numbers: the finals are told as the document says: the walk of the law. -/
import Derived.Test.YtnlkbboghcdpnaaFinMadeP
namespace Go.Proofs.Ytnlkbboghcdpnaa
open Go.RowKit

set_option maxRecDepth 100000 in
set_option maxHeartbeats 8000000 in
theorem finalMade_any (w : World) (sv : Value) (l0 : List Int) (hn : NumsAt w .u8 sv l0) (hcap : ∀ a n c, sv = .slice a n c → n ≤ c) (q : Int) (q0 : 0 ≤ q) (q1 : q ≤ 255) :
    Calls Try.prog 4 #[sv, .int .u8 q] w fun e w' => e = .returned (.bool true) ∧ Below w.heap.size w w' := by
  have HSMALL := Lib.hid (small10_any w sv l0 hn hcap)
  obtain ⟨sa, sc, rfl, -⟩ : ∃ a c, sv = .slice a l0.length c ∧ True := by obtain ⟨a, c, h, -⟩ := hn; exact ⟨a, c, h, trivial⟩
  generalize l0.length = ln at HSMALL ⊢
  clear hn hcap
  have HAW : Hid (∀ y : World, Calls Try.prog 7 #[] y fun e w' => e = .returned (.bool true) ∧ Below y.heap.size y w') := fun y => awakeF_any y
  go_enter Try.func4, Try.ntmps4
  go_upto_region 2 with (go_at_call 16; go_must (refine (HSMALL.out).mono ?_); rintro en W1 ⟨⟨c, tv, rfl, hc, hok, hct⟩, hb⟩; (have HB1 := Lib.hid hb); (have HC1 := Lib.hid hc); (obtain ⟨ca, cc, rfl, -⟩ := SliceR.slice hc); clear hb hc hok hct; unfold codeV)
  obtain ⟨C, hC⟩ : ∃ C, C = c := ⟨_, rfl⟩
  have hexp := fun y hy => explore_any y c (.slice ca c.threads.length cc) 3 hy (machS q) 400
  have hfewA := states_few c (machS q) 3
  have hend : ∀ W, RowsAt 3 W (.slice ca c.threads.length cc) c.threads → ∀ s sv mv, StateAt W s sv mv → Calls Try.prog 11 #[codeV c (.slice ca c.threads.length cc), stateV s sv mv] W fun e w' => e = .returned (.bool (endedS c s)) ∧ Below W.heap.size W w' := fun W hc s sv mv hs => ended_any W 3 c (.slice ca c.threads.length cc) hc s sv mv hs
  have hend2 : ∀ W, RowsAt 3 W (.slice ca c.threads.length cc) c.threads → ∀ s sv mv, StateAt W s sv mv → Calls Try.prog 12 #[codeV c (.slice ca c.threads.length cc), stateV s sv mv] W fun e w' => e = .returned (.bool (endedS c s)) ∧ Below W.heap.size W w' := fun W hc s sv mv hs => refEnded_any W 3 c (.slice ca c.threads.length cc) hc s sv mv hs
  obtain ⟨SX, hSX⟩ : ∃ SX, SX = exploreS c (machS q) 400 3 := ⟨_, rfl⟩
  rw [← hSX] at hexp hfewA
  obtain ⟨hM, hfew, h400⟩ := hfewA
  have hfin : ∀ la lc W, RowsAt 3 W (.slice ca c.threads.length cc) c.threads → StatesAt W (.slice la SX.1.states.length lc) SX.1.states → Calls Try.prog 14 #[codeV c (.slice ca c.threads.length cc), .slice la SX.1.states.length lc] W (AddEnd W (finalsS c SX.1.states)) := fun la lc W h1 h2 => finals_any W 3 c _ h1 SX.1.states _ h2 _ hM hfew (by omega)
  have hfin2 : ∀ la lc W, RowsAt 3 W (.slice ca c.threads.length cc) c.threads → StatesAt W (.slice la SX.1.states.length lc) SX.1.states → Calls Try.prog 15 #[codeV c (.slice ca c.threads.length cc), .slice la SX.1.states.length lc] W (AddEnd W (finalsS c SX.1.states)) := fun la lc W h1 h2 => refFinals_any W 3 c _ h1 SX.1.states _ h2 hfew (by omega)
  have hmem : ∀ x ∈ finalsS c SX.1.states, ∃ s ∈ SX.1.states, x = ofS s := fun x hx => finalsTo_mem hx
  obtain ⟨R, hR⟩ : ∃ R, R = finalsS c SX.1.states := ⟨_, rfl⟩
  rw [← hR] at hfin hfin2 hmem
  have hfr : ∀ j, j < R.length → fewD (R.getD j default) := fun j hj => by
    obtain ⟨s, hs, e⟩ := hmem _ (getD_mem (x := default) hj)
    rw [e]; exact fewS_of (hfew s hs)
  obtain ⟨ES, hES⟩ : ∃ ES, ES = endedS c := ⟨_, rfl⟩
  have hES2 : ∀ s, endedS c s = ES s := fun s => by rw [hES]
  simp only [hES2] at hend hend2
  clear hES hES2 hR hM hfew hmem hSX hC C
  unfold codeV at hexp hend hend2 hfin hfin2
  unfold machV at hexp
  generalize c.vars = vars at hexp hend hend2 hfin hfin2 ⊢
  generalize c.domain = dom at hexp hend hend2 hfin hfin2 ⊢
  generalize c.threads = cs at HC1 hexp hend hend2 hfin hfin2 ⊢
  generalize cs.length = cn at HC1 hexp hend hend2 hfin hfin2 ⊢
  have hmach := fun y => machine_any y q q0 q1
  unfold machV at hmach
  generalize (machS q).model = mo at hexp hmach
  generalize (machS q).bound = bo at hexp hmach
  obtain ⟨n, hnn⟩ : ∃ n, n = SX.1.states.length := ⟨_, rfl⟩
  rw [← hnn] at hfin hfin2 h400
  have HN := Lib.hid hnn
  have HEXP := Lib.hid hexp
  have HEND := Lib.hid hend
  have HEND2 := Lib.hid hend2
  have HFI := Lib.hid hfin
  have HFI2 := Lib.hid hfin2
  have HFR := Lib.hid hfr
  have HMACH := Lib.hid hmach
  have HBV := Lib.hid (HB1.out.alloc HB1.out.size (.cells #[.int .i64 vars, .int .i64 dom, .slice ca cn cc] 24))
  have HCV := Lib.hid (SliceR.below (RowR.stays 3) HC1.out ((Below.refl W1.heap.size W1).alloc (Nat.le_refl _) (.cells #[.int .i64 vars, .int .i64 dom, .slice ca cn cc] 24)))
  have H1 := Lib.hid (heap_alloc_new W1 (.cells #[.int .i64 vars, .int .i64 dom, .slice ca cn cc] 24))
  clear hnn hexp hend hend2 hfin hfin2 hfr hmach HC1 HB1
  generalize World.alloc W1 _ = V at HBV HCV H1 ⊢
  generalize W1.heap.size = gx at H1 ⊢
  go_cut [6] (fun s6 w' => ∃ (gs : Nat) (la : Option Addr) (lc : Nat) (mv nv : Value), s6 = .pointer (some ⟨gs, 0, none⟩) ∧ Hid (Below V.heap.size V w') ∧ Hid (w'.heap[gs]? = some (.cells #[.slice la n lc, mv, nv] 42 (0, 0))) ∧ Hid (StatesAt w' (.slice la n lc) SX.1.states))
  case first =>
    have hT0 : Hid (Sp V V.drew none) := ⟨(Below.refl _ _).drew, fun _ h => by cases h⟩
    have CC : Hid (∀ x, Below V.heap.size V x → x.cell? ⟨gx, 0, none⟩ = some (.int .i64 vars) ∧ x.cell? ⟨gx, 1, none⟩ = some (.int .i64 dom) ∧ x.cell? ⟨gx, 2, none⟩ = some (.slice ca cn cc)) := fun x hx => ⟨cells_kept hx _ _ (cell_of_block H1.out 0), cells_kept hx _ _ (cell_of_block H1.out 1), cells_kept hx _ _ (cell_of_block H1.out 2)⟩
    refine wp_region_noPanic ?_
    refine wp_region_held_drew (S := fun x => Below V.heap.size V x) (by kernel_rfl) (Below.refl _ _).drew (fun _ => ?_)
    obtain ⟨V1, hV1⟩ : ∃ V1, V1 = V.drew := ⟨_, rfl⟩
    rw [← hV1]
    rw [← hV1] at hT0
    clear hV1
    refine wpAnyH_take (i := 0) (v := ?vx1) rfl (by kernel_rfl) (by kernel_rfl) (by kernel_rfl) (fun _ _ _ h => h) (Or.inl ⟨by rfl, ?hyx1⟩) (hT0.out.below) ?_
    case hyx1 => (intro x' hxx; obtain ⟨e0, e1, e2⟩ := CC.out x' hxx; go_simp; try with_reducible rfl)
    change wpAnyH _ _ _ _ _ _ _ (Act.put _ (some 12) _) _
    simp only [Act.put, List.setIfInBounds_toArray]
    try simp only [List.set_cons_zero, List.set_cons_succ]
    refine wpAnyH_take (i := 1) (v := ?vx2) rfl (by kernel_rfl) (by kernel_rfl) (by kernel_rfl) (fun _ _ _ h => h) (Or.inl ⟨by rfl, ?hyx2⟩) (hT0.out.below) ?_
    case hyx2 => (intro x' hxx; clear hxx; go_simp; try with_reducible rfl)
    change wpAnyH _ _ _ _ _ _ _ (Act.put _ (some 13) _) _
    simp only [Act.put, List.setIfInBounds_toArray]
    try simp only [List.set_cons_zero, List.set_cons_succ]
    refine wpAnyH_ready (rs := [2, 7]) (by kernel_rfl) (by simp) ?_
    refine AllReadyH.cons rfl (fun K hK => ?_) (AllReadyH.cons rfl (fun K hK => ?_) AllReadyH.nil)
    · skip
      go_simp
      refine (HMACH.out V1).mono ?_
      rintro en Xx2 ⟨rfl, hb⟩
      have hTx1 := Lib.hid (hT0.out.call hb)
      clear hb
      refine hK.out _ _ hTx1.out.below (fun _ => ?_)
      clear hK K
      refine wpAnyH_ready (rs := [3, 7]) (by kernel_rfl) (by simp) ?_
      refine AllReadyH.cons rfl (fun K hK => ?_) (AllReadyH.cons rfl (fun K hK => ?_) AllReadyH.nil)
      · skip
        go_simp
        refine (HEXP.out Xx2 (SliceR.below (RowR.stays 3) HCV.out hTx1.out.below)).mono ?_
        rintro en Xx4 ⟨⟨lv, mv, nv, rfl, hsp, hspA, hcp⟩, hb⟩
        obtain ⟨ma, mc, rfl, -⟩ := SliceR.slice hsp.2.1
        obtain ⟨na, nc, rfl, -⟩ := SliceR.slice hsp.2.2
        have hsp := hsp.1
        clear hspA
        generalize SX.1.moves.length = mn
        generalize SX.1.next.length = nn
        obtain ⟨la, lc, rfl, -⟩ := SliceR.slice hsp
        have hcp := hcp _ _ _ rfl
        rw [← HN.out] at hsp hcp ⊢
        have HCP := Lib.hid hcp
        clear hcp
        have HSP := Lib.hid hsp
        have hTx3 := Lib.hid (hTx1.out.call hb)
        clear hb hsp
        refine hK.out _ _ hTx3.out.below (fun _ => ?_)
        clear hK K
        refine wpAnyH_take (i := 4) (v := ?vx3) rfl (by kernel_rfl) (by kernel_rfl) (by kernel_rfl) (fun _ _ _ h => h) (Or.inl ⟨by rfl, ?hyx3⟩) (hTx3.out.below) ?_
        case hyx3 => (intro x' hxx; clear hxx; go_simp; try with_reducible rfl)
        change wpAnyH _ _ _ _ _ _ _ (Act.put _ (some 11) _) _
        simp only [Act.put, List.setIfInBounds_toArray]
        try simp only [List.set_cons_zero, List.set_cons_succ]
        refine wpAnyH_take (i := 5) (v := ?vx4) rfl (by kernel_rfl) (by kernel_rfl) (by kernel_rfl) (fun _ _ _ h => h) (Or.inl ⟨by rfl, ?hyx4⟩) (hTx3.out.below) ?_
        case hyx4 => (intro x' hxx; clear hxx; go_simp; try with_reducible rfl)
        change wpAnyH _ _ _ _ _ _ _ (Act.put _ (some 16) _) _
        simp only [Act.put, List.setIfInBounds_toArray]
        try simp only [List.set_cons_zero, List.set_cons_succ]
        refine wpAnyH_take (i := 6) (v := ?vx5) rfl (by kernel_rfl) (by kernel_rfl) (by kernel_rfl) (fun _ _ _ h => h) (Or.inl ⟨by rfl, ?hyx5⟩) (hTx3.out.below) ?_
        case hyx5 => (intro x' hxx; clear hxx; go_simp; try with_reducible rfl)
        change wpAnyH _ _ _ _ _ _ _ (Act.put _ (some 17) _) _
        simp only [Act.put, List.setIfInBounds_toArray]
        try simp only [List.set_cons_zero, List.set_cons_succ]
        refine wpAnyH_ready (rs := [7]) (by kernel_rfl) (by simp) ?_
        refine AllReadyH.cons rfl (fun K hK => ?_) AllReadyH.nil
        go_simp
        have hTx5 := hTx3.out.lay
        have hsp2 := SliceR.below StateR.stays HSP.out ((Below.refl Xx4.heap.size Xx4).alloc (Nat.le_refl _) (.cells #[.slice none 0 0, .slice none 0 0, .slice none 0 0] 42))
        refine hK.out _ _ hTx5.below (fun _ => ?_)
        obtain ⟨gs, hgs⟩ : ∃ n, n = Xx4.heap.size := ⟨_, rfl⟩
        rw [← hgs] at hTx5 ⊢
        clear hgs
        generalize World.alloc Xx4 _ = Xx6 at hTx5 hsp2 ⊢
        replace hTx5 := Lib.hid hTx5
        have HSP2 := Lib.hid hsp2
        clear hsp2
        clear hK K
        refine wpAnyH_ready (rs := [8]) (by kernel_rfl) (by simp) ?_
        refine AllReadyH.cons rfl (fun K hK => ?_) AllReadyH.nil
        obtain ⟨hp, -⟩ := hTx5.out.box gs rfl
        have q0 : Xx6.cell? ⟨gs, 0, none⟩ = some (.slice none 0 0) := cell_of_block hp 0
        have f0 := free_of_block hp 0
        have q1 : Xx6.cell? ⟨gs, 1, none⟩ = some (.slice none 0 0) := cell_of_block hp 1
        have f1 := free_of_block hp 1
        have q2 : Xx6.cell? ⟨gs, 2, none⟩ = some (.slice none 0 0) := cell_of_block hp 2
        have f2 := free_of_block hp 2
        clear hp
        go_simp
        have hput := hTx5.out.put (.slice la n lc) (.slice ma mn mc) (.slice na nn nc)
        have HPUT := Lib.hid (And.intro hput.1 (And.intro hput.2.1 (hput.2.2 _ _ HSP2.out)))
        refine hK.out _ _ hput.1 (fun _ => ?_)
        clear hput q0 q1 q2 f0 f1 f2
        clear hK K
        refine wpAnyH_take (i := 9) (v := ?vx6) rfl (by kernel_rfl) (by kernel_rfl) (by kernel_rfl) (fun _ _ _ h => h) (Or.inl ⟨by rfl, ?hyx6⟩) (HPUT.out.1) ?_
        case hyx6 => (intro x' hxx; clear hxx; go_simp; try with_reducible rfl)
        change wpAnyH _ _ _ _ _ _ _ (Act.put _ (some 7) _) _
        simp only [Act.put, List.setIfInBounds_toArray]
        try simp only [List.set_cons_zero, List.set_cons_succ]
        refine wpAnyH_done (by kernel_rfl) ?_ _
        refine NoPanic.normal ?_
        go_wp2_with fail
        go_meet
        case rel => exact ⟨gs, la, lc, _, _, rfl, HPUT.out.1, HPUT.out.2.1, HPUT.out.2.2⟩
      · skip
        go_simp
        have hTx7 := hTx1.out.lay
        refine hK.out _ _ hTx7.below (fun _ => ?_)
        obtain ⟨gs, hgs⟩ : ∃ n, n = Xx2.heap.size := ⟨_, rfl⟩
        rw [← hgs] at hTx7 ⊢
        clear hgs
        generalize World.alloc Xx2 _ = Xx8 at hTx7 ⊢
        replace hTx7 := Lib.hid hTx7
        clear hK K
        refine wpAnyH_ready (rs := [3]) (by kernel_rfl) (by simp) ?_
        refine AllReadyH.cons rfl (fun K hK => ?_) AllReadyH.nil
        go_simp
        refine (HEXP.out Xx8 (SliceR.below (RowR.stays 3) HCV.out hTx7.out.below)).mono ?_
        rintro en Xx10 ⟨⟨lv, mv, nv, rfl, hsp, hspA, hcp⟩, hb⟩
        obtain ⟨ma, mc, rfl, -⟩ := SliceR.slice hsp.2.1
        obtain ⟨na, nc, rfl, -⟩ := SliceR.slice hsp.2.2
        have hsp := hsp.1
        clear hspA
        generalize SX.1.moves.length = mn
        generalize SX.1.next.length = nn
        obtain ⟨la, lc, rfl, -⟩ := SliceR.slice hsp
        have hcp := hcp _ _ _ rfl
        rw [← HN.out] at hsp hcp ⊢
        have HCP := Lib.hid hcp
        clear hcp
        have HSP := Lib.hid hsp
        have hTx9 := Lib.hid (hTx7.out.call hb)
        clear hb hsp
        refine hK.out _ _ hTx9.out.below (fun _ => ?_)
        clear hK K
        refine wpAnyH_take (i := 4) (v := ?vx7) rfl (by kernel_rfl) (by kernel_rfl) (by kernel_rfl) (fun _ _ _ h => h) (Or.inl ⟨by rfl, ?hyx7⟩) (hTx9.out.below) ?_
        case hyx7 => (intro x' hxx; clear hxx; go_simp; try with_reducible rfl)
        change wpAnyH _ _ _ _ _ _ _ (Act.put _ (some 11) _) _
        simp only [Act.put, List.setIfInBounds_toArray]
        try simp only [List.set_cons_zero, List.set_cons_succ]
        refine wpAnyH_take (i := 5) (v := ?vx8) rfl (by kernel_rfl) (by kernel_rfl) (by kernel_rfl) (fun _ _ _ h => h) (Or.inl ⟨by rfl, ?hyx8⟩) (hTx9.out.below) ?_
        case hyx8 => (intro x' hxx; clear hxx; go_simp; try with_reducible rfl)
        change wpAnyH _ _ _ _ _ _ _ (Act.put _ (some 16) _) _
        simp only [Act.put, List.setIfInBounds_toArray]
        try simp only [List.set_cons_zero, List.set_cons_succ]
        refine wpAnyH_take (i := 6) (v := ?vx9) rfl (by kernel_rfl) (by kernel_rfl) (by kernel_rfl) (fun _ _ _ h => h) (Or.inl ⟨by rfl, ?hyx9⟩) (hTx9.out.below) ?_
        case hyx9 => (intro x' hxx; clear hxx; go_simp; try with_reducible rfl)
        change wpAnyH _ _ _ _ _ _ _ (Act.put _ (some 17) _) _
        simp only [Act.put, List.setIfInBounds_toArray]
        try simp only [List.set_cons_zero, List.set_cons_succ]
        refine wpAnyH_ready (rs := [8]) (by kernel_rfl) (by simp) ?_
        refine AllReadyH.cons rfl (fun K hK => ?_) AllReadyH.nil
        obtain ⟨hp, -⟩ := hTx9.out.box gs rfl
        have q0 : Xx10.cell? ⟨gs, 0, none⟩ = some (.slice none 0 0) := cell_of_block hp 0
        have f0 := free_of_block hp 0
        have q1 : Xx10.cell? ⟨gs, 1, none⟩ = some (.slice none 0 0) := cell_of_block hp 1
        have f1 := free_of_block hp 1
        have q2 : Xx10.cell? ⟨gs, 2, none⟩ = some (.slice none 0 0) := cell_of_block hp 2
        have f2 := free_of_block hp 2
        clear hp
        go_simp
        have hput := hTx9.out.put (.slice la n lc) (.slice ma mn mc) (.slice na nn nc)
        have HPUT := Lib.hid (And.intro hput.1 (And.intro hput.2.1 (hput.2.2 _ _ HSP.out)))
        refine hK.out _ _ hput.1 (fun _ => ?_)
        clear hput q0 q1 q2 f0 f1 f2
        clear hK K
        refine wpAnyH_take (i := 9) (v := ?vx10) rfl (by kernel_rfl) (by kernel_rfl) (by kernel_rfl) (fun _ _ _ h => h) (Or.inl ⟨by rfl, ?hyx10⟩) (HPUT.out.1) ?_
        case hyx10 => (intro x' hxx; clear hxx; go_simp; try with_reducible rfl)
        change wpAnyH _ _ _ _ _ _ _ (Act.put _ (some 7) _) _
        simp only [Act.put, List.setIfInBounds_toArray]
        try simp only [List.set_cons_zero, List.set_cons_succ]
        refine wpAnyH_done (by kernel_rfl) ?_ _
        refine NoPanic.normal ?_
        go_wp2_with fail
        go_meet
        case rel => exact ⟨gs, la, lc, _, _, rfl, HPUT.out.1, HPUT.out.2.1, HPUT.out.2.2⟩
    · skip
      go_simp
      have hTx11 := hT0.out.lay
      refine hK.out _ _ hTx11.below (fun _ => ?_)
      obtain ⟨gs, hgs⟩ : ∃ n, n = V1.heap.size := ⟨_, rfl⟩
      rw [← hgs] at hTx11 ⊢
      clear hgs
      generalize World.alloc V1 _ = Xx12 at hTx11 ⊢
      replace hTx11 := Lib.hid hTx11
      clear hK K
      refine wpAnyH_ready (rs := [2]) (by kernel_rfl) (by simp) ?_
      refine AllReadyH.cons rfl (fun K hK => ?_) AllReadyH.nil
      go_simp
      refine (HMACH.out Xx12).mono ?_
      rintro en Xx14 ⟨rfl, hb⟩
      have hTx13 := Lib.hid (hTx11.out.call hb)
      clear hb
      refine hK.out _ _ hTx13.out.below (fun _ => ?_)
      clear hK K
      refine wpAnyH_ready (rs := [3]) (by kernel_rfl) (by simp) ?_
      refine AllReadyH.cons rfl (fun K hK => ?_) AllReadyH.nil
      go_simp
      refine (HEXP.out Xx14 (SliceR.below (RowR.stays 3) HCV.out hTx13.out.below)).mono ?_
      rintro en Xx16 ⟨⟨lv, mv, nv, rfl, hsp, hspA, hcp⟩, hb⟩
      obtain ⟨ma, mc, rfl, -⟩ := SliceR.slice hsp.2.1
      obtain ⟨na, nc, rfl, -⟩ := SliceR.slice hsp.2.2
      have hsp := hsp.1
      clear hspA
      generalize SX.1.moves.length = mn
      generalize SX.1.next.length = nn
      obtain ⟨la, lc, rfl, -⟩ := SliceR.slice hsp
      have hcp := hcp _ _ _ rfl
      rw [← HN.out] at hsp hcp ⊢
      have HCP := Lib.hid hcp
      clear hcp
      have HSP := Lib.hid hsp
      have hTx15 := Lib.hid (hTx13.out.call hb)
      clear hb hsp
      refine hK.out _ _ hTx15.out.below (fun _ => ?_)
      clear hK K
      refine wpAnyH_take (i := 4) (v := ?vx11) rfl (by kernel_rfl) (by kernel_rfl) (by kernel_rfl) (fun _ _ _ h => h) (Or.inl ⟨by rfl, ?hyx11⟩) (hTx15.out.below) ?_
      case hyx11 => (intro x' hxx; clear hxx; go_simp; try with_reducible rfl)
      change wpAnyH _ _ _ _ _ _ _ (Act.put _ (some 11) _) _
      simp only [Act.put, List.setIfInBounds_toArray]
      try simp only [List.set_cons_zero, List.set_cons_succ]
      refine wpAnyH_take (i := 5) (v := ?vx12) rfl (by kernel_rfl) (by kernel_rfl) (by kernel_rfl) (fun _ _ _ h => h) (Or.inl ⟨by rfl, ?hyx12⟩) (hTx15.out.below) ?_
      case hyx12 => (intro x' hxx; clear hxx; go_simp; try with_reducible rfl)
      change wpAnyH _ _ _ _ _ _ _ (Act.put _ (some 16) _) _
      simp only [Act.put, List.setIfInBounds_toArray]
      try simp only [List.set_cons_zero, List.set_cons_succ]
      refine wpAnyH_take (i := 6) (v := ?vx13) rfl (by kernel_rfl) (by kernel_rfl) (by kernel_rfl) (fun _ _ _ h => h) (Or.inl ⟨by rfl, ?hyx13⟩) (hTx15.out.below) ?_
      case hyx13 => (intro x' hxx; clear hxx; go_simp; try with_reducible rfl)
      change wpAnyH _ _ _ _ _ _ _ (Act.put _ (some 17) _) _
      simp only [Act.put, List.setIfInBounds_toArray]
      try simp only [List.set_cons_zero, List.set_cons_succ]
      refine wpAnyH_ready (rs := [8]) (by kernel_rfl) (by simp) ?_
      refine AllReadyH.cons rfl (fun K hK => ?_) AllReadyH.nil
      obtain ⟨hp, -⟩ := hTx15.out.box gs rfl
      have q0 : Xx16.cell? ⟨gs, 0, none⟩ = some (.slice none 0 0) := cell_of_block hp 0
      have f0 := free_of_block hp 0
      have q1 : Xx16.cell? ⟨gs, 1, none⟩ = some (.slice none 0 0) := cell_of_block hp 1
      have f1 := free_of_block hp 1
      have q2 : Xx16.cell? ⟨gs, 2, none⟩ = some (.slice none 0 0) := cell_of_block hp 2
      have f2 := free_of_block hp 2
      clear hp
      go_simp
      have hput := hTx15.out.put (.slice la n lc) (.slice ma mn mc) (.slice na nn nc)
      have HPUT := Lib.hid (And.intro hput.1 (And.intro hput.2.1 (hput.2.2 _ _ HSP.out)))
      refine hK.out _ _ hput.1 (fun _ => ?_)
      clear hput q0 q1 q2 f0 f1 f2
      clear hK K
      refine wpAnyH_take (i := 9) (v := ?vx14) rfl (by kernel_rfl) (by kernel_rfl) (by kernel_rfl) (fun _ _ _ h => h) (Or.inl ⟨by rfl, ?hyx14⟩) (HPUT.out.1) ?_
      case hyx14 => (intro x' hxx; clear hxx; go_simp; try with_reducible rfl)
      change wpAnyH _ _ _ _ _ _ _ (Act.put _ (some 7) _) _
      simp only [Act.put, List.setIfInBounds_toArray]
      try simp only [List.set_cons_zero, List.set_cons_succ]
      refine wpAnyH_done (by kernel_rfl) ?_ _
      refine NoPanic.normal ?_
      go_wp2_with fail
      go_meet
      case rel => exact ⟨gs, la, lc, _, _, rfl, HPUT.out.1, HPUT.out.2.1, HPUT.out.2.2⟩
  case rest =>
  obtain ⟨gs, la, lc, mv, nv, rfl, HBW, HS, HLW⟩ := hcut
  obtain ⟨W, rfl⟩ : ∃ x : World, x = wc := ⟨_, rfl⟩
  have HCS := Lib.hid (SliceR.below (RowR.stays 3) HCV.out HBW.out)
  have HG1 := Lib.hid ((HBW.out.block _ (lt_of_block H1.out)).trans H1.out)
  have HOUT : Hid (∀ x, Below W.heap.size W x → Below w.heap.size w x) := fun x hx => HBV.out.trans ((below_then HBW.out hx).mono HBV.out.size)
  clear HCV H1 HBW HBV HEXP HMACH
  go_wp2_with fail
  go_loopg [8] n (fun gg s8 wr => ∃ i : Nat, i ≤ n ∧ Hid (gg = n - i) ∧ s8 = .int .i64 i ∧ Hid (Below W.heap.size W wr))
  case atStart => exact ⟨0, Nat.zero_le _, rfl, rfl, Below.refl _ _⟩
  case round =>
    obtain ⟨i, hi, HG, rfl, HBR⟩ := hrel
    have s0 : wr.cell? ⟨gs, 0, none⟩ = some (.slice la n lc) := cells_kept HBR.out _ _ (cell_of_block HS.out 0)
    by_cases hlt : i < n
    · have hltI : (i : Int) < (n : Int) := by omega
      obtain ⟨b, off, tv, yv, hea, -, x0, x1, x2, hst⟩ := StatesAt.part HLW.out i (by rw [← HN.out]; exact hlt)
      subst hea
      obtain ⟨ta, tac, rfl, -⟩ := SliceR.slice hst.threads
      obtain ⟨ya, yac, rfl, -⟩ := SliceR.slice hst.mem
      have hE1 := fun y (hy : Below W.heap.size W y) => HEND.out y (SliceR.below (RowR.stays 3) HCS.out hy) (SX.1.states.getD i default) _ _ (hst.below hy)
      have hE2 := fun y (hy : Below W.heap.size W y) => HEND2.out y (SliceR.below (RowR.stays 3) HCS.out hy) (SX.1.states.getD i default) _ _ (hst.below hy)
      have hC1 := fun y (hy : Below W.heap.size W y) => clear_any y (SX.1.states.getD i default) _ _ (hst.below hy)
      have hC2 := fun y (hy : Below W.heap.size W y) => refClear_any y (SX.1.states.getD i default) _ _ (hst.below hy)
      unfold stateV at hE1 hE2 hC1 hC2
      generalize SX.1.states.getD i default = s at x0 x1 x2 hE1 hE2 hC1 hC2
      generalize s.threads.length = n1 at x0 hE1 hE2 hC1 hC2
      generalize s.mem.length = n2 at x1 hE1 hE2 hC1 hC2
      generalize s.bad = bd at x2 hE1 hE2 hC1 hC2
      generalize ES s = en at hE1 hE2
      generalize clearS s = cl at hC1 hC2
      have HE1 := Lib.hid hE1
      have HE2 := Lib.hid hE2
      have HC1 := Lib.hid hC1
      have HC2 := Lib.hid hC2
      have C11 : Hid (∀ y, Below wr.heap.size wr y → y.cell? ⟨gx, 0, none⟩ = some (.int .i64 vars) ∧ y.cell? ⟨gx, 1, none⟩ = some (.int .i64 dom) ∧ y.cell? ⟨gx, 2, none⟩ = some (.slice ca cn cc) ∧ y.cell? ⟨b, off + i * 3, none⟩ = some (.slice ta n1 tac) ∧ y.cell? ⟨b, off + i * 3 + 1, none⟩ = some (.slice ya n2 yac) ∧ y.cell? ⟨b, off + i * 3 + 2, none⟩ = some (.bool bd) ∧ y.cell? ⟨gs, 0, none⟩ = some (.slice (some ⟨b, off, none⟩) n lc)) := fun y hy => by
        have hw := below_then HBR.out hy
        exact ⟨cells_kept hw _ _ (cell_of_block HG1.out 0), cells_kept hw _ _ (cell_of_block HG1.out 1), cells_kept hw _ _ (cell_of_block HG1.out 2), cells_kept hw _ _ x0, cells_kept hw _ _ x1, cells_kept hw _ _ x2, cells_kept hw _ _ (cell_of_block HS.out 0)⟩
      clear hE1 hE2 hC1 hC2 hst x0 x1 x2
      go_upto_region 6 with fail
      clear s0
      refine wp_region_noPanic ?_
      refine wp_region_held_drew (S := fun x => Below wr.heap.size wr x) (by kernel_rfl) (Below.refl _ _).drew (fun hH => ?_)
      refine wpAnyH_take (i := 0) (v := ?vm1) rfl (by kernel_rfl) (by kernel_rfl) (by kernel_rfl) (fun _ _ _ h => h) (Or.inl ⟨by rfl, ?hym1⟩) (by assumption) ?_
      case hym1 => (intro x' hxx; obtain ⟨e0, e1, e2, e3, e4, e5, e6⟩ := C11.out x' hxx; go_simp; try with_reducible rfl)
      change wpAnyH _ _ _ _ _ _ _ (Act.put _ (some 25) _) _
      simp only [Act.put, List.setIfInBounds_toArray, List.set_cons_zero, List.set_cons_succ]
      refine wpAnyH_take (i := 1) (v := ?vm2) rfl (by kernel_rfl) (by kernel_rfl) (by kernel_rfl) (fun _ _ _ h => h) (Or.inl ⟨by rfl, ?hym2⟩) (by assumption) ?_
      case hym2 => (intro x' hxx; obtain ⟨e0, e1, e2, e3, e4, e5, e6⟩ := C11.out x' hxx; go_simp; try with_reducible rfl)
      change wpAnyH _ _ _ _ _ _ _ (Act.put _ (some 26) _) _
      simp only [Act.put, List.setIfInBounds_toArray, List.set_cons_zero, List.set_cons_succ]
      refine wpAnyH_take (i := 2) (v := ?vm3) rfl (by kernel_rfl) (by kernel_rfl) (by kernel_rfl) (fun _ _ _ h => h) (Or.inl ⟨by rfl, ?hym3⟩) (by assumption) ?_
      case hym3 => (intro x' hxx; obtain ⟨e0, e1, e2, e3, e4, e5, e6⟩ := C11.out x' hxx; go_simp; try with_reducible rfl)
      change wpAnyH _ _ _ _ _ _ _ (Act.put _ (some 27) _) _
      simp only [Act.put, List.setIfInBounds_toArray, List.set_cons_zero, List.set_cons_succ]
      refine wpAnyH_take (i := 3) (v := ?vm4) rfl (by kernel_rfl) (by kernel_rfl) (by kernel_rfl) (fun _ _ _ h => h) (Or.inl ⟨by rfl, ?hym4⟩) (by assumption) ?_
      case hym4 => (intro x' hxx; obtain ⟨e0, e1, e2, e3, e4, e5, e6⟩ := C11.out x' hxx; go_simp; try with_reducible rfl)
      change wpAnyH _ _ _ _ _ _ _ (Act.put _ (some 28) _) _
      simp only [Act.put, List.setIfInBounds_toArray, List.set_cons_zero, List.set_cons_succ]
      refine wpAnyH_take (i := 4) (v := ?vm5) rfl (by kernel_rfl) (by kernel_rfl) (by kernel_rfl) (fun _ _ _ h => h) (Or.inl ⟨by rfl, ?hym5⟩) (by assumption) ?_
      case hym5 => (intro x' hxx; obtain ⟨e0, e1, e2, e3, e4, e5, e6⟩ := C11.out x' hxx; go_simp; try with_reducible rfl)
      change wpAnyH _ _ _ _ _ _ _ (Act.put _ (some 29) _) _
      simp only [Act.put, List.setIfInBounds_toArray, List.set_cons_zero, List.set_cons_succ]
      refine wpAnyH_take (i := 6) (v := ?vm6) rfl (by kernel_rfl) (by kernel_rfl) (by kernel_rfl) (fun _ _ _ h => h) (Or.inl ⟨by rfl, ?hym6⟩) (by assumption) ?_
      case hym6 => (intro x' hxx; obtain ⟨e0, e1, e2, e3, e4, e5, e6⟩ := C11.out x' hxx; go_simp; try with_reducible rfl)
      change wpAnyH _ _ _ _ _ _ _ (Act.put _ (some 31) _) _
      simp only [Act.put, List.setIfInBounds_toArray, List.set_cons_zero, List.set_cons_succ]
      refine wpAnyH_take (i := 7) (v := ?vm7) rfl (by kernel_rfl) (by kernel_rfl) (by kernel_rfl) (fun _ _ _ h => h) (Or.inl ⟨by rfl, ?hym7⟩) (by assumption) ?_
      case hym7 => (intro x' hxx; obtain ⟨e0, e1, e2, e3, e4, e5, e6⟩ := C11.out x' hxx; go_simp; try with_reducible rfl)
      change wpAnyH _ _ _ _ _ _ _ (Act.put _ (some 32) _) _
      simp only [Act.put, List.setIfInBounds_toArray, List.set_cons_zero, List.set_cons_succ]
      refine wpAnyH_take (i := 8) (v := ?vm8) rfl (by kernel_rfl) (by kernel_rfl) (by kernel_rfl) (fun _ _ _ h => h) (Or.inl ⟨by rfl, ?hym8⟩) (by assumption) ?_
      case hym8 => (intro x' hxx; obtain ⟨e0, e1, e2, e3, e4, e5, e6⟩ := C11.out x' hxx; go_simp; try with_reducible rfl)
      change wpAnyH _ _ _ _ _ _ _ (Act.put _ (some 33) _) _
      simp only [Act.put, List.setIfInBounds_toArray, List.set_cons_zero, List.set_cons_succ]
      refine wpAnyH_take (i := 9) (v := ?vm9) rfl (by kernel_rfl) (by kernel_rfl) (by kernel_rfl) (fun _ _ _ h => h) (Or.inl ⟨by rfl, ?hym9⟩) (by assumption) ?_
      case hym9 => (intro x' hxx; obtain ⟨e0, e1, e2, e3, e4, e5, e6⟩ := C11.out x' hxx; go_simp; try with_reducible rfl)
      change wpAnyH _ _ _ _ _ _ _ (Act.put _ (some 34) _) _
      simp only [Act.put, List.setIfInBounds_toArray, List.set_cons_zero, List.set_cons_succ]
      refine wpAnyH_take (i := 10) (v := ?vm10) rfl (by kernel_rfl) (by kernel_rfl) (by kernel_rfl) (fun _ _ _ h => h) (Or.inl ⟨by rfl, ?hym10⟩) (by assumption) ?_
      case hym10 => (intro x' hxx; obtain ⟨e0, e1, e2, e3, e4, e5, e6⟩ := C11.out x' hxx; go_simp; try with_reducible rfl)
      change wpAnyH _ _ _ _ _ _ _ (Act.put _ (some 35) _) _
      simp only [Act.put, List.setIfInBounds_toArray, List.set_cons_zero, List.set_cons_succ]
      refine wpAnyH_ready (rs := [5]) (by kernel_rfl) (by simp) ?_
      refine AllReadyH.cons rfl (fun K hK => ?_) AllReadyH.nil
      go_simp
      refine (HC1.out wr.drew (below_then HBR.out hH)).mono ?_
      rintro e mw5 ⟨rfl, hb⟩
      have hHm5 : Below wr.heap.size wr mw5 := below_then hH hb
      refine hK.out _ _ hHm5 (fun _ => ?_)
      clear hK K hb hH
      refine wpAnyH_ready (rs := [11]) (by kernel_rfl) (by simp) ?_
      refine AllReadyH.cons rfl (fun K hK => ?_) AllReadyH.nil
      go_simp
      refine (HC2.out mw5 (below_then HBR.out hHm5)).mono ?_
      rintro e mw11 ⟨rfl, hb⟩
      have hHm11 : Below wr.heap.size wr mw11 := below_then hHm5 hb
      refine hK.out _ _ hHm11 (fun _ => ?_)
      clear hK K hb hHm5
      refine wpAnyH_take (i := 12) (v := ?vm11) rfl (by kernel_rfl) (by kernel_rfl) (by kernel_rfl) (fun _ _ _ h => h) (Or.inl ⟨by rfl, ?hym11⟩) (by assumption) ?_
      case hym11 => (intro x' hxx; obtain ⟨e0, e1, e2, e3, e4, e5, e6⟩ := C11.out x' hxx; go_simp; try with_reducible rfl)
      change wpAnyH _ _ _ _ _ _ _ (Act.put _ (some 37) _) _
      simp only [Act.put, List.setIfInBounds_toArray, List.set_cons_zero, List.set_cons_succ]
      refine wpAnyH_take (i := 13) (v := ?vm12) rfl (by kernel_rfl) (by kernel_rfl) (by kernel_rfl) (fun _ _ _ h => h) (Or.inl ⟨by rfl, ?hym12⟩) (by assumption) ?_
      case hym12 => (intro x' hxx; obtain ⟨e0, e1, e2, e3, e4, e5, e6⟩ := C11.out x' hxx; go_simp; try with_reducible rfl)
      change wpAnyH _ _ _ _ _ _ _ (Act.put _ (some 38) _) _
      simp only [Act.put, List.setIfInBounds_toArray, List.set_cons_zero, List.set_cons_succ]
      refine wpAnyH_take (i := 14) (v := ?vm13) rfl (by kernel_rfl) (by kernel_rfl) (by kernel_rfl) (fun _ _ _ h => h) (Or.inl ⟨by rfl, ?hym13⟩) (by assumption) ?_
      case hym13 => (intro x' hxx; obtain ⟨e0, e1, e2, e3, e4, e5, e6⟩ := C11.out x' hxx; go_simp; try with_reducible rfl)
      change wpAnyH _ _ _ _ _ _ _ (Act.put _ (some 39) _) _
      simp only [Act.put, List.setIfInBounds_toArray, List.set_cons_zero, List.set_cons_succ]
      refine wpAnyH_take (i := 15) (v := ?vm14) rfl (by kernel_rfl) (by kernel_rfl) (by kernel_rfl) (fun _ _ _ h => h) (Or.inl ⟨by rfl, ?hym14⟩) (by assumption) ?_
      case hym14 => (intro x' hxx; obtain ⟨e0, e1, e2, e3, e4, e5, e6⟩ := C11.out x' hxx; go_simp; try with_reducible rfl)
      change wpAnyH _ _ _ _ _ _ _ (Act.put _ (some 40) _) _
      simp only [Act.put, List.setIfInBounds_toArray, List.set_cons_zero, List.set_cons_succ]
      refine wpAnyH_take (i := 16) (v := ?vm15) rfl (by kernel_rfl) (by kernel_rfl) (by kernel_rfl) (fun _ _ _ h => h) (Or.inl ⟨by rfl, ?hym15⟩) (by assumption) ?_
      case hym15 => (intro x' hxx; obtain ⟨e0, e1, e2, e3, e4, e5, e6⟩ := C11.out x' hxx; go_simp; try with_reducible rfl)
      change wpAnyH _ _ _ _ _ _ _ (Act.put _ (some 41) _) _
      simp only [Act.put, List.setIfInBounds_toArray, List.set_cons_zero, List.set_cons_succ]
      refine wpAnyH_take (i := 17) (v := ?vm16) rfl (by kernel_rfl) (by kernel_rfl) (by kernel_rfl) (fun _ _ _ h => h) (Or.inl ⟨by rfl, ?hym16⟩) (by assumption) ?_
      case hym16 => (intro x' hxx; obtain ⟨e0, e1, e2, e3, e4, e5, e6⟩ := C11.out x' hxx; go_simp; try with_reducible rfl)
      change wpAnyH _ _ _ _ _ _ _ (Act.put _ (some 42) _) _
      simp only [Act.put, List.setIfInBounds_toArray, List.set_cons_zero, List.set_cons_succ]
      refine wpAnyH_take (i := 18) (v := ?vm17) rfl (by kernel_rfl) (by kernel_rfl) (by kernel_rfl) (fun _ _ _ h => h) (Or.inl ⟨by rfl, ?hym17⟩) (by assumption) ?_
      case hym17 => (intro x' hxx; obtain ⟨e0, e1, e2, e3, e4, e5, e6⟩ := C11.out x' hxx; go_simp; try with_reducible rfl)
      change wpAnyH _ _ _ _ _ _ _ (Act.put _ (some 43) _) _
      simp only [Act.put, List.setIfInBounds_toArray, List.set_cons_zero, List.set_cons_succ]
      refine wpAnyH_take (i := 19) (v := ?vm18) rfl (by kernel_rfl) (by kernel_rfl) (by kernel_rfl) (fun _ _ _ h => h) (Or.inl ⟨by rfl, ?hym18⟩) (by assumption) ?_
      case hym18 => (intro x' hxx; obtain ⟨e0, e1, e2, e3, e4, e5, e6⟩ := C11.out x' hxx; go_simp; try with_reducible rfl)
      change wpAnyH _ _ _ _ _ _ _ (Act.put _ (some 44) _) _
      simp only [Act.put, List.setIfInBounds_toArray, List.set_cons_zero, List.set_cons_succ]
      refine wpAnyH_take (i := 21) (v := ?vm19) rfl (by kernel_rfl) (by kernel_rfl) (by kernel_rfl) (fun _ _ _ h => h) (Or.inl ⟨by rfl, ?hym19⟩) (by assumption) ?_
      case hym19 => (intro x' hxx; obtain ⟨e0, e1, e2, e3, e4, e5, e6⟩ := C11.out x' hxx; go_simp; try with_reducible rfl)
      change wpAnyH _ _ _ _ _ _ _ (Act.put _ (some 46) _) _
      simp only [Act.put, List.setIfInBounds_toArray, List.set_cons_zero, List.set_cons_succ]
      refine wpAnyH_take (i := 22) (v := ?vm20) rfl (by kernel_rfl) (by kernel_rfl) (by kernel_rfl) (fun _ _ _ h => h) (Or.inl ⟨by rfl, ?hym20⟩) (by assumption) ?_
      case hym20 => (intro x' hxx; obtain ⟨e0, e1, e2, e3, e4, e5, e6⟩ := C11.out x' hxx; go_simp; try with_reducible rfl)
      change wpAnyH _ _ _ _ _ _ _ (Act.put _ (some 47) _) _
      simp only [Act.put, List.setIfInBounds_toArray, List.set_cons_zero, List.set_cons_succ]
      refine wpAnyH_take (i := 23) (v := ?vm21) rfl (by kernel_rfl) (by kernel_rfl) (by kernel_rfl) (fun _ _ _ h => h) (Or.inl ⟨by rfl, ?hym21⟩) (by assumption) ?_
      case hym21 => (intro x' hxx; obtain ⟨e0, e1, e2, e3, e4, e5, e6⟩ := C11.out x' hxx; go_simp; try with_reducible rfl)
      change wpAnyH _ _ _ _ _ _ _ (Act.put _ (some 48) _) _
      simp only [Act.put, List.setIfInBounds_toArray, List.set_cons_zero, List.set_cons_succ]
      refine wpAnyH_take (i := 24) (v := ?vm22) rfl (by kernel_rfl) (by kernel_rfl) (by kernel_rfl) (fun _ _ _ h => h) (Or.inl ⟨by rfl, ?hym22⟩) (by assumption) ?_
      case hym22 => (intro x' hxx; obtain ⟨e0, e1, e2, e3, e4, e5, e6⟩ := C11.out x' hxx; go_simp; try with_reducible rfl)
      change wpAnyH _ _ _ _ _ _ _ (Act.put _ (some 49) _) _
      simp only [Act.put, List.setIfInBounds_toArray, List.set_cons_zero, List.set_cons_succ]
      refine wpAnyH_take (i := 25) (v := ?vm23) rfl (by kernel_rfl) (by kernel_rfl) (by kernel_rfl) (fun _ _ _ h => h) (Or.inl ⟨by rfl, ?hym23⟩) (by assumption) ?_
      case hym23 => (intro x' hxx; obtain ⟨e0, e1, e2, e3, e4, e5, e6⟩ := C11.out x' hxx; go_simp; try with_reducible rfl)
      change wpAnyH _ _ _ _ _ _ _ (Act.put _ (some 50) _) _
      simp only [Act.put, List.setIfInBounds_toArray, List.set_cons_zero, List.set_cons_succ]
      refine wpAnyH_take (i := 26) (v := ?vm24) rfl (by kernel_rfl) (by kernel_rfl) (by kernel_rfl) (fun _ _ _ h => h) (Or.inl ⟨by rfl, ?hym24⟩) (by assumption) ?_
      case hym24 => (intro x' hxx; obtain ⟨e0, e1, e2, e3, e4, e5, e6⟩ := C11.out x' hxx; go_simp; try with_reducible rfl)
      change wpAnyH _ _ _ _ _ _ _ (Act.put _ (some 51) _) _
      simp only [Act.put, List.setIfInBounds_toArray, List.set_cons_zero, List.set_cons_succ]
      refine wpAnyH_ready (rs := [20]) (by kernel_rfl) (by simp) ?_
      refine AllReadyH.cons rfl (fun K hK => ?_) AllReadyH.nil
      go_simp
      refine (HE1.out mw11 (below_then HBR.out hHm11)).mono ?_
      rintro e mw20 ⟨rfl, hb⟩
      have hHm20 : Below wr.heap.size wr mw20 := below_then hHm11 hb
      refine hK.out _ _ hHm20 (fun _ => ?_)
      clear hK K hb hHm11
      refine wpAnyH_ready (rs := [27]) (by kernel_rfl) (by simp) ?_
      refine AllReadyH.cons rfl (fun K hK => ?_) AllReadyH.nil
      go_simp
      refine (HE2.out mw20 (below_then HBR.out hHm20)).mono ?_
      rintro e mw27 ⟨rfl, hb⟩
      have hHm27 : Below wr.heap.size wr mw27 := below_then hHm20 hb
      refine hK.out _ _ hHm27 (fun _ => ?_)
      clear hK K hb hHm20
      refine wpAnyH_take (i := 28) (v := ?vm25) rfl (by kernel_rfl) (by kernel_rfl) (by kernel_rfl) (fun _ _ _ h => h) (Or.inl ⟨by rfl, ?hym25⟩) (by assumption) ?_
      case hym25 => (intro x' hxx; obtain ⟨e0, e1, e2, e3, e4, e5, e6⟩ := C11.out x' hxx; go_simp; try with_reducible rfl)
      change wpAnyH _ _ _ _ _ _ _ (Act.put _ (some 53) _) _
      simp only [Act.put, List.setIfInBounds_toArray, List.set_cons_zero, List.set_cons_succ]
      refine wpAnyH_take (i := 29) (v := ?vm26) rfl (by kernel_rfl) (by kernel_rfl) (by kernel_rfl) (fun _ _ _ h => h) (Or.inl ⟨by rfl, ?hym26⟩) (by assumption) ?_
      case hym26 => (intro x' hxx; obtain ⟨e0, e1, e2, e3, e4, e5, e6⟩ := C11.out x' hxx; go_simp; try with_reducible rfl)
      change wpAnyH _ _ _ _ _ _ _ (Act.put _ (some 54) _) _
      simp only [Act.put, List.setIfInBounds_toArray, List.set_cons_zero, List.set_cons_succ]
      refine wpAnyH_done (by kernel_rfl) ?_ _
      refine NoPanic.normal ?_
      have HE11 := Lib.hid hHm27
      clear hHm27
      go_wp2_with fail
      go_roundg (n - (i + 1))
      case measure => rw [HG.out]; omega
      case rel => exact ⟨i + 1, by omega, rfl, by simp, below_then HBR.out HE11.out⟩
    · obtain rfl : n = i := by omega
      have hfi := fun y (hy : Below W.heap.size W y) => HFI.out la lc y (SliceR.below (RowR.stays 3) HCS.out hy) (SliceR.below StateR.stays HLW.out hy)
      have hfi2 := fun y (hy : Below W.heap.size W y) => HFI2.out la lc y (SliceR.below (RowR.stays 3) HCS.out hy) (SliceR.below StateR.stays HLW.out hy)
      have HX1 := Lib.hid hfi
      have HX2 := Lib.hid hfi2
      have C13 : Hid (∀ y, Below wr.heap.size wr y → y.cell? ⟨gx, 0, none⟩ = some (.int .i64 vars) ∧ y.cell? ⟨gx, 1, none⟩ = some (.int .i64 dom) ∧ y.cell? ⟨gx, 2, none⟩ = some (.slice ca cn cc) ∧ y.cell? ⟨gs, 0, none⟩ = some (.slice la n lc)) := fun y hy => by
        have hw := below_then HBR.out hy
        exact ⟨cells_kept hw _ _ (cell_of_block HG1.out 0), cells_kept hw _ _ (cell_of_block HG1.out 1), cells_kept hw _ _ (cell_of_block HG1.out 2), cells_kept hw _ _ (cell_of_block HS.out 0)⟩
      clear hfi hfi2
      go_upto_region 8 with fail
      clear s0
      refine wp_region_noPanic ?_
      refine wp_region_held_drew (S := fun x => Below wr.heap.size wr x) (by kernel_rfl) (Below.refl _ _).drew (fun hH => ?_)
      refine wpAnyH_ready (rs := [0]) (by kernel_rfl) (by simp) ?_
      refine AllReadyH.cons rfl (fun K hK => ?_) AllReadyH.nil
      go_simp
      refine (HAW.out _).mono ?_
      rintro e qw0 ⟨rfl, hb⟩
      have hHq0 : Below wr.heap.size wr qw0 := below_then hH hb
      refine hK.out _ _ hHq0 (fun _ => ?_)
      clear hK K hb hH
      refine wpAnyH_take (i := 1) (v := ?vq1) rfl (by kernel_rfl) (by kernel_rfl) (by kernel_rfl) (fun _ _ _ h => h) (Or.inl ⟨by rfl, ?hyq1⟩) (by assumption) ?_
      case hyq1 => (intro x' hxx; obtain ⟨e0, e1, e2, e3⟩ := C13.out x' hxx; go_simp; try with_reducible rfl)
      change wpAnyH _ _ _ _ _ _ _ (Act.put _ (some 56) _) _
      simp only [Act.put, List.setIfInBounds_toArray, List.set_cons_zero, List.set_cons_succ]
      refine wpAnyH_take (i := 2) (v := ?vq2) rfl (by kernel_rfl) (by kernel_rfl) (by kernel_rfl) (fun _ _ _ h => h) (Or.inl ⟨by rfl, ?hyq2⟩) (by assumption) ?_
      case hyq2 => (intro x' hxx; obtain ⟨e0, e1, e2, e3⟩ := C13.out x' hxx; go_simp; try with_reducible rfl)
      change wpAnyH _ _ _ _ _ _ _ (Act.put _ (some 57) _) _
      simp only [Act.put, List.setIfInBounds_toArray, List.set_cons_zero, List.set_cons_succ]
      refine wpAnyH_take (i := 3) (v := ?vq3) rfl (by kernel_rfl) (by kernel_rfl) (by kernel_rfl) (fun _ _ _ h => h) (Or.inl ⟨by rfl, ?hyq3⟩) (by assumption) ?_
      case hyq3 => (intro x' hxx; obtain ⟨e0, e1, e2, e3⟩ := C13.out x' hxx; go_simp; try with_reducible rfl)
      change wpAnyH _ _ _ _ _ _ _ (Act.put _ (some 58) _) _
      simp only [Act.put, List.setIfInBounds_toArray, List.set_cons_zero, List.set_cons_succ]
      refine wpAnyH_take (i := 4) (v := ?vq4) rfl (by kernel_rfl) (by kernel_rfl) (by kernel_rfl) (fun _ _ _ h => h) (Or.inl ⟨by rfl, ?hyq4⟩) (by assumption) ?_
      case hyq4 => (intro x' hxx; obtain ⟨e0, e1, e2, e3⟩ := C13.out x' hxx; go_simp; try with_reducible rfl)
      change wpAnyH _ _ _ _ _ _ _ (Act.put _ (some 59) _) _
      simp only [Act.put, List.setIfInBounds_toArray, List.set_cons_zero, List.set_cons_succ]
      refine wpAnyH_take (i := 6) (v := ?vq5) rfl (by kernel_rfl) (by kernel_rfl) (by kernel_rfl) (fun _ _ _ h => h) (Or.inl ⟨by rfl, ?hyq5⟩) (by assumption) ?_
      case hyq5 => (intro x' hxx; obtain ⟨e0, e1, e2, e3⟩ := C13.out x' hxx; go_simp; try with_reducible rfl)
      change wpAnyH _ _ _ _ _ _ _ (Act.put _ (some 61) _) _
      simp only [Act.put, List.setIfInBounds_toArray, List.set_cons_zero, List.set_cons_succ]
      refine wpAnyH_take (i := 7) (v := ?vq6) rfl (by kernel_rfl) (by kernel_rfl) (by kernel_rfl) (fun _ _ _ h => h) (Or.inl ⟨by rfl, ?hyq6⟩) (by assumption) ?_
      case hyq6 => (intro x' hxx; obtain ⟨e0, e1, e2, e3⟩ := C13.out x' hxx; go_simp; try with_reducible rfl)
      change wpAnyH _ _ _ _ _ _ _ (Act.put _ (some 62) _) _
      simp only [Act.put, List.setIfInBounds_toArray, List.set_cons_zero, List.set_cons_succ]
      refine wpAnyH_take (i := 8) (v := ?vq7) rfl (by kernel_rfl) (by kernel_rfl) (by kernel_rfl) (fun _ _ _ h => h) (Or.inl ⟨by rfl, ?hyq7⟩) (by assumption) ?_
      case hyq7 => (intro x' hxx; obtain ⟨e0, e1, e2, e3⟩ := C13.out x' hxx; go_simp; try with_reducible rfl)
      change wpAnyH _ _ _ _ _ _ _ (Act.put _ (some 63) _) _
      simp only [Act.put, List.setIfInBounds_toArray, List.set_cons_zero, List.set_cons_succ]
      refine wpAnyH_ready (rs := [5]) (by kernel_rfl) (by simp) ?_
      refine AllReadyH.cons rfl (fun K hK => ?_) AllReadyH.nil
      go_simp
      refine (HX1.out qw0 (below_then HBR.out hHq0)).mono ?_
      rintro e qw5 ⟨⟨xa, xc, rfl, hx⟩, hb⟩
      have HXA := Lib.hid hx
      clear hx
      have hHq5 : Below wr.heap.size wr qw5 := below_then hHq0 hb
      refine hK.out _ _ hHq5 (fun _ => ?_)
      clear hK K hb hHq0
      refine wpAnyH_ready (rs := [9]) (by kernel_rfl) (by simp) ?_
      refine AllReadyH.cons rfl (fun K hK => ?_) AllReadyH.nil
      go_simp
      refine (HX2.out qw5 (below_then HBR.out hHq5)).mono ?_
      rintro e qw9 ⟨⟨ya, yc, rfl, hy⟩, hb⟩
      have HYA := Lib.hid hy
      have HXB := Lib.hid (SliceR.below FinalR.stays HXA.out hb)
      clear hy
      have hHq9 : Below wr.heap.size wr qw9 := below_then hHq5 hb
      refine hK.out _ _ hHq9 (fun _ => ?_)
      clear hK K hb hHq5
      refine wpAnyH_ready (rs := [10]) (by kernel_rfl) (by simp) ?_
      refine AllReadyH.cons rfl (fun K hK => ?_) AllReadyH.nil
      go_simp
      refine (refSame_any qw9 R R _ _ HXB.out HYA.out HFR.out HFR.out).mono ?_
      rintro e qw10 ⟨rfl, hb⟩
      rw [sameF_self]
      have hHq10 : Below wr.heap.size wr qw10 := below_then hHq9 hb
      refine hK.out _ _ hHq10 (fun _ => ?_)
      clear hK K hb hHq9
      refine wpAnyH_take (i := 11) (v := ?vq8) rfl (by kernel_rfl) (by kernel_rfl) (by kernel_rfl) (fun _ _ _ h => h) (Or.inl ⟨by rfl, ?hyq8⟩) (by assumption) ?_
      case hyq8 => (intro x' hxx; obtain ⟨e0, e1, e2, e3⟩ := C13.out x' hxx; go_simp; try with_reducible rfl)
      change wpAnyH _ _ _ _ _ _ _ (Act.put _ (some 66) _) _
      simp only [Act.put, List.setIfInBounds_toArray, List.set_cons_zero, List.set_cons_succ]
      refine wpAnyH_take (i := 12) (v := ?vq9) rfl (by kernel_rfl) (by kernel_rfl) (by kernel_rfl) (fun _ _ _ h => h) (Or.inl ⟨by rfl, ?hyq9⟩) (by assumption) ?_
      case hyq9 => (intro x' hxx; obtain ⟨e0, e1, e2, e3⟩ := C13.out x' hxx; go_simp; try with_reducible rfl)
      change wpAnyH _ _ _ _ _ _ _ (Act.put _ (some 4) _) _
      simp only [Act.put, List.setIfInBounds_toArray, List.set_cons_zero, List.set_cons_succ]
      refine wpAnyH_done (by kernel_rfl) ?_ _
      refine NoPanic.normal ?_
      have HE13 := Lib.hid hHq10
      clear hHq10
      go_wp2_with fail
      go_ret
      exact ⟨by first | rfl | simp, HOUT.out _ (below_then HBR.out HE13.out)⟩
theorem u8_bounds {x : Int} (h : (Lit.int .u8 x).wf = true) : 0 ≤ x ∧ x ≤ 255 := by
  constructor
  · simp [Lit.wf, IntKind.min, IntKind.max, IntKind.signed] at h; omega
  · simp [Lit.wf, IntKind.min, IntKind.max, IntKind.signed, IntKind.bits] at h; omega
theorem finalMade_top (w : World) (sv : Value) (l0 : List Int) (hn : NumsAt w .u8 sv l0) (hcap : ∀ a n c, sv = .slice a n c → n ≤ c) (q : Int) (hq : (Lit.int .u8 q).wf = true) :
    Calls Try.prog 4 #[sv, .int .u8 q] w fun e w' => e = .returned (.bool true) ∧ Below w.heap.size w w' := finalMade_any w sv l0 hn hcap q (u8_bounds hq).1 (u8_bounds hq).2
end Go.Proofs.Ytnlkbboghcdpnaa
