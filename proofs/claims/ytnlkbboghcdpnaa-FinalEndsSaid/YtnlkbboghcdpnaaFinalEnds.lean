/- States that have ended, and such as have no moves. -/
import Derived.Test.YtnlkbboghcdpnaaWalk7
import Derived.Test.YtnlkbboghcdpnaaEndedR
namespace Go.Proofs.Ytnlkbboghcdpnaa
open Go.RowKit

theorem heads_some {l : List EntryD} {model : Int} (hl : 0 < l.length) (hm : model = 1 ∨ model = 2) : headsB l model ≠ [] := by
  have key : ∀ i, headsTo l (i + 1) ≠ [] := by
    intro i
    induction i with
    | zero =>
      unfold headsTo
      rw [if_pos (by simp)]
      intro e
      have := insV_len (l.getD 0 default).var (headsTo l 0)
      rw [e] at this; simp at this
    | succ i ih =>
      unfold headsTo
      split
      · intro e
        have := insV_len (l.getD (i + 1) default).var (headsTo l (i + 1))
        rw [e] at this; simp at this
      · exact ih
  unfold headsB
  rcases hm with rfl | rfl
  · rw [if_neg (by decide), if_pos rfl]
    cases l with
    | nil => simp at hl
    | cons x r => simp
  · rw [if_pos rfl]
    obtain ⟨k, hk⟩ : ∃ k, l.length = k + 1 := ⟨l.length - 1, by omega⟩
    rw [hk]; exact key k
/-- Does a thread stand where it waits for a lock? -/
def lockAt (c : CodeD) (s : StateD) (j : Nat) : Bool := decide ((s.threads.getD j default).pc < ((c.threads.getD j []).length : Int)) && decide (((c.threads.getD j []).getD (s.threads.getD j default).pc.toNat default).op = 7)
def waitsTo (c : CodeD) (s : StateD) (i : Nat) : Bool := (List.range i).any (lockAt c s)
theorem waits_succ (c : CodeD) (s : StateD) (i : Nat) : waitsTo c s (i + 1) = (waitsTo c s i || lockAt c s i) := by
  unfold waitsTo
  rw [List.range_succ, List.any_append]; simp
theorem moves_none {c : CodeD} {m : MachD} {s : StateD} {d : Nat} (hf : fitsOk c m s = true) : movesS c m s d = [] ↔ ∀ i, i < s.threads.length → stepS c m s i d = none ∧ headsB (s.threads.getD i default).buf m.model = [] := by
  unfold movesS
  rw [if_pos hf, List.flatMap_eq_nil_iff]
  constructor
  · intro h i hi
    have := h i (List.mem_range.2 hi)
    unfold movesT at this
    rw [List.append_eq_nil_iff, List.map_eq_nil_iff] at this
    refine ⟨?_, this.2⟩
    cases hs : stepS c m s i d with
    | none => rfl
    | some t => rw [hs] at this; simp at this
  · intro h i hi
    obtain ⟨h1, h2⟩ := h i (List.mem_range.1 hi)
    unfold movesT
    rw [h1, h2]; rfl
theorem clear_iff {s : StateD} : clearS s = true ↔ ∀ i, i < s.threads.length → (s.threads.getD i default).buf = [] := by
  unfold clearS
  rw [List.all_eq_true]
  constructor
  · intro h i hi
    have := h _ (getD_mem (x := default) hi)
    rw [decide_eq_true_iff] at this
    exact List.eq_nil_of_length_eq_zero this
  · intro h t ht
    obtain ⟨i, hi, rfl⟩ := List.getElem_of_mem ht
    have := h i hi
    rw [List.getD_eq_getElem?_getD, List.getElem?_eq_getElem hi] at this
    rw [decide_eq_true_iff]
    show (s.threads[i]).buf.length = 0
    rw [show (s.threads[i]).buf = [] from this]; rfl
theorem ended_iff {c : CodeD} {s : StateD} : endedS c s = true ↔ s.threads.length = c.threads.length ∧ (∀ i, i < s.threads.length → (s.threads.getD i default).pc = ((c.threads.getD i []).length : Int)) ∧ clearS s = true := by
  unfold endedS
  simp only [Bool.and_eq_true, decide_eq_true_eq, List.all_eq_true, List.mem_range]
  exact ⟨fun ⟨⟨a, b⟩, c⟩ => ⟨a, b, c⟩, fun ⟨a, b, c⟩ => ⟨⟨a, b⟩, c⟩⟩
theorem ended_none {c : CodeD} {m : MachD} {s : StateD} {d : Nat} (hf : fitsOk c m s = true) (he : endedS c s = true) : movesS c m s d = [] ∧ clearS s = true := by
  obtain ⟨h1, h2, h3⟩ := ended_iff.1 he
  refine ⟨(moves_none hf).2 fun i hi => ⟨?_, ?_⟩, h3⟩
  · unfold stepS
    rw [if_neg (by rw [h2 i hi]; omega)]
  · rw [clear_iff.1 h3 i hi]
    unfold headsB headsTo
    split
    · rfl
    · split <;> rfl
theorem step_lock {c : CodeD} {m : MachD} {s : StateD} {t : ThreadD} {x : InstrD} {d : Nat} (hm : mayOk c m = true) (hb : t.buf = []) (h : stepT c m s t x d = none) : x.op = 7 := by
  have hm2 : 0 ≤ m.model ∧ m.model ≤ 2 ∧ 1 ≤ m.bound := by
    unfold mayOk at hm
    simp only [Bool.and_eq_true, decide_eq_true_eq] at hm
    exact ⟨hm.1.1.1.2, hm.1.1.2, hm.1.2⟩
  have hl : t.buf.length = 0 := by rw [hb]; rfl
  by_cases e1 : x.op = 1
  · rw [stepT_load e1] at h; cases h
  by_cases e2 : x.op = 2
  · by_cases hmo : m.model = 0
    · rw [stepT_store0 e2 hmo] at h; cases h
    · have hp : putOk t.buf m ⟨x.var, evalN t.regs c.domain d x.a⟩ = true := by
        rw [hb]
        have h12 : m.model = 1 ∨ m.model = 2 := by omega
        have h1 : (0 : Int) < m.bound := by omega
        rcases h12 with h12 | h12 <;> simp [putOk, putCount, h12, h1]
      rw [stepT_storeY e2 hmo hp] at h; cases h
  by_cases e3 : x.op = 3
  · rw [stepT_set e3] at h; cases h
  by_cases e4 : x.op = 4
  · rw [stepT_fence e4, if_pos hl] at h; cases h
  by_cases e5 : x.op = 5
  · rw [stepT_weak e5, if_pos (.inl hl)] at h; cases h
  by_cases e6 : x.op = 6
  · by_cases hv2 : s.mem.getD x.var.toNat 0 = evalN t.regs c.domain d x.a
    · rw [stepT_casY e6 hv2, if_pos hl] at h; cases h
    · rw [stepT_casN e6 hv2, if_pos hl] at h; cases h
  by_cases e7 : x.op = 7
  · exact e7
  by_cases e8 : x.op = 8
  · rw [stepT_unlock e8, if_pos hl] at h; cases h
  by_cases e9 : x.op = 9
  · rw [stepT_assert e9] at h; cases h
  by_cases e12 : x.op = 12
  · rw [stepT_branch e12] at h; cases h
  by_cases e13 : x.op = 13
  · rw [stepT_jump e13] at h; cases h
  · rw [stepT_other e1 e2 e3 e4 e5 e6 e7 e8 e9 e12 e13] at h; cases h
/-- A state without moves has ended, or waits for a lock. -/
theorem none_waits {c : CodeD} {m : MachD} {s : StateD} {d : Nat} (hf : fitsOk c m s = true) (hm : movesS c m s d = []) (he : endedS c s = false) : waitsTo c s s.threads.length = true ∧ clearS s = true := by
  obtain ⟨f1, f2, f3, f4, f5⟩ := fits_iff.1 hf
  have hn := (moves_none hf).1 hm
  have hclear : clearS s = true := clear_iff.2 fun i hi => by
    rcases Nat.eq_zero_or_pos (s.threads.getD i default).buf.length with e | e
    · exact List.eq_nil_of_length_eq_zero e
    · exfalso
      have hp := (wait_facts ((f5 i hi).2.2.2 0 e)).1
      unfold putOk at hp
      simp only [Bool.and_eq_true, Bool.or_eq_true, decide_eq_true_eq] at hp
      exact heads_some e hp.1 (hn i hi).2
  refine ⟨?_, hclear⟩
  have hex : ∃ i, i < s.threads.length ∧ (s.threads.getD i default).pc ≠ ((c.threads.getD i []).length : Int) := by
    rcases Classical.em (∃ i, i < s.threads.length ∧ (s.threads.getD i default).pc ≠ ((c.threads.getD i []).length : Int)) with h | h
    · exact h
    · have : endedS c s = true := ended_iff.2 ⟨f2, fun i hi => Classical.byContradiction fun hne => h ⟨i, hi, hne⟩, hclear⟩
      rw [he] at this; cases this
  obtain ⟨i, hi, hpc⟩ := hex
  have hlt : (s.threads.getD i default).pc < ((c.threads.getD i []).length : Int) := by have := (f5 i hi).2.1; omega
  have hs := (hn i hi).1
  unfold stepS at hs
  rw [if_pos hlt, Option.map_eq_none_iff] at hs
  have hop := step_lock f1 (clear_iff.1 hclear i hi) hs
  unfold waitsTo
  rw [List.any_eq_true]
  refine ⟨i, List.mem_range.2 hi, ?_⟩
  unfold lockAt
  simp only [Bool.and_eq_true, decide_eq_true_eq]
  exact ⟨hlt, hop⟩
theorem machS_ok {c : CodeD} (h : codeOk c = true) (q : Int) (_h0 : 0 ≤ q) : mayOk c (machS q) = true := by
  unfold mayOk machS
  simp only [Bool.and_eq_true, decide_eq_true_eq]
  have h1 := Int.emod_nonneg q (show (3 : Int) ≠ 0 by omega)
  have h2 := Int.emod_lt_of_pos q (show (0 : Int) < 3 by omega)
  have h3 := Int.emod_nonneg (q / 3) (show (3 : Int) ≠ 0 by omega)
  have h4 := Int.emod_lt_of_pos (q / 3) (show (0 : Int) < 3 by omega)
  exact ⟨⟨⟨⟨h, by omega⟩, by omega⟩, by omega⟩, by omega⟩
set_option maxRecDepth 100000 in
set_option maxHeartbeats 8000000 in
theorem finalEnds_any (w : World) (sv : Value) (l0 : List Int) (hn : NumsAt w .u8 sv l0) (q : Int) (q0 : 0 ≤ q) (q1 : q ≤ 255) (wv : Value) (lw : List Int) (hw : NumsAt w .u8 wv lw) :
    Calls Try.prog 5 #[sv, .int .u8 q, wv] w fun e w' => e = .returned (.bool true) ∧ Below w.heap.size w w' := by
  have HN := Lib.hid hn
  have HW := Lib.hid hw
  obtain ⟨sa, sc, rfl, -⟩ : ∃ a c, sv = .slice a l0.length c ∧ True := by obtain ⟨a, c, h, -⟩ := hn; exact ⟨a, c, h, trivial⟩
  obtain ⟨wa, wc, rfl, -⟩ : ∃ a c, wv = .slice a lw.length c ∧ True := by obtain ⟨a, c, h, -⟩ := hw; exact ⟨a, c, h, trivial⟩
  generalize l0.length = ln at HN ⊢
  generalize lw.length = wn at HW ⊢
  clear hn hw
  go_enter Try.func5, Try.ntmps5
  go_upto_region 4 with (go_at_call 7; go_must (refine (awakeF_any w).mono ?_); rintro en W0 ⟨rfl, hb⟩; (have HB0 := Lib.hid hb); clear hb)
  go_upto_region 5 with (first | (go_at_call 18; go_must (refine (machine_any W2 q q0 q1).mono ?_); rintro en W3 ⟨rfl, hb⟩; (have HB3 := Lib.hid (below_then HB2.out hb)); (have HC3 := Lib.hid (SliceR.below (RowR.stays 3) HC2.out hb)); clear hb; unfold machV) | (go_at_call 19; go_must (refine (HM4.out).mono ?_); rintro en W2 ⟨⟨c, ta, tc, css, rfl, hok, hrow⟩, hb⟩; (have HOK := Lib.hid hok); (have HC2 := Lib.hid hrow.slice); (have HB2 := Lib.hid (below_then HB1.out hb)); clear hrow hok hb HM4; unfold codeV) | (go_at_call 20; go_must (refine (kinds_any W0).mono ?_); rintro en W1 ⟨⟨kv, rfl, hks⟩, hb⟩; (have HB1 := Lib.hid (below_then HB0.out hb)); (have HM4 := Lib.hid (made4_any W1 _ l0 (HN.out.below (below_then HB0.out hb)) kv kindsL hks (by decide) (by decide) kinds_ok)); clear hks hb))
  have hmay := machS_ok HOK.out q q0
  have hlenC := (codeOk_bounds HOK.out).2.2.2.2.2
  obtain ⟨m, hm⟩ : ∃ m, m = machS q := ⟨_, rfl⟩
  rw [← hm] at hmay ⊢
  have hwalk := fun y hy hw => walk_any y c (.slice ta c.threads.length tc) 3 hy m (.slice wa wn wc) lw hw
  have hmoves := fun y hy s sv mv hs hb => moves_any y c (.slice ta c.threads.length tc) 3 hy m s sv mv hs hb
  have hend := fun y hy s sv mv hs => ended_any y 3 c (.slice ta c.threads.length tc) hy s sv mv hs
  obtain ⟨C, hC⟩ : ∃ C, C = c := ⟨_, rfl⟩
  obtain ⟨M, hM⟩ : ∃ M, M = m := ⟨_, rfl⟩
  unfold codeV at hwalk hmoves hend
  unfold machV at hwalk hmoves
  generalize c.vars = vars at hwalk hmoves hend ⊢
  generalize c.domain = dom at hwalk hmoves hend ⊢
  generalize m.model = mo at hwalk hmoves ⊢
  generalize m.bound = bo at hwalk hmoves ⊢
  rw [← hC] at hmay hlenC HC3 hwalk hmoves hend ⊢
  rw [← hM] at hmay hwalk hmoves
  obtain ⟨cn, hcn⟩ : ∃ n, n = C.threads.length := ⟨_, rfl⟩
  have hc3 := HC3.out
  rw [← hcn] at hlenC hc3 hwalk hmoves hend ⊢
  have hB := ((Below.refl W3.heap.size W3).alloc (Nat.le_refl _) (.cells #[.int .i64 vars, .int .i64 dom, .slice ta cn tc] 24)).alloc (by simp) (.cells #[.int .i64 mo, .int .i64 bo] 47)
  have H1 := Lib.hid (boxes_first W3 (.cells #[.int .i64 vars, .int .i64 dom, .slice ta cn tc] 24) (.cells #[.int .i64 mo, .int .i64 bo] 47))
  have H2 := Lib.hid (boxes_second W3 (.cells #[.int .i64 vars, .int .i64 dom, .slice ta cn tc] 24) (.cells #[.int .i64 mo, .int .i64 bo] 47))
  have HC := Lib.hid (SliceR.below (RowR.stays 3) hc3 hB)
  have HB := Lib.hid (below_then HB3.out hB)
  have HMAY := Lib.hid hmay
  have HCN := Lib.hid hcn
  have HMV := Lib.hid hmoves
  have HEND := Lib.hid hend
  have hwk := hwalk _ HC.out (HW.out.below HB.out)
  have HWK := Lib.hid hwk
  clear hB hmay hcn hmoves hend hwalk hwk hC hM hm hc3 HC3 HC2 HB3 HB2 HB1 HB0 HOK HN HW
  generalize World.alloc (World.alloc W3 _) _ = V at HB H1 H2 HC HWK ⊢
  generalize W3.heap.size = gx at H1 H2 ⊢
  have c0 : V.cell? ⟨gx, 0, none⟩ = some (.int .i64 vars) := cell_of_block H1.out 0
  have c1 : V.cell? ⟨gx, 1, none⟩ = some (.int .i64 dom) := cell_of_block H1.out 1
  have c2 : V.cell? ⟨gx, 2, none⟩ = some (.slice ta cn tc) := cell_of_block H1.out 2
  have e0 : V.cell? ⟨gx + 1, 0, none⟩ = some (.int .i64 mo) := cell_of_block H2.out 0
  have e1 : V.cell? ⟨gx + 1, 1, none⟩ = some (.int .i64 bo) := cell_of_block H2.out 1
  go_upto_region 6 with (go_at_call 21; go_must (refine HWK.out.mono ?_); rintro en W4 ⟨⟨s, tv, yv, rfl, hcome, haw⟩, hb⟩; (have HCOME := Lib.hid hcome); (have HST4 := Lib.hid haw.now); (have HB4 := Lib.hid hb); (obtain ⟨xa, xc, rfl, -⟩ := SliceR.slice haw.now.threads); (obtain ⟨ya, yc, rfl, -⟩ := SliceR.slice haw.now.mem); clear hb haw hcome c0 c1 c2 e0 e1; unfold stateV)
  have hfits := HCOME.out.fits HMAY.out
  have htl : s.threads.length = cn := by have := (fits_iff.1 hfits).2.1; rw [this, HCN.out]
  have hbufs := HCOME.out.bufs
  have hbx := (Below.refl W4.heap.size W4).alloc (Nat.le_refl _) (.cells #[.slice xa s.threads.length xc, .slice ya s.mem.length yc, .bool s.bad] 31)
  have HGS := Lib.hid (heap_alloc_new W4 (.cells #[.slice xa s.threads.length xc, .slice ya s.mem.length yc, .bool s.bad] 31))
  have HST := Lib.hid (HST4.out.below hbx)
  have HBX := Lib.hid (below_then HB4.out hbx)
  have HBX0 := Lib.hid (below_then HB.out HBX.out)
  have hmvs := HMV.out _ (SliceR.below (RowR.stays 3) HC.out HBX.out) s _ _ HST.out (fun j hj => by have := hbufs j hj; omega)
  have HFITS := Lib.hid hfits
  unfold stateV at hmvs
  have HMVS := Lib.hid hmvs
  clear hfits hbufs hbx hmvs HST4 HB4 HMV HWK
  rw [htl] at HGS HST HBX HBX0 HMVS ⊢
  generalize World.alloc W4 _ = X at HGS HST HBX HBX0 HMVS ⊢
  generalize W4.heap.size = gs at HGS ⊢
  have HTL := Lib.hid htl
  clear htl
  generalize hyn : s.mem.length = yn at HGS HST HBX HBX0 HMVS ⊢
  have c0 : X.cell? ⟨gx, 0, none⟩ = some (.int .i64 vars) := cells_kept HBX.out _ _ (cell_of_block H1.out 0)
  have c1 : X.cell? ⟨gx, 1, none⟩ = some (.int .i64 dom) := cells_kept HBX.out _ _ (cell_of_block H1.out 1)
  have c2 : X.cell? ⟨gx, 2, none⟩ = some (.slice ta cn tc) := cells_kept HBX.out _ _ (cell_of_block H1.out 2)
  have e0 : X.cell? ⟨gx + 1, 0, none⟩ = some (.int .i64 mo) := cells_kept HBX.out _ _ (cell_of_block H2.out 0)
  have e1 : X.cell? ⟨gx + 1, 1, none⟩ = some (.int .i64 bo) := cells_kept HBX.out _ _ (cell_of_block H2.out 1)
  have s0 : X.cell? ⟨gs, 0, none⟩ = some (.slice xa cn xc) := cell_of_block HGS.out 0
  have s1 : X.cell? ⟨gs, 1, none⟩ = some (.slice ya yn yc) := cell_of_block HGS.out 1
  have s2 : X.cell? ⟨gs, 2, none⟩ = some (.bool s.bad) := cell_of_block HGS.out 2
  clear hyn
  go_upto_region 7 with (go_at_call 22; go_must (refine HMVS.out.mono ?_); rintro en Y ⟨⟨va, vc, rfl, -⟩, hb⟩; (have HBY := Lib.hid hb); clear hb c0 c1 c2 e0 e1 s0 s1 s2)
  obtain ⟨ms, hms⟩ : ∃ ms, ms = movesS C M s 3 := ⟨_, rfl⟩
  rw [← hms]
  have hnone : ms = [] → (endedS C s = true → clearS s = true) ∧ (endedS C s = false → waitsTo C s s.threads.length = true ∧ clearS s = true) := fun e => ⟨fun he => (ended_none (m := M) (d := 3) HFITS.out he).2, fun he => none_waits HFITS.out (by rw [← hms]; exact e) he⟩
  have hended : endedS C s = true → ms = [] ∧ clearS s = true := fun he => by rw [hms]; exact ended_none HFITS.out he
  have HNONE := Lib.hid hnone
  have HENDED := Lib.hid hended
  obtain ⟨mq, hmq⟩ : ∃ n, n = ms.length := ⟨_, rfl⟩
  rw [← hmq]
  have HMQ := Lib.hid hmq
  have hpcs : ∀ i, i < cn → 0 ≤ (s.threads.getD i default).pc := fun i hi => ((fits_iff.1 HFITS.out).2.2.2.2 i (by rw [HTL.out]; exact hi)).1
  have HPC := Lib.hid hpcs
  clear hms hnone hended hmq hpcs HMVS
  go_wp2_with fail
  go_loopg [12, 13] cn (fun gg s12 s13 wr => ∃ i : Nat, i ≤ cn ∧ Hid (gg = cn - i) ∧ s12 = .bool (waitsTo C s i) ∧ s13 = .int .i64 i ∧ Hid (Below X.heap.size X wr))
  case atStart => exact ⟨0, Nat.zero_le _, rfl, rfl, rfl, HBY.out⟩
  case round =>
    obtain ⟨i, hi, HG, rfl, rfl, HBR⟩ := hrel
    have s0 : wr.cell? ⟨gs, 0, none⟩ = some (.slice xa cn xc) := cells_kept HBR.out _ _ (cell_of_block HGS.out 0)
    by_cases hlt : i < cn
    · have hltI : (i : Int) < (cn : Int) := by omega
      have c2 : wr.cell? ⟨gx, 2, none⟩ = some (.slice ta cn tc) := cells_kept (below_then HBX.out HBR.out) _ _ (cell_of_block H1.out 2)
      obtain ⟨b, off, ba, bc, hxa, -, -, t0, -⟩ := ThreadsAt.part HST.out.threads i (by rw [HTL.out]; exact hlt)
      subst hxa
      obtain ⟨rb, ro, ka, kc, hta, -, y0, hins⟩ := RowsAt.part HC.out i (by rw [← HCN.out]; exact hlt)
      subst hta
      have hw1 := waits_succ C s i
      have hpc0 := HPC.out i hlt
      have hlk : lockAt C s i = (decide ((s.threads.getD i default).pc < ((C.threads.getD i []).length : Int)) && decide (((C.threads.getD i []).getD (s.threads.getD i default).pc.toNat default).op = 7)) := rfl
      generalize C.threads.getD i [] = row at y0 hins hlk
      generalize (s.threads.getD i default).pc = pc at t0 hpc0 hlk
      obtain ⟨pn, rfl⟩ : ∃ pn : Nat, pc = (pn : Int) := ⟨pc.toNat, by omega⟩
      rw [Int.toNat_natCast] at hlk
      rw [hlk] at hw1
      have z0 := cells_kept HBR.out _ _ t0
      have z1 := cells_kept (below_then HBX.out HBR.out) _ _ y0
      obtain ⟨rl, hrl⟩ : ∃ n, n = row.length := ⟨_, rfl⟩
      rw [← hrl] at z1 hw1 hins
      by_cases hpl : pn < rl
      · have hplI : (pn : Int) < (rl : Int) := by omega
        obtain ⟨ib, io, _, _, _, _, hka, -, ⟨o0, -⟩, -⟩ := InstrsAt.part hins pn (by rw [← hrl]; exact hpl)
        subst hka
        have z2 := cells_kept (below_then HBX.out HBR.out) _ _ o0
        generalize (row.getD pn default).op = op at z2 hw1
        rw [decide_eq_true hplI, Bool.true_and] at hw1
        have HW1 := Lib.hid hw1
        have hpnI : (0 : Int) ≤ (pn : Int) := by omega
        generalize hwb : waitsTo C s i = wb at HW1 ⊢
        clear t0 y0 hins hlk hw1 o0 hrl hpc0 hwb
        go_upto_region 11 with fail
        go_quiet (fail)
        go_upto_region 12 with fail
        cases wb with
        | true =>
          have HW2 : Hid (waitsTo C s (i + 1) = true) := by rw [Hid, HW1.out]; rfl
          go_quiet (fail)
          go_wp2_with fail
          go_roundg (cn - (i + 1))
          case measure => rw [HG.out]; omega
          case rel => exact ⟨i + 1, by omega, rfl, by rw [HW2.out], by simp, drewN_below HBR.out _⟩
        | false =>
          have HW2 : Hid (waitsTo C s (i + 1) = decide (op = 7)) := by rw [Hid, HW1.out]; rfl
          have z0' := z0
          go_quiet (fail)
          go_wp2_with fail
          go_roundg (cn - (i + 1))
          case measure => rw [HG.out]; omega
          case rel => exact ⟨i + 1, by omega, rfl, by rw [HW2.out]; first | rfl | (congr 1; simp; done), by simp, drewN_below HBR.out _⟩
      · have hplI : decide ((pn : Int) < (rl : Int)) = false := by rw [decide_eq_false_iff_not]; omega
        rw [hplI, Bool.false_and, Bool.or_false] at hw1
        have HW1 := Lib.hid hw1
        clear t0 y0 hins hlk hw1 hrl hpc0
        go_upto_region 11 with fail
        go_quiet (fail)
        go_wp2_with fail
        go_roundg (cn - (i + 1))
        case measure => rw [HG.out]; omega
        case rel => exact ⟨i + 1, by omega, rfl, by rw [HW1.out], by simp, drewN_below HBR.out _⟩
    · obtain rfl : cn = i := by omega
      have hst := HST.out.below HBR.out
      have hen := HEND.out wr (SliceR.below (RowR.stays 3) HC.out (below_then HBX.out HBR.out)) s _ _ hst
      have hcl := fun y (hy : Below wr.heap.size wr y) => clear_any y s _ _ (hst.below hy)
      unfold stateV at hen hcl
      have HEN := Lib.hid hen
      have HCLR := Lib.hid hcl
      have c0 : wr.cell? ⟨gx, 0, none⟩ = some (.int .i64 vars) := cells_kept (below_then HBX.out HBR.out) _ _ (cell_of_block H1.out 0)
      have c1 : wr.cell? ⟨gx, 1, none⟩ = some (.int .i64 dom) := cells_kept (below_then HBX.out HBR.out) _ _ (cell_of_block H1.out 1)
      have c2 : wr.cell? ⟨gx, 2, none⟩ = some (.slice ta cn tc) := cells_kept (below_then HBX.out HBR.out) _ _ (cell_of_block H1.out 2)
      have s1 : wr.cell? ⟨gs, 1, none⟩ = some (.slice ya yn yc) := cells_kept HBR.out _ _ (cell_of_block HGS.out 1)
      have s2 : wr.cell? ⟨gs, 2, none⟩ = some (.bool s.bad) := cells_kept HBR.out _ _ (cell_of_block HGS.out 2)
      have hno := HNONE.out
      have hed := HENDED.out
      rw [HTL.out] at hno
      generalize waitsTo C s cn = wv at hno ⊢
      generalize s.bad = bd at HEN HCLR s2
      generalize endedS C s = en at hno hed HEN
      generalize clearS s = cl at hno hed HCLR
      have HNO := Lib.hid hno
      have HED := Lib.hid hed
      clear hst hen hcl hno hed
      go_upto_if 70 with (go_at_call 11; go_must (refine HEN.out.mono ?_); rintro e2 Z ⟨rfl, hb⟩; (have HBZ := Lib.hid hb); clear hb c0 c1 c2)
      have u0 := cells_kept HBZ.out _ _ s0
      have u1 := cells_kept HBZ.out _ _ s1
      have u2 := cells_kept HBZ.out _ _ s2
      clear s0 s1 s2
      cases en with
      | true =>
        obtain ⟨he1, he2⟩ := HED.out (by trivial)
        have hmq0 : mq = 0 := by rw [HMQ.out, he1]; rfl
        subst hmq0
        subst he2
        clear HNO HED he1
        go_wp2_with (go_at_call 9; go_must (refine (HCLR.out Z HBZ.out).mono ?_); rintro e3 Z2 ⟨rfl, hb⟩; (have HBZ2 := Lib.hid (below_then HBZ.out hb)); clear hb u0 u1 u2)
        go_ret
        exact ⟨rfl, below_then HBX0.out (below_then HBR.out HBZ2.out)⟩
      | false =>
        by_cases hm0 : mq = 0
        · obtain ⟨hw1, hw2⟩ := (HNO.out (List.eq_nil_of_length_eq_zero (HMQ.out ▸ hm0))).2 (by trivial)
          subst hw1
          subst hw2
          subst hm0
          clear HNO HED
          go_wp2_with (go_at_call 9; go_must (refine (HCLR.out Z HBZ.out).mono ?_); rintro e3 Z2 ⟨rfl, hb⟩; (have HBZ2 := Lib.hid (below_then HBZ.out hb)); clear hb u0 u1 u2)
          go_ret
          exact ⟨rfl, below_then HBX0.out (below_then HBR.out HBZ2.out)⟩
        · have hm1 : (0 : Int) < (mq : Int) := by omega
          clear hm0
          go_wp2_with fail
          go_ret
          exact ⟨rfl, below_then HBX0.out (below_then HBR.out HBZ.out)⟩
theorem finalEnds_top (w : World) (sv : Value) (l0 : List Int) (hn : NumsAt w .u8 sv l0) (q : Int) (hq : (Lit.int .u8 q).wf = true) (wv : Value) (lw : List Int) (hw : NumsAt w .u8 wv lw) :
    Calls Try.prog 5 #[sv, .int .u8 q, wv] w fun e w' => e = .returned (.bool true) ∧ Below w.heap.size w w' := finalEnds_any w sv l0 hn q (u8_in hq).1 (u8_in hq).2 wv lw hw
end Go.Proofs.Ytnlkbboghcdpnaa
