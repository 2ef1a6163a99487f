/- The walker comes to a node: the walk. -/
import Derived.Test.YtoojalcfojflhaaWalker
import Derived.Test.YtoojalcfojflhaaTwo
import Derived.Test.YtoojalcfojflhaaTail
namespace Go.Proofs.Ytoojalcfojflhaa
open Go.RowKit

theorem kept_get {w : World} {b j : Nat} {u : Value} {x : Nat} (h : x ≠ b) : (w.setCell ⟨b, j, none⟩ u).heap[x]? = w.heap[x]? := Below.heap_setCell w ⟨b, j, none⟩ u x h
/-- Both lists are a node longer. -/
theorem WalkV.pushed {V X : World} {B : Nat} {k : Wk} {oa pa oa' pa' : Option Addr} {oc pc oc' pc' on pn : Nat} {s : TS} {i : Nat} {bs : List (Nat × Value)} (h : WalkV V B k oa oc pa pc s)
    (hT : Two V X B (.slice oa on oc) (.slice pa pn pc) (.slice oa' (on + 1) oc') (on + 1) (natsV s.openL ++ [.int .i64 (i : Int)]) (.slice pa' (pn + 1) pc') (pn + 1) (natsV s.path ++ [.int .i64 (i : Int)]) bs) (hon : on = s.openL.length) (hpn : pn = s.path.length) :
    WalkV ((X.setCell ⟨k.b, 6, none⟩ (.slice oa' (on + 1) oc')).setCell ⟨k.b, 7, none⟩ (.slice pa' (pn + 1) pc')) B k oa' oc' pa' pc' { s with openL := s.openL ++ [i], path := s.path ++ [i] } ∧
      Below B V ((X.setCell ⟨k.b, 6, none⟩ (.slice oa' (on + 1) oc')).setCell ⟨k.b, 7, none⟩ (.slice pa' (pn + 1) pc')) := by
  subst hon hpn
  have hF : ∀ x ∈ k.own, ¬ ((Value.slice oa s.openL.length oc).ownBlock = some x ∨ (Value.slice pa s.path.length pc).ownBlock = some x) := by
    rintro x hx (e | e)
    · exact h.on x e hx
    · exact h.pn x e hx
  have hX : ∀ x o, x ∈ k.own → V.heap[x]? = some o → X.heap[x]? = some o := fun x o hx ho => (hT.since.block x (lt_of_block ho) (hF x hx)).trans ho
  have hb : k.b ∈ k.own := by simp [Wk.own]
  have hbl := hX _ _ hb h.block
  have h1 := set_of_block hbl 6 (.slice oa' (s.openL.length + 1) oc')
  have h2 := set_of_block h1 7 (.slice pa' (s.path.length + 1) pc')
  have hK : ∀ x o, x ∈ k.own → x ≠ k.b → V.heap[x]? = some o → ((X.setCell ⟨k.b, 6, none⟩ (.slice oa' (s.openL.length + 1) oc')).setCell ⟨k.b, 7, none⟩ (.slice pa' (s.path.length + 1) pc')).heap[x]? = some o := fun x o hx hn ho =>
    kept_set (p := ⟨k.b, 7, none⟩) x o hn (kept_set (p := ⟨k.b, 6, none⟩) x o hn (hX x o hx ho))
  obtain ⟨n1, n2, n3, n4, -⟩ := h.ne
  have hon : ∀ x, (Value.slice oa' (s.openL.length + 1) oc').ownBlock = some x → x ∉ k.own := fun x hx hm => by
    rcases hT.l1 x hx with e | e
    · exact h.on x e hm
    · have := h.own_lt x hm; omega
  have hpn : ∀ x, (Value.slice pa' (s.path.length + 1) pc').ownBlock = some x → x ∉ k.own := fun x hx hm => by
    rcases hT.l2 x hx with e | e
    · exact h.pn x e hm
    · have := h.own_lt x hm; omega
  have hS : Since (fun x => x = k.b) X ((X.setCell ⟨k.b, 6, none⟩ (.slice oa' (s.openL.length + 1) oc')).setCell ⟨k.b, 7, none⟩ (.slice pa' (s.path.length + 1) pc')) := (Since.setCell (F := fun x => x = k.b) (Since.refl _ X) (.inl rfl) _).setCell (.inl rfl) _
  have r1 := hS.row hT.r1 (fun x hx e => hon x hx (e ▸ hb))
  have r2 := hS.row hT.r2 (fun x hx e => hpn x hx (e ▸ hb))
  refine ⟨⟨?_, hK _ _ (by simp [Wk.own]) n1.symm h.order, hK _ _ (by simp [Wk.own]) n2.symm h.low, hK _ _ (by simp [Wk.own]) n3.symm h.group, hK _ _ (by simp [Wk.own]) n4.symm h.next, ?_, ?_, h.nodup, h.base, ?_, ?_, ?_⟩, ?_⟩
  · rw [h2]; simp
  · simpa [natsV] using r1
  · simpa [natsV] using r2
  · simpa using hon
  · simpa using hpn
  · simpa using hT.dis
  · refine ⟨hS.os.trans hT.since.os, hS.tape.trans hT.since.tape, hS.output.trans hT.since.output, Nat.le_trans hT.since.size hS.size, fun x hx => ?_⟩
    have hxb : x ≠ k.b := by have := h.base k.b hb; omega
    rw [kept_get hxb, kept_get hxb]
    by_cases hlt : x < V.heap.size
    · exact hT.since.block x hlt (fun e => by
        rcases e with e | e
        · have := (h.orow.lt x e).1; omega
        · have := (h.prow.lt x e).1; omega)
    · have := h.b_lt; have := h.base k.b hb; omega
set_option maxRecDepth 100000 in
set_option maxHeartbeats 4000000 in
theorem enter_any (w : World) (B : Nat) (k : Wk) (s : TS) (h : WalkAt w B k s) (i : Nat) (hi : i < k.N) (hm : s.many ≤ 1000000) (ho : s.openL.length ≤ 1000000) (hp : s.path.length ≤ 1000000) (hB : B ≤ w.heap.size) :
    Calls Try.prog 45 #[.pointer (some ⟨k.b, 0, none⟩), .int .i64 i] w fun e w' => e = .returned (.tuple #[]) ∧ WalkAt w' B k (s.enter i) ∧ Below B w w' := by
  obtain ⟨oa, oc, pa, pc, h⟩ := h
  obtain ⟨c0, c3, c4, c5, c6, c7, c8, c9⟩ := h.cells
  have f9 : w.frozen? ⟨k.b, 9, none⟩ = false := free_of_block h.block 9
  have hii : (i : Int) < (k.N : Int) := by omega
  go_enter Try.func45, Try.ntmps45
  go_wp2_with fail
  have h1 := h.setMany (s.many + 1)
  rw [show (((s.many + 1 : Nat) : Int)) = (s.many : Int) + 1 by omega] at h1
  have hB1 : Below B w (w.setCell ⟨k.b, 9, none⟩ (.int .i64 ((s.many : Int) + 1))) := ((Below.refl B w).setCell (h.base k.b (by simp [Wk.own])) _)
  generalize World.setCell w _ _ = W at h1 hB1 ⊢
  clear h c0 c3 c4 c5 c6 c7 c8 c9 f9
  obtain ⟨c0, c3, c4, c5, c6, c7, c8, c9⟩ := h1.cells
  have o1 := h1.orderAt hi
  have l1 := h1.lowAt hi
  have fo1 : W.frozen? ⟨k.ob, i, none⟩ = false := free_of_block h1.order i
  have fl1 : W.frozen? ⟨k.lb, i, none⟩ = false := free_of_block h1.low i
  obtain ⟨n1, n2, n3, n4, n5, n6, n7, n8, n9, n10⟩ := h1.ne
  have H1 := Lib.hid h1
  have HB1 := Lib.hid hB1
  clear h1 hB1
  go_region
  go_wp2_with fail
  obtain ⟨s1, hs1⟩ : ∃ s1 : TS, s1 = { s with order := upd s.order i (s.many + 1), low := upd s.low i (s.many + 1), many := s.many + 1 } := ⟨_, rfl⟩
  have h3 : WalkV ((W.setCell ⟨k.ob, i, none⟩ (.int .i64 ((s.many : Int) + 1))).setCell ⟨k.lb, i, none⟩ (.int .i64 ((s.many : Int) + 1))).drew B k oa oc pa pc s1 := by
    rw [hs1]
    exact ((H1.out.setOrder i (s.many + 1)).setLow i (s.many + 1)).below ((Below.refl _ _).drew)
  have hB3 : Below B w ((W.setCell ⟨k.ob, i, none⟩ (.int .i64 ((s.many : Int) + 1))).setCell ⟨k.lb, i, none⟩ (.int .i64 ((s.many : Int) + 1))).drew := ((HB1.out.setCell (H1.out.base k.ob (by simp [Wk.own])) _).setCell (H1.out.base k.lb (by simp [Wk.own])) _).drew
  generalize World.drew _ = V at h3 hB3 ⊢
  have HS1 := Lib.hid hs1
  obtain ⟨d0, d3, d4, d5, d6, d7, d8, d9⟩ := h3.cells
  have f6 : V.frozen? ⟨k.b, 6, none⟩ = false := free_of_block h3.block 6
  have f7 : V.frozen? ⟨k.b, 7, none⟩ = false := free_of_block h3.block 7
  have hol : s1.openL.length ≤ 1000000 := by rw [hs1]; exact ho
  have hpl : s1.path.length ≤ 1000000 := by rw [hs1]; exact hp
  obtain ⟨on, hon⟩ : ∃ on, on = s1.openL.length := ⟨_, rfl⟩
  obtain ⟨pn, hpn⟩ : ∃ pn, pn = s1.path.length := ⟨_, rfl⟩
  have h0 := Two.start h3.orow h3.prow h3.op (Nat.le_trans hB hB3.size)
  rw [← hon] at d6 hol h0
  rw [← hpn] at d7 hpl h0
  have H3 := Lib.hid h3
  have HB3 := Lib.hid hB3
  have HON := Lib.hid hon
  have HPN := Lib.hid hpn
  clear h3 hB3 hs1 H1 HB1 c0 c3 c4 c5 c6 c7 c8 c9 o1 l1 fo1 fl1 ho hp hm hon hpn d0 d3 d4 d5 d8 d9
  have hcc : ∀ x, Since (fun y => (Value.slice oa on oc).ownBlock = some y ∨ (Value.slice pa pn pc).ownBlock = some y) V x → x.cell? ⟨k.b, 6, none⟩ = some (.slice oa on oc) ∧ x.cell? ⟨k.b, 7, none⟩ = some (.slice pa pn pc) ∧ x.frozen? ⟨k.b, 6, none⟩ = false ∧ x.frozen? ⟨k.b, 7, none⟩ = false ∧ True ∧ True := by
    intro x hx
    have hn : ¬ ((Value.slice oa on oc).ownBlock = some k.b ∨ (Value.slice pa pn pc).ownBlock = some k.b) := by
      rintro (e | e)
      · rw [HON.out] at e; exact H3.out.on _ e (by simp [Wk.own])
      · rw [HPN.out] at e; exact H3.out.pn _ e (by simp [Wk.own])
    exact ⟨(hx.cell (p := ⟨k.b, 6, none⟩) H3.out.b_lt hn).trans d6, (hx.cell (p := ⟨k.b, 7, none⟩) H3.out.b_lt hn).trans d7, (hx.frozen (p := ⟨k.b, 6, none⟩) H3.out.b_lt hn).trans f6, (hx.frozen (p := ⟨k.b, 7, none⟩) H3.out.b_lt hn).trans f7, trivial, trivial⟩
  have CC := Lib.hid hcc
  clear hcc d6 d7 f6 f7
  obtain ⟨V1, hV1⟩ : ∃ V1, V1 = V.drew := ⟨_, rfl⟩
  rw [← hV1] at h0
  have hT0 := Lib.hid h0
  clear h0
  refine wp_region_noPanic ?_
  refine wp_region_tail (n0 := 18) (S := fun x => Since (fun y => (Value.slice oa on oc).ownBlock = some y ∨ (Value.slice pa pn pc).ownBlock = some y) V x) (by kernel_rfl) (by rw [← hV1]; exact hT0.out.since) (fun _ => ?_)
  rw [← hV1]
  clear hV1
  refine wpAnyT_free (i := 0) (v := ?v1) rfl (by kernel_rfl) (by kernel_rfl) (by kernel_rfl) (by decide) (fun _ _ _ h => h) (Or.inl ⟨by rfl, ?hy1⟩) (fun _ => hT0.out.since) ?_
  case hy1 => (intro x' _; go_simp; try with_reducible rfl)
  change wpAnyT _ _ _ _ _ _ _ _ (Act.put _ (some 31) _) _
  simp only [Act.put, List.setIfInBounds_toArray, List.set_cons_zero, List.set_cons_succ]
  refine wpAnyT_free (i := 1) (v := ?v2) rfl (by kernel_rfl) (by kernel_rfl) (by kernel_rfl) (by decide) (fun _ _ _ h => h) (Or.inl ⟨by rfl, ?hy2⟩) (fun _ => hT0.out.since) ?_
  case hy2 => (intro x' _; go_simp; try with_reducible rfl)
  change wpAnyT _ _ _ _ _ _ _ _ (Act.put _ (some 32) _) _
  simp only [Act.put, List.setIfInBounds_toArray, List.set_cons_zero, List.set_cons_succ]
  refine wpAnyT_free (i := 2) (v := ?v3) rfl (by kernel_rfl) (by kernel_rfl) (by kernel_rfl) (by decide) (fun _ _ _ h => h) (Or.inl ⟨by rfl, ?hy3⟩) (fun _ => hT0.out.since) ?_
  case hy3 => (intro x' _; go_simp; try with_reducible rfl)
  change wpAnyT _ _ _ _ _ _ _ _ (Act.put _ (some 33) _) _
  simp only [Act.put, List.setIfInBounds_toArray, List.set_cons_zero, List.set_cons_succ]
  refine wpAnyT_free (i := 3) (v := ?v4) rfl (by kernel_rfl) (by kernel_rfl) (by kernel_rfl) (by decide) (fun _ _ _ h => h) (Or.inl ⟨by rfl, ?hy4⟩) (fun _ => hT0.out.since) ?_
  case hy4 => (intro x' _; go_simp; try with_reducible rfl)
  change wpAnyT _ _ _ _ _ _ _ _ (Act.put _ (some 34) _) _
  simp only [Act.put, List.setIfInBounds_toArray, List.set_cons_zero, List.set_cons_succ]
  refine wpAnyT_free (i := 4) (v := ?v5) rfl (by kernel_rfl) (by kernel_rfl) (by kernel_rfl) (by decide) (fun _ _ _ h => h) (Or.inl ⟨by rfl, ?hy5⟩) (fun _ => hT0.out.since) ?_
  case hy5 => (intro x' _; go_simp; try with_reducible rfl)
  change wpAnyT _ _ _ _ _ _ _ _ (Act.put _ (some 35) _) _
  simp only [Act.put, List.setIfInBounds_toArray, List.set_cons_zero, List.set_cons_succ]
  refine wpAnyT_take [8, 15, 16, 17, 18, 19, 20, 21] (i := 5) (v := ?v6) rfl (by kernel_rfl) (by kernel_rfl) (by kernel_rfl) (by decide) (by kernel_rfl) (by kernel_rfl) (by rfl) (by rfl) (fun _ _ _ h => h) (Or.inl ⟨by rfl, ?hy6⟩) (hT0.out.since) ?_
  case hy6 => (intro x' hxx; obtain ⟨e0, e1, e2, e3, e4, e5⟩ := CC.out x' hxx; go_simp; try with_reducible rfl)
  change wpAnyT _ _ _ _ _ _ _ _ (Act.put _ (some 36) _) _
  simp only [Act.put, List.setIfInBounds_toArray, List.set_cons_zero, List.set_cons_succ]
  refine wpAnyT_free (i := 6) (v := ?v7) rfl (by kernel_rfl) (by kernel_rfl) (by kernel_rfl) (by decide) (fun _ _ _ h => h) (Or.inl ⟨by rfl, ?hy7⟩) (fun _ => hT0.out.since) ?_
  case hy7 => (intro x' _; go_simp; try with_reducible rfl)
  change wpAnyT _ _ _ _ _ _ _ _ (Act.put _ (some 37) _) _
  simp only [Act.put, List.setIfInBounds_toArray, List.set_cons_zero, List.set_cons_succ]
  refine wpAnyT_free (i := 9) (v := ?v8) rfl (by kernel_rfl) (by kernel_rfl) (by kernel_rfl) (by decide) (fun _ _ _ h => h) (Or.inl ⟨by rfl, ?hy8⟩) (fun _ => hT0.out.since) ?_
  case hy8 => (intro x' _; go_simp; try with_reducible rfl)
  change wpAnyT _ _ _ _ _ _ _ _ (Act.put _ (some 40) _) _
  simp only [Act.put, List.setIfInBounds_toArray, List.set_cons_zero, List.set_cons_succ]
  refine wpAnyT_free (i := 10) (v := ?v9) rfl (by kernel_rfl) (by kernel_rfl) (by kernel_rfl) (by decide) (fun _ _ _ h => h) (Or.inl ⟨by rfl, ?hy9⟩) (fun _ => hT0.out.since) ?_
  case hy9 => (intro x' _; go_simp; try with_reducible rfl)
  change wpAnyT _ _ _ _ _ _ _ _ (Act.put _ (some 41) _) _
  simp only [Act.put, List.setIfInBounds_toArray, List.set_cons_zero, List.set_cons_succ]
  refine wpAnyT_free (i := 11) (v := ?v10) rfl (by kernel_rfl) (by kernel_rfl) (by kernel_rfl) (by decide) (fun _ _ _ h => h) (Or.inl ⟨by rfl, ?hy10⟩) (fun _ => hT0.out.since) ?_
  case hy10 => (intro x' _; go_simp; try with_reducible rfl)
  change wpAnyT _ _ _ _ _ _ _ _ (Act.put _ (some 42) _) _
  simp only [Act.put, List.setIfInBounds_toArray, List.set_cons_zero, List.set_cons_succ]
  refine wpAnyT_take [15, 16, 17, 18, 19, 20, 21] (i := 12) (v := ?v11) rfl (by kernel_rfl) (by kernel_rfl) (by kernel_rfl) (by decide) (by kernel_rfl) (by kernel_rfl) (by rfl) (by rfl) (fun _ _ _ h => h) (Or.inl ⟨by rfl, ?hy11⟩) (hT0.out.since) ?_
  case hy11 => (intro x' hxx; obtain ⟨e0, e1, e2, e3, e4, e5⟩ := CC.out x' hxx; go_simp; try with_reducible rfl)
  change wpAnyT _ _ _ _ _ _ _ _ (Act.put _ (some 43) _) _
  simp only [Act.put, List.setIfInBounds_toArray, List.set_cons_zero, List.set_cons_succ]
  refine wpAnyT_free (i := 13) (v := ?v12) rfl (by kernel_rfl) (by kernel_rfl) (by kernel_rfl) (by decide) (fun _ _ _ h => h) (Or.inl ⟨by rfl, ?hy12⟩) (fun _ => hT0.out.since) ?_
  case hy12 => (intro x' _; go_simp; try with_reducible rfl)
  change wpAnyT _ _ _ _ _ _ _ _ (Act.put _ (some 44) _) _
  simp only [Act.put, List.setIfInBounds_toArray, List.set_cons_zero, List.set_cons_succ]
  refine wpAnyT_ready (rs := [7, 14]) (by kernel_rfl) (by simp) ?_
  refine AllT.cons rfl (fun K hK => ?_) (AllT.cons rfl (fun K hK => ?_) AllT.nil)
  · skip
    go_simp
    have hT1 := hT0.out.alloc (.int .i64 i)
    refine hK.out _ _ (fun _ _ => hT1.since) ?_
    obtain ⟨nb7, hnb⟩ : ∃ n, n = V1.heap.size := ⟨_, rfl⟩
    rw [← hnb] at hT1 ⊢
    clear hnb
    generalize World.alloc V1 _ = X1 at hT1 ⊢
    replace hT1 := Lib.hid hT1
    clear hK K
    refine wpAnyT_ready (rs := [8, 14]) (by kernel_rfl) (by simp) ?_
    refine AllT.cons rfl (fun K hK => ?_) (AllT.cons rfl (fun K hK => ?_) AllT.nil)
    · skip
      refine step_append_where_ X1 (by rfl) (.tmp 36) (.tmp 38) 23 rfl 3 (.int .i64 0) 1 8 Try.underlying23 int_info rfl (by decide) B (.slice oa on oc) on (natsV s1.openL) (by rfl) hT1.out.r1 ⟨nb7, 0, none⟩ 1 1 [.int .i64 i] (by rfl) rfl (hT1.out.cell (by simp)) (by simp [Value.oneCell']) (by unfold maxLen; omega) (by omega) hT1.out.base ?_
      intro oa' oc' X2 e1 e2 e3 e4 e5
      have hT2 := Lib.hid (hT1.out.app1 e1 e4 e5)
      clear e1 e2 e3 e4 e5
      refine hK.out _ _ (fun _ _ => hT2.out.since) ?_
      clear hK K
      change wpAnyT _ _ _ _ _ _ _ _ (Act.put _ (some 39) _) _
      simp only [Act.put, List.setIfInBounds_toArray, List.set_cons_zero, List.set_cons_succ]
      refine wpAnyT_ready (rs := [14]) (by kernel_rfl) (by simp) ?_
      refine AllT.cons rfl (fun K hK => ?_) AllT.nil
      go_simp
      have hT3 := hT2.out.alloc (.int .i64 i)
      refine hK.out _ _ (fun _ _ => hT3.since) ?_
      obtain ⟨nb14, hnb⟩ : ∃ n, n = X2.heap.size := ⟨_, rfl⟩
      rw [← hnb] at hT3 ⊢
      clear hnb
      generalize World.alloc X2 _ = X3 at hT3 ⊢
      replace hT3 := Lib.hid hT3
      clear hK K
      refine wpAnyT_ready (rs := [15]) (by kernel_rfl) (by simp) ?_
      refine AllT.cons rfl (fun K hK => ?_) AllT.nil
      refine step_append_where_ X3 (by rfl) (.tmp 43) (.tmp 45) 23 rfl 3 (.int .i64 0) 1 8 Try.underlying23 int_info rfl (by decide) B (.slice pa pn pc) pn (natsV s1.path) (by rfl) hT3.out.r2 ⟨nb14, 0, none⟩ 1 1 [.int .i64 i] (by rfl) rfl (hT3.out.cell (by simp)) (by simp [Value.oneCell']) (by unfold maxLen; omega) (by omega) hT3.out.base ?_
      intro pa' pc' X4 e1 e2 e3 e4 e5
      have hT4 := Lib.hid (hT3.out.app2 e1 e4 e5)
      clear e1 e2 e3 e4 e5
      refine hK.out _ _ (fun _ _ => hT4.out.since) ?_
      clear hK K
      change wpAnyT _ _ _ _ _ _ _ _ (Act.put _ (some 46) _) _
      simp only [Act.put, List.setIfInBounds_toArray, List.set_cons_zero, List.set_cons_succ]
      refine wpAnyT_free (i := 16) (v := ?v13) rfl (by kernel_rfl) (by kernel_rfl) (by kernel_rfl) (by decide) (fun _ _ _ h => h) (Or.inl ⟨by rfl, ?hy13⟩) (fun _ => hT4.out.since) ?_
      case hy13 => (intro x' _; go_simp; try with_reducible rfl)
      change wpAnyT _ _ _ _ _ _ _ _ (Act.put _ (some 47) _) _
      simp only [Act.put, List.setIfInBounds_toArray, List.set_cons_zero, List.set_cons_succ]
      refine wpAnyT_free (i := 17) (v := ?v14) rfl (by kernel_rfl) (by kernel_rfl) (by kernel_rfl) (by decide) (fun _ _ _ h => h) (Or.inl ⟨by rfl, ?hy14⟩) (fun _ => hT4.out.since) ?_
      case hy14 => (intro x' _; go_simp; try with_reducible rfl)
      change wpAnyT _ _ _ _ _ _ _ _ (Act.put _ (some 48) _) _
      simp only [Act.put, List.setIfInBounds_toArray, List.set_cons_zero, List.set_cons_succ]
      refine wpAnyT_ready (rs := [18]) (by kernel_rfl) (by simp) ?_
      refine AllT.cons rfl (fun K hK => ?_) AllT.nil
      obtain ⟨q0, q1, q2, q3, -, -⟩ := CC.out X4 hT4.out.since
      go_simp
      refine hK.out _ _ (fun h => absurd rfl h) ?_
      have hT5 := Lib.hid hT4.out
      clear hK K
      refine wpAnyT_free (i := 19) (v := ?v15) rfl (by kernel_rfl) (by kernel_rfl) (by kernel_rfl) (by decide) (fun _ _ _ h => h) (Or.inl ⟨by rfl, ?hy15⟩) (fun h => absurd h (by decide +kernel)) ?_
      case hy15 => (intro x' _; go_simp; try with_reducible rfl)
      change wpAnyT _ _ _ _ _ _ _ _ (Act.put _ (some 49) _) _
      simp only [Act.put, List.setIfInBounds_toArray, List.set_cons_zero, List.set_cons_succ]
      refine wpAnyT_free (i := 20) (v := ?v16) rfl (by kernel_rfl) (by kernel_rfl) (by kernel_rfl) (by decide) (fun _ _ _ h => h) (Or.inl ⟨by rfl, ?hy16⟩) (fun h => absurd h (by decide +kernel)) ?_
      case hy16 => (intro x' _; go_simp; try with_reducible rfl)
      change wpAnyT _ _ _ _ _ _ _ _ (Act.put _ (some 50) _) _
      simp only [Act.put, List.setIfInBounds_toArray, List.set_cons_zero, List.set_cons_succ]
      refine wpAnyT_ready (rs := [21]) (by kernel_rfl) (by simp) ?_
      refine AllT.cons rfl (fun K hK => ?_) AllT.nil
      have q4 : (X4.setCell ⟨k.b, 6, none⟩ (.slice oa' (on + 1) oc')).cell? ⟨k.b, 7, none⟩ = some (.slice pa pn pc) := by rw [World.cell?_setCell_other _ _ _ _ (by simp)]; exact q1
      have q5 : (X4.setCell ⟨k.b, 6, none⟩ (.slice oa' (on + 1) oc')).frozen? ⟨k.b, 7, none⟩ = false := by rw [World.frozen?_setCell]; exact q3
      go_simp
      refine hK.out _ _ (fun _ h => absurd h (by decide +kernel)) ?_
      clear q0 q1 q2 q3 q4 q5
      have hT6 := Lib.hid hT4.out
      clear hK K
      refine wpAnyT_done (by kernel_rfl) ?_ _
      refine NoPanic.normal ?_
      obtain ⟨hW, hBW⟩ := H3.out.pushed hT4.out HON.out HPN.out
      have HW := Lib.hid hW
      have HBW := Lib.hid hBW
      clear hW hBW
      go_wp2_with fail
      go_end0
      refine ⟨rfl, ?_, HB3.out.trans HBW.out⟩
      have h9 := HW.out
      rw [HS1.out] at h9
      exact ⟨_, _, _, _, h9⟩
    · skip
      go_simp
      have hT2 := hT1.out.alloc (.int .i64 i)
      refine hK.out _ _ (fun _ _ => hT2.since) ?_
      obtain ⟨nb14, hnb⟩ : ∃ n, n = X1.heap.size := ⟨_, rfl⟩
      rw [← hnb] at hT2 ⊢
      clear hnb
      generalize World.alloc X1 _ = X2 at hT2 ⊢
      replace hT2 := Lib.hid hT2
      clear hK K
      refine wpAnyT_ready (rs := [8]) (by kernel_rfl) (by simp) ?_
      refine AllT.cons rfl (fun K hK => ?_) AllT.nil
      refine step_append_where_ X2 (by rfl) (.tmp 36) (.tmp 38) 23 rfl 3 (.int .i64 0) 1 8 Try.underlying23 int_info rfl (by decide) B (.slice oa on oc) on (natsV s1.openL) (by rfl) hT2.out.r1 ⟨nb7, 0, none⟩ 1 1 [.int .i64 i] (by rfl) rfl (hT2.out.cell (by simp)) (by simp [Value.oneCell']) (by unfold maxLen; omega) (by omega) hT2.out.base ?_
      intro oa' oc' X3 e1 e2 e3 e4 e5
      have hT3 := Lib.hid (hT2.out.app1 e1 e4 e5)
      clear e1 e2 e3 e4 e5
      refine hK.out _ _ (fun _ _ => hT3.out.since) ?_
      clear hK K
      change wpAnyT _ _ _ _ _ _ _ _ (Act.put _ (some 39) _) _
      simp only [Act.put, List.setIfInBounds_toArray, List.set_cons_zero, List.set_cons_succ]
      refine wpAnyT_ready (rs := [15]) (by kernel_rfl) (by simp) ?_
      refine AllT.cons rfl (fun K hK => ?_) AllT.nil
      refine step_append_where_ X3 (by rfl) (.tmp 43) (.tmp 45) 23 rfl 3 (.int .i64 0) 1 8 Try.underlying23 int_info rfl (by decide) B (.slice pa pn pc) pn (natsV s1.path) (by rfl) hT3.out.r2 ⟨nb14, 0, none⟩ 1 1 [.int .i64 i] (by rfl) rfl (hT3.out.cell (by simp)) (by simp [Value.oneCell']) (by unfold maxLen; omega) (by omega) hT3.out.base ?_
      intro pa' pc' X4 e1 e2 e3 e4 e5
      have hT4 := Lib.hid (hT3.out.app2 e1 e4 e5)
      clear e1 e2 e3 e4 e5
      refine hK.out _ _ (fun _ _ => hT4.out.since) ?_
      clear hK K
      change wpAnyT _ _ _ _ _ _ _ _ (Act.put _ (some 46) _) _
      simp only [Act.put, List.setIfInBounds_toArray, List.set_cons_zero, List.set_cons_succ]
      refine wpAnyT_free (i := 16) (v := ?v17) rfl (by kernel_rfl) (by kernel_rfl) (by kernel_rfl) (by decide) (fun _ _ _ h => h) (Or.inl ⟨by rfl, ?hy17⟩) (fun _ => hT4.out.since) ?_
      case hy17 => (intro x' _; go_simp; try with_reducible rfl)
      change wpAnyT _ _ _ _ _ _ _ _ (Act.put _ (some 47) _) _
      simp only [Act.put, List.setIfInBounds_toArray, List.set_cons_zero, List.set_cons_succ]
      refine wpAnyT_free (i := 17) (v := ?v18) rfl (by kernel_rfl) (by kernel_rfl) (by kernel_rfl) (by decide) (fun _ _ _ h => h) (Or.inl ⟨by rfl, ?hy18⟩) (fun _ => hT4.out.since) ?_
      case hy18 => (intro x' _; go_simp; try with_reducible rfl)
      change wpAnyT _ _ _ _ _ _ _ _ (Act.put _ (some 48) _) _
      simp only [Act.put, List.setIfInBounds_toArray, List.set_cons_zero, List.set_cons_succ]
      refine wpAnyT_ready (rs := [18]) (by kernel_rfl) (by simp) ?_
      refine AllT.cons rfl (fun K hK => ?_) AllT.nil
      obtain ⟨q0, q1, q2, q3, -, -⟩ := CC.out X4 hT4.out.since
      go_simp
      refine hK.out _ _ (fun h => absurd rfl h) ?_
      have hT5 := Lib.hid hT4.out
      clear hK K
      refine wpAnyT_free (i := 19) (v := ?v19) rfl (by kernel_rfl) (by kernel_rfl) (by kernel_rfl) (by decide) (fun _ _ _ h => h) (Or.inl ⟨by rfl, ?hy19⟩) (fun h => absurd h (by decide +kernel)) ?_
      case hy19 => (intro x' _; go_simp; try with_reducible rfl)
      change wpAnyT _ _ _ _ _ _ _ _ (Act.put _ (some 49) _) _
      simp only [Act.put, List.setIfInBounds_toArray, List.set_cons_zero, List.set_cons_succ]
      refine wpAnyT_free (i := 20) (v := ?v20) rfl (by kernel_rfl) (by kernel_rfl) (by kernel_rfl) (by decide) (fun _ _ _ h => h) (Or.inl ⟨by rfl, ?hy20⟩) (fun h => absurd h (by decide +kernel)) ?_
      case hy20 => (intro x' _; go_simp; try with_reducible rfl)
      change wpAnyT _ _ _ _ _ _ _ _ (Act.put _ (some 50) _) _
      simp only [Act.put, List.setIfInBounds_toArray, List.set_cons_zero, List.set_cons_succ]
      refine wpAnyT_ready (rs := [21]) (by kernel_rfl) (by simp) ?_
      refine AllT.cons rfl (fun K hK => ?_) AllT.nil
      have q4 : (X4.setCell ⟨k.b, 6, none⟩ (.slice oa' (on + 1) oc')).cell? ⟨k.b, 7, none⟩ = some (.slice pa pn pc) := by rw [World.cell?_setCell_other _ _ _ _ (by simp)]; exact q1
      have q5 : (X4.setCell ⟨k.b, 6, none⟩ (.slice oa' (on + 1) oc')).frozen? ⟨k.b, 7, none⟩ = false := by rw [World.frozen?_setCell]; exact q3
      go_simp
      refine hK.out _ _ (fun _ h => absurd h (by decide +kernel)) ?_
      clear q0 q1 q2 q3 q4 q5
      have hT6 := Lib.hid hT4.out
      clear hK K
      refine wpAnyT_done (by kernel_rfl) ?_ _
      refine NoPanic.normal ?_
      obtain ⟨hW, hBW⟩ := H3.out.pushed hT4.out HON.out HPN.out
      have HW := Lib.hid hW
      have HBW := Lib.hid hBW
      clear hW hBW
      go_wp2_with fail
      go_end0
      refine ⟨rfl, ?_, HB3.out.trans HBW.out⟩
      have h9 := HW.out
      rw [HS1.out] at h9
      exact ⟨_, _, _, _, h9⟩
  · skip
    go_simp
    have hT1 := hT0.out.alloc (.int .i64 i)
    refine hK.out _ _ (fun _ _ => hT1.since) ?_
    obtain ⟨nb14, hnb⟩ : ∃ n, n = V1.heap.size := ⟨_, rfl⟩
    rw [← hnb] at hT1 ⊢
    clear hnb
    generalize World.alloc V1 _ = X1 at hT1 ⊢
    replace hT1 := Lib.hid hT1
    clear hK K
    refine wpAnyT_ready (rs := [7]) (by kernel_rfl) (by simp) ?_
    refine AllT.cons rfl (fun K hK => ?_) AllT.nil
    go_simp
    have hT2 := hT1.out.alloc (.int .i64 i)
    refine hK.out _ _ (fun _ _ => hT2.since) ?_
    obtain ⟨nb7, hnb⟩ : ∃ n, n = X1.heap.size := ⟨_, rfl⟩
    rw [← hnb] at hT2 ⊢
    clear hnb
    generalize World.alloc X1 _ = X2 at hT2 ⊢
    replace hT2 := Lib.hid hT2
    clear hK K
    refine wpAnyT_ready (rs := [8]) (by kernel_rfl) (by simp) ?_
    refine AllT.cons rfl (fun K hK => ?_) AllT.nil
    refine step_append_where_ X2 (by rfl) (.tmp 36) (.tmp 38) 23 rfl 3 (.int .i64 0) 1 8 Try.underlying23 int_info rfl (by decide) B (.slice oa on oc) on (natsV s1.openL) (by rfl) hT2.out.r1 ⟨nb7, 0, none⟩ 1 1 [.int .i64 i] (by rfl) rfl (hT2.out.cell (by simp)) (by simp [Value.oneCell']) (by unfold maxLen; omega) (by omega) hT2.out.base ?_
    intro oa' oc' X3 e1 e2 e3 e4 e5
    have hT3 := Lib.hid (hT2.out.app1 e1 e4 e5)
    clear e1 e2 e3 e4 e5
    refine hK.out _ _ (fun _ _ => hT3.out.since) ?_
    clear hK K
    change wpAnyT _ _ _ _ _ _ _ _ (Act.put _ (some 39) _) _
    simp only [Act.put, List.setIfInBounds_toArray, List.set_cons_zero, List.set_cons_succ]
    refine wpAnyT_ready (rs := [15]) (by kernel_rfl) (by simp) ?_
    refine AllT.cons rfl (fun K hK => ?_) AllT.nil
    refine step_append_where_ X3 (by rfl) (.tmp 43) (.tmp 45) 23 rfl 3 (.int .i64 0) 1 8 Try.underlying23 int_info rfl (by decide) B (.slice pa pn pc) pn (natsV s1.path) (by rfl) hT3.out.r2 ⟨nb14, 0, none⟩ 1 1 [.int .i64 i] (by rfl) rfl (hT3.out.cell (by simp)) (by simp [Value.oneCell']) (by unfold maxLen; omega) (by omega) hT3.out.base ?_
    intro pa' pc' X4 e1 e2 e3 e4 e5
    have hT4 := Lib.hid (hT3.out.app2 e1 e4 e5)
    clear e1 e2 e3 e4 e5
    refine hK.out _ _ (fun _ _ => hT4.out.since) ?_
    clear hK K
    change wpAnyT _ _ _ _ _ _ _ _ (Act.put _ (some 46) _) _
    simp only [Act.put, List.setIfInBounds_toArray, List.set_cons_zero, List.set_cons_succ]
    refine wpAnyT_free (i := 16) (v := ?v21) rfl (by kernel_rfl) (by kernel_rfl) (by kernel_rfl) (by decide) (fun _ _ _ h => h) (Or.inl ⟨by rfl, ?hy21⟩) (fun _ => hT4.out.since) ?_
    case hy21 => (intro x' _; go_simp; try with_reducible rfl)
    change wpAnyT _ _ _ _ _ _ _ _ (Act.put _ (some 47) _) _
    simp only [Act.put, List.setIfInBounds_toArray, List.set_cons_zero, List.set_cons_succ]
    refine wpAnyT_free (i := 17) (v := ?v22) rfl (by kernel_rfl) (by kernel_rfl) (by kernel_rfl) (by decide) (fun _ _ _ h => h) (Or.inl ⟨by rfl, ?hy22⟩) (fun _ => hT4.out.since) ?_
    case hy22 => (intro x' _; go_simp; try with_reducible rfl)
    change wpAnyT _ _ _ _ _ _ _ _ (Act.put _ (some 48) _) _
    simp only [Act.put, List.setIfInBounds_toArray, List.set_cons_zero, List.set_cons_succ]
    refine wpAnyT_ready (rs := [18]) (by kernel_rfl) (by simp) ?_
    refine AllT.cons rfl (fun K hK => ?_) AllT.nil
    obtain ⟨q0, q1, q2, q3, -, -⟩ := CC.out X4 hT4.out.since
    go_simp
    refine hK.out _ _ (fun h => absurd rfl h) ?_
    have hT5 := Lib.hid hT4.out
    clear hK K
    refine wpAnyT_free (i := 19) (v := ?v23) rfl (by kernel_rfl) (by kernel_rfl) (by kernel_rfl) (by decide) (fun _ _ _ h => h) (Or.inl ⟨by rfl, ?hy23⟩) (fun h => absurd h (by decide +kernel)) ?_
    case hy23 => (intro x' _; go_simp; try with_reducible rfl)
    change wpAnyT _ _ _ _ _ _ _ _ (Act.put _ (some 49) _) _
    simp only [Act.put, List.setIfInBounds_toArray, List.set_cons_zero, List.set_cons_succ]
    refine wpAnyT_free (i := 20) (v := ?v24) rfl (by kernel_rfl) (by kernel_rfl) (by kernel_rfl) (by decide) (fun _ _ _ h => h) (Or.inl ⟨by rfl, ?hy24⟩) (fun h => absurd h (by decide +kernel)) ?_
    case hy24 => (intro x' _; go_simp; try with_reducible rfl)
    change wpAnyT _ _ _ _ _ _ _ _ (Act.put _ (some 50) _) _
    simp only [Act.put, List.setIfInBounds_toArray, List.set_cons_zero, List.set_cons_succ]
    refine wpAnyT_ready (rs := [21]) (by kernel_rfl) (by simp) ?_
    refine AllT.cons rfl (fun K hK => ?_) AllT.nil
    have q4 : (X4.setCell ⟨k.b, 6, none⟩ (.slice oa' (on + 1) oc')).cell? ⟨k.b, 7, none⟩ = some (.slice pa pn pc) := by rw [World.cell?_setCell_other _ _ _ _ (by simp)]; exact q1
    have q5 : (X4.setCell ⟨k.b, 6, none⟩ (.slice oa' (on + 1) oc')).frozen? ⟨k.b, 7, none⟩ = false := by rw [World.frozen?_setCell]; exact q3
    go_simp
    refine hK.out _ _ (fun _ h => absurd h (by decide +kernel)) ?_
    clear q0 q1 q2 q3 q4 q5
    have hT6 := Lib.hid hT4.out
    clear hK K
    refine wpAnyT_done (by kernel_rfl) ?_ _
    refine NoPanic.normal ?_
    obtain ⟨hW, hBW⟩ := H3.out.pushed hT4.out HON.out HPN.out
    have HW := Lib.hid hW
    have HBW := Lib.hid hBW
    clear hW hBW
    go_wp2_with fail
    go_end0
    refine ⟨rfl, ?_, HB3.out.trans HBW.out⟩
    have h9 := HW.out
    rw [HS1.out] at h9
    exact ⟨_, _, _, _, h9⟩
end Go.Proofs.Ytoojalcfojflhaa
