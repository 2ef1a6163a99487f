/- Is it a lasso: package lasso's answer, the walk. -/
import Derived.Test.YtoojalcfojflhaaAccept
namespace Go.Proofs.Ytoojalcfojflhaa
open Go.RowKit

theorem hid_ek_drew {w : World} {kv : Value} {l : List EdgeD} (h : EdgeLAt w kv l) : EdgeLAt w.drew kv l := h.below ((Below.refl _ _).drew)
set_option maxRecDepth 100000 in
set_option maxHeartbeats 8000000 in
theorem lassoAccept_any (w : World) (g : GraphD) (ev iv : Value) (h : GraphAt w g ev iv) (l : LassoD) (nv fv : Value) (hl : LassoAt w l nv fv) :
    Calls Try.prog 10 #[graphV g ev iv, lassoV l nv fv] w fun e w' => e = .returned (.bool (acceptOk g l)) ∧ Below w.heap.size w w' := by
  obtain ⟨ea, ec, rfl, hel⟩ := h.edges.slice
  obtain ⟨ia, ic, rfl, hil⟩ := h.initial.slice
  obtain ⟨na, nc, rfl, hnl⟩ := hl.nodes.slice
  obtain ⟨fa, fc, rfl, hfl⟩ := hl.edges.slice
  obtain ⟨r, hr⟩ : ∃ r, r = acceptOk g l := ⟨_, rfl⟩
  rw [← hr]
  obtain ⟨N, hN⟩ : ∃ N, N = g.edges.length := ⟨_, rfl⟩
  obtain ⟨k, hk⟩ : ∃ k, k = g.initial.length := ⟨_, rfl⟩
  obtain ⟨n, hn⟩ : ∃ n, n = l.nodes.length := ⟨_, rfl⟩
  obtain ⟨f, hf⟩ : ∃ f, f = l.edges.length := ⟨_, rfl⟩
  obtain ⟨m, hm⟩ : ∃ m, m = g.marks := ⟨_, rfl⟩
  obtain ⟨bk, hbk⟩ : ∃ bk, bk = l.back := ⟨_, rfl⟩
  obtain ⟨gr, hgr⟩ : ∃ gr, gr = g.right := ⟨_, rfl⟩
  have hright := fun W (hW : Below w.heap.size w W) => lassoRight_any W g _ _ (h.below hW)
  rw [← hgr] at hright
  have hcont := fun W (hW : Below w.heap.size w W) x => containsI_any W _ g.initial (h.initial.below hW) x
  unfold graphV at *
  unfold lassoV
  rw [← hN] at hel
  rw [← hk] at hil
  rw [← hn] at hnl
  rw [← hf] at hfl
  simp only [← hN, ← hk, ← hm] at hright hcont ⊢
  rw [← hn, ← hf, ← hbk]
  have hE := h.edges
  have hNo := hl.nodes
  have hEd := hl.edges
  rw [← hN] at hE
  rw [← hn] at hNo
  rw [← hf] at hEd
  have hhead : headOk g l = (gr && decide (1 ≤ n) && decide (f = n) && decide (0 ≤ bk) && decide (bk < (n : Int))) := by unfold headOk; rw [← hgr, ← hn, ← hf, ← hbk]
  have HR := Lib.hid hr
  have HHEAD := Lib.hid hhead
  have HRIGHT := Lib.hid hright
  have HCONT := Lib.hid hcont
  have HE := Lib.hid hE
  have HNO := Lib.hid hNo
  have HED := Lib.hid hEd
  have HNN := Lib.hid hN
  have Hn := Lib.hid hn
  have Hf := Lib.hid hf
  have Hm := Lib.hid hm
  have Hbk := Lib.hid hbk
  have Hgr := Lib.hid hgr
  clear hr hhead hright hcont h hl hE hNo hEd hN hk hn hf hm hbk hgr
  have HB := Lib.hid (boxes_below w (.cells #[.slice ea N ec, .slice ia k ic, .int .i64 m] 25) (.cells #[.slice na n nc, .slice fa f fc, .int .i64 bk] 27))
  have H1 := Lib.hid (boxes_first w (.cells #[.slice ea N ec, .slice ia k ic, .int .i64 m] 25) (.cells #[.slice na n nc, .slice fa f fc, .int .i64 bk] 27))
  have H2 := Lib.hid (boxes_second w (.cells #[.slice ea N ec, .slice ia k ic, .int .i64 m] 25) (.cells #[.slice na n nc, .slice fa f fc, .int .i64 bk] 27))
  go_enter Try.func10, Try.ntmps10
  go_upto_region 1 with fail
  generalize World.alloc _ _ = W at HB H1 H2 ⊢
  obtain ⟨b, hb⟩ : ∃ b, b = w.heap.size := ⟨_, rfl⟩
  rw [← hb] at H1 H2 ⊢
  clear hb
  have c0 := cell_of_block H1.out 0
  have c1 := cell_of_block H1.out 1
  have c2 := cell_of_block H1.out 2
  have d0 := cell_of_block H2.out 0
  have d1 := cell_of_block H2.out 1
  have d2 := cell_of_block H2.out 2
  simp only [List.getElem?_toArray, List.getElem?_cons_zero, List.getElem?_cons_succ] at c0 c1 c2 d0 d1 d2
  go_upto_region 2 with fail
  -- the head
  obtain ⟨hd, hhd⟩ : ∃ hd : Bool, hd = headOk g l := ⟨_, rfl⟩
  obtain ⟨co, hco⟩ : ∃ co : Bool, co = g.initial.any (fun i => decide (i = l.nodes.getD 0 0)) := ⟨_, rfl⟩
  go_cut [49] (fun s49 w' => s49 = .bool (!(hd && co)) ∧ Hid (Below W.heap.size W w'))
  case first =>
    have HHD := Lib.hid hhd
    have HCO := Lib.hid hco
    have hcc := fun (x : World) (hx : Below W.heap.size W x) => (show x.cell? ⟨b, 0, none⟩ = some (.slice ea N ec) ∧ x.cell? ⟨b, 1, none⟩ = some (.slice ia k ic) ∧ x.cell? ⟨b, 2, none⟩ = some (.int .i64 m) ∧ x.cell? ⟨b + 1, 0, none⟩ = some (.slice na n nc) ∧ x.cell? ⟨b + 1, 1, none⟩ = some (.slice fa f fc) ∧ x.cell? ⟨b + 1, 2, none⟩ = some (.int .i64 bk) from ⟨cells_kept hx _ _ c0, cells_kept hx _ _ c1, cells_kept hx _ _ c2, cells_kept hx _ _ d0, cells_kept hx _ _ d1, cells_kept hx _ _ d2⟩)
    have CC := Lib.hid hcc
    clear hhd hco hcc c0 c1 c2 d0 d1 d2
    refine wp_region_noPanic ?_
    refine wp_region_held_drew (S := fun w' => Below W.heap.size W w') (by kernel_rfl) (Below.refl _ _).drew (fun hH => ?_)
    first | (refine wpAnyH_take (i := 0) (v := undef) rfl (by kernel_rfl) (by kernel_rfl) (by kernel_rfl) (fun _ _ _ h => h) (Or.inr ⟨by rfl, rfl⟩) (by assumption) ?_) | (refine wpAnyH_take (i := 0) (v := ?v1) rfl (by kernel_rfl) (by kernel_rfl) (by kernel_rfl) (fun _ _ _ h => h) (Or.inl ⟨by rfl, ?hy1⟩) (by assumption) ?_; (case hy1 => (intro x hxx; obtain ⟨e0, e1, e2, e3, e4, e5⟩ := CC.out x hxx; go_simp; try with_reducible rfl)))
    change wpAnyH _ _ _ _ _ _ _ (Act.put _ (some 15) _) _
    simp only [Act.put, List.setIfInBounds_toArray, List.set_cons_zero, List.set_cons_succ]
    refine wpAnyH_ready (rs := [1]) (by kernel_rfl) (by simp) ?_
    refine AllReadyH.cons rfl (fun K hK => ?_) AllReadyH.nil
    go_simp
    refine (HRIGHT.out _ (Below.drew HB.out)).mono ?_
    rintro e r1 ⟨rfl, hb1⟩
    have hH1 : Below W.heap.size W r1 := below_then (Below.drew (Below.refl _ _)) hb1
    refine hK.out _ _ hH1 (fun _ => ?_)
    clear hK K hb1 hH
    cases gr
    · clear HCONT
      first | (refine wpAnyH_take (i := 2) (v := undef) rfl (by kernel_rfl) (by kernel_rfl) (by kernel_rfl) (fun _ _ _ h => h) (Or.inr ⟨by rfl, rfl⟩) (by assumption) ?_) | (refine wpAnyH_take (i := 2) (v := ?v2) rfl (by kernel_rfl) (by kernel_rfl) (by kernel_rfl) (fun _ _ _ h => h) (Or.inl ⟨by rfl, ?hy2⟩) (by assumption) ?_; (case hy2 => (intro x hxx; obtain ⟨e0, e1, e2, e3, e4, e5⟩ := CC.out x hxx; go_simp; try with_reducible rfl)))
      change wpAnyH _ _ _ _ _ _ _ (Act.put _ (some 17) _) _
      simp only [Act.put, List.setIfInBounds_toArray, List.set_cons_zero, List.set_cons_succ]
      first | (refine wpAnyH_take (i := 3) (v := undef) rfl (by kernel_rfl) (by kernel_rfl) (by kernel_rfl) (fun _ _ _ h => h) (Or.inr ⟨by rfl, rfl⟩) (by assumption) ?_) | (refine wpAnyH_take (i := 3) (v := ?v3) rfl (by kernel_rfl) (by kernel_rfl) (by kernel_rfl) (fun _ _ _ h => h) (Or.inl ⟨by rfl, ?hy3⟩) (by assumption) ?_; (case hy3 => (intro x hxx; obtain ⟨e0, e1, e2, e3, e4, e5⟩ := CC.out x hxx; go_simp; try with_reducible rfl)))
      change wpAnyH _ _ _ _ _ _ _ (Act.put _ (some 18) _) _
      simp only [Act.put, List.setIfInBounds_toArray, List.set_cons_zero, List.set_cons_succ]
      first | (refine wpAnyH_take (i := 4) (v := undef) rfl (by kernel_rfl) (by kernel_rfl) (by kernel_rfl) (fun _ _ _ h => h) (Or.inr ⟨by rfl, rfl⟩) (by assumption) ?_) | (refine wpAnyH_take (i := 4) (v := ?v4) rfl (by kernel_rfl) (by kernel_rfl) (by kernel_rfl) (fun _ _ _ h => h) (Or.inl ⟨by rfl, ?hy4⟩) (by assumption) ?_; (case hy4 => (intro x hxx; obtain ⟨e0, e1, e2, e3, e4, e5⟩ := CC.out x hxx; go_simp; try with_reducible rfl)))
      change wpAnyH _ _ _ _ _ _ _ (Act.put _ (some 19) _) _
      simp only [Act.put, List.setIfInBounds_toArray, List.set_cons_zero, List.set_cons_succ]
      first | (refine wpAnyH_take (i := 5) (v := undef) rfl (by kernel_rfl) (by kernel_rfl) (by kernel_rfl) (fun _ _ _ h => h) (Or.inr ⟨by rfl, rfl⟩) (by assumption) ?_) | (refine wpAnyH_take (i := 5) (v := ?v5) rfl (by kernel_rfl) (by kernel_rfl) (by kernel_rfl) (fun _ _ _ h => h) (Or.inl ⟨by rfl, ?hy5⟩) (by assumption) ?_; (case hy5 => (intro x hxx; obtain ⟨e0, e1, e2, e3, e4, e5⟩ := CC.out x hxx; go_simp; try with_reducible rfl)))
      change wpAnyH _ _ _ _ _ _ _ (Act.put _ (some 20) _) _
      simp only [Act.put, List.setIfInBounds_toArray, List.set_cons_zero, List.set_cons_succ]
      first | (refine wpAnyH_take (i := 6) (v := undef) rfl (by kernel_rfl) (by kernel_rfl) (by kernel_rfl) (fun _ _ _ h => h) (Or.inr ⟨by rfl, rfl⟩) (by assumption) ?_) | (refine wpAnyH_take (i := 6) (v := ?v6) rfl (by kernel_rfl) (by kernel_rfl) (by kernel_rfl) (fun _ _ _ h => h) (Or.inl ⟨by rfl, ?hy6⟩) (by assumption) ?_; (case hy6 => (intro x hxx; obtain ⟨e0, e1, e2, e3, e4, e5⟩ := CC.out x hxx; go_simp; try with_reducible rfl)))
      change wpAnyH _ _ _ _ _ _ _ (Act.put _ (some 21) _) _
      simp only [Act.put, List.setIfInBounds_toArray, List.set_cons_zero, List.set_cons_succ]
      first | (refine wpAnyH_take (i := 7) (v := undef) rfl (by kernel_rfl) (by kernel_rfl) (by kernel_rfl) (fun _ _ _ h => h) (Or.inr ⟨by rfl, rfl⟩) (by assumption) ?_) | (refine wpAnyH_take (i := 7) (v := ?v7) rfl (by kernel_rfl) (by kernel_rfl) (by kernel_rfl) (fun _ _ _ h => h) (Or.inl ⟨by rfl, ?hy7⟩) (by assumption) ?_; (case hy7 => (intro x hxx; obtain ⟨e0, e1, e2, e3, e4, e5⟩ := CC.out x hxx; go_simp; try with_reducible rfl)))
      change wpAnyH _ _ _ _ _ _ _ (Act.put _ (some 22) _) _
      simp only [Act.put, List.setIfInBounds_toArray, List.set_cons_zero, List.set_cons_succ]
      first | (refine wpAnyH_take (i := 8) (v := undef) rfl (by kernel_rfl) (by kernel_rfl) (by kernel_rfl) (fun _ _ _ h => h) (Or.inr ⟨by rfl, rfl⟩) (by assumption) ?_) | (refine wpAnyH_take (i := 8) (v := ?v8) rfl (by kernel_rfl) (by kernel_rfl) (by kernel_rfl) (fun _ _ _ h => h) (Or.inl ⟨by rfl, ?hy8⟩) (by assumption) ?_; (case hy8 => (intro x hxx; obtain ⟨e0, e1, e2, e3, e4, e5⟩ := CC.out x hxx; go_simp; try with_reducible rfl)))
      change wpAnyH _ _ _ _ _ _ _ (Act.put _ (some 23) _) _
      simp only [Act.put, List.setIfInBounds_toArray, List.set_cons_zero, List.set_cons_succ]
      first | (refine wpAnyH_take (i := 9) (v := undef) rfl (by kernel_rfl) (by kernel_rfl) (by kernel_rfl) (fun _ _ _ h => h) (Or.inr ⟨by rfl, rfl⟩) (by assumption) ?_) | (refine wpAnyH_take (i := 9) (v := ?v9) rfl (by kernel_rfl) (by kernel_rfl) (by kernel_rfl) (fun _ _ _ h => h) (Or.inl ⟨by rfl, ?hy9⟩) (by assumption) ?_; (case hy9 => (intro x hxx; obtain ⟨e0, e1, e2, e3, e4, e5⟩ := CC.out x hxx; go_simp; try with_reducible rfl)))
      change wpAnyH _ _ _ _ _ _ _ (Act.put _ (some 24) _) _
      simp only [Act.put, List.setIfInBounds_toArray, List.set_cons_zero, List.set_cons_succ]
      first | (refine wpAnyH_take (i := 10) (v := undef) rfl (by kernel_rfl) (by kernel_rfl) (by kernel_rfl) (fun _ _ _ h => h) (Or.inr ⟨by rfl, rfl⟩) (by assumption) ?_) | (refine wpAnyH_take (i := 10) (v := ?v10) rfl (by kernel_rfl) (by kernel_rfl) (by kernel_rfl) (fun _ _ _ h => h) (Or.inl ⟨by rfl, ?hy10⟩) (by assumption) ?_; (case hy10 => (intro x hxx; obtain ⟨e0, e1, e2, e3, e4, e5⟩ := CC.out x hxx; go_simp; try with_reducible rfl)))
      change wpAnyH _ _ _ _ _ _ _ (Act.put _ (some 25) _) _
      simp only [Act.put, List.setIfInBounds_toArray, List.set_cons_zero, List.set_cons_succ]
      first | (refine wpAnyH_take (i := 11) (v := undef) rfl (by kernel_rfl) (by kernel_rfl) (by kernel_rfl) (fun _ _ _ h => h) (Or.inr ⟨by rfl, rfl⟩) (by assumption) ?_) | (refine wpAnyH_take (i := 11) (v := ?v11) rfl (by kernel_rfl) (by kernel_rfl) (by kernel_rfl) (fun _ _ _ h => h) (Or.inl ⟨by rfl, ?hy11⟩) (by assumption) ?_; (case hy11 => (intro x hxx; obtain ⟨e0, e1, e2, e3, e4, e5⟩ := CC.out x hxx; go_simp; try with_reducible rfl)))
      change wpAnyH _ _ _ _ _ _ _ (Act.put _ (some 26) _) _
      simp only [Act.put, List.setIfInBounds_toArray, List.set_cons_zero, List.set_cons_succ]
      first | (refine wpAnyH_take (i := 12) (v := undef) rfl (by kernel_rfl) (by kernel_rfl) (by kernel_rfl) (fun _ _ _ h => h) (Or.inr ⟨by rfl, rfl⟩) (by assumption) ?_) | (refine wpAnyH_take (i := 12) (v := ?v12) rfl (by kernel_rfl) (by kernel_rfl) (by kernel_rfl) (fun _ _ _ h => h) (Or.inl ⟨by rfl, ?hy12⟩) (by assumption) ?_; (case hy12 => (intro x hxx; obtain ⟨e0, e1, e2, e3, e4, e5⟩ := CC.out x hxx; go_simp; try with_reducible rfl)))
      change wpAnyH _ _ _ _ _ _ _ (Act.put _ (some 27) _) _
      simp only [Act.put, List.setIfInBounds_toArray, List.set_cons_zero, List.set_cons_succ]
      first | (refine wpAnyH_take (i := 13) (v := undef) rfl (by kernel_rfl) (by kernel_rfl) (by kernel_rfl) (fun _ _ _ h => h) (Or.inr ⟨by rfl, rfl⟩) (by assumption) ?_) | (refine wpAnyH_take (i := 13) (v := ?v13) rfl (by kernel_rfl) (by kernel_rfl) (by kernel_rfl) (fun _ _ _ h => h) (Or.inl ⟨by rfl, ?hy13⟩) (by assumption) ?_; (case hy13 => (intro x hxx; obtain ⟨e0, e1, e2, e3, e4, e5⟩ := CC.out x hxx; go_simp; try with_reducible rfl)))
      change wpAnyH _ _ _ _ _ _ _ (Act.put _ (some 28) _) _
      simp only [Act.put, List.setIfInBounds_toArray, List.set_cons_zero, List.set_cons_succ]
      first | (refine wpAnyH_take (i := 14) (v := undef) rfl (by kernel_rfl) (by kernel_rfl) (by kernel_rfl) (fun _ _ _ h => h) (Or.inr ⟨by rfl, rfl⟩) (by assumption) ?_) | (refine wpAnyH_take (i := 14) (v := ?v14) rfl (by kernel_rfl) (by kernel_rfl) (by kernel_rfl) (fun _ _ _ h => h) (Or.inl ⟨by rfl, ?hy14⟩) (by assumption) ?_; (case hy14 => (intro x hxx; obtain ⟨e0, e1, e2, e3, e4, e5⟩ := CC.out x hxx; go_simp; try with_reducible rfl)))
      change wpAnyH _ _ _ _ _ _ _ (Act.put _ (some 29) _) _
      simp only [Act.put, List.setIfInBounds_toArray, List.set_cons_zero, List.set_cons_succ]
      first | (refine wpAnyH_take (i := 15) (v := undef) rfl (by kernel_rfl) (by kernel_rfl) (by kernel_rfl) (fun _ _ _ h => h) (Or.inr ⟨by rfl, rfl⟩) (by assumption) ?_) | (refine wpAnyH_take (i := 15) (v := ?v15) rfl (by kernel_rfl) (by kernel_rfl) (by kernel_rfl) (fun _ _ _ h => h) (Or.inl ⟨by rfl, ?hy15⟩) (by assumption) ?_; (case hy15 => (intro x hxx; obtain ⟨e0, e1, e2, e3, e4, e5⟩ := CC.out x hxx; go_simp; try with_reducible rfl)))
      change wpAnyH _ _ _ _ _ _ _ (Act.put _ (some 30) _) _
      simp only [Act.put, List.setIfInBounds_toArray, List.set_cons_zero, List.set_cons_succ]
      first | (refine wpAnyH_take (i := 16) (v := undef) rfl (by kernel_rfl) (by kernel_rfl) (by kernel_rfl) (fun _ _ _ h => h) (Or.inr ⟨by rfl, rfl⟩) (by assumption) ?_) | (refine wpAnyH_take (i := 16) (v := ?v16) rfl (by kernel_rfl) (by kernel_rfl) (by kernel_rfl) (fun _ _ _ h => h) (Or.inl ⟨by rfl, ?hy16⟩) (by assumption) ?_; (case hy16 => (intro x hxx; obtain ⟨e0, e1, e2, e3, e4, e5⟩ := CC.out x hxx; go_simp; try with_reducible rfl)))
      change wpAnyH _ _ _ _ _ _ _ (Act.put _ (some 31) _) _
      simp only [Act.put, List.setIfInBounds_toArray, List.set_cons_zero, List.set_cons_succ]
      first | (refine wpAnyH_take (i := 17) (v := undef) rfl (by kernel_rfl) (by kernel_rfl) (by kernel_rfl) (fun _ _ _ h => h) (Or.inr ⟨by rfl, rfl⟩) (by assumption) ?_) | (refine wpAnyH_take (i := 17) (v := ?v17) rfl (by kernel_rfl) (by kernel_rfl) (by kernel_rfl) (fun _ _ _ h => h) (Or.inl ⟨by rfl, ?hy17⟩) (by assumption) ?_; (case hy17 => (intro x hxx; obtain ⟨e0, e1, e2, e3, e4, e5⟩ := CC.out x hxx; go_simp; try with_reducible rfl)))
      change wpAnyH _ _ _ _ _ _ _ (Act.put _ (some 32) _) _
      simp only [Act.put, List.setIfInBounds_toArray, List.set_cons_zero, List.set_cons_succ]
      first | (refine wpAnyH_take (i := 18) (v := undef) rfl (by kernel_rfl) (by kernel_rfl) (by kernel_rfl) (fun _ _ _ h => h) (Or.inr ⟨by rfl, rfl⟩) (by assumption) ?_) | (refine wpAnyH_take (i := 18) (v := ?v18) rfl (by kernel_rfl) (by kernel_rfl) (by kernel_rfl) (fun _ _ _ h => h) (Or.inl ⟨by rfl, ?hy18⟩) (by assumption) ?_; (case hy18 => (intro x hxx; obtain ⟨e0, e1, e2, e3, e4, e5⟩ := CC.out x hxx; go_simp; try with_reducible rfl)))
      change wpAnyH _ _ _ _ _ _ _ (Act.put _ (some 33) _) _
      simp only [Act.put, List.setIfInBounds_toArray, List.set_cons_zero, List.set_cons_succ]
      first | (refine wpAnyH_take (i := 19) (v := undef) rfl (by kernel_rfl) (by kernel_rfl) (by kernel_rfl) (fun _ _ _ h => h) (Or.inr ⟨by rfl, rfl⟩) (by assumption) ?_) | (refine wpAnyH_take (i := 19) (v := ?v19) rfl (by kernel_rfl) (by kernel_rfl) (by kernel_rfl) (fun _ _ _ h => h) (Or.inl ⟨by rfl, ?hy19⟩) (by assumption) ?_; (case hy19 => (intro x hxx; obtain ⟨e0, e1, e2, e3, e4, e5⟩ := CC.out x hxx; go_simp; try with_reducible rfl)))
      change wpAnyH _ _ _ _ _ _ _ (Act.put _ (some 34) _) _
      simp only [Act.put, List.setIfInBounds_toArray, List.set_cons_zero, List.set_cons_succ]
      first | (refine wpAnyH_take (i := 20) (v := undef) rfl (by kernel_rfl) (by kernel_rfl) (by kernel_rfl) (fun _ _ _ h => h) (Or.inr ⟨by rfl, rfl⟩) (by assumption) ?_) | (refine wpAnyH_take (i := 20) (v := ?v20) rfl (by kernel_rfl) (by kernel_rfl) (by kernel_rfl) (fun _ _ _ h => h) (Or.inl ⟨by rfl, ?hy20⟩) (by assumption) ?_; (case hy20 => (intro x hxx; obtain ⟨e0, e1, e2, e3, e4, e5⟩ := CC.out x hxx; go_simp; try with_reducible rfl)))
      change wpAnyH _ _ _ _ _ _ _ (Act.put _ (some 35) _) _
      simp only [Act.put, List.setIfInBounds_toArray, List.set_cons_zero, List.set_cons_succ]
      first | (refine wpAnyH_take (i := 21) (v := undef) rfl (by kernel_rfl) (by kernel_rfl) (by kernel_rfl) (fun _ _ _ h => h) (Or.inr ⟨by rfl, rfl⟩) (by assumption) ?_) | (refine wpAnyH_take (i := 21) (v := ?v21) rfl (by kernel_rfl) (by kernel_rfl) (by kernel_rfl) (fun _ _ _ h => h) (Or.inl ⟨by rfl, ?hy21⟩) (by assumption) ?_; (case hy21 => (intro x hxx; obtain ⟨e0, e1, e2, e3, e4, e5⟩ := CC.out x hxx; go_simp; try with_reducible rfl)))
      change wpAnyH _ _ _ _ _ _ _ (Act.put _ (some 36) _) _
      simp only [Act.put, List.setIfInBounds_toArray, List.set_cons_zero, List.set_cons_succ]
      first | (refine wpAnyH_take (i := 22) (v := undef) rfl (by kernel_rfl) (by kernel_rfl) (by kernel_rfl) (fun _ _ _ h => h) (Or.inr ⟨by rfl, rfl⟩) (by assumption) ?_) | (refine wpAnyH_take (i := 22) (v := ?v22) rfl (by kernel_rfl) (by kernel_rfl) (by kernel_rfl) (fun _ _ _ h => h) (Or.inl ⟨by rfl, ?hy22⟩) (by assumption) ?_; (case hy22 => (intro x hxx; obtain ⟨e0, e1, e2, e3, e4, e5⟩ := CC.out x hxx; go_simp; try with_reducible rfl)))
      change wpAnyH _ _ _ _ _ _ _ (Act.put _ (some 37) _) _
      simp only [Act.put, List.setIfInBounds_toArray, List.set_cons_zero, List.set_cons_succ]
      first | (refine wpAnyH_take (i := 23) (v := undef) rfl (by kernel_rfl) (by kernel_rfl) (by kernel_rfl) (fun _ _ _ h => h) (Or.inr ⟨by rfl, rfl⟩) (by assumption) ?_) | (refine wpAnyH_take (i := 23) (v := ?v23) rfl (by kernel_rfl) (by kernel_rfl) (by kernel_rfl) (fun _ _ _ h => h) (Or.inl ⟨by rfl, ?hy23⟩) (by assumption) ?_; (case hy23 => (intro x hxx; obtain ⟨e0, e1, e2, e3, e4, e5⟩ := CC.out x hxx; go_simp; try with_reducible rfl)))
      change wpAnyH _ _ _ _ _ _ _ (Act.put _ (some 38) _) _
      simp only [Act.put, List.setIfInBounds_toArray, List.set_cons_zero, List.set_cons_succ]
      first | (refine wpAnyH_take (i := 24) (v := undef) rfl (by kernel_rfl) (by kernel_rfl) (by kernel_rfl) (fun _ _ _ h => h) (Or.inr ⟨by rfl, rfl⟩) (by assumption) ?_) | (refine wpAnyH_take (i := 24) (v := ?v24) rfl (by kernel_rfl) (by kernel_rfl) (by kernel_rfl) (fun _ _ _ h => h) (Or.inl ⟨by rfl, ?hy24⟩) (by assumption) ?_; (case hy24 => (intro x hxx; obtain ⟨e0, e1, e2, e3, e4, e5⟩ := CC.out x hxx; go_simp; try with_reducible rfl)))
      change wpAnyH _ _ _ _ _ _ _ (Act.put _ (some 39) _) _
      simp only [Act.put, List.setIfInBounds_toArray, List.set_cons_zero, List.set_cons_succ]
      first | (refine wpAnyH_take (i := 25) (v := undef) rfl (by kernel_rfl) (by kernel_rfl) (by kernel_rfl) (fun _ _ _ h => h) (Or.inr ⟨by rfl, rfl⟩) (by assumption) ?_) | (refine wpAnyH_take (i := 25) (v := ?v25) rfl (by kernel_rfl) (by kernel_rfl) (by kernel_rfl) (fun _ _ _ h => h) (Or.inl ⟨by rfl, ?hy25⟩) (by assumption) ?_; (case hy25 => (intro x hxx; obtain ⟨e0, e1, e2, e3, e4, e5⟩ := CC.out x hxx; go_simp; try with_reducible rfl)))
      change wpAnyH _ _ _ _ _ _ _ (Act.put _ (some 40) _) _
      simp only [Act.put, List.setIfInBounds_toArray, List.set_cons_zero, List.set_cons_succ]
      first | (refine wpAnyH_take (i := 26) (v := undef) rfl (by kernel_rfl) (by kernel_rfl) (by kernel_rfl) (fun _ _ _ h => h) (Or.inr ⟨by rfl, rfl⟩) (by assumption) ?_) | (refine wpAnyH_take (i := 26) (v := ?v26) rfl (by kernel_rfl) (by kernel_rfl) (by kernel_rfl) (fun _ _ _ h => h) (Or.inl ⟨by rfl, ?hy26⟩) (by assumption) ?_; (case hy26 => (intro x hxx; obtain ⟨e0, e1, e2, e3, e4, e5⟩ := CC.out x hxx; go_simp; try with_reducible rfl)))
      change wpAnyH _ _ _ _ _ _ _ (Act.put _ (some 41) _) _
      simp only [Act.put, List.setIfInBounds_toArray, List.set_cons_zero, List.set_cons_succ]
      first | (refine wpAnyH_take (i := 27) (v := undef) rfl (by kernel_rfl) (by kernel_rfl) (by kernel_rfl) (fun _ _ _ h => h) (Or.inr ⟨by rfl, rfl⟩) (by assumption) ?_) | (refine wpAnyH_take (i := 27) (v := ?v27) rfl (by kernel_rfl) (by kernel_rfl) (by kernel_rfl) (fun _ _ _ h => h) (Or.inl ⟨by rfl, ?hy27⟩) (by assumption) ?_; (case hy27 => (intro x hxx; obtain ⟨e0, e1, e2, e3, e4, e5⟩ := CC.out x hxx; go_simp; try with_reducible rfl)))
      change wpAnyH _ _ _ _ _ _ _ (Act.put _ (some 42) _) _
      simp only [Act.put, List.setIfInBounds_toArray, List.set_cons_zero, List.set_cons_succ]
      first | (refine wpAnyH_take (i := 28) (v := undef) rfl (by kernel_rfl) (by kernel_rfl) (by kernel_rfl) (fun _ _ _ h => h) (Or.inr ⟨by rfl, rfl⟩) (by assumption) ?_) | (refine wpAnyH_take (i := 28) (v := ?v28) rfl (by kernel_rfl) (by kernel_rfl) (by kernel_rfl) (fun _ _ _ h => h) (Or.inl ⟨by rfl, ?hy28⟩) (by assumption) ?_; (case hy28 => (intro x hxx; obtain ⟨e0, e1, e2, e3, e4, e5⟩ := CC.out x hxx; go_simp; try with_reducible rfl)))
      change wpAnyH _ _ _ _ _ _ _ (Act.put _ (some 43) _) _
      simp only [Act.put, List.setIfInBounds_toArray, List.set_cons_zero, List.set_cons_succ]
      first | (refine wpAnyH_take (i := 29) (v := undef) rfl (by kernel_rfl) (by kernel_rfl) (by kernel_rfl) (fun _ _ _ h => h) (Or.inr ⟨by rfl, rfl⟩) (by assumption) ?_) | (refine wpAnyH_take (i := 29) (v := ?v29) rfl (by kernel_rfl) (by kernel_rfl) (by kernel_rfl) (fun _ _ _ h => h) (Or.inl ⟨by rfl, ?hy29⟩) (by assumption) ?_; (case hy29 => (intro x hxx; obtain ⟨e0, e1, e2, e3, e4, e5⟩ := CC.out x hxx; go_simp; try with_reducible rfl)))
      change wpAnyH _ _ _ _ _ _ _ (Act.put _ (some 44) _) _
      simp only [Act.put, List.setIfInBounds_toArray, List.set_cons_zero, List.set_cons_succ]
      first | (refine wpAnyH_take (i := 30) (v := undef) rfl (by kernel_rfl) (by kernel_rfl) (by kernel_rfl) (fun _ _ _ h => h) (Or.inr ⟨by rfl, rfl⟩) (by assumption) ?_) | (refine wpAnyH_take (i := 30) (v := ?v30) rfl (by kernel_rfl) (by kernel_rfl) (by kernel_rfl) (fun _ _ _ h => h) (Or.inl ⟨by rfl, ?hy30⟩) (by assumption) ?_; (case hy30 => (intro x hxx; obtain ⟨e0, e1, e2, e3, e4, e5⟩ := CC.out x hxx; go_simp; try with_reducible rfl)))
      change wpAnyH _ _ _ _ _ _ _ (Act.put _ (some 45) _) _
      simp only [Act.put, List.setIfInBounds_toArray, List.set_cons_zero, List.set_cons_succ]
      first | (refine wpAnyH_take (i := 31) (v := undef) rfl (by kernel_rfl) (by kernel_rfl) (by kernel_rfl) (fun _ _ _ h => h) (Or.inr ⟨by rfl, rfl⟩) (by assumption) ?_) | (refine wpAnyH_take (i := 31) (v := ?v31) rfl (by kernel_rfl) (by kernel_rfl) (by kernel_rfl) (fun _ _ _ h => h) (Or.inl ⟨by rfl, ?hy31⟩) (by assumption) ?_; (case hy31 => (intro x hxx; obtain ⟨e0, e1, e2, e3, e4, e5⟩ := CC.out x hxx; go_simp; try with_reducible rfl)))
      change wpAnyH _ _ _ _ _ _ _ (Act.put _ (some 46) _) _
      simp only [Act.put, List.setIfInBounds_toArray, List.set_cons_zero, List.set_cons_succ]
      first | (refine wpAnyH_take (i := 32) (v := undef) rfl (by kernel_rfl) (by kernel_rfl) (by kernel_rfl) (fun _ _ _ h => h) (Or.inr ⟨by rfl, rfl⟩) (by assumption) ?_) | (refine wpAnyH_take (i := 32) (v := ?v32) rfl (by kernel_rfl) (by kernel_rfl) (by kernel_rfl) (fun _ _ _ h => h) (Or.inl ⟨by rfl, ?hy32⟩) (by assumption) ?_; (case hy32 => (intro x hxx; obtain ⟨e0, e1, e2, e3, e4, e5⟩ := CC.out x hxx; go_simp; try with_reducible rfl)))
      change wpAnyH _ _ _ _ _ _ _ (Act.put _ (some 47) _) _
      simp only [Act.put, List.setIfInBounds_toArray, List.set_cons_zero, List.set_cons_succ]
      first | (refine wpAnyH_take (i := 33) (v := undef) rfl (by kernel_rfl) (by kernel_rfl) (by kernel_rfl) (fun _ _ _ h => h) (Or.inr ⟨by rfl, rfl⟩) (by assumption) ?_) | (refine wpAnyH_take (i := 33) (v := ?v33) rfl (by kernel_rfl) (by kernel_rfl) (by kernel_rfl) (fun _ _ _ h => h) (Or.inl ⟨by rfl, ?hy33⟩) (by assumption) ?_; (case hy33 => (intro x hxx; obtain ⟨e0, e1, e2, e3, e4, e5⟩ := CC.out x hxx; go_simp; try with_reducible rfl)))
      change wpAnyH _ _ _ _ _ _ _ (Act.put _ (some 48) _) _
      simp only [Act.put, List.setIfInBounds_toArray, List.set_cons_zero, List.set_cons_succ]
      first | (refine wpAnyH_take (i := 34) (v := undef) rfl (by kernel_rfl) (by kernel_rfl) (by kernel_rfl) (fun _ _ _ h => h) (Or.inr ⟨by rfl, rfl⟩) (by assumption) ?_) | (refine wpAnyH_take (i := 34) (v := ?v34) rfl (by kernel_rfl) (by kernel_rfl) (by kernel_rfl) (fun _ _ _ h => h) (Or.inl ⟨by rfl, ?hy34⟩) (by assumption) ?_; (case hy34 => (intro x hxx; obtain ⟨e0, e1, e2, e3, e4, e5⟩ := CC.out x hxx; go_simp; try with_reducible rfl)))
      change wpAnyH _ _ _ _ _ _ _ (Act.put _ (some 49) _) _
      simp only [Act.put, List.setIfInBounds_toArray, List.set_cons_zero, List.set_cons_succ]
      refine wpAnyH_done (by kernel_rfl) ?_ _
      refine NoPanic.normal ?_
      have HD1 := Lib.hid hH1
      clear hH1
      go_wp2_with fail
      go_meet
      case rel => exact ⟨by rw [show hd = false from by rw [HHD.out, HHEAD.out]; simp]; rfl, HD1.out⟩
    · by_cases b1 : (n : Int) < 1
      · have e1' : decide (1 ≤ n) = false := by simp; omega
        clear HCONT
        first | (refine wpAnyH_take (i := 2) (v := undef) rfl (by kernel_rfl) (by kernel_rfl) (by kernel_rfl) (fun _ _ _ h => h) (Or.inr ⟨by rfl, rfl⟩) (by assumption) ?_) | (refine wpAnyH_take (i := 2) (v := ?v35) rfl (by kernel_rfl) (by kernel_rfl) (by kernel_rfl) (fun _ _ _ h => h) (Or.inl ⟨by rfl, ?hy35⟩) (by assumption) ?_; (case hy35 => (intro x hxx; obtain ⟨e0, e1, e2, e3, e4, e5⟩ := CC.out x hxx; go_simp; try with_reducible rfl)))
        change wpAnyH _ _ _ _ _ _ _ (Act.put _ (some 17) _) _
        simp only [Act.put, List.setIfInBounds_toArray, List.set_cons_zero, List.set_cons_succ]
        first | (refine wpAnyH_take (i := 3) (v := undef) rfl (by kernel_rfl) (by kernel_rfl) (by kernel_rfl) (fun _ _ _ h => h) (Or.inr ⟨by rfl, rfl⟩) (by assumption) ?_) | (refine wpAnyH_take (i := 3) (v := ?v36) rfl (by kernel_rfl) (by kernel_rfl) (by kernel_rfl) (fun _ _ _ h => h) (Or.inl ⟨by rfl, ?hy36⟩) (by assumption) ?_; (case hy36 => (intro x hxx; obtain ⟨e0, e1, e2, e3, e4, e5⟩ := CC.out x hxx; go_simp; try with_reducible rfl)))
        change wpAnyH _ _ _ _ _ _ _ (Act.put _ (some 18) _) _
        simp only [Act.put, List.setIfInBounds_toArray, List.set_cons_zero, List.set_cons_succ]
        first | (refine wpAnyH_take (i := 4) (v := undef) rfl (by kernel_rfl) (by kernel_rfl) (by kernel_rfl) (fun _ _ _ h => h) (Or.inr ⟨by rfl, rfl⟩) (by assumption) ?_) | (refine wpAnyH_take (i := 4) (v := ?v37) rfl (by kernel_rfl) (by kernel_rfl) (by kernel_rfl) (fun _ _ _ h => h) (Or.inl ⟨by rfl, ?hy37⟩) (by assumption) ?_; (case hy37 => (intro x hxx; obtain ⟨e0, e1, e2, e3, e4, e5⟩ := CC.out x hxx; go_simp; try with_reducible rfl)))
        change wpAnyH _ _ _ _ _ _ _ (Act.put _ (some 19) _) _
        simp only [Act.put, List.setIfInBounds_toArray, List.set_cons_zero, List.set_cons_succ]
        first | (refine wpAnyH_take (i := 5) (v := undef) rfl (by kernel_rfl) (by kernel_rfl) (by kernel_rfl) (fun _ _ _ h => h) (Or.inr ⟨by rfl, rfl⟩) (by assumption) ?_) | (refine wpAnyH_take (i := 5) (v := ?v38) rfl (by kernel_rfl) (by kernel_rfl) (by kernel_rfl) (fun _ _ _ h => h) (Or.inl ⟨by rfl, ?hy38⟩) (by assumption) ?_; (case hy38 => (intro x hxx; obtain ⟨e0, e1, e2, e3, e4, e5⟩ := CC.out x hxx; go_simp; try with_reducible rfl)))
        change wpAnyH _ _ _ _ _ _ _ (Act.put _ (some 20) _) _
        simp only [Act.put, List.setIfInBounds_toArray, List.set_cons_zero, List.set_cons_succ]
        first | (refine wpAnyH_take (i := 6) (v := undef) rfl (by kernel_rfl) (by kernel_rfl) (by kernel_rfl) (fun _ _ _ h => h) (Or.inr ⟨by rfl, rfl⟩) (by assumption) ?_) | (refine wpAnyH_take (i := 6) (v := ?v39) rfl (by kernel_rfl) (by kernel_rfl) (by kernel_rfl) (fun _ _ _ h => h) (Or.inl ⟨by rfl, ?hy39⟩) (by assumption) ?_; (case hy39 => (intro x hxx; obtain ⟨e0, e1, e2, e3, e4, e5⟩ := CC.out x hxx; go_simp; try with_reducible rfl)))
        change wpAnyH _ _ _ _ _ _ _ (Act.put _ (some 21) _) _
        simp only [Act.put, List.setIfInBounds_toArray, List.set_cons_zero, List.set_cons_succ]
        first | (refine wpAnyH_take (i := 7) (v := undef) rfl (by kernel_rfl) (by kernel_rfl) (by kernel_rfl) (fun _ _ _ h => h) (Or.inr ⟨by rfl, rfl⟩) (by assumption) ?_) | (refine wpAnyH_take (i := 7) (v := ?v40) rfl (by kernel_rfl) (by kernel_rfl) (by kernel_rfl) (fun _ _ _ h => h) (Or.inl ⟨by rfl, ?hy40⟩) (by assumption) ?_; (case hy40 => (intro x hxx; obtain ⟨e0, e1, e2, e3, e4, e5⟩ := CC.out x hxx; go_simp; try with_reducible rfl)))
        change wpAnyH _ _ _ _ _ _ _ (Act.put _ (some 22) _) _
        simp only [Act.put, List.setIfInBounds_toArray, List.set_cons_zero, List.set_cons_succ]
        first | (refine wpAnyH_take (i := 8) (v := undef) rfl (by kernel_rfl) (by kernel_rfl) (by kernel_rfl) (fun _ _ _ h => h) (Or.inr ⟨by rfl, rfl⟩) (by assumption) ?_) | (refine wpAnyH_take (i := 8) (v := ?v41) rfl (by kernel_rfl) (by kernel_rfl) (by kernel_rfl) (fun _ _ _ h => h) (Or.inl ⟨by rfl, ?hy41⟩) (by assumption) ?_; (case hy41 => (intro x hxx; obtain ⟨e0, e1, e2, e3, e4, e5⟩ := CC.out x hxx; go_simp; try with_reducible rfl)))
        change wpAnyH _ _ _ _ _ _ _ (Act.put _ (some 23) _) _
        simp only [Act.put, List.setIfInBounds_toArray, List.set_cons_zero, List.set_cons_succ]
        first | (refine wpAnyH_take (i := 9) (v := undef) rfl (by kernel_rfl) (by kernel_rfl) (by kernel_rfl) (fun _ _ _ h => h) (Or.inr ⟨by rfl, rfl⟩) (by assumption) ?_) | (refine wpAnyH_take (i := 9) (v := ?v42) rfl (by kernel_rfl) (by kernel_rfl) (by kernel_rfl) (fun _ _ _ h => h) (Or.inl ⟨by rfl, ?hy42⟩) (by assumption) ?_; (case hy42 => (intro x hxx; obtain ⟨e0, e1, e2, e3, e4, e5⟩ := CC.out x hxx; go_simp; try with_reducible rfl)))
        change wpAnyH _ _ _ _ _ _ _ (Act.put _ (some 24) _) _
        simp only [Act.put, List.setIfInBounds_toArray, List.set_cons_zero, List.set_cons_succ]
        first | (refine wpAnyH_take (i := 10) (v := undef) rfl (by kernel_rfl) (by kernel_rfl) (by kernel_rfl) (fun _ _ _ h => h) (Or.inr ⟨by rfl, rfl⟩) (by assumption) ?_) | (refine wpAnyH_take (i := 10) (v := ?v43) rfl (by kernel_rfl) (by kernel_rfl) (by kernel_rfl) (fun _ _ _ h => h) (Or.inl ⟨by rfl, ?hy43⟩) (by assumption) ?_; (case hy43 => (intro x hxx; obtain ⟨e0, e1, e2, e3, e4, e5⟩ := CC.out x hxx; go_simp; try with_reducible rfl)))
        change wpAnyH _ _ _ _ _ _ _ (Act.put _ (some 25) _) _
        simp only [Act.put, List.setIfInBounds_toArray, List.set_cons_zero, List.set_cons_succ]
        first | (refine wpAnyH_take (i := 11) (v := undef) rfl (by kernel_rfl) (by kernel_rfl) (by kernel_rfl) (fun _ _ _ h => h) (Or.inr ⟨by rfl, rfl⟩) (by assumption) ?_) | (refine wpAnyH_take (i := 11) (v := ?v44) rfl (by kernel_rfl) (by kernel_rfl) (by kernel_rfl) (fun _ _ _ h => h) (Or.inl ⟨by rfl, ?hy44⟩) (by assumption) ?_; (case hy44 => (intro x hxx; obtain ⟨e0, e1, e2, e3, e4, e5⟩ := CC.out x hxx; go_simp; try with_reducible rfl)))
        change wpAnyH _ _ _ _ _ _ _ (Act.put _ (some 26) _) _
        simp only [Act.put, List.setIfInBounds_toArray, List.set_cons_zero, List.set_cons_succ]
        first | (refine wpAnyH_take (i := 12) (v := undef) rfl (by kernel_rfl) (by kernel_rfl) (by kernel_rfl) (fun _ _ _ h => h) (Or.inr ⟨by rfl, rfl⟩) (by assumption) ?_) | (refine wpAnyH_take (i := 12) (v := ?v45) rfl (by kernel_rfl) (by kernel_rfl) (by kernel_rfl) (fun _ _ _ h => h) (Or.inl ⟨by rfl, ?hy45⟩) (by assumption) ?_; (case hy45 => (intro x hxx; obtain ⟨e0, e1, e2, e3, e4, e5⟩ := CC.out x hxx; go_simp; try with_reducible rfl)))
        change wpAnyH _ _ _ _ _ _ _ (Act.put _ (some 27) _) _
        simp only [Act.put, List.setIfInBounds_toArray, List.set_cons_zero, List.set_cons_succ]
        first | (refine wpAnyH_take (i := 13) (v := undef) rfl (by kernel_rfl) (by kernel_rfl) (by kernel_rfl) (fun _ _ _ h => h) (Or.inr ⟨by rfl, rfl⟩) (by assumption) ?_) | (refine wpAnyH_take (i := 13) (v := ?v46) rfl (by kernel_rfl) (by kernel_rfl) (by kernel_rfl) (fun _ _ _ h => h) (Or.inl ⟨by rfl, ?hy46⟩) (by assumption) ?_; (case hy46 => (intro x hxx; obtain ⟨e0, e1, e2, e3, e4, e5⟩ := CC.out x hxx; go_simp; try with_reducible rfl)))
        change wpAnyH _ _ _ _ _ _ _ (Act.put _ (some 28) _) _
        simp only [Act.put, List.setIfInBounds_toArray, List.set_cons_zero, List.set_cons_succ]
        first | (refine wpAnyH_take (i := 14) (v := undef) rfl (by kernel_rfl) (by kernel_rfl) (by kernel_rfl) (fun _ _ _ h => h) (Or.inr ⟨by rfl, rfl⟩) (by assumption) ?_) | (refine wpAnyH_take (i := 14) (v := ?v47) rfl (by kernel_rfl) (by kernel_rfl) (by kernel_rfl) (fun _ _ _ h => h) (Or.inl ⟨by rfl, ?hy47⟩) (by assumption) ?_; (case hy47 => (intro x hxx; obtain ⟨e0, e1, e2, e3, e4, e5⟩ := CC.out x hxx; go_simp; try with_reducible rfl)))
        change wpAnyH _ _ _ _ _ _ _ (Act.put _ (some 29) _) _
        simp only [Act.put, List.setIfInBounds_toArray, List.set_cons_zero, List.set_cons_succ]
        first | (refine wpAnyH_take (i := 15) (v := undef) rfl (by kernel_rfl) (by kernel_rfl) (by kernel_rfl) (fun _ _ _ h => h) (Or.inr ⟨by rfl, rfl⟩) (by assumption) ?_) | (refine wpAnyH_take (i := 15) (v := ?v48) rfl (by kernel_rfl) (by kernel_rfl) (by kernel_rfl) (fun _ _ _ h => h) (Or.inl ⟨by rfl, ?hy48⟩) (by assumption) ?_; (case hy48 => (intro x hxx; obtain ⟨e0, e1, e2, e3, e4, e5⟩ := CC.out x hxx; go_simp; try with_reducible rfl)))
        change wpAnyH _ _ _ _ _ _ _ (Act.put _ (some 30) _) _
        simp only [Act.put, List.setIfInBounds_toArray, List.set_cons_zero, List.set_cons_succ]
        first | (refine wpAnyH_take (i := 16) (v := undef) rfl (by kernel_rfl) (by kernel_rfl) (by kernel_rfl) (fun _ _ _ h => h) (Or.inr ⟨by rfl, rfl⟩) (by assumption) ?_) | (refine wpAnyH_take (i := 16) (v := ?v49) rfl (by kernel_rfl) (by kernel_rfl) (by kernel_rfl) (fun _ _ _ h => h) (Or.inl ⟨by rfl, ?hy49⟩) (by assumption) ?_; (case hy49 => (intro x hxx; obtain ⟨e0, e1, e2, e3, e4, e5⟩ := CC.out x hxx; go_simp; try with_reducible rfl)))
        change wpAnyH _ _ _ _ _ _ _ (Act.put _ (some 31) _) _
        simp only [Act.put, List.setIfInBounds_toArray, List.set_cons_zero, List.set_cons_succ]
        first | (refine wpAnyH_take (i := 17) (v := undef) rfl (by kernel_rfl) (by kernel_rfl) (by kernel_rfl) (fun _ _ _ h => h) (Or.inr ⟨by rfl, rfl⟩) (by assumption) ?_) | (refine wpAnyH_take (i := 17) (v := ?v50) rfl (by kernel_rfl) (by kernel_rfl) (by kernel_rfl) (fun _ _ _ h => h) (Or.inl ⟨by rfl, ?hy50⟩) (by assumption) ?_; (case hy50 => (intro x hxx; obtain ⟨e0, e1, e2, e3, e4, e5⟩ := CC.out x hxx; go_simp; try with_reducible rfl)))
        change wpAnyH _ _ _ _ _ _ _ (Act.put _ (some 32) _) _
        simp only [Act.put, List.setIfInBounds_toArray, List.set_cons_zero, List.set_cons_succ]
        first | (refine wpAnyH_take (i := 18) (v := undef) rfl (by kernel_rfl) (by kernel_rfl) (by kernel_rfl) (fun _ _ _ h => h) (Or.inr ⟨by rfl, rfl⟩) (by assumption) ?_) | (refine wpAnyH_take (i := 18) (v := ?v51) rfl (by kernel_rfl) (by kernel_rfl) (by kernel_rfl) (fun _ _ _ h => h) (Or.inl ⟨by rfl, ?hy51⟩) (by assumption) ?_; (case hy51 => (intro x hxx; obtain ⟨e0, e1, e2, e3, e4, e5⟩ := CC.out x hxx; go_simp; try with_reducible rfl)))
        change wpAnyH _ _ _ _ _ _ _ (Act.put _ (some 33) _) _
        simp only [Act.put, List.setIfInBounds_toArray, List.set_cons_zero, List.set_cons_succ]
        first | (refine wpAnyH_take (i := 19) (v := undef) rfl (by kernel_rfl) (by kernel_rfl) (by kernel_rfl) (fun _ _ _ h => h) (Or.inr ⟨by rfl, rfl⟩) (by assumption) ?_) | (refine wpAnyH_take (i := 19) (v := ?v52) rfl (by kernel_rfl) (by kernel_rfl) (by kernel_rfl) (fun _ _ _ h => h) (Or.inl ⟨by rfl, ?hy52⟩) (by assumption) ?_; (case hy52 => (intro x hxx; obtain ⟨e0, e1, e2, e3, e4, e5⟩ := CC.out x hxx; go_simp; try with_reducible rfl)))
        change wpAnyH _ _ _ _ _ _ _ (Act.put _ (some 34) _) _
        simp only [Act.put, List.setIfInBounds_toArray, List.set_cons_zero, List.set_cons_succ]
        first | (refine wpAnyH_take (i := 20) (v := undef) rfl (by kernel_rfl) (by kernel_rfl) (by kernel_rfl) (fun _ _ _ h => h) (Or.inr ⟨by rfl, rfl⟩) (by assumption) ?_) | (refine wpAnyH_take (i := 20) (v := ?v53) rfl (by kernel_rfl) (by kernel_rfl) (by kernel_rfl) (fun _ _ _ h => h) (Or.inl ⟨by rfl, ?hy53⟩) (by assumption) ?_; (case hy53 => (intro x hxx; obtain ⟨e0, e1, e2, e3, e4, e5⟩ := CC.out x hxx; go_simp; try with_reducible rfl)))
        change wpAnyH _ _ _ _ _ _ _ (Act.put _ (some 35) _) _
        simp only [Act.put, List.setIfInBounds_toArray, List.set_cons_zero, List.set_cons_succ]
        first | (refine wpAnyH_take (i := 21) (v := undef) rfl (by kernel_rfl) (by kernel_rfl) (by kernel_rfl) (fun _ _ _ h => h) (Or.inr ⟨by rfl, rfl⟩) (by assumption) ?_) | (refine wpAnyH_take (i := 21) (v := ?v54) rfl (by kernel_rfl) (by kernel_rfl) (by kernel_rfl) (fun _ _ _ h => h) (Or.inl ⟨by rfl, ?hy54⟩) (by assumption) ?_; (case hy54 => (intro x hxx; obtain ⟨e0, e1, e2, e3, e4, e5⟩ := CC.out x hxx; go_simp; try with_reducible rfl)))
        change wpAnyH _ _ _ _ _ _ _ (Act.put _ (some 36) _) _
        simp only [Act.put, List.setIfInBounds_toArray, List.set_cons_zero, List.set_cons_succ]
        first | (refine wpAnyH_take (i := 22) (v := undef) rfl (by kernel_rfl) (by kernel_rfl) (by kernel_rfl) (fun _ _ _ h => h) (Or.inr ⟨by rfl, rfl⟩) (by assumption) ?_) | (refine wpAnyH_take (i := 22) (v := ?v55) rfl (by kernel_rfl) (by kernel_rfl) (by kernel_rfl) (fun _ _ _ h => h) (Or.inl ⟨by rfl, ?hy55⟩) (by assumption) ?_; (case hy55 => (intro x hxx; obtain ⟨e0, e1, e2, e3, e4, e5⟩ := CC.out x hxx; go_simp; try with_reducible rfl)))
        change wpAnyH _ _ _ _ _ _ _ (Act.put _ (some 37) _) _
        simp only [Act.put, List.setIfInBounds_toArray, List.set_cons_zero, List.set_cons_succ]
        first | (refine wpAnyH_take (i := 23) (v := undef) rfl (by kernel_rfl) (by kernel_rfl) (by kernel_rfl) (fun _ _ _ h => h) (Or.inr ⟨by rfl, rfl⟩) (by assumption) ?_) | (refine wpAnyH_take (i := 23) (v := ?v56) rfl (by kernel_rfl) (by kernel_rfl) (by kernel_rfl) (fun _ _ _ h => h) (Or.inl ⟨by rfl, ?hy56⟩) (by assumption) ?_; (case hy56 => (intro x hxx; obtain ⟨e0, e1, e2, e3, e4, e5⟩ := CC.out x hxx; go_simp; try with_reducible rfl)))
        change wpAnyH _ _ _ _ _ _ _ (Act.put _ (some 38) _) _
        simp only [Act.put, List.setIfInBounds_toArray, List.set_cons_zero, List.set_cons_succ]
        first | (refine wpAnyH_take (i := 24) (v := undef) rfl (by kernel_rfl) (by kernel_rfl) (by kernel_rfl) (fun _ _ _ h => h) (Or.inr ⟨by rfl, rfl⟩) (by assumption) ?_) | (refine wpAnyH_take (i := 24) (v := ?v57) rfl (by kernel_rfl) (by kernel_rfl) (by kernel_rfl) (fun _ _ _ h => h) (Or.inl ⟨by rfl, ?hy57⟩) (by assumption) ?_; (case hy57 => (intro x hxx; obtain ⟨e0, e1, e2, e3, e4, e5⟩ := CC.out x hxx; go_simp; try with_reducible rfl)))
        change wpAnyH _ _ _ _ _ _ _ (Act.put _ (some 39) _) _
        simp only [Act.put, List.setIfInBounds_toArray, List.set_cons_zero, List.set_cons_succ]
        first | (refine wpAnyH_take (i := 25) (v := undef) rfl (by kernel_rfl) (by kernel_rfl) (by kernel_rfl) (fun _ _ _ h => h) (Or.inr ⟨by rfl, rfl⟩) (by assumption) ?_) | (refine wpAnyH_take (i := 25) (v := ?v58) rfl (by kernel_rfl) (by kernel_rfl) (by kernel_rfl) (fun _ _ _ h => h) (Or.inl ⟨by rfl, ?hy58⟩) (by assumption) ?_; (case hy58 => (intro x hxx; obtain ⟨e0, e1, e2, e3, e4, e5⟩ := CC.out x hxx; go_simp; try with_reducible rfl)))
        change wpAnyH _ _ _ _ _ _ _ (Act.put _ (some 40) _) _
        simp only [Act.put, List.setIfInBounds_toArray, List.set_cons_zero, List.set_cons_succ]
        first | (refine wpAnyH_take (i := 26) (v := undef) rfl (by kernel_rfl) (by kernel_rfl) (by kernel_rfl) (fun _ _ _ h => h) (Or.inr ⟨by rfl, rfl⟩) (by assumption) ?_) | (refine wpAnyH_take (i := 26) (v := ?v59) rfl (by kernel_rfl) (by kernel_rfl) (by kernel_rfl) (fun _ _ _ h => h) (Or.inl ⟨by rfl, ?hy59⟩) (by assumption) ?_; (case hy59 => (intro x hxx; obtain ⟨e0, e1, e2, e3, e4, e5⟩ := CC.out x hxx; go_simp; try with_reducible rfl)))
        change wpAnyH _ _ _ _ _ _ _ (Act.put _ (some 41) _) _
        simp only [Act.put, List.setIfInBounds_toArray, List.set_cons_zero, List.set_cons_succ]
        first | (refine wpAnyH_take (i := 27) (v := undef) rfl (by kernel_rfl) (by kernel_rfl) (by kernel_rfl) (fun _ _ _ h => h) (Or.inr ⟨by rfl, rfl⟩) (by assumption) ?_) | (refine wpAnyH_take (i := 27) (v := ?v60) rfl (by kernel_rfl) (by kernel_rfl) (by kernel_rfl) (fun _ _ _ h => h) (Or.inl ⟨by rfl, ?hy60⟩) (by assumption) ?_; (case hy60 => (intro x hxx; obtain ⟨e0, e1, e2, e3, e4, e5⟩ := CC.out x hxx; go_simp; try with_reducible rfl)))
        change wpAnyH _ _ _ _ _ _ _ (Act.put _ (some 42) _) _
        simp only [Act.put, List.setIfInBounds_toArray, List.set_cons_zero, List.set_cons_succ]
        first | (refine wpAnyH_take (i := 28) (v := undef) rfl (by kernel_rfl) (by kernel_rfl) (by kernel_rfl) (fun _ _ _ h => h) (Or.inr ⟨by rfl, rfl⟩) (by assumption) ?_) | (refine wpAnyH_take (i := 28) (v := ?v61) rfl (by kernel_rfl) (by kernel_rfl) (by kernel_rfl) (fun _ _ _ h => h) (Or.inl ⟨by rfl, ?hy61⟩) (by assumption) ?_; (case hy61 => (intro x hxx; obtain ⟨e0, e1, e2, e3, e4, e5⟩ := CC.out x hxx; go_simp; try with_reducible rfl)))
        change wpAnyH _ _ _ _ _ _ _ (Act.put _ (some 43) _) _
        simp only [Act.put, List.setIfInBounds_toArray, List.set_cons_zero, List.set_cons_succ]
        first | (refine wpAnyH_take (i := 29) (v := undef) rfl (by kernel_rfl) (by kernel_rfl) (by kernel_rfl) (fun _ _ _ h => h) (Or.inr ⟨by rfl, rfl⟩) (by assumption) ?_) | (refine wpAnyH_take (i := 29) (v := ?v62) rfl (by kernel_rfl) (by kernel_rfl) (by kernel_rfl) (fun _ _ _ h => h) (Or.inl ⟨by rfl, ?hy62⟩) (by assumption) ?_; (case hy62 => (intro x hxx; obtain ⟨e0, e1, e2, e3, e4, e5⟩ := CC.out x hxx; go_simp; try with_reducible rfl)))
        change wpAnyH _ _ _ _ _ _ _ (Act.put _ (some 44) _) _
        simp only [Act.put, List.setIfInBounds_toArray, List.set_cons_zero, List.set_cons_succ]
        first | (refine wpAnyH_take (i := 30) (v := undef) rfl (by kernel_rfl) (by kernel_rfl) (by kernel_rfl) (fun _ _ _ h => h) (Or.inr ⟨by rfl, rfl⟩) (by assumption) ?_) | (refine wpAnyH_take (i := 30) (v := ?v63) rfl (by kernel_rfl) (by kernel_rfl) (by kernel_rfl) (fun _ _ _ h => h) (Or.inl ⟨by rfl, ?hy63⟩) (by assumption) ?_; (case hy63 => (intro x hxx; obtain ⟨e0, e1, e2, e3, e4, e5⟩ := CC.out x hxx; go_simp; try with_reducible rfl)))
        change wpAnyH _ _ _ _ _ _ _ (Act.put _ (some 45) _) _
        simp only [Act.put, List.setIfInBounds_toArray, List.set_cons_zero, List.set_cons_succ]
        first | (refine wpAnyH_take (i := 31) (v := undef) rfl (by kernel_rfl) (by kernel_rfl) (by kernel_rfl) (fun _ _ _ h => h) (Or.inr ⟨by rfl, rfl⟩) (by assumption) ?_) | (refine wpAnyH_take (i := 31) (v := ?v64) rfl (by kernel_rfl) (by kernel_rfl) (by kernel_rfl) (fun _ _ _ h => h) (Or.inl ⟨by rfl, ?hy64⟩) (by assumption) ?_; (case hy64 => (intro x hxx; obtain ⟨e0, e1, e2, e3, e4, e5⟩ := CC.out x hxx; go_simp; try with_reducible rfl)))
        change wpAnyH _ _ _ _ _ _ _ (Act.put _ (some 46) _) _
        simp only [Act.put, List.setIfInBounds_toArray, List.set_cons_zero, List.set_cons_succ]
        first | (refine wpAnyH_take (i := 32) (v := undef) rfl (by kernel_rfl) (by kernel_rfl) (by kernel_rfl) (fun _ _ _ h => h) (Or.inr ⟨by rfl, rfl⟩) (by assumption) ?_) | (refine wpAnyH_take (i := 32) (v := ?v65) rfl (by kernel_rfl) (by kernel_rfl) (by kernel_rfl) (fun _ _ _ h => h) (Or.inl ⟨by rfl, ?hy65⟩) (by assumption) ?_; (case hy65 => (intro x hxx; obtain ⟨e0, e1, e2, e3, e4, e5⟩ := CC.out x hxx; go_simp; try with_reducible rfl)))
        change wpAnyH _ _ _ _ _ _ _ (Act.put _ (some 47) _) _
        simp only [Act.put, List.setIfInBounds_toArray, List.set_cons_zero, List.set_cons_succ]
        first | (refine wpAnyH_take (i := 33) (v := undef) rfl (by kernel_rfl) (by kernel_rfl) (by kernel_rfl) (fun _ _ _ h => h) (Or.inr ⟨by rfl, rfl⟩) (by assumption) ?_) | (refine wpAnyH_take (i := 33) (v := ?v66) rfl (by kernel_rfl) (by kernel_rfl) (by kernel_rfl) (fun _ _ _ h => h) (Or.inl ⟨by rfl, ?hy66⟩) (by assumption) ?_; (case hy66 => (intro x hxx; obtain ⟨e0, e1, e2, e3, e4, e5⟩ := CC.out x hxx; go_simp; try with_reducible rfl)))
        change wpAnyH _ _ _ _ _ _ _ (Act.put _ (some 48) _) _
        simp only [Act.put, List.setIfInBounds_toArray, List.set_cons_zero, List.set_cons_succ]
        first | (refine wpAnyH_take (i := 34) (v := undef) rfl (by kernel_rfl) (by kernel_rfl) (by kernel_rfl) (fun _ _ _ h => h) (Or.inr ⟨by rfl, rfl⟩) (by assumption) ?_) | (refine wpAnyH_take (i := 34) (v := ?v67) rfl (by kernel_rfl) (by kernel_rfl) (by kernel_rfl) (fun _ _ _ h => h) (Or.inl ⟨by rfl, ?hy67⟩) (by assumption) ?_; (case hy67 => (intro x hxx; obtain ⟨e0, e1, e2, e3, e4, e5⟩ := CC.out x hxx; go_simp; try with_reducible rfl)))
        change wpAnyH _ _ _ _ _ _ _ (Act.put _ (some 49) _) _
        simp only [Act.put, List.setIfInBounds_toArray, List.set_cons_zero, List.set_cons_succ]
        refine wpAnyH_done (by kernel_rfl) ?_ _
        refine NoPanic.normal ?_
        have HD1 := Lib.hid hH1
        clear hH1
        go_wp2_with fail
        go_meet
        case rel => exact ⟨by rw [show hd = false from by rw [HHD.out, HHEAD.out, e1']; simp]; rfl, HD1.out⟩
      · have e1' : decide (1 ≤ n) = true := by simp; omega
        by_cases b2 : f = n
        · have e2' : decide (f = n) = true := by simp [b2]
          have b2' : ((f : Int) != (n : Int)) = false := by simp [b2]
          clear b2
          by_cases b3 : bk < 0
          · have e3' : decide (0 ≤ bk) = false := by simp; omega
            clear HCONT
            first | (refine wpAnyH_take (i := 2) (v := undef) rfl (by kernel_rfl) (by kernel_rfl) (by kernel_rfl) (fun _ _ _ h => h) (Or.inr ⟨by rfl, rfl⟩) (by assumption) ?_) | (refine wpAnyH_take (i := 2) (v := ?v68) rfl (by kernel_rfl) (by kernel_rfl) (by kernel_rfl) (fun _ _ _ h => h) (Or.inl ⟨by rfl, ?hy68⟩) (by assumption) ?_; (case hy68 => (intro x hxx; obtain ⟨e0, e1, e2, e3, e4, e5⟩ := CC.out x hxx; go_simp; try with_reducible rfl)))
            change wpAnyH _ _ _ _ _ _ _ (Act.put _ (some 17) _) _
            simp only [Act.put, List.setIfInBounds_toArray, List.set_cons_zero, List.set_cons_succ]
            first | (refine wpAnyH_take (i := 3) (v := undef) rfl (by kernel_rfl) (by kernel_rfl) (by kernel_rfl) (fun _ _ _ h => h) (Or.inr ⟨by rfl, rfl⟩) (by assumption) ?_) | (refine wpAnyH_take (i := 3) (v := ?v69) rfl (by kernel_rfl) (by kernel_rfl) (by kernel_rfl) (fun _ _ _ h => h) (Or.inl ⟨by rfl, ?hy69⟩) (by assumption) ?_; (case hy69 => (intro x hxx; obtain ⟨e0, e1, e2, e3, e4, e5⟩ := CC.out x hxx; go_simp; try with_reducible rfl)))
            change wpAnyH _ _ _ _ _ _ _ (Act.put _ (some 18) _) _
            simp only [Act.put, List.setIfInBounds_toArray, List.set_cons_zero, List.set_cons_succ]
            first | (refine wpAnyH_take (i := 4) (v := undef) rfl (by kernel_rfl) (by kernel_rfl) (by kernel_rfl) (fun _ _ _ h => h) (Or.inr ⟨by rfl, rfl⟩) (by assumption) ?_) | (refine wpAnyH_take (i := 4) (v := ?v70) rfl (by kernel_rfl) (by kernel_rfl) (by kernel_rfl) (fun _ _ _ h => h) (Or.inl ⟨by rfl, ?hy70⟩) (by assumption) ?_; (case hy70 => (intro x hxx; obtain ⟨e0, e1, e2, e3, e4, e5⟩ := CC.out x hxx; go_simp; try with_reducible rfl)))
            change wpAnyH _ _ _ _ _ _ _ (Act.put _ (some 19) _) _
            simp only [Act.put, List.setIfInBounds_toArray, List.set_cons_zero, List.set_cons_succ]
            first | (refine wpAnyH_take (i := 5) (v := undef) rfl (by kernel_rfl) (by kernel_rfl) (by kernel_rfl) (fun _ _ _ h => h) (Or.inr ⟨by rfl, rfl⟩) (by assumption) ?_) | (refine wpAnyH_take (i := 5) (v := ?v71) rfl (by kernel_rfl) (by kernel_rfl) (by kernel_rfl) (fun _ _ _ h => h) (Or.inl ⟨by rfl, ?hy71⟩) (by assumption) ?_; (case hy71 => (intro x hxx; obtain ⟨e0, e1, e2, e3, e4, e5⟩ := CC.out x hxx; go_simp; try with_reducible rfl)))
            change wpAnyH _ _ _ _ _ _ _ (Act.put _ (some 20) _) _
            simp only [Act.put, List.setIfInBounds_toArray, List.set_cons_zero, List.set_cons_succ]
            first | (refine wpAnyH_take (i := 6) (v := undef) rfl (by kernel_rfl) (by kernel_rfl) (by kernel_rfl) (fun _ _ _ h => h) (Or.inr ⟨by rfl, rfl⟩) (by assumption) ?_) | (refine wpAnyH_take (i := 6) (v := ?v72) rfl (by kernel_rfl) (by kernel_rfl) (by kernel_rfl) (fun _ _ _ h => h) (Or.inl ⟨by rfl, ?hy72⟩) (by assumption) ?_; (case hy72 => (intro x hxx; obtain ⟨e0, e1, e2, e3, e4, e5⟩ := CC.out x hxx; go_simp; try with_reducible rfl)))
            change wpAnyH _ _ _ _ _ _ _ (Act.put _ (some 21) _) _
            simp only [Act.put, List.setIfInBounds_toArray, List.set_cons_zero, List.set_cons_succ]
            first | (refine wpAnyH_take (i := 7) (v := undef) rfl (by kernel_rfl) (by kernel_rfl) (by kernel_rfl) (fun _ _ _ h => h) (Or.inr ⟨by rfl, rfl⟩) (by assumption) ?_) | (refine wpAnyH_take (i := 7) (v := ?v73) rfl (by kernel_rfl) (by kernel_rfl) (by kernel_rfl) (fun _ _ _ h => h) (Or.inl ⟨by rfl, ?hy73⟩) (by assumption) ?_; (case hy73 => (intro x hxx; obtain ⟨e0, e1, e2, e3, e4, e5⟩ := CC.out x hxx; go_simp; try with_reducible rfl)))
            change wpAnyH _ _ _ _ _ _ _ (Act.put _ (some 22) _) _
            simp only [Act.put, List.setIfInBounds_toArray, List.set_cons_zero, List.set_cons_succ]
            first | (refine wpAnyH_take (i := 8) (v := undef) rfl (by kernel_rfl) (by kernel_rfl) (by kernel_rfl) (fun _ _ _ h => h) (Or.inr ⟨by rfl, rfl⟩) (by assumption) ?_) | (refine wpAnyH_take (i := 8) (v := ?v74) rfl (by kernel_rfl) (by kernel_rfl) (by kernel_rfl) (fun _ _ _ h => h) (Or.inl ⟨by rfl, ?hy74⟩) (by assumption) ?_; (case hy74 => (intro x hxx; obtain ⟨e0, e1, e2, e3, e4, e5⟩ := CC.out x hxx; go_simp; try with_reducible rfl)))
            change wpAnyH _ _ _ _ _ _ _ (Act.put _ (some 23) _) _
            simp only [Act.put, List.setIfInBounds_toArray, List.set_cons_zero, List.set_cons_succ]
            first | (refine wpAnyH_take (i := 9) (v := undef) rfl (by kernel_rfl) (by kernel_rfl) (by kernel_rfl) (fun _ _ _ h => h) (Or.inr ⟨by rfl, rfl⟩) (by assumption) ?_) | (refine wpAnyH_take (i := 9) (v := ?v75) rfl (by kernel_rfl) (by kernel_rfl) (by kernel_rfl) (fun _ _ _ h => h) (Or.inl ⟨by rfl, ?hy75⟩) (by assumption) ?_; (case hy75 => (intro x hxx; obtain ⟨e0, e1, e2, e3, e4, e5⟩ := CC.out x hxx; go_simp; try with_reducible rfl)))
            change wpAnyH _ _ _ _ _ _ _ (Act.put _ (some 24) _) _
            simp only [Act.put, List.setIfInBounds_toArray, List.set_cons_zero, List.set_cons_succ]
            first | (refine wpAnyH_take (i := 10) (v := undef) rfl (by kernel_rfl) (by kernel_rfl) (by kernel_rfl) (fun _ _ _ h => h) (Or.inr ⟨by rfl, rfl⟩) (by assumption) ?_) | (refine wpAnyH_take (i := 10) (v := ?v76) rfl (by kernel_rfl) (by kernel_rfl) (by kernel_rfl) (fun _ _ _ h => h) (Or.inl ⟨by rfl, ?hy76⟩) (by assumption) ?_; (case hy76 => (intro x hxx; obtain ⟨e0, e1, e2, e3, e4, e5⟩ := CC.out x hxx; go_simp; try with_reducible rfl)))
            change wpAnyH _ _ _ _ _ _ _ (Act.put _ (some 25) _) _
            simp only [Act.put, List.setIfInBounds_toArray, List.set_cons_zero, List.set_cons_succ]
            first | (refine wpAnyH_take (i := 11) (v := undef) rfl (by kernel_rfl) (by kernel_rfl) (by kernel_rfl) (fun _ _ _ h => h) (Or.inr ⟨by rfl, rfl⟩) (by assumption) ?_) | (refine wpAnyH_take (i := 11) (v := ?v77) rfl (by kernel_rfl) (by kernel_rfl) (by kernel_rfl) (fun _ _ _ h => h) (Or.inl ⟨by rfl, ?hy77⟩) (by assumption) ?_; (case hy77 => (intro x hxx; obtain ⟨e0, e1, e2, e3, e4, e5⟩ := CC.out x hxx; go_simp; try with_reducible rfl)))
            change wpAnyH _ _ _ _ _ _ _ (Act.put _ (some 26) _) _
            simp only [Act.put, List.setIfInBounds_toArray, List.set_cons_zero, List.set_cons_succ]
            first | (refine wpAnyH_take (i := 12) (v := undef) rfl (by kernel_rfl) (by kernel_rfl) (by kernel_rfl) (fun _ _ _ h => h) (Or.inr ⟨by rfl, rfl⟩) (by assumption) ?_) | (refine wpAnyH_take (i := 12) (v := ?v78) rfl (by kernel_rfl) (by kernel_rfl) (by kernel_rfl) (fun _ _ _ h => h) (Or.inl ⟨by rfl, ?hy78⟩) (by assumption) ?_; (case hy78 => (intro x hxx; obtain ⟨e0, e1, e2, e3, e4, e5⟩ := CC.out x hxx; go_simp; try with_reducible rfl)))
            change wpAnyH _ _ _ _ _ _ _ (Act.put _ (some 27) _) _
            simp only [Act.put, List.setIfInBounds_toArray, List.set_cons_zero, List.set_cons_succ]
            first | (refine wpAnyH_take (i := 13) (v := undef) rfl (by kernel_rfl) (by kernel_rfl) (by kernel_rfl) (fun _ _ _ h => h) (Or.inr ⟨by rfl, rfl⟩) (by assumption) ?_) | (refine wpAnyH_take (i := 13) (v := ?v79) rfl (by kernel_rfl) (by kernel_rfl) (by kernel_rfl) (fun _ _ _ h => h) (Or.inl ⟨by rfl, ?hy79⟩) (by assumption) ?_; (case hy79 => (intro x hxx; obtain ⟨e0, e1, e2, e3, e4, e5⟩ := CC.out x hxx; go_simp; try with_reducible rfl)))
            change wpAnyH _ _ _ _ _ _ _ (Act.put _ (some 28) _) _
            simp only [Act.put, List.setIfInBounds_toArray, List.set_cons_zero, List.set_cons_succ]
            first | (refine wpAnyH_take (i := 14) (v := undef) rfl (by kernel_rfl) (by kernel_rfl) (by kernel_rfl) (fun _ _ _ h => h) (Or.inr ⟨by rfl, rfl⟩) (by assumption) ?_) | (refine wpAnyH_take (i := 14) (v := ?v80) rfl (by kernel_rfl) (by kernel_rfl) (by kernel_rfl) (fun _ _ _ h => h) (Or.inl ⟨by rfl, ?hy80⟩) (by assumption) ?_; (case hy80 => (intro x hxx; obtain ⟨e0, e1, e2, e3, e4, e5⟩ := CC.out x hxx; go_simp; try with_reducible rfl)))
            change wpAnyH _ _ _ _ _ _ _ (Act.put _ (some 29) _) _
            simp only [Act.put, List.setIfInBounds_toArray, List.set_cons_zero, List.set_cons_succ]
            first | (refine wpAnyH_take (i := 15) (v := undef) rfl (by kernel_rfl) (by kernel_rfl) (by kernel_rfl) (fun _ _ _ h => h) (Or.inr ⟨by rfl, rfl⟩) (by assumption) ?_) | (refine wpAnyH_take (i := 15) (v := ?v81) rfl (by kernel_rfl) (by kernel_rfl) (by kernel_rfl) (fun _ _ _ h => h) (Or.inl ⟨by rfl, ?hy81⟩) (by assumption) ?_; (case hy81 => (intro x hxx; obtain ⟨e0, e1, e2, e3, e4, e5⟩ := CC.out x hxx; go_simp; try with_reducible rfl)))
            change wpAnyH _ _ _ _ _ _ _ (Act.put _ (some 30) _) _
            simp only [Act.put, List.setIfInBounds_toArray, List.set_cons_zero, List.set_cons_succ]
            first | (refine wpAnyH_take (i := 16) (v := undef) rfl (by kernel_rfl) (by kernel_rfl) (by kernel_rfl) (fun _ _ _ h => h) (Or.inr ⟨by rfl, rfl⟩) (by assumption) ?_) | (refine wpAnyH_take (i := 16) (v := ?v82) rfl (by kernel_rfl) (by kernel_rfl) (by kernel_rfl) (fun _ _ _ h => h) (Or.inl ⟨by rfl, ?hy82⟩) (by assumption) ?_; (case hy82 => (intro x hxx; obtain ⟨e0, e1, e2, e3, e4, e5⟩ := CC.out x hxx; go_simp; try with_reducible rfl)))
            change wpAnyH _ _ _ _ _ _ _ (Act.put _ (some 31) _) _
            simp only [Act.put, List.setIfInBounds_toArray, List.set_cons_zero, List.set_cons_succ]
            first | (refine wpAnyH_take (i := 17) (v := undef) rfl (by kernel_rfl) (by kernel_rfl) (by kernel_rfl) (fun _ _ _ h => h) (Or.inr ⟨by rfl, rfl⟩) (by assumption) ?_) | (refine wpAnyH_take (i := 17) (v := ?v83) rfl (by kernel_rfl) (by kernel_rfl) (by kernel_rfl) (fun _ _ _ h => h) (Or.inl ⟨by rfl, ?hy83⟩) (by assumption) ?_; (case hy83 => (intro x hxx; obtain ⟨e0, e1, e2, e3, e4, e5⟩ := CC.out x hxx; go_simp; try with_reducible rfl)))
            change wpAnyH _ _ _ _ _ _ _ (Act.put _ (some 32) _) _
            simp only [Act.put, List.setIfInBounds_toArray, List.set_cons_zero, List.set_cons_succ]
            first | (refine wpAnyH_take (i := 18) (v := undef) rfl (by kernel_rfl) (by kernel_rfl) (by kernel_rfl) (fun _ _ _ h => h) (Or.inr ⟨by rfl, rfl⟩) (by assumption) ?_) | (refine wpAnyH_take (i := 18) (v := ?v84) rfl (by kernel_rfl) (by kernel_rfl) (by kernel_rfl) (fun _ _ _ h => h) (Or.inl ⟨by rfl, ?hy84⟩) (by assumption) ?_; (case hy84 => (intro x hxx; obtain ⟨e0, e1, e2, e3, e4, e5⟩ := CC.out x hxx; go_simp; try with_reducible rfl)))
            change wpAnyH _ _ _ _ _ _ _ (Act.put _ (some 33) _) _
            simp only [Act.put, List.setIfInBounds_toArray, List.set_cons_zero, List.set_cons_succ]
            first | (refine wpAnyH_take (i := 19) (v := undef) rfl (by kernel_rfl) (by kernel_rfl) (by kernel_rfl) (fun _ _ _ h => h) (Or.inr ⟨by rfl, rfl⟩) (by assumption) ?_) | (refine wpAnyH_take (i := 19) (v := ?v85) rfl (by kernel_rfl) (by kernel_rfl) (by kernel_rfl) (fun _ _ _ h => h) (Or.inl ⟨by rfl, ?hy85⟩) (by assumption) ?_; (case hy85 => (intro x hxx; obtain ⟨e0, e1, e2, e3, e4, e5⟩ := CC.out x hxx; go_simp; try with_reducible rfl)))
            change wpAnyH _ _ _ _ _ _ _ (Act.put _ (some 34) _) _
            simp only [Act.put, List.setIfInBounds_toArray, List.set_cons_zero, List.set_cons_succ]
            first | (refine wpAnyH_take (i := 20) (v := undef) rfl (by kernel_rfl) (by kernel_rfl) (by kernel_rfl) (fun _ _ _ h => h) (Or.inr ⟨by rfl, rfl⟩) (by assumption) ?_) | (refine wpAnyH_take (i := 20) (v := ?v86) rfl (by kernel_rfl) (by kernel_rfl) (by kernel_rfl) (fun _ _ _ h => h) (Or.inl ⟨by rfl, ?hy86⟩) (by assumption) ?_; (case hy86 => (intro x hxx; obtain ⟨e0, e1, e2, e3, e4, e5⟩ := CC.out x hxx; go_simp; try with_reducible rfl)))
            change wpAnyH _ _ _ _ _ _ _ (Act.put _ (some 35) _) _
            simp only [Act.put, List.setIfInBounds_toArray, List.set_cons_zero, List.set_cons_succ]
            first | (refine wpAnyH_take (i := 21) (v := undef) rfl (by kernel_rfl) (by kernel_rfl) (by kernel_rfl) (fun _ _ _ h => h) (Or.inr ⟨by rfl, rfl⟩) (by assumption) ?_) | (refine wpAnyH_take (i := 21) (v := ?v87) rfl (by kernel_rfl) (by kernel_rfl) (by kernel_rfl) (fun _ _ _ h => h) (Or.inl ⟨by rfl, ?hy87⟩) (by assumption) ?_; (case hy87 => (intro x hxx; obtain ⟨e0, e1, e2, e3, e4, e5⟩ := CC.out x hxx; go_simp; try with_reducible rfl)))
            change wpAnyH _ _ _ _ _ _ _ (Act.put _ (some 36) _) _
            simp only [Act.put, List.setIfInBounds_toArray, List.set_cons_zero, List.set_cons_succ]
            first | (refine wpAnyH_take (i := 22) (v := undef) rfl (by kernel_rfl) (by kernel_rfl) (by kernel_rfl) (fun _ _ _ h => h) (Or.inr ⟨by rfl, rfl⟩) (by assumption) ?_) | (refine wpAnyH_take (i := 22) (v := ?v88) rfl (by kernel_rfl) (by kernel_rfl) (by kernel_rfl) (fun _ _ _ h => h) (Or.inl ⟨by rfl, ?hy88⟩) (by assumption) ?_; (case hy88 => (intro x hxx; obtain ⟨e0, e1, e2, e3, e4, e5⟩ := CC.out x hxx; go_simp; try with_reducible rfl)))
            change wpAnyH _ _ _ _ _ _ _ (Act.put _ (some 37) _) _
            simp only [Act.put, List.setIfInBounds_toArray, List.set_cons_zero, List.set_cons_succ]
            first | (refine wpAnyH_take (i := 23) (v := undef) rfl (by kernel_rfl) (by kernel_rfl) (by kernel_rfl) (fun _ _ _ h => h) (Or.inr ⟨by rfl, rfl⟩) (by assumption) ?_) | (refine wpAnyH_take (i := 23) (v := ?v89) rfl (by kernel_rfl) (by kernel_rfl) (by kernel_rfl) (fun _ _ _ h => h) (Or.inl ⟨by rfl, ?hy89⟩) (by assumption) ?_; (case hy89 => (intro x hxx; obtain ⟨e0, e1, e2, e3, e4, e5⟩ := CC.out x hxx; go_simp; try with_reducible rfl)))
            change wpAnyH _ _ _ _ _ _ _ (Act.put _ (some 38) _) _
            simp only [Act.put, List.setIfInBounds_toArray, List.set_cons_zero, List.set_cons_succ]
            first | (refine wpAnyH_take (i := 24) (v := undef) rfl (by kernel_rfl) (by kernel_rfl) (by kernel_rfl) (fun _ _ _ h => h) (Or.inr ⟨by rfl, rfl⟩) (by assumption) ?_) | (refine wpAnyH_take (i := 24) (v := ?v90) rfl (by kernel_rfl) (by kernel_rfl) (by kernel_rfl) (fun _ _ _ h => h) (Or.inl ⟨by rfl, ?hy90⟩) (by assumption) ?_; (case hy90 => (intro x hxx; obtain ⟨e0, e1, e2, e3, e4, e5⟩ := CC.out x hxx; go_simp; try with_reducible rfl)))
            change wpAnyH _ _ _ _ _ _ _ (Act.put _ (some 39) _) _
            simp only [Act.put, List.setIfInBounds_toArray, List.set_cons_zero, List.set_cons_succ]
            first | (refine wpAnyH_take (i := 25) (v := undef) rfl (by kernel_rfl) (by kernel_rfl) (by kernel_rfl) (fun _ _ _ h => h) (Or.inr ⟨by rfl, rfl⟩) (by assumption) ?_) | (refine wpAnyH_take (i := 25) (v := ?v91) rfl (by kernel_rfl) (by kernel_rfl) (by kernel_rfl) (fun _ _ _ h => h) (Or.inl ⟨by rfl, ?hy91⟩) (by assumption) ?_; (case hy91 => (intro x hxx; obtain ⟨e0, e1, e2, e3, e4, e5⟩ := CC.out x hxx; go_simp; try with_reducible rfl)))
            change wpAnyH _ _ _ _ _ _ _ (Act.put _ (some 40) _) _
            simp only [Act.put, List.setIfInBounds_toArray, List.set_cons_zero, List.set_cons_succ]
            first | (refine wpAnyH_take (i := 26) (v := undef) rfl (by kernel_rfl) (by kernel_rfl) (by kernel_rfl) (fun _ _ _ h => h) (Or.inr ⟨by rfl, rfl⟩) (by assumption) ?_) | (refine wpAnyH_take (i := 26) (v := ?v92) rfl (by kernel_rfl) (by kernel_rfl) (by kernel_rfl) (fun _ _ _ h => h) (Or.inl ⟨by rfl, ?hy92⟩) (by assumption) ?_; (case hy92 => (intro x hxx; obtain ⟨e0, e1, e2, e3, e4, e5⟩ := CC.out x hxx; go_simp; try with_reducible rfl)))
            change wpAnyH _ _ _ _ _ _ _ (Act.put _ (some 41) _) _
            simp only [Act.put, List.setIfInBounds_toArray, List.set_cons_zero, List.set_cons_succ]
            first | (refine wpAnyH_take (i := 27) (v := undef) rfl (by kernel_rfl) (by kernel_rfl) (by kernel_rfl) (fun _ _ _ h => h) (Or.inr ⟨by rfl, rfl⟩) (by assumption) ?_) | (refine wpAnyH_take (i := 27) (v := ?v93) rfl (by kernel_rfl) (by kernel_rfl) (by kernel_rfl) (fun _ _ _ h => h) (Or.inl ⟨by rfl, ?hy93⟩) (by assumption) ?_; (case hy93 => (intro x hxx; obtain ⟨e0, e1, e2, e3, e4, e5⟩ := CC.out x hxx; go_simp; try with_reducible rfl)))
            change wpAnyH _ _ _ _ _ _ _ (Act.put _ (some 42) _) _
            simp only [Act.put, List.setIfInBounds_toArray, List.set_cons_zero, List.set_cons_succ]
            first | (refine wpAnyH_take (i := 28) (v := undef) rfl (by kernel_rfl) (by kernel_rfl) (by kernel_rfl) (fun _ _ _ h => h) (Or.inr ⟨by rfl, rfl⟩) (by assumption) ?_) | (refine wpAnyH_take (i := 28) (v := ?v94) rfl (by kernel_rfl) (by kernel_rfl) (by kernel_rfl) (fun _ _ _ h => h) (Or.inl ⟨by rfl, ?hy94⟩) (by assumption) ?_; (case hy94 => (intro x hxx; obtain ⟨e0, e1, e2, e3, e4, e5⟩ := CC.out x hxx; go_simp; try with_reducible rfl)))
            change wpAnyH _ _ _ _ _ _ _ (Act.put _ (some 43) _) _
            simp only [Act.put, List.setIfInBounds_toArray, List.set_cons_zero, List.set_cons_succ]
            first | (refine wpAnyH_take (i := 29) (v := undef) rfl (by kernel_rfl) (by kernel_rfl) (by kernel_rfl) (fun _ _ _ h => h) (Or.inr ⟨by rfl, rfl⟩) (by assumption) ?_) | (refine wpAnyH_take (i := 29) (v := ?v95) rfl (by kernel_rfl) (by kernel_rfl) (by kernel_rfl) (fun _ _ _ h => h) (Or.inl ⟨by rfl, ?hy95⟩) (by assumption) ?_; (case hy95 => (intro x hxx; obtain ⟨e0, e1, e2, e3, e4, e5⟩ := CC.out x hxx; go_simp; try with_reducible rfl)))
            change wpAnyH _ _ _ _ _ _ _ (Act.put _ (some 44) _) _
            simp only [Act.put, List.setIfInBounds_toArray, List.set_cons_zero, List.set_cons_succ]
            first | (refine wpAnyH_take (i := 30) (v := undef) rfl (by kernel_rfl) (by kernel_rfl) (by kernel_rfl) (fun _ _ _ h => h) (Or.inr ⟨by rfl, rfl⟩) (by assumption) ?_) | (refine wpAnyH_take (i := 30) (v := ?v96) rfl (by kernel_rfl) (by kernel_rfl) (by kernel_rfl) (fun _ _ _ h => h) (Or.inl ⟨by rfl, ?hy96⟩) (by assumption) ?_; (case hy96 => (intro x hxx; obtain ⟨e0, e1, e2, e3, e4, e5⟩ := CC.out x hxx; go_simp; try with_reducible rfl)))
            change wpAnyH _ _ _ _ _ _ _ (Act.put _ (some 45) _) _
            simp only [Act.put, List.setIfInBounds_toArray, List.set_cons_zero, List.set_cons_succ]
            first | (refine wpAnyH_take (i := 31) (v := undef) rfl (by kernel_rfl) (by kernel_rfl) (by kernel_rfl) (fun _ _ _ h => h) (Or.inr ⟨by rfl, rfl⟩) (by assumption) ?_) | (refine wpAnyH_take (i := 31) (v := ?v97) rfl (by kernel_rfl) (by kernel_rfl) (by kernel_rfl) (fun _ _ _ h => h) (Or.inl ⟨by rfl, ?hy97⟩) (by assumption) ?_; (case hy97 => (intro x hxx; obtain ⟨e0, e1, e2, e3, e4, e5⟩ := CC.out x hxx; go_simp; try with_reducible rfl)))
            change wpAnyH _ _ _ _ _ _ _ (Act.put _ (some 46) _) _
            simp only [Act.put, List.setIfInBounds_toArray, List.set_cons_zero, List.set_cons_succ]
            first | (refine wpAnyH_take (i := 32) (v := undef) rfl (by kernel_rfl) (by kernel_rfl) (by kernel_rfl) (fun _ _ _ h => h) (Or.inr ⟨by rfl, rfl⟩) (by assumption) ?_) | (refine wpAnyH_take (i := 32) (v := ?v98) rfl (by kernel_rfl) (by kernel_rfl) (by kernel_rfl) (fun _ _ _ h => h) (Or.inl ⟨by rfl, ?hy98⟩) (by assumption) ?_; (case hy98 => (intro x hxx; obtain ⟨e0, e1, e2, e3, e4, e5⟩ := CC.out x hxx; go_simp; try with_reducible rfl)))
            change wpAnyH _ _ _ _ _ _ _ (Act.put _ (some 47) _) _
            simp only [Act.put, List.setIfInBounds_toArray, List.set_cons_zero, List.set_cons_succ]
            first | (refine wpAnyH_take (i := 33) (v := undef) rfl (by kernel_rfl) (by kernel_rfl) (by kernel_rfl) (fun _ _ _ h => h) (Or.inr ⟨by rfl, rfl⟩) (by assumption) ?_) | (refine wpAnyH_take (i := 33) (v := ?v99) rfl (by kernel_rfl) (by kernel_rfl) (by kernel_rfl) (fun _ _ _ h => h) (Or.inl ⟨by rfl, ?hy99⟩) (by assumption) ?_; (case hy99 => (intro x hxx; obtain ⟨e0, e1, e2, e3, e4, e5⟩ := CC.out x hxx; go_simp; try with_reducible rfl)))
            change wpAnyH _ _ _ _ _ _ _ (Act.put _ (some 48) _) _
            simp only [Act.put, List.setIfInBounds_toArray, List.set_cons_zero, List.set_cons_succ]
            first | (refine wpAnyH_take (i := 34) (v := undef) rfl (by kernel_rfl) (by kernel_rfl) (by kernel_rfl) (fun _ _ _ h => h) (Or.inr ⟨by rfl, rfl⟩) (by assumption) ?_) | (refine wpAnyH_take (i := 34) (v := ?v100) rfl (by kernel_rfl) (by kernel_rfl) (by kernel_rfl) (fun _ _ _ h => h) (Or.inl ⟨by rfl, ?hy100⟩) (by assumption) ?_; (case hy100 => (intro x hxx; obtain ⟨e0, e1, e2, e3, e4, e5⟩ := CC.out x hxx; go_simp; try with_reducible rfl)))
            change wpAnyH _ _ _ _ _ _ _ (Act.put _ (some 49) _) _
            simp only [Act.put, List.setIfInBounds_toArray, List.set_cons_zero, List.set_cons_succ]
            refine wpAnyH_done (by kernel_rfl) ?_ _
            refine NoPanic.normal ?_
            have HD1 := Lib.hid hH1
            clear hH1
            go_wp2_with fail
            go_meet
            case rel => exact ⟨by rw [show hd = false from by rw [HHD.out, HHEAD.out, e1', e2', e3']; simp]; rfl, HD1.out⟩
          · have e3' : decide (0 ≤ bk) = true := by simp; omega
            by_cases b4 : (n : Int) ≤ bk
            · have e4' : decide (bk < (n : Int)) = false := by simp; omega
              have b4' : bk ≥ (n : Int) := b4
              clear HCONT
              first | (refine wpAnyH_take (i := 2) (v := undef) rfl (by kernel_rfl) (by kernel_rfl) (by kernel_rfl) (fun _ _ _ h => h) (Or.inr ⟨by rfl, rfl⟩) (by assumption) ?_) | (refine wpAnyH_take (i := 2) (v := ?v101) rfl (by kernel_rfl) (by kernel_rfl) (by kernel_rfl) (fun _ _ _ h => h) (Or.inl ⟨by rfl, ?hy101⟩) (by assumption) ?_; (case hy101 => (intro x hxx; obtain ⟨e0, e1, e2, e3, e4, e5⟩ := CC.out x hxx; go_simp; try with_reducible rfl)))
              change wpAnyH _ _ _ _ _ _ _ (Act.put _ (some 17) _) _
              simp only [Act.put, List.setIfInBounds_toArray, List.set_cons_zero, List.set_cons_succ]
              first | (refine wpAnyH_take (i := 3) (v := undef) rfl (by kernel_rfl) (by kernel_rfl) (by kernel_rfl) (fun _ _ _ h => h) (Or.inr ⟨by rfl, rfl⟩) (by assumption) ?_) | (refine wpAnyH_take (i := 3) (v := ?v102) rfl (by kernel_rfl) (by kernel_rfl) (by kernel_rfl) (fun _ _ _ h => h) (Or.inl ⟨by rfl, ?hy102⟩) (by assumption) ?_; (case hy102 => (intro x hxx; obtain ⟨e0, e1, e2, e3, e4, e5⟩ := CC.out x hxx; go_simp; try with_reducible rfl)))
              change wpAnyH _ _ _ _ _ _ _ (Act.put _ (some 18) _) _
              simp only [Act.put, List.setIfInBounds_toArray, List.set_cons_zero, List.set_cons_succ]
              first | (refine wpAnyH_take (i := 4) (v := undef) rfl (by kernel_rfl) (by kernel_rfl) (by kernel_rfl) (fun _ _ _ h => h) (Or.inr ⟨by rfl, rfl⟩) (by assumption) ?_) | (refine wpAnyH_take (i := 4) (v := ?v103) rfl (by kernel_rfl) (by kernel_rfl) (by kernel_rfl) (fun _ _ _ h => h) (Or.inl ⟨by rfl, ?hy103⟩) (by assumption) ?_; (case hy103 => (intro x hxx; obtain ⟨e0, e1, e2, e3, e4, e5⟩ := CC.out x hxx; go_simp; try with_reducible rfl)))
              change wpAnyH _ _ _ _ _ _ _ (Act.put _ (some 19) _) _
              simp only [Act.put, List.setIfInBounds_toArray, List.set_cons_zero, List.set_cons_succ]
              first | (refine wpAnyH_take (i := 5) (v := undef) rfl (by kernel_rfl) (by kernel_rfl) (by kernel_rfl) (fun _ _ _ h => h) (Or.inr ⟨by rfl, rfl⟩) (by assumption) ?_) | (refine wpAnyH_take (i := 5) (v := ?v104) rfl (by kernel_rfl) (by kernel_rfl) (by kernel_rfl) (fun _ _ _ h => h) (Or.inl ⟨by rfl, ?hy104⟩) (by assumption) ?_; (case hy104 => (intro x hxx; obtain ⟨e0, e1, e2, e3, e4, e5⟩ := CC.out x hxx; go_simp; try with_reducible rfl)))
              change wpAnyH _ _ _ _ _ _ _ (Act.put _ (some 20) _) _
              simp only [Act.put, List.setIfInBounds_toArray, List.set_cons_zero, List.set_cons_succ]
              first | (refine wpAnyH_take (i := 6) (v := undef) rfl (by kernel_rfl) (by kernel_rfl) (by kernel_rfl) (fun _ _ _ h => h) (Or.inr ⟨by rfl, rfl⟩) (by assumption) ?_) | (refine wpAnyH_take (i := 6) (v := ?v105) rfl (by kernel_rfl) (by kernel_rfl) (by kernel_rfl) (fun _ _ _ h => h) (Or.inl ⟨by rfl, ?hy105⟩) (by assumption) ?_; (case hy105 => (intro x hxx; obtain ⟨e0, e1, e2, e3, e4, e5⟩ := CC.out x hxx; go_simp; try with_reducible rfl)))
              change wpAnyH _ _ _ _ _ _ _ (Act.put _ (some 21) _) _
              simp only [Act.put, List.setIfInBounds_toArray, List.set_cons_zero, List.set_cons_succ]
              first | (refine wpAnyH_take (i := 7) (v := undef) rfl (by kernel_rfl) (by kernel_rfl) (by kernel_rfl) (fun _ _ _ h => h) (Or.inr ⟨by rfl, rfl⟩) (by assumption) ?_) | (refine wpAnyH_take (i := 7) (v := ?v106) rfl (by kernel_rfl) (by kernel_rfl) (by kernel_rfl) (fun _ _ _ h => h) (Or.inl ⟨by rfl, ?hy106⟩) (by assumption) ?_; (case hy106 => (intro x hxx; obtain ⟨e0, e1, e2, e3, e4, e5⟩ := CC.out x hxx; go_simp; try with_reducible rfl)))
              change wpAnyH _ _ _ _ _ _ _ (Act.put _ (some 22) _) _
              simp only [Act.put, List.setIfInBounds_toArray, List.set_cons_zero, List.set_cons_succ]
              first | (refine wpAnyH_take (i := 8) (v := undef) rfl (by kernel_rfl) (by kernel_rfl) (by kernel_rfl) (fun _ _ _ h => h) (Or.inr ⟨by rfl, rfl⟩) (by assumption) ?_) | (refine wpAnyH_take (i := 8) (v := ?v107) rfl (by kernel_rfl) (by kernel_rfl) (by kernel_rfl) (fun _ _ _ h => h) (Or.inl ⟨by rfl, ?hy107⟩) (by assumption) ?_; (case hy107 => (intro x hxx; obtain ⟨e0, e1, e2, e3, e4, e5⟩ := CC.out x hxx; go_simp; try with_reducible rfl)))
              change wpAnyH _ _ _ _ _ _ _ (Act.put _ (some 23) _) _
              simp only [Act.put, List.setIfInBounds_toArray, List.set_cons_zero, List.set_cons_succ]
              first | (refine wpAnyH_take (i := 9) (v := undef) rfl (by kernel_rfl) (by kernel_rfl) (by kernel_rfl) (fun _ _ _ h => h) (Or.inr ⟨by rfl, rfl⟩) (by assumption) ?_) | (refine wpAnyH_take (i := 9) (v := ?v108) rfl (by kernel_rfl) (by kernel_rfl) (by kernel_rfl) (fun _ _ _ h => h) (Or.inl ⟨by rfl, ?hy108⟩) (by assumption) ?_; (case hy108 => (intro x hxx; obtain ⟨e0, e1, e2, e3, e4, e5⟩ := CC.out x hxx; go_simp; try with_reducible rfl)))
              change wpAnyH _ _ _ _ _ _ _ (Act.put _ (some 24) _) _
              simp only [Act.put, List.setIfInBounds_toArray, List.set_cons_zero, List.set_cons_succ]
              first | (refine wpAnyH_take (i := 10) (v := undef) rfl (by kernel_rfl) (by kernel_rfl) (by kernel_rfl) (fun _ _ _ h => h) (Or.inr ⟨by rfl, rfl⟩) (by assumption) ?_) | (refine wpAnyH_take (i := 10) (v := ?v109) rfl (by kernel_rfl) (by kernel_rfl) (by kernel_rfl) (fun _ _ _ h => h) (Or.inl ⟨by rfl, ?hy109⟩) (by assumption) ?_; (case hy109 => (intro x hxx; obtain ⟨e0, e1, e2, e3, e4, e5⟩ := CC.out x hxx; go_simp; try with_reducible rfl)))
              change wpAnyH _ _ _ _ _ _ _ (Act.put _ (some 25) _) _
              simp only [Act.put, List.setIfInBounds_toArray, List.set_cons_zero, List.set_cons_succ]
              first | (refine wpAnyH_take (i := 11) (v := undef) rfl (by kernel_rfl) (by kernel_rfl) (by kernel_rfl) (fun _ _ _ h => h) (Or.inr ⟨by rfl, rfl⟩) (by assumption) ?_) | (refine wpAnyH_take (i := 11) (v := ?v110) rfl (by kernel_rfl) (by kernel_rfl) (by kernel_rfl) (fun _ _ _ h => h) (Or.inl ⟨by rfl, ?hy110⟩) (by assumption) ?_; (case hy110 => (intro x hxx; obtain ⟨e0, e1, e2, e3, e4, e5⟩ := CC.out x hxx; go_simp; try with_reducible rfl)))
              change wpAnyH _ _ _ _ _ _ _ (Act.put _ (some 26) _) _
              simp only [Act.put, List.setIfInBounds_toArray, List.set_cons_zero, List.set_cons_succ]
              first | (refine wpAnyH_take (i := 12) (v := undef) rfl (by kernel_rfl) (by kernel_rfl) (by kernel_rfl) (fun _ _ _ h => h) (Or.inr ⟨by rfl, rfl⟩) (by assumption) ?_) | (refine wpAnyH_take (i := 12) (v := ?v111) rfl (by kernel_rfl) (by kernel_rfl) (by kernel_rfl) (fun _ _ _ h => h) (Or.inl ⟨by rfl, ?hy111⟩) (by assumption) ?_; (case hy111 => (intro x hxx; obtain ⟨e0, e1, e2, e3, e4, e5⟩ := CC.out x hxx; go_simp; try with_reducible rfl)))
              change wpAnyH _ _ _ _ _ _ _ (Act.put _ (some 27) _) _
              simp only [Act.put, List.setIfInBounds_toArray, List.set_cons_zero, List.set_cons_succ]
              first | (refine wpAnyH_take (i := 13) (v := undef) rfl (by kernel_rfl) (by kernel_rfl) (by kernel_rfl) (fun _ _ _ h => h) (Or.inr ⟨by rfl, rfl⟩) (by assumption) ?_) | (refine wpAnyH_take (i := 13) (v := ?v112) rfl (by kernel_rfl) (by kernel_rfl) (by kernel_rfl) (fun _ _ _ h => h) (Or.inl ⟨by rfl, ?hy112⟩) (by assumption) ?_; (case hy112 => (intro x hxx; obtain ⟨e0, e1, e2, e3, e4, e5⟩ := CC.out x hxx; go_simp; try with_reducible rfl)))
              change wpAnyH _ _ _ _ _ _ _ (Act.put _ (some 28) _) _
              simp only [Act.put, List.setIfInBounds_toArray, List.set_cons_zero, List.set_cons_succ]
              first | (refine wpAnyH_take (i := 14) (v := undef) rfl (by kernel_rfl) (by kernel_rfl) (by kernel_rfl) (fun _ _ _ h => h) (Or.inr ⟨by rfl, rfl⟩) (by assumption) ?_) | (refine wpAnyH_take (i := 14) (v := ?v113) rfl (by kernel_rfl) (by kernel_rfl) (by kernel_rfl) (fun _ _ _ h => h) (Or.inl ⟨by rfl, ?hy113⟩) (by assumption) ?_; (case hy113 => (intro x hxx; obtain ⟨e0, e1, e2, e3, e4, e5⟩ := CC.out x hxx; go_simp; try with_reducible rfl)))
              change wpAnyH _ _ _ _ _ _ _ (Act.put _ (some 29) _) _
              simp only [Act.put, List.setIfInBounds_toArray, List.set_cons_zero, List.set_cons_succ]
              first | (refine wpAnyH_take (i := 15) (v := undef) rfl (by kernel_rfl) (by kernel_rfl) (by kernel_rfl) (fun _ _ _ h => h) (Or.inr ⟨by rfl, rfl⟩) (by assumption) ?_) | (refine wpAnyH_take (i := 15) (v := ?v114) rfl (by kernel_rfl) (by kernel_rfl) (by kernel_rfl) (fun _ _ _ h => h) (Or.inl ⟨by rfl, ?hy114⟩) (by assumption) ?_; (case hy114 => (intro x hxx; obtain ⟨e0, e1, e2, e3, e4, e5⟩ := CC.out x hxx; go_simp; try with_reducible rfl)))
              change wpAnyH _ _ _ _ _ _ _ (Act.put _ (some 30) _) _
              simp only [Act.put, List.setIfInBounds_toArray, List.set_cons_zero, List.set_cons_succ]
              first | (refine wpAnyH_take (i := 16) (v := undef) rfl (by kernel_rfl) (by kernel_rfl) (by kernel_rfl) (fun _ _ _ h => h) (Or.inr ⟨by rfl, rfl⟩) (by assumption) ?_) | (refine wpAnyH_take (i := 16) (v := ?v115) rfl (by kernel_rfl) (by kernel_rfl) (by kernel_rfl) (fun _ _ _ h => h) (Or.inl ⟨by rfl, ?hy115⟩) (by assumption) ?_; (case hy115 => (intro x hxx; obtain ⟨e0, e1, e2, e3, e4, e5⟩ := CC.out x hxx; go_simp; try with_reducible rfl)))
              change wpAnyH _ _ _ _ _ _ _ (Act.put _ (some 31) _) _
              simp only [Act.put, List.setIfInBounds_toArray, List.set_cons_zero, List.set_cons_succ]
              first | (refine wpAnyH_take (i := 17) (v := undef) rfl (by kernel_rfl) (by kernel_rfl) (by kernel_rfl) (fun _ _ _ h => h) (Or.inr ⟨by rfl, rfl⟩) (by assumption) ?_) | (refine wpAnyH_take (i := 17) (v := ?v116) rfl (by kernel_rfl) (by kernel_rfl) (by kernel_rfl) (fun _ _ _ h => h) (Or.inl ⟨by rfl, ?hy116⟩) (by assumption) ?_; (case hy116 => (intro x hxx; obtain ⟨e0, e1, e2, e3, e4, e5⟩ := CC.out x hxx; go_simp; try with_reducible rfl)))
              change wpAnyH _ _ _ _ _ _ _ (Act.put _ (some 32) _) _
              simp only [Act.put, List.setIfInBounds_toArray, List.set_cons_zero, List.set_cons_succ]
              first | (refine wpAnyH_take (i := 18) (v := undef) rfl (by kernel_rfl) (by kernel_rfl) (by kernel_rfl) (fun _ _ _ h => h) (Or.inr ⟨by rfl, rfl⟩) (by assumption) ?_) | (refine wpAnyH_take (i := 18) (v := ?v117) rfl (by kernel_rfl) (by kernel_rfl) (by kernel_rfl) (fun _ _ _ h => h) (Or.inl ⟨by rfl, ?hy117⟩) (by assumption) ?_; (case hy117 => (intro x hxx; obtain ⟨e0, e1, e2, e3, e4, e5⟩ := CC.out x hxx; go_simp; try with_reducible rfl)))
              change wpAnyH _ _ _ _ _ _ _ (Act.put _ (some 33) _) _
              simp only [Act.put, List.setIfInBounds_toArray, List.set_cons_zero, List.set_cons_succ]
              first | (refine wpAnyH_take (i := 19) (v := undef) rfl (by kernel_rfl) (by kernel_rfl) (by kernel_rfl) (fun _ _ _ h => h) (Or.inr ⟨by rfl, rfl⟩) (by assumption) ?_) | (refine wpAnyH_take (i := 19) (v := ?v118) rfl (by kernel_rfl) (by kernel_rfl) (by kernel_rfl) (fun _ _ _ h => h) (Or.inl ⟨by rfl, ?hy118⟩) (by assumption) ?_; (case hy118 => (intro x hxx; obtain ⟨e0, e1, e2, e3, e4, e5⟩ := CC.out x hxx; go_simp; try with_reducible rfl)))
              change wpAnyH _ _ _ _ _ _ _ (Act.put _ (some 34) _) _
              simp only [Act.put, List.setIfInBounds_toArray, List.set_cons_zero, List.set_cons_succ]
              first | (refine wpAnyH_take (i := 20) (v := undef) rfl (by kernel_rfl) (by kernel_rfl) (by kernel_rfl) (fun _ _ _ h => h) (Or.inr ⟨by rfl, rfl⟩) (by assumption) ?_) | (refine wpAnyH_take (i := 20) (v := ?v119) rfl (by kernel_rfl) (by kernel_rfl) (by kernel_rfl) (fun _ _ _ h => h) (Or.inl ⟨by rfl, ?hy119⟩) (by assumption) ?_; (case hy119 => (intro x hxx; obtain ⟨e0, e1, e2, e3, e4, e5⟩ := CC.out x hxx; go_simp; try with_reducible rfl)))
              change wpAnyH _ _ _ _ _ _ _ (Act.put _ (some 35) _) _
              simp only [Act.put, List.setIfInBounds_toArray, List.set_cons_zero, List.set_cons_succ]
              first | (refine wpAnyH_take (i := 21) (v := undef) rfl (by kernel_rfl) (by kernel_rfl) (by kernel_rfl) (fun _ _ _ h => h) (Or.inr ⟨by rfl, rfl⟩) (by assumption) ?_) | (refine wpAnyH_take (i := 21) (v := ?v120) rfl (by kernel_rfl) (by kernel_rfl) (by kernel_rfl) (fun _ _ _ h => h) (Or.inl ⟨by rfl, ?hy120⟩) (by assumption) ?_; (case hy120 => (intro x hxx; obtain ⟨e0, e1, e2, e3, e4, e5⟩ := CC.out x hxx; go_simp; try with_reducible rfl)))
              change wpAnyH _ _ _ _ _ _ _ (Act.put _ (some 36) _) _
              simp only [Act.put, List.setIfInBounds_toArray, List.set_cons_zero, List.set_cons_succ]
              first | (refine wpAnyH_take (i := 22) (v := undef) rfl (by kernel_rfl) (by kernel_rfl) (by kernel_rfl) (fun _ _ _ h => h) (Or.inr ⟨by rfl, rfl⟩) (by assumption) ?_) | (refine wpAnyH_take (i := 22) (v := ?v121) rfl (by kernel_rfl) (by kernel_rfl) (by kernel_rfl) (fun _ _ _ h => h) (Or.inl ⟨by rfl, ?hy121⟩) (by assumption) ?_; (case hy121 => (intro x hxx; obtain ⟨e0, e1, e2, e3, e4, e5⟩ := CC.out x hxx; go_simp; try with_reducible rfl)))
              change wpAnyH _ _ _ _ _ _ _ (Act.put _ (some 37) _) _
              simp only [Act.put, List.setIfInBounds_toArray, List.set_cons_zero, List.set_cons_succ]
              first | (refine wpAnyH_take (i := 23) (v := undef) rfl (by kernel_rfl) (by kernel_rfl) (by kernel_rfl) (fun _ _ _ h => h) (Or.inr ⟨by rfl, rfl⟩) (by assumption) ?_) | (refine wpAnyH_take (i := 23) (v := ?v122) rfl (by kernel_rfl) (by kernel_rfl) (by kernel_rfl) (fun _ _ _ h => h) (Or.inl ⟨by rfl, ?hy122⟩) (by assumption) ?_; (case hy122 => (intro x hxx; obtain ⟨e0, e1, e2, e3, e4, e5⟩ := CC.out x hxx; go_simp; try with_reducible rfl)))
              change wpAnyH _ _ _ _ _ _ _ (Act.put _ (some 38) _) _
              simp only [Act.put, List.setIfInBounds_toArray, List.set_cons_zero, List.set_cons_succ]
              first | (refine wpAnyH_take (i := 24) (v := undef) rfl (by kernel_rfl) (by kernel_rfl) (by kernel_rfl) (fun _ _ _ h => h) (Or.inr ⟨by rfl, rfl⟩) (by assumption) ?_) | (refine wpAnyH_take (i := 24) (v := ?v123) rfl (by kernel_rfl) (by kernel_rfl) (by kernel_rfl) (fun _ _ _ h => h) (Or.inl ⟨by rfl, ?hy123⟩) (by assumption) ?_; (case hy123 => (intro x hxx; obtain ⟨e0, e1, e2, e3, e4, e5⟩ := CC.out x hxx; go_simp; try with_reducible rfl)))
              change wpAnyH _ _ _ _ _ _ _ (Act.put _ (some 39) _) _
              simp only [Act.put, List.setIfInBounds_toArray, List.set_cons_zero, List.set_cons_succ]
              first | (refine wpAnyH_take (i := 25) (v := undef) rfl (by kernel_rfl) (by kernel_rfl) (by kernel_rfl) (fun _ _ _ h => h) (Or.inr ⟨by rfl, rfl⟩) (by assumption) ?_) | (refine wpAnyH_take (i := 25) (v := ?v124) rfl (by kernel_rfl) (by kernel_rfl) (by kernel_rfl) (fun _ _ _ h => h) (Or.inl ⟨by rfl, ?hy124⟩) (by assumption) ?_; (case hy124 => (intro x hxx; obtain ⟨e0, e1, e2, e3, e4, e5⟩ := CC.out x hxx; go_simp; try with_reducible rfl)))
              change wpAnyH _ _ _ _ _ _ _ (Act.put _ (some 40) _) _
              simp only [Act.put, List.setIfInBounds_toArray, List.set_cons_zero, List.set_cons_succ]
              first | (refine wpAnyH_take (i := 26) (v := undef) rfl (by kernel_rfl) (by kernel_rfl) (by kernel_rfl) (fun _ _ _ h => h) (Or.inr ⟨by rfl, rfl⟩) (by assumption) ?_) | (refine wpAnyH_take (i := 26) (v := ?v125) rfl (by kernel_rfl) (by kernel_rfl) (by kernel_rfl) (fun _ _ _ h => h) (Or.inl ⟨by rfl, ?hy125⟩) (by assumption) ?_; (case hy125 => (intro x hxx; obtain ⟨e0, e1, e2, e3, e4, e5⟩ := CC.out x hxx; go_simp; try with_reducible rfl)))
              change wpAnyH _ _ _ _ _ _ _ (Act.put _ (some 41) _) _
              simp only [Act.put, List.setIfInBounds_toArray, List.set_cons_zero, List.set_cons_succ]
              first | (refine wpAnyH_take (i := 27) (v := undef) rfl (by kernel_rfl) (by kernel_rfl) (by kernel_rfl) (fun _ _ _ h => h) (Or.inr ⟨by rfl, rfl⟩) (by assumption) ?_) | (refine wpAnyH_take (i := 27) (v := ?v126) rfl (by kernel_rfl) (by kernel_rfl) (by kernel_rfl) (fun _ _ _ h => h) (Or.inl ⟨by rfl, ?hy126⟩) (by assumption) ?_; (case hy126 => (intro x hxx; obtain ⟨e0, e1, e2, e3, e4, e5⟩ := CC.out x hxx; go_simp; try with_reducible rfl)))
              change wpAnyH _ _ _ _ _ _ _ (Act.put _ (some 42) _) _
              simp only [Act.put, List.setIfInBounds_toArray, List.set_cons_zero, List.set_cons_succ]
              first | (refine wpAnyH_take (i := 28) (v := undef) rfl (by kernel_rfl) (by kernel_rfl) (by kernel_rfl) (fun _ _ _ h => h) (Or.inr ⟨by rfl, rfl⟩) (by assumption) ?_) | (refine wpAnyH_take (i := 28) (v := ?v127) rfl (by kernel_rfl) (by kernel_rfl) (by kernel_rfl) (fun _ _ _ h => h) (Or.inl ⟨by rfl, ?hy127⟩) (by assumption) ?_; (case hy127 => (intro x hxx; obtain ⟨e0, e1, e2, e3, e4, e5⟩ := CC.out x hxx; go_simp; try with_reducible rfl)))
              change wpAnyH _ _ _ _ _ _ _ (Act.put _ (some 43) _) _
              simp only [Act.put, List.setIfInBounds_toArray, List.set_cons_zero, List.set_cons_succ]
              first | (refine wpAnyH_take (i := 29) (v := undef) rfl (by kernel_rfl) (by kernel_rfl) (by kernel_rfl) (fun _ _ _ h => h) (Or.inr ⟨by rfl, rfl⟩) (by assumption) ?_) | (refine wpAnyH_take (i := 29) (v := ?v128) rfl (by kernel_rfl) (by kernel_rfl) (by kernel_rfl) (fun _ _ _ h => h) (Or.inl ⟨by rfl, ?hy128⟩) (by assumption) ?_; (case hy128 => (intro x hxx; obtain ⟨e0, e1, e2, e3, e4, e5⟩ := CC.out x hxx; go_simp; try with_reducible rfl)))
              change wpAnyH _ _ _ _ _ _ _ (Act.put _ (some 44) _) _
              simp only [Act.put, List.setIfInBounds_toArray, List.set_cons_zero, List.set_cons_succ]
              first | (refine wpAnyH_take (i := 30) (v := undef) rfl (by kernel_rfl) (by kernel_rfl) (by kernel_rfl) (fun _ _ _ h => h) (Or.inr ⟨by rfl, rfl⟩) (by assumption) ?_) | (refine wpAnyH_take (i := 30) (v := ?v129) rfl (by kernel_rfl) (by kernel_rfl) (by kernel_rfl) (fun _ _ _ h => h) (Or.inl ⟨by rfl, ?hy129⟩) (by assumption) ?_; (case hy129 => (intro x hxx; obtain ⟨e0, e1, e2, e3, e4, e5⟩ := CC.out x hxx; go_simp; try with_reducible rfl)))
              change wpAnyH _ _ _ _ _ _ _ (Act.put _ (some 45) _) _
              simp only [Act.put, List.setIfInBounds_toArray, List.set_cons_zero, List.set_cons_succ]
              first | (refine wpAnyH_take (i := 31) (v := undef) rfl (by kernel_rfl) (by kernel_rfl) (by kernel_rfl) (fun _ _ _ h => h) (Or.inr ⟨by rfl, rfl⟩) (by assumption) ?_) | (refine wpAnyH_take (i := 31) (v := ?v130) rfl (by kernel_rfl) (by kernel_rfl) (by kernel_rfl) (fun _ _ _ h => h) (Or.inl ⟨by rfl, ?hy130⟩) (by assumption) ?_; (case hy130 => (intro x hxx; obtain ⟨e0, e1, e2, e3, e4, e5⟩ := CC.out x hxx; go_simp; try with_reducible rfl)))
              change wpAnyH _ _ _ _ _ _ _ (Act.put _ (some 46) _) _
              simp only [Act.put, List.setIfInBounds_toArray, List.set_cons_zero, List.set_cons_succ]
              first | (refine wpAnyH_take (i := 32) (v := undef) rfl (by kernel_rfl) (by kernel_rfl) (by kernel_rfl) (fun _ _ _ h => h) (Or.inr ⟨by rfl, rfl⟩) (by assumption) ?_) | (refine wpAnyH_take (i := 32) (v := ?v131) rfl (by kernel_rfl) (by kernel_rfl) (by kernel_rfl) (fun _ _ _ h => h) (Or.inl ⟨by rfl, ?hy131⟩) (by assumption) ?_; (case hy131 => (intro x hxx; obtain ⟨e0, e1, e2, e3, e4, e5⟩ := CC.out x hxx; go_simp; try with_reducible rfl)))
              change wpAnyH _ _ _ _ _ _ _ (Act.put _ (some 47) _) _
              simp only [Act.put, List.setIfInBounds_toArray, List.set_cons_zero, List.set_cons_succ]
              first | (refine wpAnyH_take (i := 33) (v := undef) rfl (by kernel_rfl) (by kernel_rfl) (by kernel_rfl) (fun _ _ _ h => h) (Or.inr ⟨by rfl, rfl⟩) (by assumption) ?_) | (refine wpAnyH_take (i := 33) (v := ?v132) rfl (by kernel_rfl) (by kernel_rfl) (by kernel_rfl) (fun _ _ _ h => h) (Or.inl ⟨by rfl, ?hy132⟩) (by assumption) ?_; (case hy132 => (intro x hxx; obtain ⟨e0, e1, e2, e3, e4, e5⟩ := CC.out x hxx; go_simp; try with_reducible rfl)))
              change wpAnyH _ _ _ _ _ _ _ (Act.put _ (some 48) _) _
              simp only [Act.put, List.setIfInBounds_toArray, List.set_cons_zero, List.set_cons_succ]
              first | (refine wpAnyH_take (i := 34) (v := undef) rfl (by kernel_rfl) (by kernel_rfl) (by kernel_rfl) (fun _ _ _ h => h) (Or.inr ⟨by rfl, rfl⟩) (by assumption) ?_) | (refine wpAnyH_take (i := 34) (v := ?v133) rfl (by kernel_rfl) (by kernel_rfl) (by kernel_rfl) (fun _ _ _ h => h) (Or.inl ⟨by rfl, ?hy133⟩) (by assumption) ?_; (case hy133 => (intro x hxx; obtain ⟨e0, e1, e2, e3, e4, e5⟩ := CC.out x hxx; go_simp; try with_reducible rfl)))
              change wpAnyH _ _ _ _ _ _ _ (Act.put _ (some 49) _) _
              simp only [Act.put, List.setIfInBounds_toArray, List.set_cons_zero, List.set_cons_succ]
              refine wpAnyH_done (by kernel_rfl) ?_ _
              refine NoPanic.normal ?_
              have HD1 := Lib.hid hH1
              clear hH1
              go_wp2_with fail
              go_meet
              case rel => exact ⟨by rw [show hd = false from by rw [HHD.out, HHEAD.out, e1', e2', e3', e4']; simp]; rfl, HD1.out⟩
            · have e4' : decide (bk < (n : Int)) = true := by simp; omega
              have b4' : ¬ bk ≥ (n : Int) := b4
              have b5 : (0 : Int) < (n : Int) := by omega
              have b6 : 0 < n := by omega
              obtain ⟨-, nb, no, rfl, hnb, hnc, -⟩ := HNO.out.part 0 (by rw [← Hn.out]; omega)
              obtain ⟨x0, hx0⟩ : ∃ x0, x0 = l.nodes.getD 0 0 := ⟨_, rfl⟩
              rw [← hx0] at hnc
              have hcw := (HB.out.cell (p := ⟨nb, no + 0, none⟩) hnb).trans hnc
              simp only [Nat.add_zero] at hcw
              have HX0 : Hid (∀ x, Below W.heap.size W x → x.cell? ⟨nb, no, none⟩ = some (.int .i64 x0)) := fun x hx => cells_kept hx _ _ hcw
              have hco2 : g.initial.any (fun i => decide (i = x0)) = co := by rw [HCO.out, hx0]
              have HCO2 := Lib.hid hco2
              clear hnc hnb hx0 hco2 hcw
              first | (refine wpAnyH_take (i := 2) (v := undef) rfl (by kernel_rfl) (by kernel_rfl) (by kernel_rfl) (fun _ _ _ h => h) (Or.inr ⟨by rfl, rfl⟩) (by assumption) ?_) | (refine wpAnyH_take (i := 2) (v := ?v134) rfl (by kernel_rfl) (by kernel_rfl) (by kernel_rfl) (fun _ _ _ h => h) (Or.inl ⟨by rfl, ?hy134⟩) (by assumption) ?_; (case hy134 => (intro x hxx; obtain ⟨e0, e1, e2, e3, e4, e5⟩ := CC.out x hxx; have e6 := HX0.out x hxx; go_simp; try with_reducible rfl)))
              change wpAnyH _ _ _ _ _ _ _ (Act.put _ (some 17) _) _
              simp only [Act.put, List.setIfInBounds_toArray, List.set_cons_zero, List.set_cons_succ]
              first | (refine wpAnyH_take (i := 3) (v := undef) rfl (by kernel_rfl) (by kernel_rfl) (by kernel_rfl) (fun _ _ _ h => h) (Or.inr ⟨by rfl, rfl⟩) (by assumption) ?_) | (refine wpAnyH_take (i := 3) (v := ?v135) rfl (by kernel_rfl) (by kernel_rfl) (by kernel_rfl) (fun _ _ _ h => h) (Or.inl ⟨by rfl, ?hy135⟩) (by assumption) ?_; (case hy135 => (intro x hxx; obtain ⟨e0, e1, e2, e3, e4, e5⟩ := CC.out x hxx; have e6 := HX0.out x hxx; go_simp; try with_reducible rfl)))
              change wpAnyH _ _ _ _ _ _ _ (Act.put _ (some 18) _) _
              simp only [Act.put, List.setIfInBounds_toArray, List.set_cons_zero, List.set_cons_succ]
              first | (refine wpAnyH_take (i := 4) (v := undef) rfl (by kernel_rfl) (by kernel_rfl) (by kernel_rfl) (fun _ _ _ h => h) (Or.inr ⟨by rfl, rfl⟩) (by assumption) ?_) | (refine wpAnyH_take (i := 4) (v := ?v136) rfl (by kernel_rfl) (by kernel_rfl) (by kernel_rfl) (fun _ _ _ h => h) (Or.inl ⟨by rfl, ?hy136⟩) (by assumption) ?_; (case hy136 => (intro x hxx; obtain ⟨e0, e1, e2, e3, e4, e5⟩ := CC.out x hxx; have e6 := HX0.out x hxx; go_simp; try with_reducible rfl)))
              change wpAnyH _ _ _ _ _ _ _ (Act.put _ (some 19) _) _
              simp only [Act.put, List.setIfInBounds_toArray, List.set_cons_zero, List.set_cons_succ]
              first | (refine wpAnyH_take (i := 5) (v := undef) rfl (by kernel_rfl) (by kernel_rfl) (by kernel_rfl) (fun _ _ _ h => h) (Or.inr ⟨by rfl, rfl⟩) (by assumption) ?_) | (refine wpAnyH_take (i := 5) (v := ?v137) rfl (by kernel_rfl) (by kernel_rfl) (by kernel_rfl) (fun _ _ _ h => h) (Or.inl ⟨by rfl, ?hy137⟩) (by assumption) ?_; (case hy137 => (intro x hxx; obtain ⟨e0, e1, e2, e3, e4, e5⟩ := CC.out x hxx; have e6 := HX0.out x hxx; go_simp; try with_reducible rfl)))
              change wpAnyH _ _ _ _ _ _ _ (Act.put _ (some 20) _) _
              simp only [Act.put, List.setIfInBounds_toArray, List.set_cons_zero, List.set_cons_succ]
              first | (refine wpAnyH_take (i := 6) (v := undef) rfl (by kernel_rfl) (by kernel_rfl) (by kernel_rfl) (fun _ _ _ h => h) (Or.inr ⟨by rfl, rfl⟩) (by assumption) ?_) | (refine wpAnyH_take (i := 6) (v := ?v138) rfl (by kernel_rfl) (by kernel_rfl) (by kernel_rfl) (fun _ _ _ h => h) (Or.inl ⟨by rfl, ?hy138⟩) (by assumption) ?_; (case hy138 => (intro x hxx; obtain ⟨e0, e1, e2, e3, e4, e5⟩ := CC.out x hxx; have e6 := HX0.out x hxx; go_simp; try with_reducible rfl)))
              change wpAnyH _ _ _ _ _ _ _ (Act.put _ (some 21) _) _
              simp only [Act.put, List.setIfInBounds_toArray, List.set_cons_zero, List.set_cons_succ]
              first | (refine wpAnyH_take (i := 7) (v := undef) rfl (by kernel_rfl) (by kernel_rfl) (by kernel_rfl) (fun _ _ _ h => h) (Or.inr ⟨by rfl, rfl⟩) (by assumption) ?_) | (refine wpAnyH_take (i := 7) (v := ?v139) rfl (by kernel_rfl) (by kernel_rfl) (by kernel_rfl) (fun _ _ _ h => h) (Or.inl ⟨by rfl, ?hy139⟩) (by assumption) ?_; (case hy139 => (intro x hxx; obtain ⟨e0, e1, e2, e3, e4, e5⟩ := CC.out x hxx; have e6 := HX0.out x hxx; go_simp; try with_reducible rfl)))
              change wpAnyH _ _ _ _ _ _ _ (Act.put _ (some 22) _) _
              simp only [Act.put, List.setIfInBounds_toArray, List.set_cons_zero, List.set_cons_succ]
              first | (refine wpAnyH_take (i := 8) (v := undef) rfl (by kernel_rfl) (by kernel_rfl) (by kernel_rfl) (fun _ _ _ h => h) (Or.inr ⟨by rfl, rfl⟩) (by assumption) ?_) | (refine wpAnyH_take (i := 8) (v := ?v140) rfl (by kernel_rfl) (by kernel_rfl) (by kernel_rfl) (fun _ _ _ h => h) (Or.inl ⟨by rfl, ?hy140⟩) (by assumption) ?_; (case hy140 => (intro x hxx; obtain ⟨e0, e1, e2, e3, e4, e5⟩ := CC.out x hxx; have e6 := HX0.out x hxx; go_simp; try with_reducible rfl)))
              change wpAnyH _ _ _ _ _ _ _ (Act.put _ (some 23) _) _
              simp only [Act.put, List.setIfInBounds_toArray, List.set_cons_zero, List.set_cons_succ]
              first | (refine wpAnyH_take (i := 9) (v := undef) rfl (by kernel_rfl) (by kernel_rfl) (by kernel_rfl) (fun _ _ _ h => h) (Or.inr ⟨by rfl, rfl⟩) (by assumption) ?_) | (refine wpAnyH_take (i := 9) (v := ?v141) rfl (by kernel_rfl) (by kernel_rfl) (by kernel_rfl) (fun _ _ _ h => h) (Or.inl ⟨by rfl, ?hy141⟩) (by assumption) ?_; (case hy141 => (intro x hxx; obtain ⟨e0, e1, e2, e3, e4, e5⟩ := CC.out x hxx; have e6 := HX0.out x hxx; go_simp; try with_reducible rfl)))
              change wpAnyH _ _ _ _ _ _ _ (Act.put _ (some 24) _) _
              simp only [Act.put, List.setIfInBounds_toArray, List.set_cons_zero, List.set_cons_succ]
              first | (refine wpAnyH_take (i := 10) (v := undef) rfl (by kernel_rfl) (by kernel_rfl) (by kernel_rfl) (fun _ _ _ h => h) (Or.inr ⟨by rfl, rfl⟩) (by assumption) ?_) | (refine wpAnyH_take (i := 10) (v := ?v142) rfl (by kernel_rfl) (by kernel_rfl) (by kernel_rfl) (fun _ _ _ h => h) (Or.inl ⟨by rfl, ?hy142⟩) (by assumption) ?_; (case hy142 => (intro x hxx; obtain ⟨e0, e1, e2, e3, e4, e5⟩ := CC.out x hxx; have e6 := HX0.out x hxx; go_simp; try with_reducible rfl)))
              change wpAnyH _ _ _ _ _ _ _ (Act.put _ (some 25) _) _
              simp only [Act.put, List.setIfInBounds_toArray, List.set_cons_zero, List.set_cons_succ]
              first | (refine wpAnyH_take (i := 11) (v := undef) rfl (by kernel_rfl) (by kernel_rfl) (by kernel_rfl) (fun _ _ _ h => h) (Or.inr ⟨by rfl, rfl⟩) (by assumption) ?_) | (refine wpAnyH_take (i := 11) (v := ?v143) rfl (by kernel_rfl) (by kernel_rfl) (by kernel_rfl) (fun _ _ _ h => h) (Or.inl ⟨by rfl, ?hy143⟩) (by assumption) ?_; (case hy143 => (intro x hxx; obtain ⟨e0, e1, e2, e3, e4, e5⟩ := CC.out x hxx; have e6 := HX0.out x hxx; go_simp; try with_reducible rfl)))
              change wpAnyH _ _ _ _ _ _ _ (Act.put _ (some 26) _) _
              simp only [Act.put, List.setIfInBounds_toArray, List.set_cons_zero, List.set_cons_succ]
              first | (refine wpAnyH_take (i := 12) (v := undef) rfl (by kernel_rfl) (by kernel_rfl) (by kernel_rfl) (fun _ _ _ h => h) (Or.inr ⟨by rfl, rfl⟩) (by assumption) ?_) | (refine wpAnyH_take (i := 12) (v := ?v144) rfl (by kernel_rfl) (by kernel_rfl) (by kernel_rfl) (fun _ _ _ h => h) (Or.inl ⟨by rfl, ?hy144⟩) (by assumption) ?_; (case hy144 => (intro x hxx; obtain ⟨e0, e1, e2, e3, e4, e5⟩ := CC.out x hxx; have e6 := HX0.out x hxx; go_simp; try with_reducible rfl)))
              change wpAnyH _ _ _ _ _ _ _ (Act.put _ (some 27) _) _
              simp only [Act.put, List.setIfInBounds_toArray, List.set_cons_zero, List.set_cons_succ]
              first | (refine wpAnyH_take (i := 13) (v := undef) rfl (by kernel_rfl) (by kernel_rfl) (by kernel_rfl) (fun _ _ _ h => h) (Or.inr ⟨by rfl, rfl⟩) (by assumption) ?_) | (refine wpAnyH_take (i := 13) (v := ?v145) rfl (by kernel_rfl) (by kernel_rfl) (by kernel_rfl) (fun _ _ _ h => h) (Or.inl ⟨by rfl, ?hy145⟩) (by assumption) ?_; (case hy145 => (intro x hxx; obtain ⟨e0, e1, e2, e3, e4, e5⟩ := CC.out x hxx; have e6 := HX0.out x hxx; go_simp; try with_reducible rfl)))
              change wpAnyH _ _ _ _ _ _ _ (Act.put _ (some 28) _) _
              simp only [Act.put, List.setIfInBounds_toArray, List.set_cons_zero, List.set_cons_succ]
              first | (refine wpAnyH_take (i := 14) (v := undef) rfl (by kernel_rfl) (by kernel_rfl) (by kernel_rfl) (fun _ _ _ h => h) (Or.inr ⟨by rfl, rfl⟩) (by assumption) ?_) | (refine wpAnyH_take (i := 14) (v := ?v146) rfl (by kernel_rfl) (by kernel_rfl) (by kernel_rfl) (fun _ _ _ h => h) (Or.inl ⟨by rfl, ?hy146⟩) (by assumption) ?_; (case hy146 => (intro x hxx; obtain ⟨e0, e1, e2, e3, e4, e5⟩ := CC.out x hxx; have e6 := HX0.out x hxx; go_simp; try with_reducible rfl)))
              change wpAnyH _ _ _ _ _ _ _ (Act.put _ (some 29) _) _
              simp only [Act.put, List.setIfInBounds_toArray, List.set_cons_zero, List.set_cons_succ]
              first | (refine wpAnyH_take (i := 15) (v := undef) rfl (by kernel_rfl) (by kernel_rfl) (by kernel_rfl) (fun _ _ _ h => h) (Or.inr ⟨by rfl, rfl⟩) (by assumption) ?_) | (refine wpAnyH_take (i := 15) (v := ?v147) rfl (by kernel_rfl) (by kernel_rfl) (by kernel_rfl) (fun _ _ _ h => h) (Or.inl ⟨by rfl, ?hy147⟩) (by assumption) ?_; (case hy147 => (intro x hxx; obtain ⟨e0, e1, e2, e3, e4, e5⟩ := CC.out x hxx; have e6 := HX0.out x hxx; go_simp; try with_reducible rfl)))
              change wpAnyH _ _ _ _ _ _ _ (Act.put _ (some 30) _) _
              simp only [Act.put, List.setIfInBounds_toArray, List.set_cons_zero, List.set_cons_succ]
              first | (refine wpAnyH_take (i := 16) (v := undef) rfl (by kernel_rfl) (by kernel_rfl) (by kernel_rfl) (fun _ _ _ h => h) (Or.inr ⟨by rfl, rfl⟩) (by assumption) ?_) | (refine wpAnyH_take (i := 16) (v := ?v148) rfl (by kernel_rfl) (by kernel_rfl) (by kernel_rfl) (fun _ _ _ h => h) (Or.inl ⟨by rfl, ?hy148⟩) (by assumption) ?_; (case hy148 => (intro x hxx; obtain ⟨e0, e1, e2, e3, e4, e5⟩ := CC.out x hxx; have e6 := HX0.out x hxx; go_simp; try with_reducible rfl)))
              change wpAnyH _ _ _ _ _ _ _ (Act.put _ (some 31) _) _
              simp only [Act.put, List.setIfInBounds_toArray, List.set_cons_zero, List.set_cons_succ]
              first | (refine wpAnyH_take (i := 17) (v := undef) rfl (by kernel_rfl) (by kernel_rfl) (by kernel_rfl) (fun _ _ _ h => h) (Or.inr ⟨by rfl, rfl⟩) (by assumption) ?_) | (refine wpAnyH_take (i := 17) (v := ?v149) rfl (by kernel_rfl) (by kernel_rfl) (by kernel_rfl) (fun _ _ _ h => h) (Or.inl ⟨by rfl, ?hy149⟩) (by assumption) ?_; (case hy149 => (intro x hxx; obtain ⟨e0, e1, e2, e3, e4, e5⟩ := CC.out x hxx; have e6 := HX0.out x hxx; go_simp; try with_reducible rfl)))
              change wpAnyH _ _ _ _ _ _ _ (Act.put _ (some 32) _) _
              simp only [Act.put, List.setIfInBounds_toArray, List.set_cons_zero, List.set_cons_succ]
              first | (refine wpAnyH_take (i := 18) (v := undef) rfl (by kernel_rfl) (by kernel_rfl) (by kernel_rfl) (fun _ _ _ h => h) (Or.inr ⟨by rfl, rfl⟩) (by assumption) ?_) | (refine wpAnyH_take (i := 18) (v := ?v150) rfl (by kernel_rfl) (by kernel_rfl) (by kernel_rfl) (fun _ _ _ h => h) (Or.inl ⟨by rfl, ?hy150⟩) (by assumption) ?_; (case hy150 => (intro x hxx; obtain ⟨e0, e1, e2, e3, e4, e5⟩ := CC.out x hxx; have e6 := HX0.out x hxx; go_simp; try with_reducible rfl)))
              change wpAnyH _ _ _ _ _ _ _ (Act.put _ (some 33) _) _
              simp only [Act.put, List.setIfInBounds_toArray, List.set_cons_zero, List.set_cons_succ]
              first | (refine wpAnyH_take (i := 19) (v := undef) rfl (by kernel_rfl) (by kernel_rfl) (by kernel_rfl) (fun _ _ _ h => h) (Or.inr ⟨by rfl, rfl⟩) (by assumption) ?_) | (refine wpAnyH_take (i := 19) (v := ?v151) rfl (by kernel_rfl) (by kernel_rfl) (by kernel_rfl) (fun _ _ _ h => h) (Or.inl ⟨by rfl, ?hy151⟩) (by assumption) ?_; (case hy151 => (intro x hxx; obtain ⟨e0, e1, e2, e3, e4, e5⟩ := CC.out x hxx; have e6 := HX0.out x hxx; go_simp; try with_reducible rfl)))
              change wpAnyH _ _ _ _ _ _ _ (Act.put _ (some 34) _) _
              simp only [Act.put, List.setIfInBounds_toArray, List.set_cons_zero, List.set_cons_succ]
              first | (refine wpAnyH_take (i := 20) (v := undef) rfl (by kernel_rfl) (by kernel_rfl) (by kernel_rfl) (fun _ _ _ h => h) (Or.inr ⟨by rfl, rfl⟩) (by assumption) ?_) | (refine wpAnyH_take (i := 20) (v := ?v152) rfl (by kernel_rfl) (by kernel_rfl) (by kernel_rfl) (fun _ _ _ h => h) (Or.inl ⟨by rfl, ?hy152⟩) (by assumption) ?_; (case hy152 => (intro x hxx; obtain ⟨e0, e1, e2, e3, e4, e5⟩ := CC.out x hxx; have e6 := HX0.out x hxx; go_simp; try with_reducible rfl)))
              change wpAnyH _ _ _ _ _ _ _ (Act.put _ (some 35) _) _
              simp only [Act.put, List.setIfInBounds_toArray, List.set_cons_zero, List.set_cons_succ]
              first | (refine wpAnyH_take (i := 21) (v := undef) rfl (by kernel_rfl) (by kernel_rfl) (by kernel_rfl) (fun _ _ _ h => h) (Or.inr ⟨by rfl, rfl⟩) (by assumption) ?_) | (refine wpAnyH_take (i := 21) (v := ?v153) rfl (by kernel_rfl) (by kernel_rfl) (by kernel_rfl) (fun _ _ _ h => h) (Or.inl ⟨by rfl, ?hy153⟩) (by assumption) ?_; (case hy153 => (intro x hxx; obtain ⟨e0, e1, e2, e3, e4, e5⟩ := CC.out x hxx; have e6 := HX0.out x hxx; go_simp; try with_reducible rfl)))
              change wpAnyH _ _ _ _ _ _ _ (Act.put _ (some 36) _) _
              simp only [Act.put, List.setIfInBounds_toArray, List.set_cons_zero, List.set_cons_succ]
              first | (refine wpAnyH_take (i := 22) (v := undef) rfl (by kernel_rfl) (by kernel_rfl) (by kernel_rfl) (fun _ _ _ h => h) (Or.inr ⟨by rfl, rfl⟩) (by assumption) ?_) | (refine wpAnyH_take (i := 22) (v := ?v154) rfl (by kernel_rfl) (by kernel_rfl) (by kernel_rfl) (fun _ _ _ h => h) (Or.inl ⟨by rfl, ?hy154⟩) (by assumption) ?_; (case hy154 => (intro x hxx; obtain ⟨e0, e1, e2, e3, e4, e5⟩ := CC.out x hxx; have e6 := HX0.out x hxx; go_simp; try with_reducible rfl)))
              change wpAnyH _ _ _ _ _ _ _ (Act.put _ (some 37) _) _
              simp only [Act.put, List.setIfInBounds_toArray, List.set_cons_zero, List.set_cons_succ]
              first | (refine wpAnyH_take (i := 23) (v := undef) rfl (by kernel_rfl) (by kernel_rfl) (by kernel_rfl) (fun _ _ _ h => h) (Or.inr ⟨by rfl, rfl⟩) (by assumption) ?_) | (refine wpAnyH_take (i := 23) (v := ?v155) rfl (by kernel_rfl) (by kernel_rfl) (by kernel_rfl) (fun _ _ _ h => h) (Or.inl ⟨by rfl, ?hy155⟩) (by assumption) ?_; (case hy155 => (intro x hxx; obtain ⟨e0, e1, e2, e3, e4, e5⟩ := CC.out x hxx; have e6 := HX0.out x hxx; go_simp; try with_reducible rfl)))
              change wpAnyH _ _ _ _ _ _ _ (Act.put _ (some 38) _) _
              simp only [Act.put, List.setIfInBounds_toArray, List.set_cons_zero, List.set_cons_succ]
              first | (refine wpAnyH_take (i := 24) (v := undef) rfl (by kernel_rfl) (by kernel_rfl) (by kernel_rfl) (fun _ _ _ h => h) (Or.inr ⟨by rfl, rfl⟩) (by assumption) ?_) | (refine wpAnyH_take (i := 24) (v := ?v156) rfl (by kernel_rfl) (by kernel_rfl) (by kernel_rfl) (fun _ _ _ h => h) (Or.inl ⟨by rfl, ?hy156⟩) (by assumption) ?_; (case hy156 => (intro x hxx; obtain ⟨e0, e1, e2, e3, e4, e5⟩ := CC.out x hxx; have e6 := HX0.out x hxx; go_simp; try with_reducible rfl)))
              change wpAnyH _ _ _ _ _ _ _ (Act.put _ (some 39) _) _
              simp only [Act.put, List.setIfInBounds_toArray, List.set_cons_zero, List.set_cons_succ]
              first | (refine wpAnyH_take (i := 25) (v := undef) rfl (by kernel_rfl) (by kernel_rfl) (by kernel_rfl) (fun _ _ _ h => h) (Or.inr ⟨by rfl, rfl⟩) (by assumption) ?_) | (refine wpAnyH_take (i := 25) (v := ?v157) rfl (by kernel_rfl) (by kernel_rfl) (by kernel_rfl) (fun _ _ _ h => h) (Or.inl ⟨by rfl, ?hy157⟩) (by assumption) ?_; (case hy157 => (intro x hxx; obtain ⟨e0, e1, e2, e3, e4, e5⟩ := CC.out x hxx; have e6 := HX0.out x hxx; go_simp; try with_reducible rfl)))
              change wpAnyH _ _ _ _ _ _ _ (Act.put _ (some 40) _) _
              simp only [Act.put, List.setIfInBounds_toArray, List.set_cons_zero, List.set_cons_succ]
              first | (refine wpAnyH_take (i := 26) (v := undef) rfl (by kernel_rfl) (by kernel_rfl) (by kernel_rfl) (fun _ _ _ h => h) (Or.inr ⟨by rfl, rfl⟩) (by assumption) ?_) | (refine wpAnyH_take (i := 26) (v := ?v158) rfl (by kernel_rfl) (by kernel_rfl) (by kernel_rfl) (fun _ _ _ h => h) (Or.inl ⟨by rfl, ?hy158⟩) (by assumption) ?_; (case hy158 => (intro x hxx; obtain ⟨e0, e1, e2, e3, e4, e5⟩ := CC.out x hxx; have e6 := HX0.out x hxx; go_simp; try with_reducible rfl)))
              change wpAnyH _ _ _ _ _ _ _ (Act.put _ (some 41) _) _
              simp only [Act.put, List.setIfInBounds_toArray, List.set_cons_zero, List.set_cons_succ]
              first | (refine wpAnyH_take (i := 27) (v := undef) rfl (by kernel_rfl) (by kernel_rfl) (by kernel_rfl) (fun _ _ _ h => h) (Or.inr ⟨by rfl, rfl⟩) (by assumption) ?_) | (refine wpAnyH_take (i := 27) (v := ?v159) rfl (by kernel_rfl) (by kernel_rfl) (by kernel_rfl) (fun _ _ _ h => h) (Or.inl ⟨by rfl, ?hy159⟩) (by assumption) ?_; (case hy159 => (intro x hxx; obtain ⟨e0, e1, e2, e3, e4, e5⟩ := CC.out x hxx; have e6 := HX0.out x hxx; go_simp; try with_reducible rfl)))
              change wpAnyH _ _ _ _ _ _ _ (Act.put _ (some 42) _) _
              simp only [Act.put, List.setIfInBounds_toArray, List.set_cons_zero, List.set_cons_succ]
              first | (refine wpAnyH_take (i := 28) (v := undef) rfl (by kernel_rfl) (by kernel_rfl) (by kernel_rfl) (fun _ _ _ h => h) (Or.inr ⟨by rfl, rfl⟩) (by assumption) ?_) | (refine wpAnyH_take (i := 28) (v := ?v160) rfl (by kernel_rfl) (by kernel_rfl) (by kernel_rfl) (fun _ _ _ h => h) (Or.inl ⟨by rfl, ?hy160⟩) (by assumption) ?_; (case hy160 => (intro x hxx; obtain ⟨e0, e1, e2, e3, e4, e5⟩ := CC.out x hxx; have e6 := HX0.out x hxx; go_simp; try with_reducible rfl)))
              change wpAnyH _ _ _ _ _ _ _ (Act.put _ (some 43) _) _
              simp only [Act.put, List.setIfInBounds_toArray, List.set_cons_zero, List.set_cons_succ]
              first | (refine wpAnyH_take (i := 29) (v := undef) rfl (by kernel_rfl) (by kernel_rfl) (by kernel_rfl) (fun _ _ _ h => h) (Or.inr ⟨by rfl, rfl⟩) (by assumption) ?_) | (refine wpAnyH_take (i := 29) (v := ?v161) rfl (by kernel_rfl) (by kernel_rfl) (by kernel_rfl) (fun _ _ _ h => h) (Or.inl ⟨by rfl, ?hy161⟩) (by assumption) ?_; (case hy161 => (intro x hxx; obtain ⟨e0, e1, e2, e3, e4, e5⟩ := CC.out x hxx; have e6 := HX0.out x hxx; go_simp; try with_reducible rfl)))
              change wpAnyH _ _ _ _ _ _ _ (Act.put _ (some 44) _) _
              simp only [Act.put, List.setIfInBounds_toArray, List.set_cons_zero, List.set_cons_succ]
              first | (refine wpAnyH_take (i := 30) (v := undef) rfl (by kernel_rfl) (by kernel_rfl) (by kernel_rfl) (fun _ _ _ h => h) (Or.inr ⟨by rfl, rfl⟩) (by assumption) ?_) | (refine wpAnyH_take (i := 30) (v := ?v162) rfl (by kernel_rfl) (by kernel_rfl) (by kernel_rfl) (fun _ _ _ h => h) (Or.inl ⟨by rfl, ?hy162⟩) (by assumption) ?_; (case hy162 => (intro x hxx; obtain ⟨e0, e1, e2, e3, e4, e5⟩ := CC.out x hxx; have e6 := HX0.out x hxx; go_simp; try with_reducible rfl)))
              change wpAnyH _ _ _ _ _ _ _ (Act.put _ (some 45) _) _
              simp only [Act.put, List.setIfInBounds_toArray, List.set_cons_zero, List.set_cons_succ]
              first | (refine wpAnyH_take (i := 31) (v := undef) rfl (by kernel_rfl) (by kernel_rfl) (by kernel_rfl) (fun _ _ _ h => h) (Or.inr ⟨by rfl, rfl⟩) (by assumption) ?_) | (refine wpAnyH_take (i := 31) (v := ?v163) rfl (by kernel_rfl) (by kernel_rfl) (by kernel_rfl) (fun _ _ _ h => h) (Or.inl ⟨by rfl, ?hy163⟩) (by assumption) ?_; (case hy163 => (intro x hxx; obtain ⟨e0, e1, e2, e3, e4, e5⟩ := CC.out x hxx; have e6 := HX0.out x hxx; go_simp; try with_reducible rfl)))
              change wpAnyH _ _ _ _ _ _ _ (Act.put _ (some 46) _) _
              simp only [Act.put, List.setIfInBounds_toArray, List.set_cons_zero, List.set_cons_succ]
              refine wpAnyH_ready (rs := [32]) (by kernel_rfl) (by simp) ?_
              refine AllReadyH.cons rfl (fun K hK => ?_) AllReadyH.nil
              go_simp
              refine (HCONT.out r1 (below_then HB.out hH1) x0).mono ?_
              rintro e r2 ⟨rfl, hr12⟩
              obtain rfl : r1 = r2 := hr12
              refine hK.out _ _ hH1 (fun _ => ?_)
              clear hK K
              rw [HCO2.out]
              first | (refine wpAnyH_take (i := 33) (v := undef) rfl (by kernel_rfl) (by kernel_rfl) (by kernel_rfl) (fun _ _ _ h => h) (Or.inr ⟨by rfl, rfl⟩) (by assumption) ?_) | (refine wpAnyH_take (i := 33) (v := ?v164) rfl (by kernel_rfl) (by kernel_rfl) (by kernel_rfl) (fun _ _ _ h => h) (Or.inl ⟨by rfl, ?hy164⟩) (by assumption) ?_; (case hy164 => (intro x hxx; obtain ⟨e0, e1, e2, e3, e4, e5⟩ := CC.out x hxx; have e6 := HX0.out x hxx; go_simp; try with_reducible rfl)))
              change wpAnyH _ _ _ _ _ _ _ (Act.put _ (some 48) _) _
              simp only [Act.put, List.setIfInBounds_toArray, List.set_cons_zero, List.set_cons_succ]
              first | (refine wpAnyH_take (i := 34) (v := undef) rfl (by kernel_rfl) (by kernel_rfl) (by kernel_rfl) (fun _ _ _ h => h) (Or.inr ⟨by rfl, rfl⟩) (by assumption) ?_) | (refine wpAnyH_take (i := 34) (v := ?v165) rfl (by kernel_rfl) (by kernel_rfl) (by kernel_rfl) (fun _ _ _ h => h) (Or.inl ⟨by rfl, ?hy165⟩) (by assumption) ?_; (case hy165 => (intro x hxx; obtain ⟨e0, e1, e2, e3, e4, e5⟩ := CC.out x hxx; have e6 := HX0.out x hxx; go_simp; try with_reducible rfl)))
              change wpAnyH _ _ _ _ _ _ _ (Act.put _ (some 49) _) _
              simp only [Act.put, List.setIfInBounds_toArray, List.set_cons_zero, List.set_cons_succ]
              refine wpAnyH_done (by kernel_rfl) ?_ _
              refine NoPanic.normal ?_
              have HD1 := Lib.hid hH1
              clear hH1
              go_wp2_with fail
              go_meet
              case rel => exact ⟨by rw [show hd = true from by rw [HHD.out, HHEAD.out, e1', e2', e3', e4']; simp]; simp, HD1.out⟩
        · have e2' : decide (f = n) = false := by simp [b2]
          have b2' : ((f : Int) != (n : Int)) = true := by rw [bne_iff_ne]; omega
          clear b2 HCONT
          first | (refine wpAnyH_take (i := 2) (v := undef) rfl (by kernel_rfl) (by kernel_rfl) (by kernel_rfl) (fun _ _ _ h => h) (Or.inr ⟨by rfl, rfl⟩) (by assumption) ?_) | (refine wpAnyH_take (i := 2) (v := ?v166) rfl (by kernel_rfl) (by kernel_rfl) (by kernel_rfl) (fun _ _ _ h => h) (Or.inl ⟨by rfl, ?hy166⟩) (by assumption) ?_; (case hy166 => (intro x hxx; obtain ⟨e0, e1, e2, e3, e4, e5⟩ := CC.out x hxx; go_simp; try with_reducible rfl)))
          change wpAnyH _ _ _ _ _ _ _ (Act.put _ (some 17) _) _
          simp only [Act.put, List.setIfInBounds_toArray, List.set_cons_zero, List.set_cons_succ]
          first | (refine wpAnyH_take (i := 3) (v := undef) rfl (by kernel_rfl) (by kernel_rfl) (by kernel_rfl) (fun _ _ _ h => h) (Or.inr ⟨by rfl, rfl⟩) (by assumption) ?_) | (refine wpAnyH_take (i := 3) (v := ?v167) rfl (by kernel_rfl) (by kernel_rfl) (by kernel_rfl) (fun _ _ _ h => h) (Or.inl ⟨by rfl, ?hy167⟩) (by assumption) ?_; (case hy167 => (intro x hxx; obtain ⟨e0, e1, e2, e3, e4, e5⟩ := CC.out x hxx; go_simp; try with_reducible rfl)))
          change wpAnyH _ _ _ _ _ _ _ (Act.put _ (some 18) _) _
          simp only [Act.put, List.setIfInBounds_toArray, List.set_cons_zero, List.set_cons_succ]
          first | (refine wpAnyH_take (i := 4) (v := undef) rfl (by kernel_rfl) (by kernel_rfl) (by kernel_rfl) (fun _ _ _ h => h) (Or.inr ⟨by rfl, rfl⟩) (by assumption) ?_) | (refine wpAnyH_take (i := 4) (v := ?v168) rfl (by kernel_rfl) (by kernel_rfl) (by kernel_rfl) (fun _ _ _ h => h) (Or.inl ⟨by rfl, ?hy168⟩) (by assumption) ?_; (case hy168 => (intro x hxx; obtain ⟨e0, e1, e2, e3, e4, e5⟩ := CC.out x hxx; go_simp; try with_reducible rfl)))
          change wpAnyH _ _ _ _ _ _ _ (Act.put _ (some 19) _) _
          simp only [Act.put, List.setIfInBounds_toArray, List.set_cons_zero, List.set_cons_succ]
          first | (refine wpAnyH_take (i := 5) (v := undef) rfl (by kernel_rfl) (by kernel_rfl) (by kernel_rfl) (fun _ _ _ h => h) (Or.inr ⟨by rfl, rfl⟩) (by assumption) ?_) | (refine wpAnyH_take (i := 5) (v := ?v169) rfl (by kernel_rfl) (by kernel_rfl) (by kernel_rfl) (fun _ _ _ h => h) (Or.inl ⟨by rfl, ?hy169⟩) (by assumption) ?_; (case hy169 => (intro x hxx; obtain ⟨e0, e1, e2, e3, e4, e5⟩ := CC.out x hxx; go_simp; try with_reducible rfl)))
          change wpAnyH _ _ _ _ _ _ _ (Act.put _ (some 20) _) _
          simp only [Act.put, List.setIfInBounds_toArray, List.set_cons_zero, List.set_cons_succ]
          first | (refine wpAnyH_take (i := 6) (v := undef) rfl (by kernel_rfl) (by kernel_rfl) (by kernel_rfl) (fun _ _ _ h => h) (Or.inr ⟨by rfl, rfl⟩) (by assumption) ?_) | (refine wpAnyH_take (i := 6) (v := ?v170) rfl (by kernel_rfl) (by kernel_rfl) (by kernel_rfl) (fun _ _ _ h => h) (Or.inl ⟨by rfl, ?hy170⟩) (by assumption) ?_; (case hy170 => (intro x hxx; obtain ⟨e0, e1, e2, e3, e4, e5⟩ := CC.out x hxx; go_simp; try with_reducible rfl)))
          change wpAnyH _ _ _ _ _ _ _ (Act.put _ (some 21) _) _
          simp only [Act.put, List.setIfInBounds_toArray, List.set_cons_zero, List.set_cons_succ]
          first | (refine wpAnyH_take (i := 7) (v := undef) rfl (by kernel_rfl) (by kernel_rfl) (by kernel_rfl) (fun _ _ _ h => h) (Or.inr ⟨by rfl, rfl⟩) (by assumption) ?_) | (refine wpAnyH_take (i := 7) (v := ?v171) rfl (by kernel_rfl) (by kernel_rfl) (by kernel_rfl) (fun _ _ _ h => h) (Or.inl ⟨by rfl, ?hy171⟩) (by assumption) ?_; (case hy171 => (intro x hxx; obtain ⟨e0, e1, e2, e3, e4, e5⟩ := CC.out x hxx; go_simp; try with_reducible rfl)))
          change wpAnyH _ _ _ _ _ _ _ (Act.put _ (some 22) _) _
          simp only [Act.put, List.setIfInBounds_toArray, List.set_cons_zero, List.set_cons_succ]
          first | (refine wpAnyH_take (i := 8) (v := undef) rfl (by kernel_rfl) (by kernel_rfl) (by kernel_rfl) (fun _ _ _ h => h) (Or.inr ⟨by rfl, rfl⟩) (by assumption) ?_) | (refine wpAnyH_take (i := 8) (v := ?v172) rfl (by kernel_rfl) (by kernel_rfl) (by kernel_rfl) (fun _ _ _ h => h) (Or.inl ⟨by rfl, ?hy172⟩) (by assumption) ?_; (case hy172 => (intro x hxx; obtain ⟨e0, e1, e2, e3, e4, e5⟩ := CC.out x hxx; go_simp; try with_reducible rfl)))
          change wpAnyH _ _ _ _ _ _ _ (Act.put _ (some 23) _) _
          simp only [Act.put, List.setIfInBounds_toArray, List.set_cons_zero, List.set_cons_succ]
          first | (refine wpAnyH_take (i := 9) (v := undef) rfl (by kernel_rfl) (by kernel_rfl) (by kernel_rfl) (fun _ _ _ h => h) (Or.inr ⟨by rfl, rfl⟩) (by assumption) ?_) | (refine wpAnyH_take (i := 9) (v := ?v173) rfl (by kernel_rfl) (by kernel_rfl) (by kernel_rfl) (fun _ _ _ h => h) (Or.inl ⟨by rfl, ?hy173⟩) (by assumption) ?_; (case hy173 => (intro x hxx; obtain ⟨e0, e1, e2, e3, e4, e5⟩ := CC.out x hxx; go_simp; try with_reducible rfl)))
          change wpAnyH _ _ _ _ _ _ _ (Act.put _ (some 24) _) _
          simp only [Act.put, List.setIfInBounds_toArray, List.set_cons_zero, List.set_cons_succ]
          first | (refine wpAnyH_take (i := 10) (v := undef) rfl (by kernel_rfl) (by kernel_rfl) (by kernel_rfl) (fun _ _ _ h => h) (Or.inr ⟨by rfl, rfl⟩) (by assumption) ?_) | (refine wpAnyH_take (i := 10) (v := ?v174) rfl (by kernel_rfl) (by kernel_rfl) (by kernel_rfl) (fun _ _ _ h => h) (Or.inl ⟨by rfl, ?hy174⟩) (by assumption) ?_; (case hy174 => (intro x hxx; obtain ⟨e0, e1, e2, e3, e4, e5⟩ := CC.out x hxx; go_simp; try with_reducible rfl)))
          change wpAnyH _ _ _ _ _ _ _ (Act.put _ (some 25) _) _
          simp only [Act.put, List.setIfInBounds_toArray, List.set_cons_zero, List.set_cons_succ]
          first | (refine wpAnyH_take (i := 11) (v := undef) rfl (by kernel_rfl) (by kernel_rfl) (by kernel_rfl) (fun _ _ _ h => h) (Or.inr ⟨by rfl, rfl⟩) (by assumption) ?_) | (refine wpAnyH_take (i := 11) (v := ?v175) rfl (by kernel_rfl) (by kernel_rfl) (by kernel_rfl) (fun _ _ _ h => h) (Or.inl ⟨by rfl, ?hy175⟩) (by assumption) ?_; (case hy175 => (intro x hxx; obtain ⟨e0, e1, e2, e3, e4, e5⟩ := CC.out x hxx; go_simp; try with_reducible rfl)))
          change wpAnyH _ _ _ _ _ _ _ (Act.put _ (some 26) _) _
          simp only [Act.put, List.setIfInBounds_toArray, List.set_cons_zero, List.set_cons_succ]
          first | (refine wpAnyH_take (i := 12) (v := undef) rfl (by kernel_rfl) (by kernel_rfl) (by kernel_rfl) (fun _ _ _ h => h) (Or.inr ⟨by rfl, rfl⟩) (by assumption) ?_) | (refine wpAnyH_take (i := 12) (v := ?v176) rfl (by kernel_rfl) (by kernel_rfl) (by kernel_rfl) (fun _ _ _ h => h) (Or.inl ⟨by rfl, ?hy176⟩) (by assumption) ?_; (case hy176 => (intro x hxx; obtain ⟨e0, e1, e2, e3, e4, e5⟩ := CC.out x hxx; go_simp; try with_reducible rfl)))
          change wpAnyH _ _ _ _ _ _ _ (Act.put _ (some 27) _) _
          simp only [Act.put, List.setIfInBounds_toArray, List.set_cons_zero, List.set_cons_succ]
          first | (refine wpAnyH_take (i := 13) (v := undef) rfl (by kernel_rfl) (by kernel_rfl) (by kernel_rfl) (fun _ _ _ h => h) (Or.inr ⟨by rfl, rfl⟩) (by assumption) ?_) | (refine wpAnyH_take (i := 13) (v := ?v177) rfl (by kernel_rfl) (by kernel_rfl) (by kernel_rfl) (fun _ _ _ h => h) (Or.inl ⟨by rfl, ?hy177⟩) (by assumption) ?_; (case hy177 => (intro x hxx; obtain ⟨e0, e1, e2, e3, e4, e5⟩ := CC.out x hxx; go_simp; try with_reducible rfl)))
          change wpAnyH _ _ _ _ _ _ _ (Act.put _ (some 28) _) _
          simp only [Act.put, List.setIfInBounds_toArray, List.set_cons_zero, List.set_cons_succ]
          first | (refine wpAnyH_take (i := 14) (v := undef) rfl (by kernel_rfl) (by kernel_rfl) (by kernel_rfl) (fun _ _ _ h => h) (Or.inr ⟨by rfl, rfl⟩) (by assumption) ?_) | (refine wpAnyH_take (i := 14) (v := ?v178) rfl (by kernel_rfl) (by kernel_rfl) (by kernel_rfl) (fun _ _ _ h => h) (Or.inl ⟨by rfl, ?hy178⟩) (by assumption) ?_; (case hy178 => (intro x hxx; obtain ⟨e0, e1, e2, e3, e4, e5⟩ := CC.out x hxx; go_simp; try with_reducible rfl)))
          change wpAnyH _ _ _ _ _ _ _ (Act.put _ (some 29) _) _
          simp only [Act.put, List.setIfInBounds_toArray, List.set_cons_zero, List.set_cons_succ]
          first | (refine wpAnyH_take (i := 15) (v := undef) rfl (by kernel_rfl) (by kernel_rfl) (by kernel_rfl) (fun _ _ _ h => h) (Or.inr ⟨by rfl, rfl⟩) (by assumption) ?_) | (refine wpAnyH_take (i := 15) (v := ?v179) rfl (by kernel_rfl) (by kernel_rfl) (by kernel_rfl) (fun _ _ _ h => h) (Or.inl ⟨by rfl, ?hy179⟩) (by assumption) ?_; (case hy179 => (intro x hxx; obtain ⟨e0, e1, e2, e3, e4, e5⟩ := CC.out x hxx; go_simp; try with_reducible rfl)))
          change wpAnyH _ _ _ _ _ _ _ (Act.put _ (some 30) _) _
          simp only [Act.put, List.setIfInBounds_toArray, List.set_cons_zero, List.set_cons_succ]
          first | (refine wpAnyH_take (i := 16) (v := undef) rfl (by kernel_rfl) (by kernel_rfl) (by kernel_rfl) (fun _ _ _ h => h) (Or.inr ⟨by rfl, rfl⟩) (by assumption) ?_) | (refine wpAnyH_take (i := 16) (v := ?v180) rfl (by kernel_rfl) (by kernel_rfl) (by kernel_rfl) (fun _ _ _ h => h) (Or.inl ⟨by rfl, ?hy180⟩) (by assumption) ?_; (case hy180 => (intro x hxx; obtain ⟨e0, e1, e2, e3, e4, e5⟩ := CC.out x hxx; go_simp; try with_reducible rfl)))
          change wpAnyH _ _ _ _ _ _ _ (Act.put _ (some 31) _) _
          simp only [Act.put, List.setIfInBounds_toArray, List.set_cons_zero, List.set_cons_succ]
          first | (refine wpAnyH_take (i := 17) (v := undef) rfl (by kernel_rfl) (by kernel_rfl) (by kernel_rfl) (fun _ _ _ h => h) (Or.inr ⟨by rfl, rfl⟩) (by assumption) ?_) | (refine wpAnyH_take (i := 17) (v := ?v181) rfl (by kernel_rfl) (by kernel_rfl) (by kernel_rfl) (fun _ _ _ h => h) (Or.inl ⟨by rfl, ?hy181⟩) (by assumption) ?_; (case hy181 => (intro x hxx; obtain ⟨e0, e1, e2, e3, e4, e5⟩ := CC.out x hxx; go_simp; try with_reducible rfl)))
          change wpAnyH _ _ _ _ _ _ _ (Act.put _ (some 32) _) _
          simp only [Act.put, List.setIfInBounds_toArray, List.set_cons_zero, List.set_cons_succ]
          first | (refine wpAnyH_take (i := 18) (v := undef) rfl (by kernel_rfl) (by kernel_rfl) (by kernel_rfl) (fun _ _ _ h => h) (Or.inr ⟨by rfl, rfl⟩) (by assumption) ?_) | (refine wpAnyH_take (i := 18) (v := ?v182) rfl (by kernel_rfl) (by kernel_rfl) (by kernel_rfl) (fun _ _ _ h => h) (Or.inl ⟨by rfl, ?hy182⟩) (by assumption) ?_; (case hy182 => (intro x hxx; obtain ⟨e0, e1, e2, e3, e4, e5⟩ := CC.out x hxx; go_simp; try with_reducible rfl)))
          change wpAnyH _ _ _ _ _ _ _ (Act.put _ (some 33) _) _
          simp only [Act.put, List.setIfInBounds_toArray, List.set_cons_zero, List.set_cons_succ]
          first | (refine wpAnyH_take (i := 19) (v := undef) rfl (by kernel_rfl) (by kernel_rfl) (by kernel_rfl) (fun _ _ _ h => h) (Or.inr ⟨by rfl, rfl⟩) (by assumption) ?_) | (refine wpAnyH_take (i := 19) (v := ?v183) rfl (by kernel_rfl) (by kernel_rfl) (by kernel_rfl) (fun _ _ _ h => h) (Or.inl ⟨by rfl, ?hy183⟩) (by assumption) ?_; (case hy183 => (intro x hxx; obtain ⟨e0, e1, e2, e3, e4, e5⟩ := CC.out x hxx; go_simp; try with_reducible rfl)))
          change wpAnyH _ _ _ _ _ _ _ (Act.put _ (some 34) _) _
          simp only [Act.put, List.setIfInBounds_toArray, List.set_cons_zero, List.set_cons_succ]
          first | (refine wpAnyH_take (i := 20) (v := undef) rfl (by kernel_rfl) (by kernel_rfl) (by kernel_rfl) (fun _ _ _ h => h) (Or.inr ⟨by rfl, rfl⟩) (by assumption) ?_) | (refine wpAnyH_take (i := 20) (v := ?v184) rfl (by kernel_rfl) (by kernel_rfl) (by kernel_rfl) (fun _ _ _ h => h) (Or.inl ⟨by rfl, ?hy184⟩) (by assumption) ?_; (case hy184 => (intro x hxx; obtain ⟨e0, e1, e2, e3, e4, e5⟩ := CC.out x hxx; go_simp; try with_reducible rfl)))
          change wpAnyH _ _ _ _ _ _ _ (Act.put _ (some 35) _) _
          simp only [Act.put, List.setIfInBounds_toArray, List.set_cons_zero, List.set_cons_succ]
          first | (refine wpAnyH_take (i := 21) (v := undef) rfl (by kernel_rfl) (by kernel_rfl) (by kernel_rfl) (fun _ _ _ h => h) (Or.inr ⟨by rfl, rfl⟩) (by assumption) ?_) | (refine wpAnyH_take (i := 21) (v := ?v185) rfl (by kernel_rfl) (by kernel_rfl) (by kernel_rfl) (fun _ _ _ h => h) (Or.inl ⟨by rfl, ?hy185⟩) (by assumption) ?_; (case hy185 => (intro x hxx; obtain ⟨e0, e1, e2, e3, e4, e5⟩ := CC.out x hxx; go_simp; try with_reducible rfl)))
          change wpAnyH _ _ _ _ _ _ _ (Act.put _ (some 36) _) _
          simp only [Act.put, List.setIfInBounds_toArray, List.set_cons_zero, List.set_cons_succ]
          first | (refine wpAnyH_take (i := 22) (v := undef) rfl (by kernel_rfl) (by kernel_rfl) (by kernel_rfl) (fun _ _ _ h => h) (Or.inr ⟨by rfl, rfl⟩) (by assumption) ?_) | (refine wpAnyH_take (i := 22) (v := ?v186) rfl (by kernel_rfl) (by kernel_rfl) (by kernel_rfl) (fun _ _ _ h => h) (Or.inl ⟨by rfl, ?hy186⟩) (by assumption) ?_; (case hy186 => (intro x hxx; obtain ⟨e0, e1, e2, e3, e4, e5⟩ := CC.out x hxx; go_simp; try with_reducible rfl)))
          change wpAnyH _ _ _ _ _ _ _ (Act.put _ (some 37) _) _
          simp only [Act.put, List.setIfInBounds_toArray, List.set_cons_zero, List.set_cons_succ]
          first | (refine wpAnyH_take (i := 23) (v := undef) rfl (by kernel_rfl) (by kernel_rfl) (by kernel_rfl) (fun _ _ _ h => h) (Or.inr ⟨by rfl, rfl⟩) (by assumption) ?_) | (refine wpAnyH_take (i := 23) (v := ?v187) rfl (by kernel_rfl) (by kernel_rfl) (by kernel_rfl) (fun _ _ _ h => h) (Or.inl ⟨by rfl, ?hy187⟩) (by assumption) ?_; (case hy187 => (intro x hxx; obtain ⟨e0, e1, e2, e3, e4, e5⟩ := CC.out x hxx; go_simp; try with_reducible rfl)))
          change wpAnyH _ _ _ _ _ _ _ (Act.put _ (some 38) _) _
          simp only [Act.put, List.setIfInBounds_toArray, List.set_cons_zero, List.set_cons_succ]
          first | (refine wpAnyH_take (i := 24) (v := undef) rfl (by kernel_rfl) (by kernel_rfl) (by kernel_rfl) (fun _ _ _ h => h) (Or.inr ⟨by rfl, rfl⟩) (by assumption) ?_) | (refine wpAnyH_take (i := 24) (v := ?v188) rfl (by kernel_rfl) (by kernel_rfl) (by kernel_rfl) (fun _ _ _ h => h) (Or.inl ⟨by rfl, ?hy188⟩) (by assumption) ?_; (case hy188 => (intro x hxx; obtain ⟨e0, e1, e2, e3, e4, e5⟩ := CC.out x hxx; go_simp; try with_reducible rfl)))
          change wpAnyH _ _ _ _ _ _ _ (Act.put _ (some 39) _) _
          simp only [Act.put, List.setIfInBounds_toArray, List.set_cons_zero, List.set_cons_succ]
          first | (refine wpAnyH_take (i := 25) (v := undef) rfl (by kernel_rfl) (by kernel_rfl) (by kernel_rfl) (fun _ _ _ h => h) (Or.inr ⟨by rfl, rfl⟩) (by assumption) ?_) | (refine wpAnyH_take (i := 25) (v := ?v189) rfl (by kernel_rfl) (by kernel_rfl) (by kernel_rfl) (fun _ _ _ h => h) (Or.inl ⟨by rfl, ?hy189⟩) (by assumption) ?_; (case hy189 => (intro x hxx; obtain ⟨e0, e1, e2, e3, e4, e5⟩ := CC.out x hxx; go_simp; try with_reducible rfl)))
          change wpAnyH _ _ _ _ _ _ _ (Act.put _ (some 40) _) _
          simp only [Act.put, List.setIfInBounds_toArray, List.set_cons_zero, List.set_cons_succ]
          first | (refine wpAnyH_take (i := 26) (v := undef) rfl (by kernel_rfl) (by kernel_rfl) (by kernel_rfl) (fun _ _ _ h => h) (Or.inr ⟨by rfl, rfl⟩) (by assumption) ?_) | (refine wpAnyH_take (i := 26) (v := ?v190) rfl (by kernel_rfl) (by kernel_rfl) (by kernel_rfl) (fun _ _ _ h => h) (Or.inl ⟨by rfl, ?hy190⟩) (by assumption) ?_; (case hy190 => (intro x hxx; obtain ⟨e0, e1, e2, e3, e4, e5⟩ := CC.out x hxx; go_simp; try with_reducible rfl)))
          change wpAnyH _ _ _ _ _ _ _ (Act.put _ (some 41) _) _
          simp only [Act.put, List.setIfInBounds_toArray, List.set_cons_zero, List.set_cons_succ]
          first | (refine wpAnyH_take (i := 27) (v := undef) rfl (by kernel_rfl) (by kernel_rfl) (by kernel_rfl) (fun _ _ _ h => h) (Or.inr ⟨by rfl, rfl⟩) (by assumption) ?_) | (refine wpAnyH_take (i := 27) (v := ?v191) rfl (by kernel_rfl) (by kernel_rfl) (by kernel_rfl) (fun _ _ _ h => h) (Or.inl ⟨by rfl, ?hy191⟩) (by assumption) ?_; (case hy191 => (intro x hxx; obtain ⟨e0, e1, e2, e3, e4, e5⟩ := CC.out x hxx; go_simp; try with_reducible rfl)))
          change wpAnyH _ _ _ _ _ _ _ (Act.put _ (some 42) _) _
          simp only [Act.put, List.setIfInBounds_toArray, List.set_cons_zero, List.set_cons_succ]
          first | (refine wpAnyH_take (i := 28) (v := undef) rfl (by kernel_rfl) (by kernel_rfl) (by kernel_rfl) (fun _ _ _ h => h) (Or.inr ⟨by rfl, rfl⟩) (by assumption) ?_) | (refine wpAnyH_take (i := 28) (v := ?v192) rfl (by kernel_rfl) (by kernel_rfl) (by kernel_rfl) (fun _ _ _ h => h) (Or.inl ⟨by rfl, ?hy192⟩) (by assumption) ?_; (case hy192 => (intro x hxx; obtain ⟨e0, e1, e2, e3, e4, e5⟩ := CC.out x hxx; go_simp; try with_reducible rfl)))
          change wpAnyH _ _ _ _ _ _ _ (Act.put _ (some 43) _) _
          simp only [Act.put, List.setIfInBounds_toArray, List.set_cons_zero, List.set_cons_succ]
          first | (refine wpAnyH_take (i := 29) (v := undef) rfl (by kernel_rfl) (by kernel_rfl) (by kernel_rfl) (fun _ _ _ h => h) (Or.inr ⟨by rfl, rfl⟩) (by assumption) ?_) | (refine wpAnyH_take (i := 29) (v := ?v193) rfl (by kernel_rfl) (by kernel_rfl) (by kernel_rfl) (fun _ _ _ h => h) (Or.inl ⟨by rfl, ?hy193⟩) (by assumption) ?_; (case hy193 => (intro x hxx; obtain ⟨e0, e1, e2, e3, e4, e5⟩ := CC.out x hxx; go_simp; try with_reducible rfl)))
          change wpAnyH _ _ _ _ _ _ _ (Act.put _ (some 44) _) _
          simp only [Act.put, List.setIfInBounds_toArray, List.set_cons_zero, List.set_cons_succ]
          first | (refine wpAnyH_take (i := 30) (v := undef) rfl (by kernel_rfl) (by kernel_rfl) (by kernel_rfl) (fun _ _ _ h => h) (Or.inr ⟨by rfl, rfl⟩) (by assumption) ?_) | (refine wpAnyH_take (i := 30) (v := ?v194) rfl (by kernel_rfl) (by kernel_rfl) (by kernel_rfl) (fun _ _ _ h => h) (Or.inl ⟨by rfl, ?hy194⟩) (by assumption) ?_; (case hy194 => (intro x hxx; obtain ⟨e0, e1, e2, e3, e4, e5⟩ := CC.out x hxx; go_simp; try with_reducible rfl)))
          change wpAnyH _ _ _ _ _ _ _ (Act.put _ (some 45) _) _
          simp only [Act.put, List.setIfInBounds_toArray, List.set_cons_zero, List.set_cons_succ]
          first | (refine wpAnyH_take (i := 31) (v := undef) rfl (by kernel_rfl) (by kernel_rfl) (by kernel_rfl) (fun _ _ _ h => h) (Or.inr ⟨by rfl, rfl⟩) (by assumption) ?_) | (refine wpAnyH_take (i := 31) (v := ?v195) rfl (by kernel_rfl) (by kernel_rfl) (by kernel_rfl) (fun _ _ _ h => h) (Or.inl ⟨by rfl, ?hy195⟩) (by assumption) ?_; (case hy195 => (intro x hxx; obtain ⟨e0, e1, e2, e3, e4, e5⟩ := CC.out x hxx; go_simp; try with_reducible rfl)))
          change wpAnyH _ _ _ _ _ _ _ (Act.put _ (some 46) _) _
          simp only [Act.put, List.setIfInBounds_toArray, List.set_cons_zero, List.set_cons_succ]
          first | (refine wpAnyH_take (i := 32) (v := undef) rfl (by kernel_rfl) (by kernel_rfl) (by kernel_rfl) (fun _ _ _ h => h) (Or.inr ⟨by rfl, rfl⟩) (by assumption) ?_) | (refine wpAnyH_take (i := 32) (v := ?v196) rfl (by kernel_rfl) (by kernel_rfl) (by kernel_rfl) (fun _ _ _ h => h) (Or.inl ⟨by rfl, ?hy196⟩) (by assumption) ?_; (case hy196 => (intro x hxx; obtain ⟨e0, e1, e2, e3, e4, e5⟩ := CC.out x hxx; go_simp; try with_reducible rfl)))
          change wpAnyH _ _ _ _ _ _ _ (Act.put _ (some 47) _) _
          simp only [Act.put, List.setIfInBounds_toArray, List.set_cons_zero, List.set_cons_succ]
          first | (refine wpAnyH_take (i := 33) (v := undef) rfl (by kernel_rfl) (by kernel_rfl) (by kernel_rfl) (fun _ _ _ h => h) (Or.inr ⟨by rfl, rfl⟩) (by assumption) ?_) | (refine wpAnyH_take (i := 33) (v := ?v197) rfl (by kernel_rfl) (by kernel_rfl) (by kernel_rfl) (fun _ _ _ h => h) (Or.inl ⟨by rfl, ?hy197⟩) (by assumption) ?_; (case hy197 => (intro x hxx; obtain ⟨e0, e1, e2, e3, e4, e5⟩ := CC.out x hxx; go_simp; try with_reducible rfl)))
          change wpAnyH _ _ _ _ _ _ _ (Act.put _ (some 48) _) _
          simp only [Act.put, List.setIfInBounds_toArray, List.set_cons_zero, List.set_cons_succ]
          first | (refine wpAnyH_take (i := 34) (v := undef) rfl (by kernel_rfl) (by kernel_rfl) (by kernel_rfl) (fun _ _ _ h => h) (Or.inr ⟨by rfl, rfl⟩) (by assumption) ?_) | (refine wpAnyH_take (i := 34) (v := ?v198) rfl (by kernel_rfl) (by kernel_rfl) (by kernel_rfl) (fun _ _ _ h => h) (Or.inl ⟨by rfl, ?hy198⟩) (by assumption) ?_; (case hy198 => (intro x hxx; obtain ⟨e0, e1, e2, e3, e4, e5⟩ := CC.out x hxx; go_simp; try with_reducible rfl)))
          change wpAnyH _ _ _ _ _ _ _ (Act.put _ (some 49) _) _
          simp only [Act.put, List.setIfInBounds_toArray, List.set_cons_zero, List.set_cons_succ]
          refine wpAnyH_done (by kernel_rfl) ?_ _
          refine NoPanic.normal ?_
          have HD1 := Lib.hid hH1
          clear hH1
          go_wp2_with fail
          go_meet
          case rel => exact ⟨by rw [show hd = false from by rw [HHD.out, HHEAD.out, e1', e2']; simp]; rfl, HD1.out⟩
  case rest =>
    obtain ⟨rfl, HBC⟩ := hcut
    have hacc : r = ((hd && co) && (List.range n).all (stepOk g l) && decide (bits .and .i64 (metTo g l n) (2 ^ g.marks.toNat - 1) = 2 ^ g.marks.toNat - 1)) := by rw [HR.out]; unfold acceptOk; rw [← hhd, ← hco, ← Hn.out]
    have HACC := Lib.hid hacc
    obtain ⟨wc0, rfl⟩ : ∃ wo : World, wo = wc := ⟨_, rfl⟩
    replace c0 := cells_kept HBC.out _ _ c0
    replace c1 := cells_kept HBC.out _ _ c1
    replace c2 := cells_kept HBC.out _ _ c2
    replace d0 := cells_kept HBC.out _ _ d0
    replace d1 := cells_kept HBC.out _ _ d1
    replace d2 := cells_kept HBC.out _ _ d2
    have HBW : Hid (Below w.heap.size w wc0) := below_then HB.out HBC.out
    by_cases hhc : (hd && co) = true
    · have hh := hhc
      rw [Bool.and_eq_true] at hh
      have hh1 := hh.1
      rw [hhd, HHEAD.out] at hh1
      simp only [Bool.and_eq_true, decide_eq_true_eq] at hh1
      obtain ⟨⟨⟨⟨g1, g2⟩, g3⟩, g4⟩, g5⟩ := hh1
      have hr2 : r = ((List.range n).all (stepOk g l) && decide (bits .and .i64 (metTo g l n) (2 ^ g.marks.toNat - 1) = 2 ^ g.marks.toNat - 1)) := by rw [HACC.out, hhc]; simp
      have HR2 := Lib.hid hr2
      have hgr : g.right = true := by rw [← Hgr.out]; exact g1
      have HGR := Lib.hid hgr
      obtain ⟨bn, rfl⟩ : ∃ bn : Nat, bk = (bn : Int) := ⟨bk.toNat, by omega⟩
      have hbn : bn < n := by omega
      subst g3
      rw [hhc]
      clear hh hhc g1 g4 g5 hr2 hgr hacc HACC hhd hco HCONT HRIGHT HHEAD HR H1 H2 HBC HB
      go_wp2_with fail
      go_loopg [6, 53] f (fun gg s6 s53 wr => ∃ i : Nat, i ≤ f ∧ Hid (gg = f - i) ∧ s53 = .int .i64 i ∧ s6 = .int .i64 (metTo g l i) ∧ Hid (∀ j, j < i → stepOk g l j = true) ∧ Hid (Below w.heap.size w wr) ∧ Hid (Below wc0.heap.size wc0 wr))
      case atStart => exact ⟨0, Nat.zero_le _, rfl, rfl, rfl, fun j hj => by omega, HBW.out, Below.refl _ _⟩
      case round =>
        obtain ⟨i, hi, HG, rfl, rfl, HJ, HBR, HBX⟩ := hrel
        obtain ⟨wi, rfl⟩ : ∃ wi : World, wi = wr := ⟨_, rfl⟩
        have c0' := cells_kept HBX.out _ _ c0
        have c1' := cells_kept HBX.out _ _ c1
        have c2' := cells_kept HBX.out _ _ c2
        have d0' := cells_kept HBX.out _ _ d0
        have d1' := cells_kept HBX.out _ _ d1
        have d2' := cells_kept HBX.out _ _ d2
        obtain ⟨mt, hmt⟩ : ∃ mt, mt = metTo g l i := ⟨_, rfl⟩
        rw [← hmt]
        have HMT := Lib.hid hmt
        clear hmt
        by_cases hlt : i < f
        · have hlt' : (i : Int) < (f : Int) := by omega
          have hli : (0 : Int) ≤ (i : Int) := by omega
          obtain ⟨-, nb, no, rfl, hnb, hnc, -⟩ := HNO.out.part i (by rw [← Hn.out]; exact hlt)
          obtain ⟨-, fb, fo, rfl, hfb, hfc, -⟩ := HED.out.part i (by rw [← Hf.out]; exact hlt)
          replace hnc := (HBR.out.cell (p := ⟨nb, no + i, none⟩) hnb).trans hnc
          replace hfc := (HBR.out.cell (p := ⟨fb, fo + i, none⟩) hfb).trans hfc
          obtain ⟨x, hx⟩ : ∃ x, x = l.nodes.getD i 0 := ⟨_, rfl⟩
          obtain ⟨e, he⟩ : ∃ e, e = l.edges.getD i 0 := ⟨_, rfl⟩
          rw [← hx] at hnc
          rw [← he] at hfc
          have HX := Lib.hid hx
          have HEE := Lib.hid he
          clear hx he hnb hfb
          have h8c := fun (y : World) (hy : Below wi.heap.size wi y) => (show y.cell? ⟨b, 0, none⟩ = some (.slice ea N ec) ∧ y.cell? ⟨b + 1, 1, none⟩ = some (.slice (some ⟨fb, fo, none⟩) f fc) ∧ y.cell? ⟨fb, fo + i, none⟩ = some (.int .i64 e) ∧ True ∧ True ∧ True from ⟨cells_kept hy _ _ c0', cells_kept hy _ _ d1', cells_kept hy _ _ hfc, trivial, trivial, trivial⟩)
          have C8 := Lib.hid h8c
          clear h8c
          by_cases b1 : x < 0
          · obtain rfl : r = false := by
              have : stepOk g l i = false := by unfold stepOk nodeB; rw [← HX.out]; simp; omega
              rw [HR2.out, List.all_eq_false.2 ⟨i, by simpa using hlt, by simp [this]⟩]; simp
            clear HR2
            go_wp2_with fail
            refine wp_region_noPanic ?_
            refine wp_region_held_drew (S := fun w' => Below wi.heap.size wi w') (by kernel_rfl) (Below.refl _ _).drew (fun hH => ?_)
            first | (refine wpAnyH_take (i := 0) (v := undef) rfl (by kernel_rfl) (by kernel_rfl) (by kernel_rfl) (fun _ _ _ h => h) (Or.inr ⟨by rfl, rfl⟩) (by assumption) ?_) | (refine wpAnyH_take (i := 0) (v := ?v199) rfl (by kernel_rfl) (by kernel_rfl) (by kernel_rfl) (fun _ _ _ h => h) (Or.inl ⟨by rfl, ?hy199⟩) (by assumption) ?_; (case hy199 => (intro x' hxx; obtain ⟨e0, e1, e2, e3, e4, e5⟩ := C8.out x' hxx; go_simp; try with_reducible rfl)))
            change wpAnyH _ _ _ _ _ _ _ (Act.put _ (some 58) _) _
            simp only [Act.put, List.setIfInBounds_toArray, List.set_cons_zero, List.set_cons_succ]
            first | (refine wpAnyH_take (i := 1) (v := undef) rfl (by kernel_rfl) (by kernel_rfl) (by kernel_rfl) (fun _ _ _ h => h) (Or.inr ⟨by rfl, rfl⟩) (by assumption) ?_) | (refine wpAnyH_take (i := 1) (v := ?v200) rfl (by kernel_rfl) (by kernel_rfl) (by kernel_rfl) (fun _ _ _ h => h) (Or.inl ⟨by rfl, ?hy200⟩) (by assumption) ?_; (case hy200 => (intro x' hxx; obtain ⟨e0, e1, e2, e3, e4, e5⟩ := C8.out x' hxx; go_simp; try with_reducible rfl)))
            change wpAnyH _ _ _ _ _ _ _ (Act.put _ (some 59) _) _
            simp only [Act.put, List.setIfInBounds_toArray, List.set_cons_zero, List.set_cons_succ]
            first | (refine wpAnyH_take (i := 2) (v := undef) rfl (by kernel_rfl) (by kernel_rfl) (by kernel_rfl) (fun _ _ _ h => h) (Or.inr ⟨by rfl, rfl⟩) (by assumption) ?_) | (refine wpAnyH_take (i := 2) (v := ?v201) rfl (by kernel_rfl) (by kernel_rfl) (by kernel_rfl) (fun _ _ _ h => h) (Or.inl ⟨by rfl, ?hy201⟩) (by assumption) ?_; (case hy201 => (intro x' hxx; obtain ⟨e0, e1, e2, e3, e4, e5⟩ := C8.out x' hxx; go_simp; try with_reducible rfl)))
            change wpAnyH _ _ _ _ _ _ _ (Act.put _ (some 60) _) _
            simp only [Act.put, List.setIfInBounds_toArray, List.set_cons_zero, List.set_cons_succ]
            first | (refine wpAnyH_take (i := 3) (v := undef) rfl (by kernel_rfl) (by kernel_rfl) (by kernel_rfl) (fun _ _ _ h => h) (Or.inr ⟨by rfl, rfl⟩) (by assumption) ?_) | (refine wpAnyH_take (i := 3) (v := ?v202) rfl (by kernel_rfl) (by kernel_rfl) (by kernel_rfl) (fun _ _ _ h => h) (Or.inl ⟨by rfl, ?hy202⟩) (by assumption) ?_; (case hy202 => (intro x' hxx; obtain ⟨e0, e1, e2, e3, e4, e5⟩ := C8.out x' hxx; go_simp; try with_reducible rfl)))
            change wpAnyH _ _ _ _ _ _ _ (Act.put _ (some 61) _) _
            simp only [Act.put, List.setIfInBounds_toArray, List.set_cons_zero, List.set_cons_succ]
            first | (refine wpAnyH_take (i := 4) (v := undef) rfl (by kernel_rfl) (by kernel_rfl) (by kernel_rfl) (fun _ _ _ h => h) (Or.inr ⟨by rfl, rfl⟩) (by assumption) ?_) | (refine wpAnyH_take (i := 4) (v := ?v203) rfl (by kernel_rfl) (by kernel_rfl) (by kernel_rfl) (fun _ _ _ h => h) (Or.inl ⟨by rfl, ?hy203⟩) (by assumption) ?_; (case hy203 => (intro x' hxx; obtain ⟨e0, e1, e2, e3, e4, e5⟩ := C8.out x' hxx; go_simp; try with_reducible rfl)))
            change wpAnyH _ _ _ _ _ _ _ (Act.put _ (some 62) _) _
            simp only [Act.put, List.setIfInBounds_toArray, List.set_cons_zero, List.set_cons_succ]
            first | (refine wpAnyH_take (i := 5) (v := undef) rfl (by kernel_rfl) (by kernel_rfl) (by kernel_rfl) (fun _ _ _ h => h) (Or.inr ⟨by rfl, rfl⟩) (by assumption) ?_) | (refine wpAnyH_take (i := 5) (v := ?v204) rfl (by kernel_rfl) (by kernel_rfl) (by kernel_rfl) (fun _ _ _ h => h) (Or.inl ⟨by rfl, ?hy204⟩) (by assumption) ?_; (case hy204 => (intro x' hxx; obtain ⟨e0, e1, e2, e3, e4, e5⟩ := C8.out x' hxx; go_simp; try with_reducible rfl)))
            change wpAnyH _ _ _ _ _ _ _ (Act.put _ (some 63) _) _
            simp only [Act.put, List.setIfInBounds_toArray, List.set_cons_zero, List.set_cons_succ]
            first | (refine wpAnyH_take (i := 6) (v := undef) rfl (by kernel_rfl) (by kernel_rfl) (by kernel_rfl) (fun _ _ _ h => h) (Or.inr ⟨by rfl, rfl⟩) (by assumption) ?_) | (refine wpAnyH_take (i := 6) (v := ?v205) rfl (by kernel_rfl) (by kernel_rfl) (by kernel_rfl) (fun _ _ _ h => h) (Or.inl ⟨by rfl, ?hy205⟩) (by assumption) ?_; (case hy205 => (intro x' hxx; obtain ⟨e0, e1, e2, e3, e4, e5⟩ := C8.out x' hxx; go_simp; try with_reducible rfl)))
            change wpAnyH _ _ _ _ _ _ _ (Act.put _ (some 64) _) _
            simp only [Act.put, List.setIfInBounds_toArray, List.set_cons_zero, List.set_cons_succ]
            first | (refine wpAnyH_take (i := 7) (v := undef) rfl (by kernel_rfl) (by kernel_rfl) (by kernel_rfl) (fun _ _ _ h => h) (Or.inr ⟨by rfl, rfl⟩) (by assumption) ?_) | (refine wpAnyH_take (i := 7) (v := ?v206) rfl (by kernel_rfl) (by kernel_rfl) (by kernel_rfl) (fun _ _ _ h => h) (Or.inl ⟨by rfl, ?hy206⟩) (by assumption) ?_; (case hy206 => (intro x' hxx; obtain ⟨e0, e1, e2, e3, e4, e5⟩ := C8.out x' hxx; go_simp; try with_reducible rfl)))
            change wpAnyH _ _ _ _ _ _ _ (Act.put _ (some 65) _) _
            simp only [Act.put, List.setIfInBounds_toArray, List.set_cons_zero, List.set_cons_succ]
            first | (refine wpAnyH_take (i := 8) (v := undef) rfl (by kernel_rfl) (by kernel_rfl) (by kernel_rfl) (fun _ _ _ h => h) (Or.inr ⟨by rfl, rfl⟩) (by assumption) ?_) | (refine wpAnyH_take (i := 8) (v := ?v207) rfl (by kernel_rfl) (by kernel_rfl) (by kernel_rfl) (fun _ _ _ h => h) (Or.inl ⟨by rfl, ?hy207⟩) (by assumption) ?_; (case hy207 => (intro x' hxx; obtain ⟨e0, e1, e2, e3, e4, e5⟩ := C8.out x' hxx; go_simp; try with_reducible rfl)))
            change wpAnyH _ _ _ _ _ _ _ (Act.put _ (some 66) _) _
            simp only [Act.put, List.setIfInBounds_toArray, List.set_cons_zero, List.set_cons_succ]
            first | (refine wpAnyH_take (i := 9) (v := undef) rfl (by kernel_rfl) (by kernel_rfl) (by kernel_rfl) (fun _ _ _ h => h) (Or.inr ⟨by rfl, rfl⟩) (by assumption) ?_) | (refine wpAnyH_take (i := 9) (v := ?v208) rfl (by kernel_rfl) (by kernel_rfl) (by kernel_rfl) (fun _ _ _ h => h) (Or.inl ⟨by rfl, ?hy208⟩) (by assumption) ?_; (case hy208 => (intro x' hxx; obtain ⟨e0, e1, e2, e3, e4, e5⟩ := C8.out x' hxx; go_simp; try with_reducible rfl)))
            change wpAnyH _ _ _ _ _ _ _ (Act.put _ (some 67) _) _
            simp only [Act.put, List.setIfInBounds_toArray, List.set_cons_zero, List.set_cons_succ]
            first | (refine wpAnyH_take (i := 10) (v := undef) rfl (by kernel_rfl) (by kernel_rfl) (by kernel_rfl) (fun _ _ _ h => h) (Or.inr ⟨by rfl, rfl⟩) (by assumption) ?_) | (refine wpAnyH_take (i := 10) (v := ?v209) rfl (by kernel_rfl) (by kernel_rfl) (by kernel_rfl) (fun _ _ _ h => h) (Or.inl ⟨by rfl, ?hy209⟩) (by assumption) ?_; (case hy209 => (intro x' hxx; obtain ⟨e0, e1, e2, e3, e4, e5⟩ := C8.out x' hxx; go_simp; try with_reducible rfl)))
            change wpAnyH _ _ _ _ _ _ _ (Act.put _ (some 68) _) _
            simp only [Act.put, List.setIfInBounds_toArray, List.set_cons_zero, List.set_cons_succ]
            first | (refine wpAnyH_take (i := 11) (v := undef) rfl (by kernel_rfl) (by kernel_rfl) (by kernel_rfl) (fun _ _ _ h => h) (Or.inr ⟨by rfl, rfl⟩) (by assumption) ?_) | (refine wpAnyH_take (i := 11) (v := ?v210) rfl (by kernel_rfl) (by kernel_rfl) (by kernel_rfl) (fun _ _ _ h => h) (Or.inl ⟨by rfl, ?hy210⟩) (by assumption) ?_; (case hy210 => (intro x' hxx; obtain ⟨e0, e1, e2, e3, e4, e5⟩ := C8.out x' hxx; go_simp; try with_reducible rfl)))
            change wpAnyH _ _ _ _ _ _ _ (Act.put _ (some 69) _) _
            simp only [Act.put, List.setIfInBounds_toArray, List.set_cons_zero, List.set_cons_succ]
            first | (refine wpAnyH_take (i := 12) (v := undef) rfl (by kernel_rfl) (by kernel_rfl) (by kernel_rfl) (fun _ _ _ h => h) (Or.inr ⟨by rfl, rfl⟩) (by assumption) ?_) | (refine wpAnyH_take (i := 12) (v := ?v211) rfl (by kernel_rfl) (by kernel_rfl) (by kernel_rfl) (fun _ _ _ h => h) (Or.inl ⟨by rfl, ?hy211⟩) (by assumption) ?_; (case hy211 => (intro x' hxx; obtain ⟨e0, e1, e2, e3, e4, e5⟩ := C8.out x' hxx; go_simp; try with_reducible rfl)))
            change wpAnyH _ _ _ _ _ _ _ (Act.put _ (some 70) _) _
            simp only [Act.put, List.setIfInBounds_toArray, List.set_cons_zero, List.set_cons_succ]
            first | (refine wpAnyH_take (i := 13) (v := undef) rfl (by kernel_rfl) (by kernel_rfl) (by kernel_rfl) (fun _ _ _ h => h) (Or.inr ⟨by rfl, rfl⟩) (by assumption) ?_) | (refine wpAnyH_take (i := 13) (v := ?v212) rfl (by kernel_rfl) (by kernel_rfl) (by kernel_rfl) (fun _ _ _ h => h) (Or.inl ⟨by rfl, ?hy212⟩) (by assumption) ?_; (case hy212 => (intro x' hxx; obtain ⟨e0, e1, e2, e3, e4, e5⟩ := C8.out x' hxx; go_simp; try with_reducible rfl)))
            change wpAnyH _ _ _ _ _ _ _ (Act.put _ (some 71) _) _
            simp only [Act.put, List.setIfInBounds_toArray, List.set_cons_zero, List.set_cons_succ]
            first | (refine wpAnyH_take (i := 14) (v := undef) rfl (by kernel_rfl) (by kernel_rfl) (by kernel_rfl) (fun _ _ _ h => h) (Or.inr ⟨by rfl, rfl⟩) (by assumption) ?_) | (refine wpAnyH_take (i := 14) (v := ?v213) rfl (by kernel_rfl) (by kernel_rfl) (by kernel_rfl) (fun _ _ _ h => h) (Or.inl ⟨by rfl, ?hy213⟩) (by assumption) ?_; (case hy213 => (intro x' hxx; obtain ⟨e0, e1, e2, e3, e4, e5⟩ := C8.out x' hxx; go_simp; try with_reducible rfl)))
            change wpAnyH _ _ _ _ _ _ _ (Act.put _ (some 72) _) _
            simp only [Act.put, List.setIfInBounds_toArray, List.set_cons_zero, List.set_cons_succ]
            first | (refine wpAnyH_take (i := 15) (v := undef) rfl (by kernel_rfl) (by kernel_rfl) (by kernel_rfl) (fun _ _ _ h => h) (Or.inr ⟨by rfl, rfl⟩) (by assumption) ?_) | (refine wpAnyH_take (i := 15) (v := ?v214) rfl (by kernel_rfl) (by kernel_rfl) (by kernel_rfl) (fun _ _ _ h => h) (Or.inl ⟨by rfl, ?hy214⟩) (by assumption) ?_; (case hy214 => (intro x' hxx; obtain ⟨e0, e1, e2, e3, e4, e5⟩ := C8.out x' hxx; go_simp; try with_reducible rfl)))
            change wpAnyH _ _ _ _ _ _ _ (Act.put _ (some 73) _) _
            simp only [Act.put, List.setIfInBounds_toArray, List.set_cons_zero, List.set_cons_succ]
            first | (refine wpAnyH_take (i := 16) (v := undef) rfl (by kernel_rfl) (by kernel_rfl) (by kernel_rfl) (fun _ _ _ h => h) (Or.inr ⟨by rfl, rfl⟩) (by assumption) ?_) | (refine wpAnyH_take (i := 16) (v := ?v215) rfl (by kernel_rfl) (by kernel_rfl) (by kernel_rfl) (fun _ _ _ h => h) (Or.inl ⟨by rfl, ?hy215⟩) (by assumption) ?_; (case hy215 => (intro x' hxx; obtain ⟨e0, e1, e2, e3, e4, e5⟩ := C8.out x' hxx; go_simp; try with_reducible rfl)))
            change wpAnyH _ _ _ _ _ _ _ (Act.put _ (some 74) _) _
            simp only [Act.put, List.setIfInBounds_toArray, List.set_cons_zero, List.set_cons_succ]
            first | (refine wpAnyH_take (i := 17) (v := undef) rfl (by kernel_rfl) (by kernel_rfl) (by kernel_rfl) (fun _ _ _ h => h) (Or.inr ⟨by rfl, rfl⟩) (by assumption) ?_) | (refine wpAnyH_take (i := 17) (v := ?v216) rfl (by kernel_rfl) (by kernel_rfl) (by kernel_rfl) (fun _ _ _ h => h) (Or.inl ⟨by rfl, ?hy216⟩) (by assumption) ?_; (case hy216 => (intro x' hxx; obtain ⟨e0, e1, e2, e3, e4, e5⟩ := C8.out x' hxx; go_simp; try with_reducible rfl)))
            change wpAnyH _ _ _ _ _ _ _ (Act.put _ (some 75) _) _
            simp only [Act.put, List.setIfInBounds_toArray, List.set_cons_zero, List.set_cons_succ]
            first | (refine wpAnyH_take (i := 18) (v := undef) rfl (by kernel_rfl) (by kernel_rfl) (by kernel_rfl) (fun _ _ _ h => h) (Or.inr ⟨by rfl, rfl⟩) (by assumption) ?_) | (refine wpAnyH_take (i := 18) (v := ?v217) rfl (by kernel_rfl) (by kernel_rfl) (by kernel_rfl) (fun _ _ _ h => h) (Or.inl ⟨by rfl, ?hy217⟩) (by assumption) ?_; (case hy217 => (intro x' hxx; obtain ⟨e0, e1, e2, e3, e4, e5⟩ := C8.out x' hxx; go_simp; try with_reducible rfl)))
            change wpAnyH _ _ _ _ _ _ _ (Act.put _ (some 76) _) _
            simp only [Act.put, List.setIfInBounds_toArray, List.set_cons_zero, List.set_cons_succ]
            first | (refine wpAnyH_take (i := 19) (v := undef) rfl (by kernel_rfl) (by kernel_rfl) (by kernel_rfl) (fun _ _ _ h => h) (Or.inr ⟨by rfl, rfl⟩) (by assumption) ?_) | (refine wpAnyH_take (i := 19) (v := ?v218) rfl (by kernel_rfl) (by kernel_rfl) (by kernel_rfl) (fun _ _ _ h => h) (Or.inl ⟨by rfl, ?hy218⟩) (by assumption) ?_; (case hy218 => (intro x' hxx; obtain ⟨e0, e1, e2, e3, e4, e5⟩ := C8.out x' hxx; go_simp; try with_reducible rfl)))
            change wpAnyH _ _ _ _ _ _ _ (Act.put _ (some 77) _) _
            simp only [Act.put, List.setIfInBounds_toArray, List.set_cons_zero, List.set_cons_succ]
            first | (refine wpAnyH_take (i := 20) (v := undef) rfl (by kernel_rfl) (by kernel_rfl) (by kernel_rfl) (fun _ _ _ h => h) (Or.inr ⟨by rfl, rfl⟩) (by assumption) ?_) | (refine wpAnyH_take (i := 20) (v := ?v219) rfl (by kernel_rfl) (by kernel_rfl) (by kernel_rfl) (fun _ _ _ h => h) (Or.inl ⟨by rfl, ?hy219⟩) (by assumption) ?_; (case hy219 => (intro x' hxx; obtain ⟨e0, e1, e2, e3, e4, e5⟩ := C8.out x' hxx; go_simp; try with_reducible rfl)))
            change wpAnyH _ _ _ _ _ _ _ (Act.put _ (some 78) _) _
            simp only [Act.put, List.setIfInBounds_toArray, List.set_cons_zero, List.set_cons_succ]
            first | (refine wpAnyH_take (i := 21) (v := undef) rfl (by kernel_rfl) (by kernel_rfl) (by kernel_rfl) (fun _ _ _ h => h) (Or.inr ⟨by rfl, rfl⟩) (by assumption) ?_) | (refine wpAnyH_take (i := 21) (v := ?v220) rfl (by kernel_rfl) (by kernel_rfl) (by kernel_rfl) (fun _ _ _ h => h) (Or.inl ⟨by rfl, ?hy220⟩) (by assumption) ?_; (case hy220 => (intro x' hxx; obtain ⟨e0, e1, e2, e3, e4, e5⟩ := C8.out x' hxx; go_simp; try with_reducible rfl)))
            change wpAnyH _ _ _ _ _ _ _ (Act.put _ (some 79) _) _
            simp only [Act.put, List.setIfInBounds_toArray, List.set_cons_zero, List.set_cons_succ]
            first | (refine wpAnyH_take (i := 22) (v := undef) rfl (by kernel_rfl) (by kernel_rfl) (by kernel_rfl) (fun _ _ _ h => h) (Or.inr ⟨by rfl, rfl⟩) (by assumption) ?_) | (refine wpAnyH_take (i := 22) (v := ?v221) rfl (by kernel_rfl) (by kernel_rfl) (by kernel_rfl) (fun _ _ _ h => h) (Or.inl ⟨by rfl, ?hy221⟩) (by assumption) ?_; (case hy221 => (intro x' hxx; obtain ⟨e0, e1, e2, e3, e4, e5⟩ := C8.out x' hxx; go_simp; try with_reducible rfl)))
            change wpAnyH _ _ _ _ _ _ _ (Act.put _ (some 80) _) _
            simp only [Act.put, List.setIfInBounds_toArray, List.set_cons_zero, List.set_cons_succ]
            first | (refine wpAnyH_take (i := 23) (v := undef) rfl (by kernel_rfl) (by kernel_rfl) (by kernel_rfl) (fun _ _ _ h => h) (Or.inr ⟨by rfl, rfl⟩) (by assumption) ?_) | (refine wpAnyH_take (i := 23) (v := ?v222) rfl (by kernel_rfl) (by kernel_rfl) (by kernel_rfl) (fun _ _ _ h => h) (Or.inl ⟨by rfl, ?hy222⟩) (by assumption) ?_; (case hy222 => (intro x' hxx; obtain ⟨e0, e1, e2, e3, e4, e5⟩ := C8.out x' hxx; go_simp; try with_reducible rfl)))
            change wpAnyH _ _ _ _ _ _ _ (Act.put _ (some 81) _) _
            simp only [Act.put, List.setIfInBounds_toArray, List.set_cons_zero, List.set_cons_succ]
            first | (refine wpAnyH_take (i := 24) (v := undef) rfl (by kernel_rfl) (by kernel_rfl) (by kernel_rfl) (fun _ _ _ h => h) (Or.inr ⟨by rfl, rfl⟩) (by assumption) ?_) | (refine wpAnyH_take (i := 24) (v := ?v223) rfl (by kernel_rfl) (by kernel_rfl) (by kernel_rfl) (fun _ _ _ h => h) (Or.inl ⟨by rfl, ?hy223⟩) (by assumption) ?_; (case hy223 => (intro x' hxx; obtain ⟨e0, e1, e2, e3, e4, e5⟩ := C8.out x' hxx; go_simp; try with_reducible rfl)))
            change wpAnyH _ _ _ _ _ _ _ (Act.put _ (some 82) _) _
            simp only [Act.put, List.setIfInBounds_toArray, List.set_cons_zero, List.set_cons_succ]
            first | (refine wpAnyH_take (i := 25) (v := undef) rfl (by kernel_rfl) (by kernel_rfl) (by kernel_rfl) (fun _ _ _ h => h) (Or.inr ⟨by rfl, rfl⟩) (by assumption) ?_) | (refine wpAnyH_take (i := 25) (v := ?v224) rfl (by kernel_rfl) (by kernel_rfl) (by kernel_rfl) (fun _ _ _ h => h) (Or.inl ⟨by rfl, ?hy224⟩) (by assumption) ?_; (case hy224 => (intro x' hxx; obtain ⟨e0, e1, e2, e3, e4, e5⟩ := C8.out x' hxx; go_simp; try with_reducible rfl)))
            change wpAnyH _ _ _ _ _ _ _ (Act.put _ (some 83) _) _
            simp only [Act.put, List.setIfInBounds_toArray, List.set_cons_zero, List.set_cons_succ]
            first | (refine wpAnyH_take (i := 26) (v := undef) rfl (by kernel_rfl) (by kernel_rfl) (by kernel_rfl) (fun _ _ _ h => h) (Or.inr ⟨by rfl, rfl⟩) (by assumption) ?_) | (refine wpAnyH_take (i := 26) (v := ?v225) rfl (by kernel_rfl) (by kernel_rfl) (by kernel_rfl) (fun _ _ _ h => h) (Or.inl ⟨by rfl, ?hy225⟩) (by assumption) ?_; (case hy225 => (intro x' hxx; obtain ⟨e0, e1, e2, e3, e4, e5⟩ := C8.out x' hxx; go_simp; try with_reducible rfl)))
            change wpAnyH _ _ _ _ _ _ _ (Act.put _ (some 84) _) _
            simp only [Act.put, List.setIfInBounds_toArray, List.set_cons_zero, List.set_cons_succ]
            first | (refine wpAnyH_take (i := 27) (v := undef) rfl (by kernel_rfl) (by kernel_rfl) (by kernel_rfl) (fun _ _ _ h => h) (Or.inr ⟨by rfl, rfl⟩) (by assumption) ?_) | (refine wpAnyH_take (i := 27) (v := ?v226) rfl (by kernel_rfl) (by kernel_rfl) (by kernel_rfl) (fun _ _ _ h => h) (Or.inl ⟨by rfl, ?hy226⟩) (by assumption) ?_; (case hy226 => (intro x' hxx; obtain ⟨e0, e1, e2, e3, e4, e5⟩ := C8.out x' hxx; go_simp; try with_reducible rfl)))
            change wpAnyH _ _ _ _ _ _ _ (Act.put _ (some 85) _) _
            simp only [Act.put, List.setIfInBounds_toArray, List.set_cons_zero, List.set_cons_succ]
            first | (refine wpAnyH_take (i := 28) (v := undef) rfl (by kernel_rfl) (by kernel_rfl) (by kernel_rfl) (fun _ _ _ h => h) (Or.inr ⟨by rfl, rfl⟩) (by assumption) ?_) | (refine wpAnyH_take (i := 28) (v := ?v227) rfl (by kernel_rfl) (by kernel_rfl) (by kernel_rfl) (fun _ _ _ h => h) (Or.inl ⟨by rfl, ?hy227⟩) (by assumption) ?_; (case hy227 => (intro x' hxx; obtain ⟨e0, e1, e2, e3, e4, e5⟩ := C8.out x' hxx; go_simp; try with_reducible rfl)))
            change wpAnyH _ _ _ _ _ _ _ (Act.put _ (some 86) _) _
            simp only [Act.put, List.setIfInBounds_toArray, List.set_cons_zero, List.set_cons_succ]
            first | (refine wpAnyH_take (i := 29) (v := undef) rfl (by kernel_rfl) (by kernel_rfl) (by kernel_rfl) (fun _ _ _ h => h) (Or.inr ⟨by rfl, rfl⟩) (by assumption) ?_) | (refine wpAnyH_take (i := 29) (v := ?v228) rfl (by kernel_rfl) (by kernel_rfl) (by kernel_rfl) (fun _ _ _ h => h) (Or.inl ⟨by rfl, ?hy228⟩) (by assumption) ?_; (case hy228 => (intro x' hxx; obtain ⟨e0, e1, e2, e3, e4, e5⟩ := C8.out x' hxx; go_simp; try with_reducible rfl)))
            change wpAnyH _ _ _ _ _ _ _ (Act.put _ (some 87) _) _
            simp only [Act.put, List.setIfInBounds_toArray, List.set_cons_zero, List.set_cons_succ]
            first | (refine wpAnyH_take (i := 30) (v := undef) rfl (by kernel_rfl) (by kernel_rfl) (by kernel_rfl) (fun _ _ _ h => h) (Or.inr ⟨by rfl, rfl⟩) (by assumption) ?_) | (refine wpAnyH_take (i := 30) (v := ?v229) rfl (by kernel_rfl) (by kernel_rfl) (by kernel_rfl) (fun _ _ _ h => h) (Or.inl ⟨by rfl, ?hy229⟩) (by assumption) ?_; (case hy229 => (intro x' hxx; obtain ⟨e0, e1, e2, e3, e4, e5⟩ := C8.out x' hxx; go_simp; try with_reducible rfl)))
            change wpAnyH _ _ _ _ _ _ _ (Act.put _ (some 88) _) _
            simp only [Act.put, List.setIfInBounds_toArray, List.set_cons_zero, List.set_cons_succ]
            refine wpAnyH_done (by kernel_rfl) ?_ _
            refine NoPanic.normal ?_
            clear hH
            go_wp2_with fail
            go_ret
            exact ⟨by first | rfl | simp, HBR.out.drew⟩
          · by_cases b2 : (N : Int) ≤ x
            · obtain rfl : r = false := by
                have : stepOk g l i = false := by unfold stepOk nodeB; rw [← HX.out, ← HNN.out]; simp; omega
                rw [HR2.out, List.all_eq_false.2 ⟨i, by simpa using hlt, by simp [this]⟩]; simp
              have b2' : x ≥ (N : Int) := b2
              have b1d : decide (x < 0) = false := by simp; omega
              have b2d : decide ((N : Int) ≤ x) = true := by simp; omega
              clear HR2
              go_wp2_with fail
              refine wp_region_noPanic ?_
              refine wp_region_held_drew (S := fun w' => Below wi.heap.size wi w') (by kernel_rfl) (Below.refl _ _).drew (fun hH => ?_)
              first | (refine wpAnyH_take (i := 0) (v := undef) rfl (by kernel_rfl) (by kernel_rfl) (by kernel_rfl) (fun _ _ _ h => h) (Or.inr ⟨by rfl, rfl⟩) (by assumption) ?_) | (refine wpAnyH_take (i := 0) (v := ?v230) rfl (by kernel_rfl) (by kernel_rfl) (by kernel_rfl) (fun _ _ _ h => h) (Or.inl ⟨by rfl, ?hy230⟩) (by assumption) ?_; (case hy230 => (intro x' hxx; obtain ⟨e0, e1, e2, e3, e4, e5⟩ := C8.out x' hxx; go_simp; try with_reducible rfl)))
              change wpAnyH _ _ _ _ _ _ _ (Act.put _ (some 58) _) _
              simp only [Act.put, List.setIfInBounds_toArray, List.set_cons_zero, List.set_cons_succ]
              first | (refine wpAnyH_take (i := 1) (v := undef) rfl (by kernel_rfl) (by kernel_rfl) (by kernel_rfl) (fun _ _ _ h => h) (Or.inr ⟨by rfl, rfl⟩) (by assumption) ?_) | (refine wpAnyH_take (i := 1) (v := ?v231) rfl (by kernel_rfl) (by kernel_rfl) (by kernel_rfl) (fun _ _ _ h => h) (Or.inl ⟨by rfl, ?hy231⟩) (by assumption) ?_; (case hy231 => (intro x' hxx; obtain ⟨e0, e1, e2, e3, e4, e5⟩ := C8.out x' hxx; go_simp; try with_reducible rfl)))
              change wpAnyH _ _ _ _ _ _ _ (Act.put _ (some 59) _) _
              simp only [Act.put, List.setIfInBounds_toArray, List.set_cons_zero, List.set_cons_succ]
              first | (refine wpAnyH_take (i := 2) (v := undef) rfl (by kernel_rfl) (by kernel_rfl) (by kernel_rfl) (fun _ _ _ h => h) (Or.inr ⟨by rfl, rfl⟩) (by assumption) ?_) | (refine wpAnyH_take (i := 2) (v := ?v232) rfl (by kernel_rfl) (by kernel_rfl) (by kernel_rfl) (fun _ _ _ h => h) (Or.inl ⟨by rfl, ?hy232⟩) (by assumption) ?_; (case hy232 => (intro x' hxx; obtain ⟨e0, e1, e2, e3, e4, e5⟩ := C8.out x' hxx; go_simp; try with_reducible rfl)))
              change wpAnyH _ _ _ _ _ _ _ (Act.put _ (some 60) _) _
              simp only [Act.put, List.setIfInBounds_toArray, List.set_cons_zero, List.set_cons_succ]
              first | (refine wpAnyH_take (i := 3) (v := undef) rfl (by kernel_rfl) (by kernel_rfl) (by kernel_rfl) (fun _ _ _ h => h) (Or.inr ⟨by rfl, rfl⟩) (by assumption) ?_) | (refine wpAnyH_take (i := 3) (v := ?v233) rfl (by kernel_rfl) (by kernel_rfl) (by kernel_rfl) (fun _ _ _ h => h) (Or.inl ⟨by rfl, ?hy233⟩) (by assumption) ?_; (case hy233 => (intro x' hxx; obtain ⟨e0, e1, e2, e3, e4, e5⟩ := C8.out x' hxx; go_simp; try with_reducible rfl)))
              change wpAnyH _ _ _ _ _ _ _ (Act.put _ (some 61) _) _
              simp only [Act.put, List.setIfInBounds_toArray, List.set_cons_zero, List.set_cons_succ]
              first | (refine wpAnyH_take (i := 4) (v := undef) rfl (by kernel_rfl) (by kernel_rfl) (by kernel_rfl) (fun _ _ _ h => h) (Or.inr ⟨by rfl, rfl⟩) (by assumption) ?_) | (refine wpAnyH_take (i := 4) (v := ?v234) rfl (by kernel_rfl) (by kernel_rfl) (by kernel_rfl) (fun _ _ _ h => h) (Or.inl ⟨by rfl, ?hy234⟩) (by assumption) ?_; (case hy234 => (intro x' hxx; obtain ⟨e0, e1, e2, e3, e4, e5⟩ := C8.out x' hxx; go_simp; try with_reducible rfl)))
              change wpAnyH _ _ _ _ _ _ _ (Act.put _ (some 62) _) _
              simp only [Act.put, List.setIfInBounds_toArray, List.set_cons_zero, List.set_cons_succ]
              first | (refine wpAnyH_take (i := 5) (v := undef) rfl (by kernel_rfl) (by kernel_rfl) (by kernel_rfl) (fun _ _ _ h => h) (Or.inr ⟨by rfl, rfl⟩) (by assumption) ?_) | (refine wpAnyH_take (i := 5) (v := ?v235) rfl (by kernel_rfl) (by kernel_rfl) (by kernel_rfl) (fun _ _ _ h => h) (Or.inl ⟨by rfl, ?hy235⟩) (by assumption) ?_; (case hy235 => (intro x' hxx; obtain ⟨e0, e1, e2, e3, e4, e5⟩ := C8.out x' hxx; go_simp; try with_reducible rfl)))
              change wpAnyH _ _ _ _ _ _ _ (Act.put _ (some 63) _) _
              simp only [Act.put, List.setIfInBounds_toArray, List.set_cons_zero, List.set_cons_succ]
              first | (refine wpAnyH_take (i := 6) (v := undef) rfl (by kernel_rfl) (by kernel_rfl) (by kernel_rfl) (fun _ _ _ h => h) (Or.inr ⟨by rfl, rfl⟩) (by assumption) ?_) | (refine wpAnyH_take (i := 6) (v := ?v236) rfl (by kernel_rfl) (by kernel_rfl) (by kernel_rfl) (fun _ _ _ h => h) (Or.inl ⟨by rfl, ?hy236⟩) (by assumption) ?_; (case hy236 => (intro x' hxx; obtain ⟨e0, e1, e2, e3, e4, e5⟩ := C8.out x' hxx; go_simp; try with_reducible rfl)))
              change wpAnyH _ _ _ _ _ _ _ (Act.put _ (some 64) _) _
              simp only [Act.put, List.setIfInBounds_toArray, List.set_cons_zero, List.set_cons_succ]
              first | (refine wpAnyH_take (i := 7) (v := undef) rfl (by kernel_rfl) (by kernel_rfl) (by kernel_rfl) (fun _ _ _ h => h) (Or.inr ⟨by rfl, rfl⟩) (by assumption) ?_) | (refine wpAnyH_take (i := 7) (v := ?v237) rfl (by kernel_rfl) (by kernel_rfl) (by kernel_rfl) (fun _ _ _ h => h) (Or.inl ⟨by rfl, ?hy237⟩) (by assumption) ?_; (case hy237 => (intro x' hxx; obtain ⟨e0, e1, e2, e3, e4, e5⟩ := C8.out x' hxx; go_simp; try with_reducible rfl)))
              change wpAnyH _ _ _ _ _ _ _ (Act.put _ (some 65) _) _
              simp only [Act.put, List.setIfInBounds_toArray, List.set_cons_zero, List.set_cons_succ]
              first | (refine wpAnyH_take (i := 8) (v := undef) rfl (by kernel_rfl) (by kernel_rfl) (by kernel_rfl) (fun _ _ _ h => h) (Or.inr ⟨by rfl, rfl⟩) (by assumption) ?_) | (refine wpAnyH_take (i := 8) (v := ?v238) rfl (by kernel_rfl) (by kernel_rfl) (by kernel_rfl) (fun _ _ _ h => h) (Or.inl ⟨by rfl, ?hy238⟩) (by assumption) ?_; (case hy238 => (intro x' hxx; obtain ⟨e0, e1, e2, e3, e4, e5⟩ := C8.out x' hxx; go_simp; try with_reducible rfl)))
              change wpAnyH _ _ _ _ _ _ _ (Act.put _ (some 66) _) _
              simp only [Act.put, List.setIfInBounds_toArray, List.set_cons_zero, List.set_cons_succ]
              first | (refine wpAnyH_take (i := 9) (v := undef) rfl (by kernel_rfl) (by kernel_rfl) (by kernel_rfl) (fun _ _ _ h => h) (Or.inr ⟨by rfl, rfl⟩) (by assumption) ?_) | (refine wpAnyH_take (i := 9) (v := ?v239) rfl (by kernel_rfl) (by kernel_rfl) (by kernel_rfl) (fun _ _ _ h => h) (Or.inl ⟨by rfl, ?hy239⟩) (by assumption) ?_; (case hy239 => (intro x' hxx; obtain ⟨e0, e1, e2, e3, e4, e5⟩ := C8.out x' hxx; go_simp; try with_reducible rfl)))
              change wpAnyH _ _ _ _ _ _ _ (Act.put _ (some 67) _) _
              simp only [Act.put, List.setIfInBounds_toArray, List.set_cons_zero, List.set_cons_succ]
              first | (refine wpAnyH_take (i := 10) (v := undef) rfl (by kernel_rfl) (by kernel_rfl) (by kernel_rfl) (fun _ _ _ h => h) (Or.inr ⟨by rfl, rfl⟩) (by assumption) ?_) | (refine wpAnyH_take (i := 10) (v := ?v240) rfl (by kernel_rfl) (by kernel_rfl) (by kernel_rfl) (fun _ _ _ h => h) (Or.inl ⟨by rfl, ?hy240⟩) (by assumption) ?_; (case hy240 => (intro x' hxx; obtain ⟨e0, e1, e2, e3, e4, e5⟩ := C8.out x' hxx; go_simp; try with_reducible rfl)))
              change wpAnyH _ _ _ _ _ _ _ (Act.put _ (some 68) _) _
              simp only [Act.put, List.setIfInBounds_toArray, List.set_cons_zero, List.set_cons_succ]
              first | (refine wpAnyH_take (i := 11) (v := undef) rfl (by kernel_rfl) (by kernel_rfl) (by kernel_rfl) (fun _ _ _ h => h) (Or.inr ⟨by rfl, rfl⟩) (by assumption) ?_) | (refine wpAnyH_take (i := 11) (v := ?v241) rfl (by kernel_rfl) (by kernel_rfl) (by kernel_rfl) (fun _ _ _ h => h) (Or.inl ⟨by rfl, ?hy241⟩) (by assumption) ?_; (case hy241 => (intro x' hxx; obtain ⟨e0, e1, e2, e3, e4, e5⟩ := C8.out x' hxx; go_simp; try with_reducible rfl)))
              change wpAnyH _ _ _ _ _ _ _ (Act.put _ (some 69) _) _
              simp only [Act.put, List.setIfInBounds_toArray, List.set_cons_zero, List.set_cons_succ]
              first | (refine wpAnyH_take (i := 12) (v := undef) rfl (by kernel_rfl) (by kernel_rfl) (by kernel_rfl) (fun _ _ _ h => h) (Or.inr ⟨by rfl, rfl⟩) (by assumption) ?_) | (refine wpAnyH_take (i := 12) (v := ?v242) rfl (by kernel_rfl) (by kernel_rfl) (by kernel_rfl) (fun _ _ _ h => h) (Or.inl ⟨by rfl, ?hy242⟩) (by assumption) ?_; (case hy242 => (intro x' hxx; obtain ⟨e0, e1, e2, e3, e4, e5⟩ := C8.out x' hxx; go_simp; try with_reducible rfl)))
              change wpAnyH _ _ _ _ _ _ _ (Act.put _ (some 70) _) _
              simp only [Act.put, List.setIfInBounds_toArray, List.set_cons_zero, List.set_cons_succ]
              first | (refine wpAnyH_take (i := 13) (v := undef) rfl (by kernel_rfl) (by kernel_rfl) (by kernel_rfl) (fun _ _ _ h => h) (Or.inr ⟨by rfl, rfl⟩) (by assumption) ?_) | (refine wpAnyH_take (i := 13) (v := ?v243) rfl (by kernel_rfl) (by kernel_rfl) (by kernel_rfl) (fun _ _ _ h => h) (Or.inl ⟨by rfl, ?hy243⟩) (by assumption) ?_; (case hy243 => (intro x' hxx; obtain ⟨e0, e1, e2, e3, e4, e5⟩ := C8.out x' hxx; go_simp; try with_reducible rfl)))
              change wpAnyH _ _ _ _ _ _ _ (Act.put _ (some 71) _) _
              simp only [Act.put, List.setIfInBounds_toArray, List.set_cons_zero, List.set_cons_succ]
              first | (refine wpAnyH_take (i := 14) (v := undef) rfl (by kernel_rfl) (by kernel_rfl) (by kernel_rfl) (fun _ _ _ h => h) (Or.inr ⟨by rfl, rfl⟩) (by assumption) ?_) | (refine wpAnyH_take (i := 14) (v := ?v244) rfl (by kernel_rfl) (by kernel_rfl) (by kernel_rfl) (fun _ _ _ h => h) (Or.inl ⟨by rfl, ?hy244⟩) (by assumption) ?_; (case hy244 => (intro x' hxx; obtain ⟨e0, e1, e2, e3, e4, e5⟩ := C8.out x' hxx; go_simp; try with_reducible rfl)))
              change wpAnyH _ _ _ _ _ _ _ (Act.put _ (some 72) _) _
              simp only [Act.put, List.setIfInBounds_toArray, List.set_cons_zero, List.set_cons_succ]
              first | (refine wpAnyH_take (i := 15) (v := undef) rfl (by kernel_rfl) (by kernel_rfl) (by kernel_rfl) (fun _ _ _ h => h) (Or.inr ⟨by rfl, rfl⟩) (by assumption) ?_) | (refine wpAnyH_take (i := 15) (v := ?v245) rfl (by kernel_rfl) (by kernel_rfl) (by kernel_rfl) (fun _ _ _ h => h) (Or.inl ⟨by rfl, ?hy245⟩) (by assumption) ?_; (case hy245 => (intro x' hxx; obtain ⟨e0, e1, e2, e3, e4, e5⟩ := C8.out x' hxx; go_simp; try with_reducible rfl)))
              change wpAnyH _ _ _ _ _ _ _ (Act.put _ (some 73) _) _
              simp only [Act.put, List.setIfInBounds_toArray, List.set_cons_zero, List.set_cons_succ]
              first | (refine wpAnyH_take (i := 16) (v := undef) rfl (by kernel_rfl) (by kernel_rfl) (by kernel_rfl) (fun _ _ _ h => h) (Or.inr ⟨by rfl, rfl⟩) (by assumption) ?_) | (refine wpAnyH_take (i := 16) (v := ?v246) rfl (by kernel_rfl) (by kernel_rfl) (by kernel_rfl) (fun _ _ _ h => h) (Or.inl ⟨by rfl, ?hy246⟩) (by assumption) ?_; (case hy246 => (intro x' hxx; obtain ⟨e0, e1, e2, e3, e4, e5⟩ := C8.out x' hxx; go_simp; try with_reducible rfl)))
              change wpAnyH _ _ _ _ _ _ _ (Act.put _ (some 74) _) _
              simp only [Act.put, List.setIfInBounds_toArray, List.set_cons_zero, List.set_cons_succ]
              first | (refine wpAnyH_take (i := 17) (v := undef) rfl (by kernel_rfl) (by kernel_rfl) (by kernel_rfl) (fun _ _ _ h => h) (Or.inr ⟨by rfl, rfl⟩) (by assumption) ?_) | (refine wpAnyH_take (i := 17) (v := ?v247) rfl (by kernel_rfl) (by kernel_rfl) (by kernel_rfl) (fun _ _ _ h => h) (Or.inl ⟨by rfl, ?hy247⟩) (by assumption) ?_; (case hy247 => (intro x' hxx; obtain ⟨e0, e1, e2, e3, e4, e5⟩ := C8.out x' hxx; go_simp; try with_reducible rfl)))
              change wpAnyH _ _ _ _ _ _ _ (Act.put _ (some 75) _) _
              simp only [Act.put, List.setIfInBounds_toArray, List.set_cons_zero, List.set_cons_succ]
              first | (refine wpAnyH_take (i := 18) (v := undef) rfl (by kernel_rfl) (by kernel_rfl) (by kernel_rfl) (fun _ _ _ h => h) (Or.inr ⟨by rfl, rfl⟩) (by assumption) ?_) | (refine wpAnyH_take (i := 18) (v := ?v248) rfl (by kernel_rfl) (by kernel_rfl) (by kernel_rfl) (fun _ _ _ h => h) (Or.inl ⟨by rfl, ?hy248⟩) (by assumption) ?_; (case hy248 => (intro x' hxx; obtain ⟨e0, e1, e2, e3, e4, e5⟩ := C8.out x' hxx; go_simp; try with_reducible rfl)))
              change wpAnyH _ _ _ _ _ _ _ (Act.put _ (some 76) _) _
              simp only [Act.put, List.setIfInBounds_toArray, List.set_cons_zero, List.set_cons_succ]
              first | (refine wpAnyH_take (i := 19) (v := undef) rfl (by kernel_rfl) (by kernel_rfl) (by kernel_rfl) (fun _ _ _ h => h) (Or.inr ⟨by rfl, rfl⟩) (by assumption) ?_) | (refine wpAnyH_take (i := 19) (v := ?v249) rfl (by kernel_rfl) (by kernel_rfl) (by kernel_rfl) (fun _ _ _ h => h) (Or.inl ⟨by rfl, ?hy249⟩) (by assumption) ?_; (case hy249 => (intro x' hxx; obtain ⟨e0, e1, e2, e3, e4, e5⟩ := C8.out x' hxx; go_simp; try with_reducible rfl)))
              change wpAnyH _ _ _ _ _ _ _ (Act.put _ (some 77) _) _
              simp only [Act.put, List.setIfInBounds_toArray, List.set_cons_zero, List.set_cons_succ]
              first | (refine wpAnyH_take (i := 20) (v := undef) rfl (by kernel_rfl) (by kernel_rfl) (by kernel_rfl) (fun _ _ _ h => h) (Or.inr ⟨by rfl, rfl⟩) (by assumption) ?_) | (refine wpAnyH_take (i := 20) (v := ?v250) rfl (by kernel_rfl) (by kernel_rfl) (by kernel_rfl) (fun _ _ _ h => h) (Or.inl ⟨by rfl, ?hy250⟩) (by assumption) ?_; (case hy250 => (intro x' hxx; obtain ⟨e0, e1, e2, e3, e4, e5⟩ := C8.out x' hxx; go_simp; try with_reducible rfl)))
              change wpAnyH _ _ _ _ _ _ _ (Act.put _ (some 78) _) _
              simp only [Act.put, List.setIfInBounds_toArray, List.set_cons_zero, List.set_cons_succ]
              first | (refine wpAnyH_take (i := 21) (v := undef) rfl (by kernel_rfl) (by kernel_rfl) (by kernel_rfl) (fun _ _ _ h => h) (Or.inr ⟨by rfl, rfl⟩) (by assumption) ?_) | (refine wpAnyH_take (i := 21) (v := ?v251) rfl (by kernel_rfl) (by kernel_rfl) (by kernel_rfl) (fun _ _ _ h => h) (Or.inl ⟨by rfl, ?hy251⟩) (by assumption) ?_; (case hy251 => (intro x' hxx; obtain ⟨e0, e1, e2, e3, e4, e5⟩ := C8.out x' hxx; go_simp; try with_reducible rfl)))
              change wpAnyH _ _ _ _ _ _ _ (Act.put _ (some 79) _) _
              simp only [Act.put, List.setIfInBounds_toArray, List.set_cons_zero, List.set_cons_succ]
              first | (refine wpAnyH_take (i := 22) (v := undef) rfl (by kernel_rfl) (by kernel_rfl) (by kernel_rfl) (fun _ _ _ h => h) (Or.inr ⟨by rfl, rfl⟩) (by assumption) ?_) | (refine wpAnyH_take (i := 22) (v := ?v252) rfl (by kernel_rfl) (by kernel_rfl) (by kernel_rfl) (fun _ _ _ h => h) (Or.inl ⟨by rfl, ?hy252⟩) (by assumption) ?_; (case hy252 => (intro x' hxx; obtain ⟨e0, e1, e2, e3, e4, e5⟩ := C8.out x' hxx; go_simp; try with_reducible rfl)))
              change wpAnyH _ _ _ _ _ _ _ (Act.put _ (some 80) _) _
              simp only [Act.put, List.setIfInBounds_toArray, List.set_cons_zero, List.set_cons_succ]
              first | (refine wpAnyH_take (i := 23) (v := undef) rfl (by kernel_rfl) (by kernel_rfl) (by kernel_rfl) (fun _ _ _ h => h) (Or.inr ⟨by rfl, rfl⟩) (by assumption) ?_) | (refine wpAnyH_take (i := 23) (v := ?v253) rfl (by kernel_rfl) (by kernel_rfl) (by kernel_rfl) (fun _ _ _ h => h) (Or.inl ⟨by rfl, ?hy253⟩) (by assumption) ?_; (case hy253 => (intro x' hxx; obtain ⟨e0, e1, e2, e3, e4, e5⟩ := C8.out x' hxx; go_simp; try with_reducible rfl)))
              change wpAnyH _ _ _ _ _ _ _ (Act.put _ (some 81) _) _
              simp only [Act.put, List.setIfInBounds_toArray, List.set_cons_zero, List.set_cons_succ]
              first | (refine wpAnyH_take (i := 24) (v := undef) rfl (by kernel_rfl) (by kernel_rfl) (by kernel_rfl) (fun _ _ _ h => h) (Or.inr ⟨by rfl, rfl⟩) (by assumption) ?_) | (refine wpAnyH_take (i := 24) (v := ?v254) rfl (by kernel_rfl) (by kernel_rfl) (by kernel_rfl) (fun _ _ _ h => h) (Or.inl ⟨by rfl, ?hy254⟩) (by assumption) ?_; (case hy254 => (intro x' hxx; obtain ⟨e0, e1, e2, e3, e4, e5⟩ := C8.out x' hxx; go_simp; try with_reducible rfl)))
              change wpAnyH _ _ _ _ _ _ _ (Act.put _ (some 82) _) _
              simp only [Act.put, List.setIfInBounds_toArray, List.set_cons_zero, List.set_cons_succ]
              first | (refine wpAnyH_take (i := 25) (v := undef) rfl (by kernel_rfl) (by kernel_rfl) (by kernel_rfl) (fun _ _ _ h => h) (Or.inr ⟨by rfl, rfl⟩) (by assumption) ?_) | (refine wpAnyH_take (i := 25) (v := ?v255) rfl (by kernel_rfl) (by kernel_rfl) (by kernel_rfl) (fun _ _ _ h => h) (Or.inl ⟨by rfl, ?hy255⟩) (by assumption) ?_; (case hy255 => (intro x' hxx; obtain ⟨e0, e1, e2, e3, e4, e5⟩ := C8.out x' hxx; go_simp; try with_reducible rfl)))
              change wpAnyH _ _ _ _ _ _ _ (Act.put _ (some 83) _) _
              simp only [Act.put, List.setIfInBounds_toArray, List.set_cons_zero, List.set_cons_succ]
              first | (refine wpAnyH_take (i := 26) (v := undef) rfl (by kernel_rfl) (by kernel_rfl) (by kernel_rfl) (fun _ _ _ h => h) (Or.inr ⟨by rfl, rfl⟩) (by assumption) ?_) | (refine wpAnyH_take (i := 26) (v := ?v256) rfl (by kernel_rfl) (by kernel_rfl) (by kernel_rfl) (fun _ _ _ h => h) (Or.inl ⟨by rfl, ?hy256⟩) (by assumption) ?_; (case hy256 => (intro x' hxx; obtain ⟨e0, e1, e2, e3, e4, e5⟩ := C8.out x' hxx; go_simp; try with_reducible rfl)))
              change wpAnyH _ _ _ _ _ _ _ (Act.put _ (some 84) _) _
              simp only [Act.put, List.setIfInBounds_toArray, List.set_cons_zero, List.set_cons_succ]
              first | (refine wpAnyH_take (i := 27) (v := undef) rfl (by kernel_rfl) (by kernel_rfl) (by kernel_rfl) (fun _ _ _ h => h) (Or.inr ⟨by rfl, rfl⟩) (by assumption) ?_) | (refine wpAnyH_take (i := 27) (v := ?v257) rfl (by kernel_rfl) (by kernel_rfl) (by kernel_rfl) (fun _ _ _ h => h) (Or.inl ⟨by rfl, ?hy257⟩) (by assumption) ?_; (case hy257 => (intro x' hxx; obtain ⟨e0, e1, e2, e3, e4, e5⟩ := C8.out x' hxx; go_simp; try with_reducible rfl)))
              change wpAnyH _ _ _ _ _ _ _ (Act.put _ (some 85) _) _
              simp only [Act.put, List.setIfInBounds_toArray, List.set_cons_zero, List.set_cons_succ]
              first | (refine wpAnyH_take (i := 28) (v := undef) rfl (by kernel_rfl) (by kernel_rfl) (by kernel_rfl) (fun _ _ _ h => h) (Or.inr ⟨by rfl, rfl⟩) (by assumption) ?_) | (refine wpAnyH_take (i := 28) (v := ?v258) rfl (by kernel_rfl) (by kernel_rfl) (by kernel_rfl) (fun _ _ _ h => h) (Or.inl ⟨by rfl, ?hy258⟩) (by assumption) ?_; (case hy258 => (intro x' hxx; obtain ⟨e0, e1, e2, e3, e4, e5⟩ := C8.out x' hxx; go_simp; try with_reducible rfl)))
              change wpAnyH _ _ _ _ _ _ _ (Act.put _ (some 86) _) _
              simp only [Act.put, List.setIfInBounds_toArray, List.set_cons_zero, List.set_cons_succ]
              first | (refine wpAnyH_take (i := 29) (v := undef) rfl (by kernel_rfl) (by kernel_rfl) (by kernel_rfl) (fun _ _ _ h => h) (Or.inr ⟨by rfl, rfl⟩) (by assumption) ?_) | (refine wpAnyH_take (i := 29) (v := ?v259) rfl (by kernel_rfl) (by kernel_rfl) (by kernel_rfl) (fun _ _ _ h => h) (Or.inl ⟨by rfl, ?hy259⟩) (by assumption) ?_; (case hy259 => (intro x' hxx; obtain ⟨e0, e1, e2, e3, e4, e5⟩ := C8.out x' hxx; go_simp; try with_reducible rfl)))
              change wpAnyH _ _ _ _ _ _ _ (Act.put _ (some 87) _) _
              simp only [Act.put, List.setIfInBounds_toArray, List.set_cons_zero, List.set_cons_succ]
              first | (refine wpAnyH_take (i := 30) (v := undef) rfl (by kernel_rfl) (by kernel_rfl) (by kernel_rfl) (fun _ _ _ h => h) (Or.inr ⟨by rfl, rfl⟩) (by assumption) ?_) | (refine wpAnyH_take (i := 30) (v := ?v260) rfl (by kernel_rfl) (by kernel_rfl) (by kernel_rfl) (fun _ _ _ h => h) (Or.inl ⟨by rfl, ?hy260⟩) (by assumption) ?_; (case hy260 => (intro x' hxx; obtain ⟨e0, e1, e2, e3, e4, e5⟩ := C8.out x' hxx; go_simp; try with_reducible rfl)))
              change wpAnyH _ _ _ _ _ _ _ (Act.put _ (some 88) _) _
              simp only [Act.put, List.setIfInBounds_toArray, List.set_cons_zero, List.set_cons_succ]
              refine wpAnyH_done (by kernel_rfl) ?_ _
              refine NoPanic.normal ?_
              clear hH
              go_wp2_with fail
              go_ret
              exact ⟨by first | rfl | simp, HBR.out.drew⟩
            · obtain ⟨xn, rfl⟩ : ∃ xn : Nat, x = (xn : Int) := ⟨x.toNat, by omega⟩
              have hxn : xn < N := by omega
              have hxi : (xn : Int) < (N : Int) := by omega
              obtain ⟨-, eb, eo, ka, kc, rfl, heb, hec, hek⟩ := HE.out.part xn (by rw [← HNN.out]; exact hxn)
              obtain ⟨ln, hln⟩ : ∃ ln, ln = (g.edges.getD xn []).length := ⟨_, rfl⟩
              rw [← hln] at hec hek
              replace hec := (HBR.out.cell (p := ⟨eb, eo + xn, none⟩) heb).trans hec
              have hlb : ln ≤ 9223372036854775807 := by obtain ⟨_, _, _, h⟩ := hek.slice; omega
              have HLN := Lib.hid hln
              have HEK := Lib.hid (hek.below HBR.out)
              have h8c := fun (y : World) (hy : Below wi.heap.size wi y) => (show y.cell? ⟨b, 0, none⟩ = some (.slice (some ⟨eb, eo, none⟩) N ec) ∧ y.cell? ⟨b + 1, 1, none⟩ = some (.slice (some ⟨fb, fo, none⟩) f fc) ∧ y.cell? ⟨fb, fo + i, none⟩ = some (.int .i64 e) ∧ y.cell? ⟨eb, eo + xn, none⟩ = some (.slice ka ln kc) ∧ True ∧ True from ⟨cells_kept hy _ _ c0', cells_kept hy _ _ d1', cells_kept hy _ _ hfc, cells_kept hy _ _ hec, trivial, trivial⟩)
              replace C8 := Lib.hid h8c
              clear h8c hek hln heb
              have b1d : decide ((xn : Int) < 0) = false := by simp
              have b2d : decide ((N : Int) ≤ (xn : Int)) = false := by simp; omega
              have b2e : decide (N ≤ xn) = false := by simp; omega
              by_cases b3 : e < 0
              · obtain rfl : r = false := by
                  have : stepOk g l i = false := by unfold stepOk nodeB; rw [← HX.out, ← HEE.out]; simp; omega
                  rw [HR2.out, List.all_eq_false.2 ⟨i, by simpa using hlt, by simp [this]⟩]; simp
                have b3d : decide (e < 0) = true := by simp; omega
                clear HR2
                go_wp2_with fail
                refine wp_region_noPanic ?_
                refine wp_region_held_drew (S := fun w' => Below wi.heap.size wi w') (by kernel_rfl) (Below.refl _ _).drew (fun hH => ?_)
                first | (refine wpAnyH_take (i := 0) (v := undef) rfl (by kernel_rfl) (by kernel_rfl) (by kernel_rfl) (fun _ _ _ h => h) (Or.inr ⟨by rfl, rfl⟩) (by assumption) ?_) | (refine wpAnyH_take (i := 0) (v := ?v261) rfl (by kernel_rfl) (by kernel_rfl) (by kernel_rfl) (fun _ _ _ h => h) (Or.inl ⟨by rfl, ?hy261⟩) (by assumption) ?_; (case hy261 => (intro x' hxx; obtain ⟨e0, e1, e2, e3, e4, e5⟩ := C8.out x' hxx; go_simp; try with_reducible rfl)))
                change wpAnyH _ _ _ _ _ _ _ (Act.put _ (some 58) _) _
                simp only [Act.put, List.setIfInBounds_toArray, List.set_cons_zero, List.set_cons_succ]
                first | (refine wpAnyH_take (i := 1) (v := undef) rfl (by kernel_rfl) (by kernel_rfl) (by kernel_rfl) (fun _ _ _ h => h) (Or.inr ⟨by rfl, rfl⟩) (by assumption) ?_) | (refine wpAnyH_take (i := 1) (v := ?v262) rfl (by kernel_rfl) (by kernel_rfl) (by kernel_rfl) (fun _ _ _ h => h) (Or.inl ⟨by rfl, ?hy262⟩) (by assumption) ?_; (case hy262 => (intro x' hxx; obtain ⟨e0, e1, e2, e3, e4, e5⟩ := C8.out x' hxx; go_simp; try with_reducible rfl)))
                change wpAnyH _ _ _ _ _ _ _ (Act.put _ (some 59) _) _
                simp only [Act.put, List.setIfInBounds_toArray, List.set_cons_zero, List.set_cons_succ]
                first | (refine wpAnyH_take (i := 2) (v := undef) rfl (by kernel_rfl) (by kernel_rfl) (by kernel_rfl) (fun _ _ _ h => h) (Or.inr ⟨by rfl, rfl⟩) (by assumption) ?_) | (refine wpAnyH_take (i := 2) (v := ?v263) rfl (by kernel_rfl) (by kernel_rfl) (by kernel_rfl) (fun _ _ _ h => h) (Or.inl ⟨by rfl, ?hy263⟩) (by assumption) ?_; (case hy263 => (intro x' hxx; obtain ⟨e0, e1, e2, e3, e4, e5⟩ := C8.out x' hxx; go_simp; try with_reducible rfl)))
                change wpAnyH _ _ _ _ _ _ _ (Act.put _ (some 60) _) _
                simp only [Act.put, List.setIfInBounds_toArray, List.set_cons_zero, List.set_cons_succ]
                first | (refine wpAnyH_take (i := 3) (v := undef) rfl (by kernel_rfl) (by kernel_rfl) (by kernel_rfl) (fun _ _ _ h => h) (Or.inr ⟨by rfl, rfl⟩) (by assumption) ?_) | (refine wpAnyH_take (i := 3) (v := ?v264) rfl (by kernel_rfl) (by kernel_rfl) (by kernel_rfl) (fun _ _ _ h => h) (Or.inl ⟨by rfl, ?hy264⟩) (by assumption) ?_; (case hy264 => (intro x' hxx; obtain ⟨e0, e1, e2, e3, e4, e5⟩ := C8.out x' hxx; go_simp; try with_reducible rfl)))
                change wpAnyH _ _ _ _ _ _ _ (Act.put _ (some 61) _) _
                simp only [Act.put, List.setIfInBounds_toArray, List.set_cons_zero, List.set_cons_succ]
                first | (refine wpAnyH_take (i := 4) (v := undef) rfl (by kernel_rfl) (by kernel_rfl) (by kernel_rfl) (fun _ _ _ h => h) (Or.inr ⟨by rfl, rfl⟩) (by assumption) ?_) | (refine wpAnyH_take (i := 4) (v := ?v265) rfl (by kernel_rfl) (by kernel_rfl) (by kernel_rfl) (fun _ _ _ h => h) (Or.inl ⟨by rfl, ?hy265⟩) (by assumption) ?_; (case hy265 => (intro x' hxx; obtain ⟨e0, e1, e2, e3, e4, e5⟩ := C8.out x' hxx; go_simp; try with_reducible rfl)))
                change wpAnyH _ _ _ _ _ _ _ (Act.put _ (some 62) _) _
                simp only [Act.put, List.setIfInBounds_toArray, List.set_cons_zero, List.set_cons_succ]
                first | (refine wpAnyH_take (i := 5) (v := undef) rfl (by kernel_rfl) (by kernel_rfl) (by kernel_rfl) (fun _ _ _ h => h) (Or.inr ⟨by rfl, rfl⟩) (by assumption) ?_) | (refine wpAnyH_take (i := 5) (v := ?v266) rfl (by kernel_rfl) (by kernel_rfl) (by kernel_rfl) (fun _ _ _ h => h) (Or.inl ⟨by rfl, ?hy266⟩) (by assumption) ?_; (case hy266 => (intro x' hxx; obtain ⟨e0, e1, e2, e3, e4, e5⟩ := C8.out x' hxx; go_simp; try with_reducible rfl)))
                change wpAnyH _ _ _ _ _ _ _ (Act.put _ (some 63) _) _
                simp only [Act.put, List.setIfInBounds_toArray, List.set_cons_zero, List.set_cons_succ]
                first | (refine wpAnyH_take (i := 6) (v := undef) rfl (by kernel_rfl) (by kernel_rfl) (by kernel_rfl) (fun _ _ _ h => h) (Or.inr ⟨by rfl, rfl⟩) (by assumption) ?_) | (refine wpAnyH_take (i := 6) (v := ?v267) rfl (by kernel_rfl) (by kernel_rfl) (by kernel_rfl) (fun _ _ _ h => h) (Or.inl ⟨by rfl, ?hy267⟩) (by assumption) ?_; (case hy267 => (intro x' hxx; obtain ⟨e0, e1, e2, e3, e4, e5⟩ := C8.out x' hxx; go_simp; try with_reducible rfl)))
                change wpAnyH _ _ _ _ _ _ _ (Act.put _ (some 64) _) _
                simp only [Act.put, List.setIfInBounds_toArray, List.set_cons_zero, List.set_cons_succ]
                first | (refine wpAnyH_take (i := 7) (v := undef) rfl (by kernel_rfl) (by kernel_rfl) (by kernel_rfl) (fun _ _ _ h => h) (Or.inr ⟨by rfl, rfl⟩) (by assumption) ?_) | (refine wpAnyH_take (i := 7) (v := ?v268) rfl (by kernel_rfl) (by kernel_rfl) (by kernel_rfl) (fun _ _ _ h => h) (Or.inl ⟨by rfl, ?hy268⟩) (by assumption) ?_; (case hy268 => (intro x' hxx; obtain ⟨e0, e1, e2, e3, e4, e5⟩ := C8.out x' hxx; go_simp; try with_reducible rfl)))
                change wpAnyH _ _ _ _ _ _ _ (Act.put _ (some 65) _) _
                simp only [Act.put, List.setIfInBounds_toArray, List.set_cons_zero, List.set_cons_succ]
                first | (refine wpAnyH_take (i := 8) (v := undef) rfl (by kernel_rfl) (by kernel_rfl) (by kernel_rfl) (fun _ _ _ h => h) (Or.inr ⟨by rfl, rfl⟩) (by assumption) ?_) | (refine wpAnyH_take (i := 8) (v := ?v269) rfl (by kernel_rfl) (by kernel_rfl) (by kernel_rfl) (fun _ _ _ h => h) (Or.inl ⟨by rfl, ?hy269⟩) (by assumption) ?_; (case hy269 => (intro x' hxx; obtain ⟨e0, e1, e2, e3, e4, e5⟩ := C8.out x' hxx; go_simp; try with_reducible rfl)))
                change wpAnyH _ _ _ _ _ _ _ (Act.put _ (some 66) _) _
                simp only [Act.put, List.setIfInBounds_toArray, List.set_cons_zero, List.set_cons_succ]
                first | (refine wpAnyH_take (i := 9) (v := undef) rfl (by kernel_rfl) (by kernel_rfl) (by kernel_rfl) (fun _ _ _ h => h) (Or.inr ⟨by rfl, rfl⟩) (by assumption) ?_) | (refine wpAnyH_take (i := 9) (v := ?v270) rfl (by kernel_rfl) (by kernel_rfl) (by kernel_rfl) (fun _ _ _ h => h) (Or.inl ⟨by rfl, ?hy270⟩) (by assumption) ?_; (case hy270 => (intro x' hxx; obtain ⟨e0, e1, e2, e3, e4, e5⟩ := C8.out x' hxx; go_simp; try with_reducible rfl)))
                change wpAnyH _ _ _ _ _ _ _ (Act.put _ (some 67) _) _
                simp only [Act.put, List.setIfInBounds_toArray, List.set_cons_zero, List.set_cons_succ]
                first | (refine wpAnyH_take (i := 10) (v := undef) rfl (by kernel_rfl) (by kernel_rfl) (by kernel_rfl) (fun _ _ _ h => h) (Or.inr ⟨by rfl, rfl⟩) (by assumption) ?_) | (refine wpAnyH_take (i := 10) (v := ?v271) rfl (by kernel_rfl) (by kernel_rfl) (by kernel_rfl) (fun _ _ _ h => h) (Or.inl ⟨by rfl, ?hy271⟩) (by assumption) ?_; (case hy271 => (intro x' hxx; obtain ⟨e0, e1, e2, e3, e4, e5⟩ := C8.out x' hxx; go_simp; try with_reducible rfl)))
                change wpAnyH _ _ _ _ _ _ _ (Act.put _ (some 68) _) _
                simp only [Act.put, List.setIfInBounds_toArray, List.set_cons_zero, List.set_cons_succ]
                first | (refine wpAnyH_take (i := 11) (v := undef) rfl (by kernel_rfl) (by kernel_rfl) (by kernel_rfl) (fun _ _ _ h => h) (Or.inr ⟨by rfl, rfl⟩) (by assumption) ?_) | (refine wpAnyH_take (i := 11) (v := ?v272) rfl (by kernel_rfl) (by kernel_rfl) (by kernel_rfl) (fun _ _ _ h => h) (Or.inl ⟨by rfl, ?hy272⟩) (by assumption) ?_; (case hy272 => (intro x' hxx; obtain ⟨e0, e1, e2, e3, e4, e5⟩ := C8.out x' hxx; go_simp; try with_reducible rfl)))
                change wpAnyH _ _ _ _ _ _ _ (Act.put _ (some 69) _) _
                simp only [Act.put, List.setIfInBounds_toArray, List.set_cons_zero, List.set_cons_succ]
                first | (refine wpAnyH_take (i := 12) (v := undef) rfl (by kernel_rfl) (by kernel_rfl) (by kernel_rfl) (fun _ _ _ h => h) (Or.inr ⟨by rfl, rfl⟩) (by assumption) ?_) | (refine wpAnyH_take (i := 12) (v := ?v273) rfl (by kernel_rfl) (by kernel_rfl) (by kernel_rfl) (fun _ _ _ h => h) (Or.inl ⟨by rfl, ?hy273⟩) (by assumption) ?_; (case hy273 => (intro x' hxx; obtain ⟨e0, e1, e2, e3, e4, e5⟩ := C8.out x' hxx; go_simp; try with_reducible rfl)))
                change wpAnyH _ _ _ _ _ _ _ (Act.put _ (some 70) _) _
                simp only [Act.put, List.setIfInBounds_toArray, List.set_cons_zero, List.set_cons_succ]
                first | (refine wpAnyH_take (i := 13) (v := undef) rfl (by kernel_rfl) (by kernel_rfl) (by kernel_rfl) (fun _ _ _ h => h) (Or.inr ⟨by rfl, rfl⟩) (by assumption) ?_) | (refine wpAnyH_take (i := 13) (v := ?v274) rfl (by kernel_rfl) (by kernel_rfl) (by kernel_rfl) (fun _ _ _ h => h) (Or.inl ⟨by rfl, ?hy274⟩) (by assumption) ?_; (case hy274 => (intro x' hxx; obtain ⟨e0, e1, e2, e3, e4, e5⟩ := C8.out x' hxx; go_simp; try with_reducible rfl)))
                change wpAnyH _ _ _ _ _ _ _ (Act.put _ (some 71) _) _
                simp only [Act.put, List.setIfInBounds_toArray, List.set_cons_zero, List.set_cons_succ]
                first | (refine wpAnyH_take (i := 14) (v := undef) rfl (by kernel_rfl) (by kernel_rfl) (by kernel_rfl) (fun _ _ _ h => h) (Or.inr ⟨by rfl, rfl⟩) (by assumption) ?_) | (refine wpAnyH_take (i := 14) (v := ?v275) rfl (by kernel_rfl) (by kernel_rfl) (by kernel_rfl) (fun _ _ _ h => h) (Or.inl ⟨by rfl, ?hy275⟩) (by assumption) ?_; (case hy275 => (intro x' hxx; obtain ⟨e0, e1, e2, e3, e4, e5⟩ := C8.out x' hxx; go_simp; try with_reducible rfl)))
                change wpAnyH _ _ _ _ _ _ _ (Act.put _ (some 72) _) _
                simp only [Act.put, List.setIfInBounds_toArray, List.set_cons_zero, List.set_cons_succ]
                first | (refine wpAnyH_take (i := 15) (v := undef) rfl (by kernel_rfl) (by kernel_rfl) (by kernel_rfl) (fun _ _ _ h => h) (Or.inr ⟨by rfl, rfl⟩) (by assumption) ?_) | (refine wpAnyH_take (i := 15) (v := ?v276) rfl (by kernel_rfl) (by kernel_rfl) (by kernel_rfl) (fun _ _ _ h => h) (Or.inl ⟨by rfl, ?hy276⟩) (by assumption) ?_; (case hy276 => (intro x' hxx; obtain ⟨e0, e1, e2, e3, e4, e5⟩ := C8.out x' hxx; go_simp; try with_reducible rfl)))
                change wpAnyH _ _ _ _ _ _ _ (Act.put _ (some 73) _) _
                simp only [Act.put, List.setIfInBounds_toArray, List.set_cons_zero, List.set_cons_succ]
                first | (refine wpAnyH_take (i := 16) (v := undef) rfl (by kernel_rfl) (by kernel_rfl) (by kernel_rfl) (fun _ _ _ h => h) (Or.inr ⟨by rfl, rfl⟩) (by assumption) ?_) | (refine wpAnyH_take (i := 16) (v := ?v277) rfl (by kernel_rfl) (by kernel_rfl) (by kernel_rfl) (fun _ _ _ h => h) (Or.inl ⟨by rfl, ?hy277⟩) (by assumption) ?_; (case hy277 => (intro x' hxx; obtain ⟨e0, e1, e2, e3, e4, e5⟩ := C8.out x' hxx; go_simp; try with_reducible rfl)))
                change wpAnyH _ _ _ _ _ _ _ (Act.put _ (some 74) _) _
                simp only [Act.put, List.setIfInBounds_toArray, List.set_cons_zero, List.set_cons_succ]
                first | (refine wpAnyH_take (i := 17) (v := undef) rfl (by kernel_rfl) (by kernel_rfl) (by kernel_rfl) (fun _ _ _ h => h) (Or.inr ⟨by rfl, rfl⟩) (by assumption) ?_) | (refine wpAnyH_take (i := 17) (v := ?v278) rfl (by kernel_rfl) (by kernel_rfl) (by kernel_rfl) (fun _ _ _ h => h) (Or.inl ⟨by rfl, ?hy278⟩) (by assumption) ?_; (case hy278 => (intro x' hxx; obtain ⟨e0, e1, e2, e3, e4, e5⟩ := C8.out x' hxx; go_simp; try with_reducible rfl)))
                change wpAnyH _ _ _ _ _ _ _ (Act.put _ (some 75) _) _
                simp only [Act.put, List.setIfInBounds_toArray, List.set_cons_zero, List.set_cons_succ]
                first | (refine wpAnyH_take (i := 18) (v := undef) rfl (by kernel_rfl) (by kernel_rfl) (by kernel_rfl) (fun _ _ _ h => h) (Or.inr ⟨by rfl, rfl⟩) (by assumption) ?_) | (refine wpAnyH_take (i := 18) (v := ?v279) rfl (by kernel_rfl) (by kernel_rfl) (by kernel_rfl) (fun _ _ _ h => h) (Or.inl ⟨by rfl, ?hy279⟩) (by assumption) ?_; (case hy279 => (intro x' hxx; obtain ⟨e0, e1, e2, e3, e4, e5⟩ := C8.out x' hxx; go_simp; try with_reducible rfl)))
                change wpAnyH _ _ _ _ _ _ _ (Act.put _ (some 76) _) _
                simp only [Act.put, List.setIfInBounds_toArray, List.set_cons_zero, List.set_cons_succ]
                first | (refine wpAnyH_take (i := 19) (v := undef) rfl (by kernel_rfl) (by kernel_rfl) (by kernel_rfl) (fun _ _ _ h => h) (Or.inr ⟨by rfl, rfl⟩) (by assumption) ?_) | (refine wpAnyH_take (i := 19) (v := ?v280) rfl (by kernel_rfl) (by kernel_rfl) (by kernel_rfl) (fun _ _ _ h => h) (Or.inl ⟨by rfl, ?hy280⟩) (by assumption) ?_; (case hy280 => (intro x' hxx; obtain ⟨e0, e1, e2, e3, e4, e5⟩ := C8.out x' hxx; go_simp; try with_reducible rfl)))
                change wpAnyH _ _ _ _ _ _ _ (Act.put _ (some 77) _) _
                simp only [Act.put, List.setIfInBounds_toArray, List.set_cons_zero, List.set_cons_succ]
                first | (refine wpAnyH_take (i := 20) (v := undef) rfl (by kernel_rfl) (by kernel_rfl) (by kernel_rfl) (fun _ _ _ h => h) (Or.inr ⟨by rfl, rfl⟩) (by assumption) ?_) | (refine wpAnyH_take (i := 20) (v := ?v281) rfl (by kernel_rfl) (by kernel_rfl) (by kernel_rfl) (fun _ _ _ h => h) (Or.inl ⟨by rfl, ?hy281⟩) (by assumption) ?_; (case hy281 => (intro x' hxx; obtain ⟨e0, e1, e2, e3, e4, e5⟩ := C8.out x' hxx; go_simp; try with_reducible rfl)))
                change wpAnyH _ _ _ _ _ _ _ (Act.put _ (some 78) _) _
                simp only [Act.put, List.setIfInBounds_toArray, List.set_cons_zero, List.set_cons_succ]
                first | (refine wpAnyH_take (i := 21) (v := undef) rfl (by kernel_rfl) (by kernel_rfl) (by kernel_rfl) (fun _ _ _ h => h) (Or.inr ⟨by rfl, rfl⟩) (by assumption) ?_) | (refine wpAnyH_take (i := 21) (v := ?v282) rfl (by kernel_rfl) (by kernel_rfl) (by kernel_rfl) (fun _ _ _ h => h) (Or.inl ⟨by rfl, ?hy282⟩) (by assumption) ?_; (case hy282 => (intro x' hxx; obtain ⟨e0, e1, e2, e3, e4, e5⟩ := C8.out x' hxx; go_simp; try with_reducible rfl)))
                change wpAnyH _ _ _ _ _ _ _ (Act.put _ (some 79) _) _
                simp only [Act.put, List.setIfInBounds_toArray, List.set_cons_zero, List.set_cons_succ]
                first | (refine wpAnyH_take (i := 22) (v := undef) rfl (by kernel_rfl) (by kernel_rfl) (by kernel_rfl) (fun _ _ _ h => h) (Or.inr ⟨by rfl, rfl⟩) (by assumption) ?_) | (refine wpAnyH_take (i := 22) (v := ?v283) rfl (by kernel_rfl) (by kernel_rfl) (by kernel_rfl) (fun _ _ _ h => h) (Or.inl ⟨by rfl, ?hy283⟩) (by assumption) ?_; (case hy283 => (intro x' hxx; obtain ⟨e0, e1, e2, e3, e4, e5⟩ := C8.out x' hxx; go_simp; try with_reducible rfl)))
                change wpAnyH _ _ _ _ _ _ _ (Act.put _ (some 80) _) _
                simp only [Act.put, List.setIfInBounds_toArray, List.set_cons_zero, List.set_cons_succ]
                first | (refine wpAnyH_take (i := 23) (v := undef) rfl (by kernel_rfl) (by kernel_rfl) (by kernel_rfl) (fun _ _ _ h => h) (Or.inr ⟨by rfl, rfl⟩) (by assumption) ?_) | (refine wpAnyH_take (i := 23) (v := ?v284) rfl (by kernel_rfl) (by kernel_rfl) (by kernel_rfl) (fun _ _ _ h => h) (Or.inl ⟨by rfl, ?hy284⟩) (by assumption) ?_; (case hy284 => (intro x' hxx; obtain ⟨e0, e1, e2, e3, e4, e5⟩ := C8.out x' hxx; go_simp; try with_reducible rfl)))
                change wpAnyH _ _ _ _ _ _ _ (Act.put _ (some 81) _) _
                simp only [Act.put, List.setIfInBounds_toArray, List.set_cons_zero, List.set_cons_succ]
                first | (refine wpAnyH_take (i := 24) (v := undef) rfl (by kernel_rfl) (by kernel_rfl) (by kernel_rfl) (fun _ _ _ h => h) (Or.inr ⟨by rfl, rfl⟩) (by assumption) ?_) | (refine wpAnyH_take (i := 24) (v := ?v285) rfl (by kernel_rfl) (by kernel_rfl) (by kernel_rfl) (fun _ _ _ h => h) (Or.inl ⟨by rfl, ?hy285⟩) (by assumption) ?_; (case hy285 => (intro x' hxx; obtain ⟨e0, e1, e2, e3, e4, e5⟩ := C8.out x' hxx; go_simp; try with_reducible rfl)))
                change wpAnyH _ _ _ _ _ _ _ (Act.put _ (some 82) _) _
                simp only [Act.put, List.setIfInBounds_toArray, List.set_cons_zero, List.set_cons_succ]
                first | (refine wpAnyH_take (i := 25) (v := undef) rfl (by kernel_rfl) (by kernel_rfl) (by kernel_rfl) (fun _ _ _ h => h) (Or.inr ⟨by rfl, rfl⟩) (by assumption) ?_) | (refine wpAnyH_take (i := 25) (v := ?v286) rfl (by kernel_rfl) (by kernel_rfl) (by kernel_rfl) (fun _ _ _ h => h) (Or.inl ⟨by rfl, ?hy286⟩) (by assumption) ?_; (case hy286 => (intro x' hxx; obtain ⟨e0, e1, e2, e3, e4, e5⟩ := C8.out x' hxx; go_simp; try with_reducible rfl)))
                change wpAnyH _ _ _ _ _ _ _ (Act.put _ (some 83) _) _
                simp only [Act.put, List.setIfInBounds_toArray, List.set_cons_zero, List.set_cons_succ]
                first | (refine wpAnyH_take (i := 26) (v := undef) rfl (by kernel_rfl) (by kernel_rfl) (by kernel_rfl) (fun _ _ _ h => h) (Or.inr ⟨by rfl, rfl⟩) (by assumption) ?_) | (refine wpAnyH_take (i := 26) (v := ?v287) rfl (by kernel_rfl) (by kernel_rfl) (by kernel_rfl) (fun _ _ _ h => h) (Or.inl ⟨by rfl, ?hy287⟩) (by assumption) ?_; (case hy287 => (intro x' hxx; obtain ⟨e0, e1, e2, e3, e4, e5⟩ := C8.out x' hxx; go_simp; try with_reducible rfl)))
                change wpAnyH _ _ _ _ _ _ _ (Act.put _ (some 84) _) _
                simp only [Act.put, List.setIfInBounds_toArray, List.set_cons_zero, List.set_cons_succ]
                first | (refine wpAnyH_take (i := 27) (v := undef) rfl (by kernel_rfl) (by kernel_rfl) (by kernel_rfl) (fun _ _ _ h => h) (Or.inr ⟨by rfl, rfl⟩) (by assumption) ?_) | (refine wpAnyH_take (i := 27) (v := ?v288) rfl (by kernel_rfl) (by kernel_rfl) (by kernel_rfl) (fun _ _ _ h => h) (Or.inl ⟨by rfl, ?hy288⟩) (by assumption) ?_; (case hy288 => (intro x' hxx; obtain ⟨e0, e1, e2, e3, e4, e5⟩ := C8.out x' hxx; go_simp; try with_reducible rfl)))
                change wpAnyH _ _ _ _ _ _ _ (Act.put _ (some 85) _) _
                simp only [Act.put, List.setIfInBounds_toArray, List.set_cons_zero, List.set_cons_succ]
                first | (refine wpAnyH_take (i := 28) (v := undef) rfl (by kernel_rfl) (by kernel_rfl) (by kernel_rfl) (fun _ _ _ h => h) (Or.inr ⟨by rfl, rfl⟩) (by assumption) ?_) | (refine wpAnyH_take (i := 28) (v := ?v289) rfl (by kernel_rfl) (by kernel_rfl) (by kernel_rfl) (fun _ _ _ h => h) (Or.inl ⟨by rfl, ?hy289⟩) (by assumption) ?_; (case hy289 => (intro x' hxx; obtain ⟨e0, e1, e2, e3, e4, e5⟩ := C8.out x' hxx; go_simp; try with_reducible rfl)))
                change wpAnyH _ _ _ _ _ _ _ (Act.put _ (some 86) _) _
                simp only [Act.put, List.setIfInBounds_toArray, List.set_cons_zero, List.set_cons_succ]
                first | (refine wpAnyH_take (i := 29) (v := undef) rfl (by kernel_rfl) (by kernel_rfl) (by kernel_rfl) (fun _ _ _ h => h) (Or.inr ⟨by rfl, rfl⟩) (by assumption) ?_) | (refine wpAnyH_take (i := 29) (v := ?v290) rfl (by kernel_rfl) (by kernel_rfl) (by kernel_rfl) (fun _ _ _ h => h) (Or.inl ⟨by rfl, ?hy290⟩) (by assumption) ?_; (case hy290 => (intro x' hxx; obtain ⟨e0, e1, e2, e3, e4, e5⟩ := C8.out x' hxx; go_simp; try with_reducible rfl)))
                change wpAnyH _ _ _ _ _ _ _ (Act.put _ (some 87) _) _
                simp only [Act.put, List.setIfInBounds_toArray, List.set_cons_zero, List.set_cons_succ]
                first | (refine wpAnyH_take (i := 30) (v := undef) rfl (by kernel_rfl) (by kernel_rfl) (by kernel_rfl) (fun _ _ _ h => h) (Or.inr ⟨by rfl, rfl⟩) (by assumption) ?_) | (refine wpAnyH_take (i := 30) (v := ?v291) rfl (by kernel_rfl) (by kernel_rfl) (by kernel_rfl) (fun _ _ _ h => h) (Or.inl ⟨by rfl, ?hy291⟩) (by assumption) ?_; (case hy291 => (intro x' hxx; obtain ⟨e0, e1, e2, e3, e4, e5⟩ := C8.out x' hxx; go_simp; try with_reducible rfl)))
                change wpAnyH _ _ _ _ _ _ _ (Act.put _ (some 88) _) _
                simp only [Act.put, List.setIfInBounds_toArray, List.set_cons_zero, List.set_cons_succ]
                refine wpAnyH_done (by kernel_rfl) ?_ _
                refine NoPanic.normal ?_
                clear hH
                go_wp2_with fail
                go_ret
                exact ⟨by first | rfl | simp, HBR.out.drew⟩
              · obtain ⟨en, rfl⟩ : ∃ en : Nat, e = (en : Int) := ⟨e.toNat, by omega⟩
                have b3d : decide ((en : Int) < 0) = false := by simp
                by_cases b4 : (ln : Int) ≤ (en : Int)
                · obtain rfl : r = false := by
                    have h2 := HLN.out
                    have h3 : decide (0 ≤ (en : Int) ∧ (en : Int) < ((g.edges.getD (xn : Int).toNat []).length : Int)) = false := by simp only [Int.toNat_natCast]; rw [decide_eq_false_iff_not]; omega
                    have : stepOk g l i = false := by unfold stepOk nodeB; rw [← HX.out, ← HEE.out, h3]; simp
                    rw [HR2.out, List.all_eq_false.2 ⟨i, by simpa using hlt, by simp [this]⟩]; simp
                  have b4d : decide ((ln : Int) ≤ (en : Int)) = true := by simp; omega
                  have b4e : decide (ln ≤ en) = true := by simp; omega
                  clear HR2
                  go_wp2_with fail
                  refine wp_region_noPanic ?_
                  refine wp_region_held_drew (S := fun w' => Below wi.heap.size wi w') (by kernel_rfl) (Below.refl _ _).drew (fun hH => ?_)
                  first | (refine wpAnyH_take (i := 0) (v := undef) rfl (by kernel_rfl) (by kernel_rfl) (by kernel_rfl) (fun _ _ _ h => h) (Or.inr ⟨by rfl, rfl⟩) (by assumption) ?_) | (refine wpAnyH_take (i := 0) (v := ?v292) rfl (by kernel_rfl) (by kernel_rfl) (by kernel_rfl) (fun _ _ _ h => h) (Or.inl ⟨by rfl, ?hy292⟩) (by assumption) ?_; (case hy292 => (intro x' hxx; obtain ⟨e0, e1, e2, e3, e4, e5⟩ := C8.out x' hxx; go_simp; try with_reducible rfl)))
                  change wpAnyH _ _ _ _ _ _ _ (Act.put _ (some 58) _) _
                  simp only [Act.put, List.setIfInBounds_toArray, List.set_cons_zero, List.set_cons_succ]
                  first | (refine wpAnyH_take (i := 1) (v := undef) rfl (by kernel_rfl) (by kernel_rfl) (by kernel_rfl) (fun _ _ _ h => h) (Or.inr ⟨by rfl, rfl⟩) (by assumption) ?_) | (refine wpAnyH_take (i := 1) (v := ?v293) rfl (by kernel_rfl) (by kernel_rfl) (by kernel_rfl) (fun _ _ _ h => h) (Or.inl ⟨by rfl, ?hy293⟩) (by assumption) ?_; (case hy293 => (intro x' hxx; obtain ⟨e0, e1, e2, e3, e4, e5⟩ := C8.out x' hxx; go_simp; try with_reducible rfl)))
                  change wpAnyH _ _ _ _ _ _ _ (Act.put _ (some 59) _) _
                  simp only [Act.put, List.setIfInBounds_toArray, List.set_cons_zero, List.set_cons_succ]
                  first | (refine wpAnyH_take (i := 2) (v := undef) rfl (by kernel_rfl) (by kernel_rfl) (by kernel_rfl) (fun _ _ _ h => h) (Or.inr ⟨by rfl, rfl⟩) (by assumption) ?_) | (refine wpAnyH_take (i := 2) (v := ?v294) rfl (by kernel_rfl) (by kernel_rfl) (by kernel_rfl) (fun _ _ _ h => h) (Or.inl ⟨by rfl, ?hy294⟩) (by assumption) ?_; (case hy294 => (intro x' hxx; obtain ⟨e0, e1, e2, e3, e4, e5⟩ := C8.out x' hxx; go_simp; try with_reducible rfl)))
                  change wpAnyH _ _ _ _ _ _ _ (Act.put _ (some 60) _) _
                  simp only [Act.put, List.setIfInBounds_toArray, List.set_cons_zero, List.set_cons_succ]
                  first | (refine wpAnyH_take (i := 3) (v := undef) rfl (by kernel_rfl) (by kernel_rfl) (by kernel_rfl) (fun _ _ _ h => h) (Or.inr ⟨by rfl, rfl⟩) (by assumption) ?_) | (refine wpAnyH_take (i := 3) (v := ?v295) rfl (by kernel_rfl) (by kernel_rfl) (by kernel_rfl) (fun _ _ _ h => h) (Or.inl ⟨by rfl, ?hy295⟩) (by assumption) ?_; (case hy295 => (intro x' hxx; obtain ⟨e0, e1, e2, e3, e4, e5⟩ := C8.out x' hxx; go_simp; try with_reducible rfl)))
                  change wpAnyH _ _ _ _ _ _ _ (Act.put _ (some 61) _) _
                  simp only [Act.put, List.setIfInBounds_toArray, List.set_cons_zero, List.set_cons_succ]
                  first | (refine wpAnyH_take (i := 4) (v := undef) rfl (by kernel_rfl) (by kernel_rfl) (by kernel_rfl) (fun _ _ _ h => h) (Or.inr ⟨by rfl, rfl⟩) (by assumption) ?_) | (refine wpAnyH_take (i := 4) (v := ?v296) rfl (by kernel_rfl) (by kernel_rfl) (by kernel_rfl) (fun _ _ _ h => h) (Or.inl ⟨by rfl, ?hy296⟩) (by assumption) ?_; (case hy296 => (intro x' hxx; obtain ⟨e0, e1, e2, e3, e4, e5⟩ := C8.out x' hxx; go_simp; try with_reducible rfl)))
                  change wpAnyH _ _ _ _ _ _ _ (Act.put _ (some 62) _) _
                  simp only [Act.put, List.setIfInBounds_toArray, List.set_cons_zero, List.set_cons_succ]
                  first | (refine wpAnyH_take (i := 5) (v := undef) rfl (by kernel_rfl) (by kernel_rfl) (by kernel_rfl) (fun _ _ _ h => h) (Or.inr ⟨by rfl, rfl⟩) (by assumption) ?_) | (refine wpAnyH_take (i := 5) (v := ?v297) rfl (by kernel_rfl) (by kernel_rfl) (by kernel_rfl) (fun _ _ _ h => h) (Or.inl ⟨by rfl, ?hy297⟩) (by assumption) ?_; (case hy297 => (intro x' hxx; obtain ⟨e0, e1, e2, e3, e4, e5⟩ := C8.out x' hxx; go_simp; try with_reducible rfl)))
                  change wpAnyH _ _ _ _ _ _ _ (Act.put _ (some 63) _) _
                  simp only [Act.put, List.setIfInBounds_toArray, List.set_cons_zero, List.set_cons_succ]
                  first | (refine wpAnyH_take (i := 6) (v := undef) rfl (by kernel_rfl) (by kernel_rfl) (by kernel_rfl) (fun _ _ _ h => h) (Or.inr ⟨by rfl, rfl⟩) (by assumption) ?_) | (refine wpAnyH_take (i := 6) (v := ?v298) rfl (by kernel_rfl) (by kernel_rfl) (by kernel_rfl) (fun _ _ _ h => h) (Or.inl ⟨by rfl, ?hy298⟩) (by assumption) ?_; (case hy298 => (intro x' hxx; obtain ⟨e0, e1, e2, e3, e4, e5⟩ := C8.out x' hxx; go_simp; try with_reducible rfl)))
                  change wpAnyH _ _ _ _ _ _ _ (Act.put _ (some 64) _) _
                  simp only [Act.put, List.setIfInBounds_toArray, List.set_cons_zero, List.set_cons_succ]
                  first | (refine wpAnyH_take (i := 7) (v := undef) rfl (by kernel_rfl) (by kernel_rfl) (by kernel_rfl) (fun _ _ _ h => h) (Or.inr ⟨by rfl, rfl⟩) (by assumption) ?_) | (refine wpAnyH_take (i := 7) (v := ?v299) rfl (by kernel_rfl) (by kernel_rfl) (by kernel_rfl) (fun _ _ _ h => h) (Or.inl ⟨by rfl, ?hy299⟩) (by assumption) ?_; (case hy299 => (intro x' hxx; obtain ⟨e0, e1, e2, e3, e4, e5⟩ := C8.out x' hxx; go_simp; try with_reducible rfl)))
                  change wpAnyH _ _ _ _ _ _ _ (Act.put _ (some 65) _) _
                  simp only [Act.put, List.setIfInBounds_toArray, List.set_cons_zero, List.set_cons_succ]
                  first | (refine wpAnyH_take (i := 8) (v := undef) rfl (by kernel_rfl) (by kernel_rfl) (by kernel_rfl) (fun _ _ _ h => h) (Or.inr ⟨by rfl, rfl⟩) (by assumption) ?_) | (refine wpAnyH_take (i := 8) (v := ?v300) rfl (by kernel_rfl) (by kernel_rfl) (by kernel_rfl) (fun _ _ _ h => h) (Or.inl ⟨by rfl, ?hy300⟩) (by assumption) ?_; (case hy300 => (intro x' hxx; obtain ⟨e0, e1, e2, e3, e4, e5⟩ := C8.out x' hxx; go_simp; try with_reducible rfl)))
                  change wpAnyH _ _ _ _ _ _ _ (Act.put _ (some 66) _) _
                  simp only [Act.put, List.setIfInBounds_toArray, List.set_cons_zero, List.set_cons_succ]
                  first | (refine wpAnyH_take (i := 9) (v := undef) rfl (by kernel_rfl) (by kernel_rfl) (by kernel_rfl) (fun _ _ _ h => h) (Or.inr ⟨by rfl, rfl⟩) (by assumption) ?_) | (refine wpAnyH_take (i := 9) (v := ?v301) rfl (by kernel_rfl) (by kernel_rfl) (by kernel_rfl) (fun _ _ _ h => h) (Or.inl ⟨by rfl, ?hy301⟩) (by assumption) ?_; (case hy301 => (intro x' hxx; obtain ⟨e0, e1, e2, e3, e4, e5⟩ := C8.out x' hxx; go_simp; try with_reducible rfl)))
                  change wpAnyH _ _ _ _ _ _ _ (Act.put _ (some 67) _) _
                  simp only [Act.put, List.setIfInBounds_toArray, List.set_cons_zero, List.set_cons_succ]
                  first | (refine wpAnyH_take (i := 10) (v := undef) rfl (by kernel_rfl) (by kernel_rfl) (by kernel_rfl) (fun _ _ _ h => h) (Or.inr ⟨by rfl, rfl⟩) (by assumption) ?_) | (refine wpAnyH_take (i := 10) (v := ?v302) rfl (by kernel_rfl) (by kernel_rfl) (by kernel_rfl) (fun _ _ _ h => h) (Or.inl ⟨by rfl, ?hy302⟩) (by assumption) ?_; (case hy302 => (intro x' hxx; obtain ⟨e0, e1, e2, e3, e4, e5⟩ := C8.out x' hxx; go_simp; try with_reducible rfl)))
                  change wpAnyH _ _ _ _ _ _ _ (Act.put _ (some 68) _) _
                  simp only [Act.put, List.setIfInBounds_toArray, List.set_cons_zero, List.set_cons_succ]
                  first | (refine wpAnyH_take (i := 11) (v := undef) rfl (by kernel_rfl) (by kernel_rfl) (by kernel_rfl) (fun _ _ _ h => h) (Or.inr ⟨by rfl, rfl⟩) (by assumption) ?_) | (refine wpAnyH_take (i := 11) (v := ?v303) rfl (by kernel_rfl) (by kernel_rfl) (by kernel_rfl) (fun _ _ _ h => h) (Or.inl ⟨by rfl, ?hy303⟩) (by assumption) ?_; (case hy303 => (intro x' hxx; obtain ⟨e0, e1, e2, e3, e4, e5⟩ := C8.out x' hxx; go_simp; try with_reducible rfl)))
                  change wpAnyH _ _ _ _ _ _ _ (Act.put _ (some 69) _) _
                  simp only [Act.put, List.setIfInBounds_toArray, List.set_cons_zero, List.set_cons_succ]
                  first | (refine wpAnyH_take (i := 12) (v := undef) rfl (by kernel_rfl) (by kernel_rfl) (by kernel_rfl) (fun _ _ _ h => h) (Or.inr ⟨by rfl, rfl⟩) (by assumption) ?_) | (refine wpAnyH_take (i := 12) (v := ?v304) rfl (by kernel_rfl) (by kernel_rfl) (by kernel_rfl) (fun _ _ _ h => h) (Or.inl ⟨by rfl, ?hy304⟩) (by assumption) ?_; (case hy304 => (intro x' hxx; obtain ⟨e0, e1, e2, e3, e4, e5⟩ := C8.out x' hxx; go_simp; try with_reducible rfl)))
                  change wpAnyH _ _ _ _ _ _ _ (Act.put _ (some 70) _) _
                  simp only [Act.put, List.setIfInBounds_toArray, List.set_cons_zero, List.set_cons_succ]
                  first | (refine wpAnyH_take (i := 13) (v := undef) rfl (by kernel_rfl) (by kernel_rfl) (by kernel_rfl) (fun _ _ _ h => h) (Or.inr ⟨by rfl, rfl⟩) (by assumption) ?_) | (refine wpAnyH_take (i := 13) (v := ?v305) rfl (by kernel_rfl) (by kernel_rfl) (by kernel_rfl) (fun _ _ _ h => h) (Or.inl ⟨by rfl, ?hy305⟩) (by assumption) ?_; (case hy305 => (intro x' hxx; obtain ⟨e0, e1, e2, e3, e4, e5⟩ := C8.out x' hxx; go_simp; try with_reducible rfl)))
                  change wpAnyH _ _ _ _ _ _ _ (Act.put _ (some 71) _) _
                  simp only [Act.put, List.setIfInBounds_toArray, List.set_cons_zero, List.set_cons_succ]
                  first | (refine wpAnyH_take (i := 14) (v := undef) rfl (by kernel_rfl) (by kernel_rfl) (by kernel_rfl) (fun _ _ _ h => h) (Or.inr ⟨by rfl, rfl⟩) (by assumption) ?_) | (refine wpAnyH_take (i := 14) (v := ?v306) rfl (by kernel_rfl) (by kernel_rfl) (by kernel_rfl) (fun _ _ _ h => h) (Or.inl ⟨by rfl, ?hy306⟩) (by assumption) ?_; (case hy306 => (intro x' hxx; obtain ⟨e0, e1, e2, e3, e4, e5⟩ := C8.out x' hxx; go_simp; try with_reducible rfl)))
                  change wpAnyH _ _ _ _ _ _ _ (Act.put _ (some 72) _) _
                  simp only [Act.put, List.setIfInBounds_toArray, List.set_cons_zero, List.set_cons_succ]
                  first | (refine wpAnyH_take (i := 15) (v := undef) rfl (by kernel_rfl) (by kernel_rfl) (by kernel_rfl) (fun _ _ _ h => h) (Or.inr ⟨by rfl, rfl⟩) (by assumption) ?_) | (refine wpAnyH_take (i := 15) (v := ?v307) rfl (by kernel_rfl) (by kernel_rfl) (by kernel_rfl) (fun _ _ _ h => h) (Or.inl ⟨by rfl, ?hy307⟩) (by assumption) ?_; (case hy307 => (intro x' hxx; obtain ⟨e0, e1, e2, e3, e4, e5⟩ := C8.out x' hxx; go_simp; try with_reducible rfl)))
                  change wpAnyH _ _ _ _ _ _ _ (Act.put _ (some 73) _) _
                  simp only [Act.put, List.setIfInBounds_toArray, List.set_cons_zero, List.set_cons_succ]
                  first | (refine wpAnyH_take (i := 16) (v := undef) rfl (by kernel_rfl) (by kernel_rfl) (by kernel_rfl) (fun _ _ _ h => h) (Or.inr ⟨by rfl, rfl⟩) (by assumption) ?_) | (refine wpAnyH_take (i := 16) (v := ?v308) rfl (by kernel_rfl) (by kernel_rfl) (by kernel_rfl) (fun _ _ _ h => h) (Or.inl ⟨by rfl, ?hy308⟩) (by assumption) ?_; (case hy308 => (intro x' hxx; obtain ⟨e0, e1, e2, e3, e4, e5⟩ := C8.out x' hxx; go_simp; try with_reducible rfl)))
                  change wpAnyH _ _ _ _ _ _ _ (Act.put _ (some 74) _) _
                  simp only [Act.put, List.setIfInBounds_toArray, List.set_cons_zero, List.set_cons_succ]
                  first | (refine wpAnyH_take (i := 17) (v := undef) rfl (by kernel_rfl) (by kernel_rfl) (by kernel_rfl) (fun _ _ _ h => h) (Or.inr ⟨by rfl, rfl⟩) (by assumption) ?_) | (refine wpAnyH_take (i := 17) (v := ?v309) rfl (by kernel_rfl) (by kernel_rfl) (by kernel_rfl) (fun _ _ _ h => h) (Or.inl ⟨by rfl, ?hy309⟩) (by assumption) ?_; (case hy309 => (intro x' hxx; obtain ⟨e0, e1, e2, e3, e4, e5⟩ := C8.out x' hxx; go_simp; try with_reducible rfl)))
                  change wpAnyH _ _ _ _ _ _ _ (Act.put _ (some 75) _) _
                  simp only [Act.put, List.setIfInBounds_toArray, List.set_cons_zero, List.set_cons_succ]
                  first | (refine wpAnyH_take (i := 18) (v := undef) rfl (by kernel_rfl) (by kernel_rfl) (by kernel_rfl) (fun _ _ _ h => h) (Or.inr ⟨by rfl, rfl⟩) (by assumption) ?_) | (refine wpAnyH_take (i := 18) (v := ?v310) rfl (by kernel_rfl) (by kernel_rfl) (by kernel_rfl) (fun _ _ _ h => h) (Or.inl ⟨by rfl, ?hy310⟩) (by assumption) ?_; (case hy310 => (intro x' hxx; obtain ⟨e0, e1, e2, e3, e4, e5⟩ := C8.out x' hxx; go_simp; try with_reducible rfl)))
                  change wpAnyH _ _ _ _ _ _ _ (Act.put _ (some 76) _) _
                  simp only [Act.put, List.setIfInBounds_toArray, List.set_cons_zero, List.set_cons_succ]
                  first | (refine wpAnyH_take (i := 19) (v := undef) rfl (by kernel_rfl) (by kernel_rfl) (by kernel_rfl) (fun _ _ _ h => h) (Or.inr ⟨by rfl, rfl⟩) (by assumption) ?_) | (refine wpAnyH_take (i := 19) (v := ?v311) rfl (by kernel_rfl) (by kernel_rfl) (by kernel_rfl) (fun _ _ _ h => h) (Or.inl ⟨by rfl, ?hy311⟩) (by assumption) ?_; (case hy311 => (intro x' hxx; obtain ⟨e0, e1, e2, e3, e4, e5⟩ := C8.out x' hxx; go_simp; try with_reducible rfl)))
                  change wpAnyH _ _ _ _ _ _ _ (Act.put _ (some 77) _) _
                  simp only [Act.put, List.setIfInBounds_toArray, List.set_cons_zero, List.set_cons_succ]
                  first | (refine wpAnyH_take (i := 20) (v := undef) rfl (by kernel_rfl) (by kernel_rfl) (by kernel_rfl) (fun _ _ _ h => h) (Or.inr ⟨by rfl, rfl⟩) (by assumption) ?_) | (refine wpAnyH_take (i := 20) (v := ?v312) rfl (by kernel_rfl) (by kernel_rfl) (by kernel_rfl) (fun _ _ _ h => h) (Or.inl ⟨by rfl, ?hy312⟩) (by assumption) ?_; (case hy312 => (intro x' hxx; obtain ⟨e0, e1, e2, e3, e4, e5⟩ := C8.out x' hxx; go_simp; try with_reducible rfl)))
                  change wpAnyH _ _ _ _ _ _ _ (Act.put _ (some 78) _) _
                  simp only [Act.put, List.setIfInBounds_toArray, List.set_cons_zero, List.set_cons_succ]
                  first | (refine wpAnyH_take (i := 21) (v := undef) rfl (by kernel_rfl) (by kernel_rfl) (by kernel_rfl) (fun _ _ _ h => h) (Or.inr ⟨by rfl, rfl⟩) (by assumption) ?_) | (refine wpAnyH_take (i := 21) (v := ?v313) rfl (by kernel_rfl) (by kernel_rfl) (by kernel_rfl) (fun _ _ _ h => h) (Or.inl ⟨by rfl, ?hy313⟩) (by assumption) ?_; (case hy313 => (intro x' hxx; obtain ⟨e0, e1, e2, e3, e4, e5⟩ := C8.out x' hxx; go_simp; try with_reducible rfl)))
                  change wpAnyH _ _ _ _ _ _ _ (Act.put _ (some 79) _) _
                  simp only [Act.put, List.setIfInBounds_toArray, List.set_cons_zero, List.set_cons_succ]
                  first | (refine wpAnyH_take (i := 22) (v := undef) rfl (by kernel_rfl) (by kernel_rfl) (by kernel_rfl) (fun _ _ _ h => h) (Or.inr ⟨by rfl, rfl⟩) (by assumption) ?_) | (refine wpAnyH_take (i := 22) (v := ?v314) rfl (by kernel_rfl) (by kernel_rfl) (by kernel_rfl) (fun _ _ _ h => h) (Or.inl ⟨by rfl, ?hy314⟩) (by assumption) ?_; (case hy314 => (intro x' hxx; obtain ⟨e0, e1, e2, e3, e4, e5⟩ := C8.out x' hxx; go_simp; try with_reducible rfl)))
                  change wpAnyH _ _ _ _ _ _ _ (Act.put _ (some 80) _) _
                  simp only [Act.put, List.setIfInBounds_toArray, List.set_cons_zero, List.set_cons_succ]
                  first | (refine wpAnyH_take (i := 23) (v := undef) rfl (by kernel_rfl) (by kernel_rfl) (by kernel_rfl) (fun _ _ _ h => h) (Or.inr ⟨by rfl, rfl⟩) (by assumption) ?_) | (refine wpAnyH_take (i := 23) (v := ?v315) rfl (by kernel_rfl) (by kernel_rfl) (by kernel_rfl) (fun _ _ _ h => h) (Or.inl ⟨by rfl, ?hy315⟩) (by assumption) ?_; (case hy315 => (intro x' hxx; obtain ⟨e0, e1, e2, e3, e4, e5⟩ := C8.out x' hxx; go_simp; try with_reducible rfl)))
                  change wpAnyH _ _ _ _ _ _ _ (Act.put _ (some 81) _) _
                  simp only [Act.put, List.setIfInBounds_toArray, List.set_cons_zero, List.set_cons_succ]
                  first | (refine wpAnyH_take (i := 24) (v := undef) rfl (by kernel_rfl) (by kernel_rfl) (by kernel_rfl) (fun _ _ _ h => h) (Or.inr ⟨by rfl, rfl⟩) (by assumption) ?_) | (refine wpAnyH_take (i := 24) (v := ?v316) rfl (by kernel_rfl) (by kernel_rfl) (by kernel_rfl) (fun _ _ _ h => h) (Or.inl ⟨by rfl, ?hy316⟩) (by assumption) ?_; (case hy316 => (intro x' hxx; obtain ⟨e0, e1, e2, e3, e4, e5⟩ := C8.out x' hxx; go_simp; try with_reducible rfl)))
                  change wpAnyH _ _ _ _ _ _ _ (Act.put _ (some 82) _) _
                  simp only [Act.put, List.setIfInBounds_toArray, List.set_cons_zero, List.set_cons_succ]
                  first | (refine wpAnyH_take (i := 25) (v := undef) rfl (by kernel_rfl) (by kernel_rfl) (by kernel_rfl) (fun _ _ _ h => h) (Or.inr ⟨by rfl, rfl⟩) (by assumption) ?_) | (refine wpAnyH_take (i := 25) (v := ?v317) rfl (by kernel_rfl) (by kernel_rfl) (by kernel_rfl) (fun _ _ _ h => h) (Or.inl ⟨by rfl, ?hy317⟩) (by assumption) ?_; (case hy317 => (intro x' hxx; obtain ⟨e0, e1, e2, e3, e4, e5⟩ := C8.out x' hxx; go_simp; try with_reducible rfl)))
                  change wpAnyH _ _ _ _ _ _ _ (Act.put _ (some 83) _) _
                  simp only [Act.put, List.setIfInBounds_toArray, List.set_cons_zero, List.set_cons_succ]
                  first | (refine wpAnyH_take (i := 26) (v := undef) rfl (by kernel_rfl) (by kernel_rfl) (by kernel_rfl) (fun _ _ _ h => h) (Or.inr ⟨by rfl, rfl⟩) (by assumption) ?_) | (refine wpAnyH_take (i := 26) (v := ?v318) rfl (by kernel_rfl) (by kernel_rfl) (by kernel_rfl) (fun _ _ _ h => h) (Or.inl ⟨by rfl, ?hy318⟩) (by assumption) ?_; (case hy318 => (intro x' hxx; obtain ⟨e0, e1, e2, e3, e4, e5⟩ := C8.out x' hxx; go_simp; try with_reducible rfl)))
                  change wpAnyH _ _ _ _ _ _ _ (Act.put _ (some 84) _) _
                  simp only [Act.put, List.setIfInBounds_toArray, List.set_cons_zero, List.set_cons_succ]
                  first | (refine wpAnyH_take (i := 27) (v := undef) rfl (by kernel_rfl) (by kernel_rfl) (by kernel_rfl) (fun _ _ _ h => h) (Or.inr ⟨by rfl, rfl⟩) (by assumption) ?_) | (refine wpAnyH_take (i := 27) (v := ?v319) rfl (by kernel_rfl) (by kernel_rfl) (by kernel_rfl) (fun _ _ _ h => h) (Or.inl ⟨by rfl, ?hy319⟩) (by assumption) ?_; (case hy319 => (intro x' hxx; obtain ⟨e0, e1, e2, e3, e4, e5⟩ := C8.out x' hxx; go_simp; try with_reducible rfl)))
                  change wpAnyH _ _ _ _ _ _ _ (Act.put _ (some 85) _) _
                  simp only [Act.put, List.setIfInBounds_toArray, List.set_cons_zero, List.set_cons_succ]
                  first | (refine wpAnyH_take (i := 28) (v := undef) rfl (by kernel_rfl) (by kernel_rfl) (by kernel_rfl) (fun _ _ _ h => h) (Or.inr ⟨by rfl, rfl⟩) (by assumption) ?_) | (refine wpAnyH_take (i := 28) (v := ?v320) rfl (by kernel_rfl) (by kernel_rfl) (by kernel_rfl) (fun _ _ _ h => h) (Or.inl ⟨by rfl, ?hy320⟩) (by assumption) ?_; (case hy320 => (intro x' hxx; obtain ⟨e0, e1, e2, e3, e4, e5⟩ := C8.out x' hxx; go_simp; try with_reducible rfl)))
                  change wpAnyH _ _ _ _ _ _ _ (Act.put _ (some 86) _) _
                  simp only [Act.put, List.setIfInBounds_toArray, List.set_cons_zero, List.set_cons_succ]
                  first | (refine wpAnyH_take (i := 29) (v := undef) rfl (by kernel_rfl) (by kernel_rfl) (by kernel_rfl) (fun _ _ _ h => h) (Or.inr ⟨by rfl, rfl⟩) (by assumption) ?_) | (refine wpAnyH_take (i := 29) (v := ?v321) rfl (by kernel_rfl) (by kernel_rfl) (by kernel_rfl) (fun _ _ _ h => h) (Or.inl ⟨by rfl, ?hy321⟩) (by assumption) ?_; (case hy321 => (intro x' hxx; obtain ⟨e0, e1, e2, e3, e4, e5⟩ := C8.out x' hxx; go_simp; try with_reducible rfl)))
                  change wpAnyH _ _ _ _ _ _ _ (Act.put _ (some 87) _) _
                  simp only [Act.put, List.setIfInBounds_toArray, List.set_cons_zero, List.set_cons_succ]
                  first | (refine wpAnyH_take (i := 30) (v := undef) rfl (by kernel_rfl) (by kernel_rfl) (by kernel_rfl) (fun _ _ _ h => h) (Or.inr ⟨by rfl, rfl⟩) (by assumption) ?_) | (refine wpAnyH_take (i := 30) (v := ?v322) rfl (by kernel_rfl) (by kernel_rfl) (by kernel_rfl) (fun _ _ _ h => h) (Or.inl ⟨by rfl, ?hy322⟩) (by assumption) ?_; (case hy322 => (intro x' hxx; obtain ⟨e0, e1, e2, e3, e4, e5⟩ := C8.out x' hxx; go_simp; try with_reducible rfl)))
                  change wpAnyH _ _ _ _ _ _ _ (Act.put _ (some 88) _) _
                  simp only [Act.put, List.setIfInBounds_toArray, List.set_cons_zero, List.set_cons_succ]
                  refine wpAnyH_done (by kernel_rfl) ?_ _
                  refine NoPanic.normal ?_
                  clear hH
                  go_wp2_with fail
                  go_ret
                  exact ⟨by first | rfl | simp, HBR.out.drew⟩
                · have b4d : decide ((ln : Int) ≤ (en : Int)) = false := by simp; omega
                  have b4e : decide (ln ≤ en) = false := by simp; omega
                  go_wp2_with fail
                  refine wp_region_noPanic ?_
                  refine wp_region_held_drew (S := fun w' => Below wi.heap.size wi w') (by kernel_rfl) (Below.refl _ _).drew (fun hH => ?_)
                  first | (refine wpAnyH_take (i := 0) (v := undef) rfl (by kernel_rfl) (by kernel_rfl) (by kernel_rfl) (fun _ _ _ h => h) (Or.inr ⟨by rfl, rfl⟩) (by assumption) ?_) | (refine wpAnyH_take (i := 0) (v := ?v323) rfl (by kernel_rfl) (by kernel_rfl) (by kernel_rfl) (fun _ _ _ h => h) (Or.inl ⟨by rfl, ?hy323⟩) (by assumption) ?_; (case hy323 => (intro x' hxx; obtain ⟨e0, e1, e2, e3, e4, e5⟩ := C8.out x' hxx; go_simp; try with_reducible rfl)))
                  change wpAnyH _ _ _ _ _ _ _ (Act.put _ (some 58) _) _
                  simp only [Act.put, List.setIfInBounds_toArray, List.set_cons_zero, List.set_cons_succ]
                  first | (refine wpAnyH_take (i := 1) (v := undef) rfl (by kernel_rfl) (by kernel_rfl) (by kernel_rfl) (fun _ _ _ h => h) (Or.inr ⟨by rfl, rfl⟩) (by assumption) ?_) | (refine wpAnyH_take (i := 1) (v := ?v324) rfl (by kernel_rfl) (by kernel_rfl) (by kernel_rfl) (fun _ _ _ h => h) (Or.inl ⟨by rfl, ?hy324⟩) (by assumption) ?_; (case hy324 => (intro x' hxx; obtain ⟨e0, e1, e2, e3, e4, e5⟩ := C8.out x' hxx; go_simp; try with_reducible rfl)))
                  change wpAnyH _ _ _ _ _ _ _ (Act.put _ (some 59) _) _
                  simp only [Act.put, List.setIfInBounds_toArray, List.set_cons_zero, List.set_cons_succ]
                  first | (refine wpAnyH_take (i := 2) (v := undef) rfl (by kernel_rfl) (by kernel_rfl) (by kernel_rfl) (fun _ _ _ h => h) (Or.inr ⟨by rfl, rfl⟩) (by assumption) ?_) | (refine wpAnyH_take (i := 2) (v := ?v325) rfl (by kernel_rfl) (by kernel_rfl) (by kernel_rfl) (fun _ _ _ h => h) (Or.inl ⟨by rfl, ?hy325⟩) (by assumption) ?_; (case hy325 => (intro x' hxx; obtain ⟨e0, e1, e2, e3, e4, e5⟩ := C8.out x' hxx; go_simp; try with_reducible rfl)))
                  change wpAnyH _ _ _ _ _ _ _ (Act.put _ (some 60) _) _
                  simp only [Act.put, List.setIfInBounds_toArray, List.set_cons_zero, List.set_cons_succ]
                  first | (refine wpAnyH_take (i := 3) (v := undef) rfl (by kernel_rfl) (by kernel_rfl) (by kernel_rfl) (fun _ _ _ h => h) (Or.inr ⟨by rfl, rfl⟩) (by assumption) ?_) | (refine wpAnyH_take (i := 3) (v := ?v326) rfl (by kernel_rfl) (by kernel_rfl) (by kernel_rfl) (fun _ _ _ h => h) (Or.inl ⟨by rfl, ?hy326⟩) (by assumption) ?_; (case hy326 => (intro x' hxx; obtain ⟨e0, e1, e2, e3, e4, e5⟩ := C8.out x' hxx; go_simp; try with_reducible rfl)))
                  change wpAnyH _ _ _ _ _ _ _ (Act.put _ (some 61) _) _
                  simp only [Act.put, List.setIfInBounds_toArray, List.set_cons_zero, List.set_cons_succ]
                  first | (refine wpAnyH_take (i := 4) (v := undef) rfl (by kernel_rfl) (by kernel_rfl) (by kernel_rfl) (fun _ _ _ h => h) (Or.inr ⟨by rfl, rfl⟩) (by assumption) ?_) | (refine wpAnyH_take (i := 4) (v := ?v327) rfl (by kernel_rfl) (by kernel_rfl) (by kernel_rfl) (fun _ _ _ h => h) (Or.inl ⟨by rfl, ?hy327⟩) (by assumption) ?_; (case hy327 => (intro x' hxx; obtain ⟨e0, e1, e2, e3, e4, e5⟩ := C8.out x' hxx; go_simp; try with_reducible rfl)))
                  change wpAnyH _ _ _ _ _ _ _ (Act.put _ (some 62) _) _
                  simp only [Act.put, List.setIfInBounds_toArray, List.set_cons_zero, List.set_cons_succ]
                  first | (refine wpAnyH_take (i := 5) (v := undef) rfl (by kernel_rfl) (by kernel_rfl) (by kernel_rfl) (fun _ _ _ h => h) (Or.inr ⟨by rfl, rfl⟩) (by assumption) ?_) | (refine wpAnyH_take (i := 5) (v := ?v328) rfl (by kernel_rfl) (by kernel_rfl) (by kernel_rfl) (fun _ _ _ h => h) (Or.inl ⟨by rfl, ?hy328⟩) (by assumption) ?_; (case hy328 => (intro x' hxx; obtain ⟨e0, e1, e2, e3, e4, e5⟩ := C8.out x' hxx; go_simp; try with_reducible rfl)))
                  change wpAnyH _ _ _ _ _ _ _ (Act.put _ (some 63) _) _
                  simp only [Act.put, List.setIfInBounds_toArray, List.set_cons_zero, List.set_cons_succ]
                  first | (refine wpAnyH_take (i := 6) (v := undef) rfl (by kernel_rfl) (by kernel_rfl) (by kernel_rfl) (fun _ _ _ h => h) (Or.inr ⟨by rfl, rfl⟩) (by assumption) ?_) | (refine wpAnyH_take (i := 6) (v := ?v329) rfl (by kernel_rfl) (by kernel_rfl) (by kernel_rfl) (fun _ _ _ h => h) (Or.inl ⟨by rfl, ?hy329⟩) (by assumption) ?_; (case hy329 => (intro x' hxx; obtain ⟨e0, e1, e2, e3, e4, e5⟩ := C8.out x' hxx; go_simp; try with_reducible rfl)))
                  change wpAnyH _ _ _ _ _ _ _ (Act.put _ (some 64) _) _
                  simp only [Act.put, List.setIfInBounds_toArray, List.set_cons_zero, List.set_cons_succ]
                  first | (refine wpAnyH_take (i := 7) (v := undef) rfl (by kernel_rfl) (by kernel_rfl) (by kernel_rfl) (fun _ _ _ h => h) (Or.inr ⟨by rfl, rfl⟩) (by assumption) ?_) | (refine wpAnyH_take (i := 7) (v := ?v330) rfl (by kernel_rfl) (by kernel_rfl) (by kernel_rfl) (fun _ _ _ h => h) (Or.inl ⟨by rfl, ?hy330⟩) (by assumption) ?_; (case hy330 => (intro x' hxx; obtain ⟨e0, e1, e2, e3, e4, e5⟩ := C8.out x' hxx; go_simp; try with_reducible rfl)))
                  change wpAnyH _ _ _ _ _ _ _ (Act.put _ (some 65) _) _
                  simp only [Act.put, List.setIfInBounds_toArray, List.set_cons_zero, List.set_cons_succ]
                  first | (refine wpAnyH_take (i := 8) (v := undef) rfl (by kernel_rfl) (by kernel_rfl) (by kernel_rfl) (fun _ _ _ h => h) (Or.inr ⟨by rfl, rfl⟩) (by assumption) ?_) | (refine wpAnyH_take (i := 8) (v := ?v331) rfl (by kernel_rfl) (by kernel_rfl) (by kernel_rfl) (fun _ _ _ h => h) (Or.inl ⟨by rfl, ?hy331⟩) (by assumption) ?_; (case hy331 => (intro x' hxx; obtain ⟨e0, e1, e2, e3, e4, e5⟩ := C8.out x' hxx; go_simp; try with_reducible rfl)))
                  change wpAnyH _ _ _ _ _ _ _ (Act.put _ (some 66) _) _
                  simp only [Act.put, List.setIfInBounds_toArray, List.set_cons_zero, List.set_cons_succ]
                  first | (refine wpAnyH_take (i := 9) (v := undef) rfl (by kernel_rfl) (by kernel_rfl) (by kernel_rfl) (fun _ _ _ h => h) (Or.inr ⟨by rfl, rfl⟩) (by assumption) ?_) | (refine wpAnyH_take (i := 9) (v := ?v332) rfl (by kernel_rfl) (by kernel_rfl) (by kernel_rfl) (fun _ _ _ h => h) (Or.inl ⟨by rfl, ?hy332⟩) (by assumption) ?_; (case hy332 => (intro x' hxx; obtain ⟨e0, e1, e2, e3, e4, e5⟩ := C8.out x' hxx; go_simp; try with_reducible rfl)))
                  change wpAnyH _ _ _ _ _ _ _ (Act.put _ (some 67) _) _
                  simp only [Act.put, List.setIfInBounds_toArray, List.set_cons_zero, List.set_cons_succ]
                  first | (refine wpAnyH_take (i := 10) (v := undef) rfl (by kernel_rfl) (by kernel_rfl) (by kernel_rfl) (fun _ _ _ h => h) (Or.inr ⟨by rfl, rfl⟩) (by assumption) ?_) | (refine wpAnyH_take (i := 10) (v := ?v333) rfl (by kernel_rfl) (by kernel_rfl) (by kernel_rfl) (fun _ _ _ h => h) (Or.inl ⟨by rfl, ?hy333⟩) (by assumption) ?_; (case hy333 => (intro x' hxx; obtain ⟨e0, e1, e2, e3, e4, e5⟩ := C8.out x' hxx; go_simp; try with_reducible rfl)))
                  change wpAnyH _ _ _ _ _ _ _ (Act.put _ (some 68) _) _
                  simp only [Act.put, List.setIfInBounds_toArray, List.set_cons_zero, List.set_cons_succ]
                  first | (refine wpAnyH_take (i := 11) (v := undef) rfl (by kernel_rfl) (by kernel_rfl) (by kernel_rfl) (fun _ _ _ h => h) (Or.inr ⟨by rfl, rfl⟩) (by assumption) ?_) | (refine wpAnyH_take (i := 11) (v := ?v334) rfl (by kernel_rfl) (by kernel_rfl) (by kernel_rfl) (fun _ _ _ h => h) (Or.inl ⟨by rfl, ?hy334⟩) (by assumption) ?_; (case hy334 => (intro x' hxx; obtain ⟨e0, e1, e2, e3, e4, e5⟩ := C8.out x' hxx; go_simp; try with_reducible rfl)))
                  change wpAnyH _ _ _ _ _ _ _ (Act.put _ (some 69) _) _
                  simp only [Act.put, List.setIfInBounds_toArray, List.set_cons_zero, List.set_cons_succ]
                  first | (refine wpAnyH_take (i := 12) (v := undef) rfl (by kernel_rfl) (by kernel_rfl) (by kernel_rfl) (fun _ _ _ h => h) (Or.inr ⟨by rfl, rfl⟩) (by assumption) ?_) | (refine wpAnyH_take (i := 12) (v := ?v335) rfl (by kernel_rfl) (by kernel_rfl) (by kernel_rfl) (fun _ _ _ h => h) (Or.inl ⟨by rfl, ?hy335⟩) (by assumption) ?_; (case hy335 => (intro x' hxx; obtain ⟨e0, e1, e2, e3, e4, e5⟩ := C8.out x' hxx; go_simp; try with_reducible rfl)))
                  change wpAnyH _ _ _ _ _ _ _ (Act.put _ (some 70) _) _
                  simp only [Act.put, List.setIfInBounds_toArray, List.set_cons_zero, List.set_cons_succ]
                  first | (refine wpAnyH_take (i := 13) (v := undef) rfl (by kernel_rfl) (by kernel_rfl) (by kernel_rfl) (fun _ _ _ h => h) (Or.inr ⟨by rfl, rfl⟩) (by assumption) ?_) | (refine wpAnyH_take (i := 13) (v := ?v336) rfl (by kernel_rfl) (by kernel_rfl) (by kernel_rfl) (fun _ _ _ h => h) (Or.inl ⟨by rfl, ?hy336⟩) (by assumption) ?_; (case hy336 => (intro x' hxx; obtain ⟨e0, e1, e2, e3, e4, e5⟩ := C8.out x' hxx; go_simp; try with_reducible rfl)))
                  change wpAnyH _ _ _ _ _ _ _ (Act.put _ (some 71) _) _
                  simp only [Act.put, List.setIfInBounds_toArray, List.set_cons_zero, List.set_cons_succ]
                  first | (refine wpAnyH_take (i := 14) (v := undef) rfl (by kernel_rfl) (by kernel_rfl) (by kernel_rfl) (fun _ _ _ h => h) (Or.inr ⟨by rfl, rfl⟩) (by assumption) ?_) | (refine wpAnyH_take (i := 14) (v := ?v337) rfl (by kernel_rfl) (by kernel_rfl) (by kernel_rfl) (fun _ _ _ h => h) (Or.inl ⟨by rfl, ?hy337⟩) (by assumption) ?_; (case hy337 => (intro x' hxx; obtain ⟨e0, e1, e2, e3, e4, e5⟩ := C8.out x' hxx; go_simp; try with_reducible rfl)))
                  change wpAnyH _ _ _ _ _ _ _ (Act.put _ (some 72) _) _
                  simp only [Act.put, List.setIfInBounds_toArray, List.set_cons_zero, List.set_cons_succ]
                  first | (refine wpAnyH_take (i := 15) (v := undef) rfl (by kernel_rfl) (by kernel_rfl) (by kernel_rfl) (fun _ _ _ h => h) (Or.inr ⟨by rfl, rfl⟩) (by assumption) ?_) | (refine wpAnyH_take (i := 15) (v := ?v338) rfl (by kernel_rfl) (by kernel_rfl) (by kernel_rfl) (fun _ _ _ h => h) (Or.inl ⟨by rfl, ?hy338⟩) (by assumption) ?_; (case hy338 => (intro x' hxx; obtain ⟨e0, e1, e2, e3, e4, e5⟩ := C8.out x' hxx; go_simp; try with_reducible rfl)))
                  change wpAnyH _ _ _ _ _ _ _ (Act.put _ (some 73) _) _
                  simp only [Act.put, List.setIfInBounds_toArray, List.set_cons_zero, List.set_cons_succ]
                  first | (refine wpAnyH_take (i := 16) (v := undef) rfl (by kernel_rfl) (by kernel_rfl) (by kernel_rfl) (fun _ _ _ h => h) (Or.inr ⟨by rfl, rfl⟩) (by assumption) ?_) | (refine wpAnyH_take (i := 16) (v := ?v339) rfl (by kernel_rfl) (by kernel_rfl) (by kernel_rfl) (fun _ _ _ h => h) (Or.inl ⟨by rfl, ?hy339⟩) (by assumption) ?_; (case hy339 => (intro x' hxx; obtain ⟨e0, e1, e2, e3, e4, e5⟩ := C8.out x' hxx; go_simp; try with_reducible rfl)))
                  change wpAnyH _ _ _ _ _ _ _ (Act.put _ (some 74) _) _
                  simp only [Act.put, List.setIfInBounds_toArray, List.set_cons_zero, List.set_cons_succ]
                  first | (refine wpAnyH_take (i := 17) (v := undef) rfl (by kernel_rfl) (by kernel_rfl) (by kernel_rfl) (fun _ _ _ h => h) (Or.inr ⟨by rfl, rfl⟩) (by assumption) ?_) | (refine wpAnyH_take (i := 17) (v := ?v340) rfl (by kernel_rfl) (by kernel_rfl) (by kernel_rfl) (fun _ _ _ h => h) (Or.inl ⟨by rfl, ?hy340⟩) (by assumption) ?_; (case hy340 => (intro x' hxx; obtain ⟨e0, e1, e2, e3, e4, e5⟩ := C8.out x' hxx; go_simp; try with_reducible rfl)))
                  change wpAnyH _ _ _ _ _ _ _ (Act.put _ (some 75) _) _
                  simp only [Act.put, List.setIfInBounds_toArray, List.set_cons_zero, List.set_cons_succ]
                  first | (refine wpAnyH_take (i := 18) (v := undef) rfl (by kernel_rfl) (by kernel_rfl) (by kernel_rfl) (fun _ _ _ h => h) (Or.inr ⟨by rfl, rfl⟩) (by assumption) ?_) | (refine wpAnyH_take (i := 18) (v := ?v341) rfl (by kernel_rfl) (by kernel_rfl) (by kernel_rfl) (fun _ _ _ h => h) (Or.inl ⟨by rfl, ?hy341⟩) (by assumption) ?_; (case hy341 => (intro x' hxx; obtain ⟨e0, e1, e2, e3, e4, e5⟩ := C8.out x' hxx; go_simp; try with_reducible rfl)))
                  change wpAnyH _ _ _ _ _ _ _ (Act.put _ (some 76) _) _
                  simp only [Act.put, List.setIfInBounds_toArray, List.set_cons_zero, List.set_cons_succ]
                  first | (refine wpAnyH_take (i := 19) (v := undef) rfl (by kernel_rfl) (by kernel_rfl) (by kernel_rfl) (fun _ _ _ h => h) (Or.inr ⟨by rfl, rfl⟩) (by assumption) ?_) | (refine wpAnyH_take (i := 19) (v := ?v342) rfl (by kernel_rfl) (by kernel_rfl) (by kernel_rfl) (fun _ _ _ h => h) (Or.inl ⟨by rfl, ?hy342⟩) (by assumption) ?_; (case hy342 => (intro x' hxx; obtain ⟨e0, e1, e2, e3, e4, e5⟩ := C8.out x' hxx; go_simp; try with_reducible rfl)))
                  change wpAnyH _ _ _ _ _ _ _ (Act.put _ (some 77) _) _
                  simp only [Act.put, List.setIfInBounds_toArray, List.set_cons_zero, List.set_cons_succ]
                  first | (refine wpAnyH_take (i := 20) (v := undef) rfl (by kernel_rfl) (by kernel_rfl) (by kernel_rfl) (fun _ _ _ h => h) (Or.inr ⟨by rfl, rfl⟩) (by assumption) ?_) | (refine wpAnyH_take (i := 20) (v := ?v343) rfl (by kernel_rfl) (by kernel_rfl) (by kernel_rfl) (fun _ _ _ h => h) (Or.inl ⟨by rfl, ?hy343⟩) (by assumption) ?_; (case hy343 => (intro x' hxx; obtain ⟨e0, e1, e2, e3, e4, e5⟩ := C8.out x' hxx; go_simp; try with_reducible rfl)))
                  change wpAnyH _ _ _ _ _ _ _ (Act.put _ (some 78) _) _
                  simp only [Act.put, List.setIfInBounds_toArray, List.set_cons_zero, List.set_cons_succ]
                  first | (refine wpAnyH_take (i := 21) (v := undef) rfl (by kernel_rfl) (by kernel_rfl) (by kernel_rfl) (fun _ _ _ h => h) (Or.inr ⟨by rfl, rfl⟩) (by assumption) ?_) | (refine wpAnyH_take (i := 21) (v := ?v344) rfl (by kernel_rfl) (by kernel_rfl) (by kernel_rfl) (fun _ _ _ h => h) (Or.inl ⟨by rfl, ?hy344⟩) (by assumption) ?_; (case hy344 => (intro x' hxx; obtain ⟨e0, e1, e2, e3, e4, e5⟩ := C8.out x' hxx; go_simp; try with_reducible rfl)))
                  change wpAnyH _ _ _ _ _ _ _ (Act.put _ (some 79) _) _
                  simp only [Act.put, List.setIfInBounds_toArray, List.set_cons_zero, List.set_cons_succ]
                  first | (refine wpAnyH_take (i := 22) (v := undef) rfl (by kernel_rfl) (by kernel_rfl) (by kernel_rfl) (fun _ _ _ h => h) (Or.inr ⟨by rfl, rfl⟩) (by assumption) ?_) | (refine wpAnyH_take (i := 22) (v := ?v345) rfl (by kernel_rfl) (by kernel_rfl) (by kernel_rfl) (fun _ _ _ h => h) (Or.inl ⟨by rfl, ?hy345⟩) (by assumption) ?_; (case hy345 => (intro x' hxx; obtain ⟨e0, e1, e2, e3, e4, e5⟩ := C8.out x' hxx; go_simp; try with_reducible rfl)))
                  change wpAnyH _ _ _ _ _ _ _ (Act.put _ (some 80) _) _
                  simp only [Act.put, List.setIfInBounds_toArray, List.set_cons_zero, List.set_cons_succ]
                  first | (refine wpAnyH_take (i := 23) (v := undef) rfl (by kernel_rfl) (by kernel_rfl) (by kernel_rfl) (fun _ _ _ h => h) (Or.inr ⟨by rfl, rfl⟩) (by assumption) ?_) | (refine wpAnyH_take (i := 23) (v := ?v346) rfl (by kernel_rfl) (by kernel_rfl) (by kernel_rfl) (fun _ _ _ h => h) (Or.inl ⟨by rfl, ?hy346⟩) (by assumption) ?_; (case hy346 => (intro x' hxx; obtain ⟨e0, e1, e2, e3, e4, e5⟩ := C8.out x' hxx; go_simp; try with_reducible rfl)))
                  change wpAnyH _ _ _ _ _ _ _ (Act.put _ (some 81) _) _
                  simp only [Act.put, List.setIfInBounds_toArray, List.set_cons_zero, List.set_cons_succ]
                  first | (refine wpAnyH_take (i := 24) (v := undef) rfl (by kernel_rfl) (by kernel_rfl) (by kernel_rfl) (fun _ _ _ h => h) (Or.inr ⟨by rfl, rfl⟩) (by assumption) ?_) | (refine wpAnyH_take (i := 24) (v := ?v347) rfl (by kernel_rfl) (by kernel_rfl) (by kernel_rfl) (fun _ _ _ h => h) (Or.inl ⟨by rfl, ?hy347⟩) (by assumption) ?_; (case hy347 => (intro x' hxx; obtain ⟨e0, e1, e2, e3, e4, e5⟩ := C8.out x' hxx; go_simp; try with_reducible rfl)))
                  change wpAnyH _ _ _ _ _ _ _ (Act.put _ (some 82) _) _
                  simp only [Act.put, List.setIfInBounds_toArray, List.set_cons_zero, List.set_cons_succ]
                  first | (refine wpAnyH_take (i := 25) (v := undef) rfl (by kernel_rfl) (by kernel_rfl) (by kernel_rfl) (fun _ _ _ h => h) (Or.inr ⟨by rfl, rfl⟩) (by assumption) ?_) | (refine wpAnyH_take (i := 25) (v := ?v348) rfl (by kernel_rfl) (by kernel_rfl) (by kernel_rfl) (fun _ _ _ h => h) (Or.inl ⟨by rfl, ?hy348⟩) (by assumption) ?_; (case hy348 => (intro x' hxx; obtain ⟨e0, e1, e2, e3, e4, e5⟩ := C8.out x' hxx; go_simp; try with_reducible rfl)))
                  change wpAnyH _ _ _ _ _ _ _ (Act.put _ (some 83) _) _
                  simp only [Act.put, List.setIfInBounds_toArray, List.set_cons_zero, List.set_cons_succ]
                  first | (refine wpAnyH_take (i := 26) (v := undef) rfl (by kernel_rfl) (by kernel_rfl) (by kernel_rfl) (fun _ _ _ h => h) (Or.inr ⟨by rfl, rfl⟩) (by assumption) ?_) | (refine wpAnyH_take (i := 26) (v := ?v349) rfl (by kernel_rfl) (by kernel_rfl) (by kernel_rfl) (fun _ _ _ h => h) (Or.inl ⟨by rfl, ?hy349⟩) (by assumption) ?_; (case hy349 => (intro x' hxx; obtain ⟨e0, e1, e2, e3, e4, e5⟩ := C8.out x' hxx; go_simp; try with_reducible rfl)))
                  change wpAnyH _ _ _ _ _ _ _ (Act.put _ (some 84) _) _
                  simp only [Act.put, List.setIfInBounds_toArray, List.set_cons_zero, List.set_cons_succ]
                  first | (refine wpAnyH_take (i := 27) (v := undef) rfl (by kernel_rfl) (by kernel_rfl) (by kernel_rfl) (fun _ _ _ h => h) (Or.inr ⟨by rfl, rfl⟩) (by assumption) ?_) | (refine wpAnyH_take (i := 27) (v := ?v350) rfl (by kernel_rfl) (by kernel_rfl) (by kernel_rfl) (fun _ _ _ h => h) (Or.inl ⟨by rfl, ?hy350⟩) (by assumption) ?_; (case hy350 => (intro x' hxx; obtain ⟨e0, e1, e2, e3, e4, e5⟩ := C8.out x' hxx; go_simp; try with_reducible rfl)))
                  change wpAnyH _ _ _ _ _ _ _ (Act.put _ (some 85) _) _
                  simp only [Act.put, List.setIfInBounds_toArray, List.set_cons_zero, List.set_cons_succ]
                  first | (refine wpAnyH_take (i := 28) (v := undef) rfl (by kernel_rfl) (by kernel_rfl) (by kernel_rfl) (fun _ _ _ h => h) (Or.inr ⟨by rfl, rfl⟩) (by assumption) ?_) | (refine wpAnyH_take (i := 28) (v := ?v351) rfl (by kernel_rfl) (by kernel_rfl) (by kernel_rfl) (fun _ _ _ h => h) (Or.inl ⟨by rfl, ?hy351⟩) (by assumption) ?_; (case hy351 => (intro x' hxx; obtain ⟨e0, e1, e2, e3, e4, e5⟩ := C8.out x' hxx; go_simp; try with_reducible rfl)))
                  change wpAnyH _ _ _ _ _ _ _ (Act.put _ (some 86) _) _
                  simp only [Act.put, List.setIfInBounds_toArray, List.set_cons_zero, List.set_cons_succ]
                  first | (refine wpAnyH_take (i := 29) (v := undef) rfl (by kernel_rfl) (by kernel_rfl) (by kernel_rfl) (fun _ _ _ h => h) (Or.inr ⟨by rfl, rfl⟩) (by assumption) ?_) | (refine wpAnyH_take (i := 29) (v := ?v352) rfl (by kernel_rfl) (by kernel_rfl) (by kernel_rfl) (fun _ _ _ h => h) (Or.inl ⟨by rfl, ?hy352⟩) (by assumption) ?_; (case hy352 => (intro x' hxx; obtain ⟨e0, e1, e2, e3, e4, e5⟩ := C8.out x' hxx; go_simp; try with_reducible rfl)))
                  change wpAnyH _ _ _ _ _ _ _ (Act.put _ (some 87) _) _
                  simp only [Act.put, List.setIfInBounds_toArray, List.set_cons_zero, List.set_cons_succ]
                  first | (refine wpAnyH_take (i := 30) (v := undef) rfl (by kernel_rfl) (by kernel_rfl) (by kernel_rfl) (fun _ _ _ h => h) (Or.inr ⟨by rfl, rfl⟩) (by assumption) ?_) | (refine wpAnyH_take (i := 30) (v := ?v353) rfl (by kernel_rfl) (by kernel_rfl) (by kernel_rfl) (fun _ _ _ h => h) (Or.inl ⟨by rfl, ?hy353⟩) (by assumption) ?_; (case hy353 => (intro x' hxx; obtain ⟨e0, e1, e2, e3, e4, e5⟩ := C8.out x' hxx; go_simp; try with_reducible rfl)))
                  change wpAnyH _ _ _ _ _ _ _ (Act.put _ (some 88) _) _
                  simp only [Act.put, List.setIfInBounds_toArray, List.set_cons_zero, List.set_cons_succ]
                  refine wpAnyH_done (by kernel_rfl) ?_ _
                  refine NoPanic.normal ?_
                  clear hH
                  have HB1 : Hid (Below w.heap.size w wi.drew) := HBR.out.drew
                  have HBX1 : Hid (Below wc0.heap.size wc0 wi.drew) := HBX.out.drew
                  have HEK1 := Lib.hid (hid_ek_drew HEK.out)
                  replace c0' : wi.drew.cell? _ = _ := c0'
                  replace c1' : wi.drew.cell? _ = _ := c1'
                  replace c2' : wi.drew.cell? _ = _ := c2'
                  replace d0' : wi.drew.cell? _ = _ := d0'
                  replace d1' : wi.drew.cell? _ = _ := d1'
                  replace d2' : wi.drew.cell? _ = _ := d2'
                  replace hfc : wi.drew.cell? _ = _ := hfc
                  replace hec : wi.drew.cell? _ = _ := hec
                  clear C8 HBR HBX HEK
                  obtain ⟨W1, hW1⟩ : ∃ W1, W1 = wi.drew := ⟨_, rfl⟩
                  rw [← hW1] at HB1 HBX1 HEK1 c0' c1' c2' d0' d1' d2' hfc hec ⊢
                  clear hW1
                  obtain ⟨nx, hnx⟩ : ∃ nx : Nat, nx = l.nextOf i := ⟨_, rfl⟩
                  have HNX := Lib.hid hnx
                  have hnx2 : nx = if i + 1 < f then i + 1 else bn := by rw [hnx]; unfold LassoD.nextOf; rw [← Hn.out, ← Hbk.out]; simp
                  clear hnx
                  have hnxl : nx < f := by rw [hnx2]; split <;> omega
                  have hnxi : (nx : Int) < (f : Int) := by omega
                  have hnx0 : (0 : Int) ≤ (nx : Int) := by omega
                  obtain ⟨-, qb, qo, rfl, -, q1, q2⟩ := HEK1.out.part en (by rw [← HLN.out]; omega)
                  obtain ⟨et, het⟩ : ∃ et, et = ((g.edges.getD xn []).getD en default).to := ⟨_, rfl⟩
                  obtain ⟨em, hem⟩ : ∃ em, em = ((g.edges.getD xn []).getD en default).marks := ⟨_, rfl⟩
                  rw [← het] at q1
                  rw [← hem] at q2
                  have HET := Lib.hid het
                  have HEM := Lib.hid hem
                  clear het hem
                  by_cases b5 : (i : Int) + 1 < (f : Int)
                  · have hnx3 : nx = i + 1 := by rw [hnx2, if_pos (by omega)]
                    have HN3 := Lib.hid hnx3
                    clear hnx2 hnx3
                    go_upto_region 13 with fail
                    go_cut [9, 10] (fun s9 s10 w' => s9 = .int .i64 nx ∧ ∃ p : Nat, s10 = .pointer (some ⟨p, 0, none⟩) ∧ w'.cell? ⟨p, 0, none⟩ = some (.int .i64 et) ∧ w'.cell? ⟨p, 1, none⟩ = some (.int .i64 em) ∧ Hid (Below W1.heap.size W1 w'))
                    case first =>
                      have HBA := fun o => Lib.hid ((Below.refl W1.heap.size W1).alloc (Nat.le_refl _) o)
                      have k0 := fun o => cells_kept (HBA o).out _ _ c0'
                      have k1 := fun o => cells_kept (HBA o).out _ _ d1'
                      have k2 := fun o => cells_kept (HBA o).out _ _ hfc
                      have k3 := fun o => cells_kept (HBA o).out _ _ hec
                      have k4 := fun o => cells_kept (HBA o).out _ _ q1
                      have k5 := fun o => cells_kept (HBA o).out _ _ q2
                      go_region
                      go_wp2_with fail
                      go_meet
                      case rel => exact ⟨by rw [HN3.out]; simp, W1.heap.size, rfl, cell_of_block (heap_alloc_new W1 _) 0, cell_of_block (heap_alloc_new W1 _) 1, (HBA _).out.drew⟩
                    case rest =>
                      obtain ⟨rfl, p, rfl, p0, p1, HBP⟩ := hcut
                      obtain ⟨W2, rfl⟩ : ∃ wo : World, wo = wc := ⟨_, rfl⟩
                      have HB2 : Hid (Below w.heap.size w W2) := below_then HB1.out HBP.out
                      have HBX2 : Hid (Below wc0.heap.size wc0 W2) := below_then HBX1.out HBP.out
                      replace d0' := cells_kept HBP.out _ _ d0'
                      replace d2' := cells_kept HBP.out _ _ d2'
                      clear c0' c1' d1' hfc hec q1 q2 HBP HBX1 HB1 HEK1
                      have hy1 := (HB2.out.cell (p := ⟨nb, no + nx, none⟩) (by obtain ⟨-, b', o', e', hb', -⟩ := HNO.out.part nx (by rw [← Hn.out]; exact hnxl); cases e'; exact hb')).trans (by obtain ⟨-, b', o', e', -, hc', -⟩ := HNO.out.part nx (by rw [← Hn.out]; exact hnxl); cases e'; exact hc')
                      obtain ⟨y, hy⟩ : ∃ y, y = l.nodes.getD nx 0 := ⟨_, rfl⟩
                      rw [← hy] at hy1
                      have HY := Lib.hid hy
                      clear hy
                      by_cases b6 : et = y
                      · have b6' : ((et : Int) != y) = false := by simp [b6]
                        have HB6 := Lib.hid b6
                        clear b6
                        have hst : stepOk g l i = true := by
                          have h2 := HLN.out
                          unfold stepOk nodeB GraphD.edgeAt; rw [← HX.out, ← HEE.out, ← HNX.out, ← HY.out, ← HNN.out]; simp only [Int.toNat_natCast, Bool.and_eq_true, decide_eq_true_eq]; have h3 := HET.out; have h4 := HB6.out; exact ⟨⟨⟨by omega, by omega⟩, ⟨by omega, by omega⟩⟩, by rw [← h3]; exact h4⟩
                        have HST := Lib.hid hst
                        clear hst
                        by_cases b7 : (bn : Int) ≤ (i : Int)
                        · have b7' : (i : Int) ≥ (bn : Int) := b7
                          go_upto_region 14 with fail
                          go_quiet (fail)
                          go_wp2_with fail
                          go_roundg (f - (i + 1))
                          case measure => rw [HG.out]; omega
                          case rel => exact ⟨i + 1, by omega, rfl, by simp, by show _ = Value.int .i64 (if _ then _ else _); rw [if_pos (by rw [← Hbk.out]; omega), ← HMT.out, ← HX.out, ← HEE.out]; unfold GraphD.edgeAt; simp only [Int.toNat_natCast]; rw [← HEM.out], fun j hj => by
                            by_cases he : j = i
                            · subst he; exact HST.out
                            · exact HJ.out j (by omega), drewN_below HB2.out _, drewN_below HBX2.out _⟩
                        · have b7' : ¬ (i : Int) ≥ (bn : Int) := b7
                          go_upto_region 14 with fail
                          go_quiet (fail)
                          go_wp2_with fail
                          go_roundg (f - (i + 1))
                          case measure => rw [HG.out]; omega
                          case rel => exact ⟨i + 1, by omega, rfl, by simp, by show _ = Value.int .i64 (if _ then _ else _); rw [if_neg (by rw [← Hbk.out]; omega), ← HMT.out], fun j hj => by
                            by_cases he : j = i
                            · subst he; exact HST.out
                            · exact HJ.out j (by omega), drewN_below HB2.out _, drewN_below HBX2.out _⟩
                      · have b6' : ((et : Int) != y) = true := by simp [b6]
                        have HB6 := Lib.hid b6
                        clear b6
                        obtain rfl : r = false := by
                          have : stepOk g l i = false := by
                            have h2 : decide ((g.edgeAt (xn : Int) (en : Int)).to = l.nodes.getD (l.nextOf i) 0) = false := by rw [decide_eq_false_iff_not]; unfold GraphD.edgeAt; simp only [Int.toNat_natCast]; rw [← HNX.out, ← HY.out, ← HET.out]; exact HB6.out
                            unfold stepOk; rw [← HX.out, ← HEE.out, h2]; simp
                          rw [HR2.out, List.all_eq_false.2 ⟨i, by simpa using hlt, by simp [this]⟩]; simp
                        clear HR2
                        go_upto_region 14 with fail
                        go_quiet (fail)
                        go_wp2_with fail
                        go_ret
                        exact ⟨by first | rfl | simp, drewN_below HB2.out _⟩
                  · have hnx3 : nx = bn := by rw [hnx2, if_neg (by omega)]
                    have HN3 := Lib.hid hnx3
                    clear hnx2 hnx3
                    go_upto_region 13 with fail
                    go_cut [9, 10] (fun s9 s10 w' => s9 = .int .i64 nx ∧ ∃ p : Nat, s10 = .pointer (some ⟨p, 0, none⟩) ∧ w'.cell? ⟨p, 0, none⟩ = some (.int .i64 et) ∧ w'.cell? ⟨p, 1, none⟩ = some (.int .i64 em) ∧ Hid (Below W1.heap.size W1 w'))
                    case first =>
                      have HBA := fun o => Lib.hid ((Below.refl W1.heap.size W1).alloc (Nat.le_refl _) o)
                      have k0 := fun o => cells_kept (HBA o).out _ _ c0'
                      have k1 := fun o => cells_kept (HBA o).out _ _ d1'
                      have k2 := fun o => cells_kept (HBA o).out _ _ hfc
                      have k3 := fun o => cells_kept (HBA o).out _ _ hec
                      have k4 := fun o => cells_kept (HBA o).out _ _ q1
                      have k5 := fun o => cells_kept (HBA o).out _ _ q2
                      go_region
                      go_wp2_with fail
                      go_meet
                      case rel => exact ⟨by rw [HN3.out], W1.heap.size, rfl, cell_of_block (heap_alloc_new W1 _) 0, cell_of_block (heap_alloc_new W1 _) 1, (HBA _).out.drew⟩
                    case rest =>
                      obtain ⟨rfl, p, rfl, p0, p1, HBP⟩ := hcut
                      obtain ⟨W2, rfl⟩ : ∃ wo : World, wo = wc := ⟨_, rfl⟩
                      have HB2 : Hid (Below w.heap.size w W2) := below_then HB1.out HBP.out
                      have HBX2 : Hid (Below wc0.heap.size wc0 W2) := below_then HBX1.out HBP.out
                      replace d0' := cells_kept HBP.out _ _ d0'
                      replace d2' := cells_kept HBP.out _ _ d2'
                      clear c0' c1' d1' hfc hec q1 q2 HBP HBX1 HB1 HEK1
                      have hy1 := (HB2.out.cell (p := ⟨nb, no + nx, none⟩) (by obtain ⟨-, b', o', e', hb', -⟩ := HNO.out.part nx (by rw [← Hn.out]; exact hnxl); cases e'; exact hb')).trans (by obtain ⟨-, b', o', e', -, hc', -⟩ := HNO.out.part nx (by rw [← Hn.out]; exact hnxl); cases e'; exact hc')
                      obtain ⟨y, hy⟩ : ∃ y, y = l.nodes.getD nx 0 := ⟨_, rfl⟩
                      rw [← hy] at hy1
                      have HY := Lib.hid hy
                      clear hy
                      by_cases b6 : et = y
                      · have b6' : ((et : Int) != y) = false := by simp [b6]
                        have HB6 := Lib.hid b6
                        clear b6
                        have hst : stepOk g l i = true := by
                          have h2 := HLN.out
                          unfold stepOk nodeB GraphD.edgeAt; rw [← HX.out, ← HEE.out, ← HNX.out, ← HY.out, ← HNN.out]; simp only [Int.toNat_natCast, Bool.and_eq_true, decide_eq_true_eq]; have h3 := HET.out; have h4 := HB6.out; exact ⟨⟨⟨by omega, by omega⟩, ⟨by omega, by omega⟩⟩, by rw [← h3]; exact h4⟩
                        have HST := Lib.hid hst
                        clear hst
                        by_cases b7 : (bn : Int) ≤ (i : Int)
                        · have b7' : (i : Int) ≥ (bn : Int) := b7
                          go_upto_region 14 with fail
                          go_quiet (fail)
                          go_wp2_with fail
                          go_roundg (f - (i + 1))
                          case measure => rw [HG.out]; omega
                          case rel => exact ⟨i + 1, by omega, rfl, by simp, by show _ = Value.int .i64 (if _ then _ else _); rw [if_pos (by rw [← Hbk.out]; omega), ← HMT.out, ← HX.out, ← HEE.out]; unfold GraphD.edgeAt; simp only [Int.toNat_natCast]; rw [← HEM.out], fun j hj => by
                            by_cases he : j = i
                            · subst he; exact HST.out
                            · exact HJ.out j (by omega), drewN_below HB2.out _, drewN_below HBX2.out _⟩
                        · have b7' : ¬ (i : Int) ≥ (bn : Int) := b7
                          exact absurd b5 (by omega)
                      · have b6' : ((et : Int) != y) = true := by simp [b6]
                        have HB6 := Lib.hid b6
                        clear b6
                        obtain rfl : r = false := by
                          have : stepOk g l i = false := by
                            have h2 : decide ((g.edgeAt (xn : Int) (en : Int)).to = l.nodes.getD (l.nextOf i) 0) = false := by rw [decide_eq_false_iff_not]; unfold GraphD.edgeAt; simp only [Int.toNat_natCast]; rw [← HNX.out, ← HY.out, ← HET.out]; exact HB6.out
                            unfold stepOk; rw [← HX.out, ← HEE.out, h2]; simp
                          rw [HR2.out, List.all_eq_false.2 ⟨i, by simpa using hlt, by simp [this]⟩]; simp
                        clear HR2
                        go_upto_region 14 with fail
                        go_quiet (fail)
                        go_wp2_with fail
                        go_ret
                        exact ⟨by first | rfl | simp, drewN_below HB2.out _⟩
        · obtain rfl : i = f := by omega
          have hall : (List.range i).all (stepOk g l) = true := by rw [List.all_eq_true]; intro j hj; exact HJ.out j (by simpa using hj)
          have hr3 : r = decide (bits .and .i64 mt (2 ^ m.toNat - 1) = 2 ^ m.toNat - 1) := by rw [HR2.out, hall, HMT.out, Hm.out]; simp
          have HR3 := Lib.hid hr3
          have hm1 : 0 ≤ m ∧ m ≤ 40 := by have h := HGR.out; unfold GraphD.right at h; simp only [Bool.and_eq_true, decide_eq_true_eq] at h; rw [Hm.out]; omega
          obtain ⟨mn, rfl⟩ : ∃ mn : Nat, m = (mn : Int) := ⟨m.toNat, by omega⟩
          have hmn : mn ≤ 40 := by omega
          clear hall hr3 HR2 hm1
          go_wp2_with fail
          go_ret
          refine ⟨?_, HBR.out⟩
          simp only [Array.getD_eq_getD_getElem?, List.getElem?_toArray, List.getElem?_cons_succ, List.getElem?_cons_zero, Option.getD_some]
          rw [mask64 mn hmn, HR3.out]
          simp only [Int.toNat_natCast]
          rfl
    · have hhf : (hd && co) = false := by simpa using hhc
      obtain rfl : r = false := by rw [HACC.out, hhf]; simp
      rw [hhf]
      clear hhc hacc HACC hhd hco HCONT HRIGHT HHEAD HR
      go_wp2_with fail
      go_ret
      exact ⟨by first | rfl | simp, HBW.out⟩
end Go.Proofs.Ytoojalcfojflhaa
