/- What is there in a state: the program's and the document's answer: the walks. -/
import Derived.Test.YtnlkbboghcdpnaaClone
import Derived.Test.YtnlkbboghcdpnaaRFlat
import Derived.Test.YtnlkbboghcdpnaaExplore
import Derived.Deep.RegionLaw
namespace Go.Proofs.Ytnlkbboghcdpnaa
open Go.RowKit

theorem final_size : (Try.prog.info? 70).map (·.size) = some 2 := by kernel_rfl
theorem regs_info : (Try.prog.info? 55).map (fun i => (i.zero, i.size, i.bytes)) = some (some (.agg #[.int .i64 0, .int .i64 0, .int .i64 0, .int .i64 0]), 4, 32) := by kernel_rfl
/-- A final while it is made, in memory of the call's own. -/
structure OfAt (W X : World) (g : Nat) (mv rv : Value) (mem : List Int) (regs : List (List Int)) : Prop where
  below : Below W.heap.size W X
  lo : W.heap.size ≤ g
  box : X.heap[g]? = some (.cells #[mv, rv] 70 (0, 0))
  mrow : X.ownsRow W.heap.size 3 1 mv mem.length (flatC intC mem)
  rrow : X.ownsRow W.heap.size 55 4 rv regs.length (flatC regsC regs)
section
variable {W X X1 : World} {g : Nat} {mv rv rv' : Value} {mem : List Int} {regs : List (List Int)}
theorem OfAt.later (h : OfAt W X g mv rv mem regs) (hb : Below X.heap.size X X1) : OfAt W X1 g mv rv mem regs := ⟨below_then h.below hb, h.lo, (hb.block _ (lt_of_block h.box)).trans h.box, row_below h.mrow hb, row_below h.rrow hb⟩
theorem OfAt.push (h : OfAt W X g mv rv mem regs) {o : Obj} {x : List Int} (h1 : X1.ownsRow W.heap.size 55 4 rv' (regs.length + 1) (flatC regsC regs ++ regsC x)) (h4 : Since (fun k => rv.ownBlock = some k) (X.alloc o) X1) :
    OfAt W (X1.setCell ⟨g, 1, none⟩ rv') g mv rv' mem (regs ++ [x]) := by
  have s1 : Since (fun k => rv.ownBlock = some k) X X1 := ((Since.refl _ X).alloc o).trans h4 (fun k hk => .inl hk)
  have b1 : X1.heap[g]? = some (.cells #[mv, rv] 70 (0, 0)) := (s1.block _ (lt_of_block h.box) (fun e => box_apart h.rrow h.box (by decide) _ e rfl)).trans h.box
  have s2 : Since (fun k => k = g) X1 (X1.setCell ⟨g, 1, none⟩ rv') := Since.setCell (F := fun k => k = g) (p := ⟨g, 1, none⟩) (Since.refl _ _) (.inl rfl) _
  have m1 := s1.row h.mrow (fun k hk e => rows_apart h.mrow h.rrow (by decide) k hk e)
  refine ⟨h.below.trans ((s1.below h.below.size (fun k hk => (h.rrow.lt k hk).1)).trans (s2.below (Nat.le_trans h.below.size s1.size) (fun k e => by rw [e]; exact h.lo))), h.lo, ?_, s2.row m1 (fun k hk e => box_apart m1 b1 (by decide) k hk e), ?_⟩
  · have := set_of_block b1 1 rv'; simpa using this
  · rw [List.length_append, flat_snoc]
    exact s2.row h1 (fun k hk e => box_apart h1 b1 (by decide) k hk e)
theorem OfAt.final (h : OfAt W X g mv rv mem regs) (h4 : ∀ j, j < regs.length → (regs.getD j default).length = 4) {F : Nat → Prop} (hF : ∀ k, F k → k < W.heap.size) : Away F X (fun y => FinalAt y ⟨mem, regs⟩ mv rv) := fun y hy =>
  ⟨ints_of (hy.row h.mrow (fun k hk e => by have := (h.mrow.lt k hk).1; have := hF k e; omega)),
   SliceR.of_row (hy.row h.rrow (fun k hk e => by have := (h.rrow.lt k hk).1; have := hF k e; omega)) fun j hj => ⟨regsC (regs.getD j default), rfl, fun i hi => flatC_at regsC_len hj hi, h4 j hj, rfl⟩⟩
end
theorem ofS_regs (s : StateD) (i : Nat) (hi : i < s.threads.length) : (ofS s).regs.take (i + 1) = (ofS s).regs.take i ++ [(s.threads.getD i default).regs] := by
  have h : i < (ofS s).regs.length := by simp [ofS]; exact hi
  rw [List.take_succ_eq_append_getElem h]
  simp only [ofS, List.getElem_map]
  rw [List.getD_eq_getElem?_getD, List.getElem?_eq_getElem hi]; rfl
theorem ofS_regs4 {w : World} {s : StateD} {tv mv : Value} (hs : StateAt w s tv mv) : ∀ j, j < (ofS s).regs.length → ((ofS s).regs.getD j default).length = 4 := fun j hj => by
  have hj2 : j < s.threads.length := by simpa [ofS] using hj
  obtain ⟨ta, tc, rfl, -⟩ := SliceR.slice hs.threads
  obtain ⟨-, -, -, -, -, -, h4, -⟩ := ThreadsAt.part hs.threads j hj2
  have : (ofS s).regs.getD j default = (s.threads.getD j default).regs := by
    rw [List.getD_eq_getElem?_getD, List.getD_eq_getElem?_getD, List.getElem?_eq_getElem hj, List.getElem?_eq_getElem hj2]
    simp [ofS]
  rw [this]; exact h4
def OfEnd (w : World) (f : FinalD) (e : Ending) (w' : World) : Prop := (∃ mv rv, e = .returned (finalV mv rv) ∧ Away (fun k => k < w.heap.size) w' (fun y => FinalAt y f mv rv)) ∧ Below w.heap.size w w'
set_option maxRecDepth 100000 in
set_option maxHeartbeats 4000000 in
theorem of_any (w : World) (s : StateD) (tv mv : Value) (hs : StateAt w s tv mv) (hm : s.mem.length ≤ 1000000) (ht : s.threads.length ≤ 1000000) :
    Calls Try.prog 30 #[stateV s tv mv] w (OfEnd w (ofS s)) := by
  have hr4 := ofS_regs4 hs
  obtain ⟨ta, tc, rfl, -⟩ := SliceR.slice hs.threads
  obtain ⟨ma, mc, rfl, -⟩ := SliceR.slice hs.mem
  have hrs := fun i hi => ofS_regs s i hi
  have hrl : (ofS s).regs.length = s.threads.length := by simp [ofS]
  have hfin : ofS s = ⟨s.mem, (ofS s).regs⟩ := rfl
  rw [hfin]
  clear hfin
  generalize (ofS s).regs = R at hrs hrl hr4 ⊢
  unfold stateV
  have h1 := hs.threads
  have h2 := hs.mem
  clear hs
  obtain ⟨ts, mem, bad⟩ := s
  simp only [] at h1 h2 hm ht hrs hrl ⊢
  obtain ⟨n, hn⟩ : ∃ n, n = ts.length := ⟨_, rfl⟩
  obtain ⟨m, hmm⟩ : ∃ n, n = mem.length := ⟨_, rfl⟩
  rw [← hn] at h1 ht hrs hrl ⊢
  rw [← hmm] at h2 hm ⊢
  have hB := boxes_below w (.cells #[.slice ta n tc, .slice ma m mc, .bool bad] 31) (.cells #[.slice none 0 0, .slice none 0 0] 70)
  have H1 := Lib.hid (boxes_first w (.cells #[.slice ta n tc, .slice ma m mc, .bool bad] 31) (.cells #[.slice none 0 0, .slice none 0 0] 70))
  have H2 := Lib.hid (boxes_second w (.cells #[.slice ta n tc, .slice ma m mc, .bool bad] 31) (.cells #[.slice none 0 0, .slice none 0 0] 70))
  have HT := Lib.hid (SliceR.below ThreadR.stays h1 hB)
  have HM := Lib.hid (SliceR.below IntR.stays h2 hB)
  have HB := Lib.hid hB
  have HN := Lib.hid hn
  have HMM := Lib.hid hmm
  have HRS0 := Lib.hid hrs
  have HRL := Lib.hid hrl
  have HR4 := Lib.hid hr4
  clear h1 h2 hB hn hmm hrs hrl hr4
  go_enter Try.func30, Try.ntmps30
  go_upto_region 1 with fail
  generalize World.alloc (World.alloc w _) _ = W at HB H1 H2 HT HM ⊢
  obtain ⟨gx, hgx⟩ : ∃ gx, gx = w.heap.size := ⟨_, rfl⟩
  rw [← hgx] at H1 H2 ⊢
  have HGX := Lib.hid hgx
  clear hgx
  have HC : Hid (∀ x, Below W.heap.size W x → x.cell? ⟨gx, 0, none⟩ = some (.slice ta n tc) ∧ x.cell? ⟨gx, 1, none⟩ = some (.slice ma m mc)) := fun x hx => ⟨cells_kept hx _ _ (cell_of_block H1.out 0), cells_kept hx _ _ (cell_of_block H1.out 1)⟩
  have HRES : Hid (∀ y, Below W.heap.size W y → (y.cell? ⟨gx + 1, 0, none⟩ = some (.slice none 0 0) ∧ y.cell? ⟨gx + 1, 1, none⟩ = some (.slice none 0 0)) ∧ (y.frozen? ⟨gx + 1, 0, none⟩ = false ∧ y.frozen? ⟨gx + 1, 1, none⟩ = false) ∧
      ∀ a b : Value, ((y.setCell ⟨gx + 1, 0, none⟩ a).setCell ⟨gx + 1, 1, none⟩ b).heap[gx + 1]? = some (.cells #[a, b] 70 (0, 0)) ∧ Since (fun k => k = gx + 1) y ((y.setCell ⟨gx + 1, 0, none⟩ a).setCell ⟨gx + 1, 1, none⟩ b) ∧ Below w.heap.size w ((y.setCell ⟨gx + 1, 0, none⟩ a).setCell ⟨gx + 1, 1, none⟩ b)) := fun y hy => by
    have hres := (hy.block _ (lt_of_block H2.out)).trans H2.out
    refine ⟨⟨cell_of_block hres 0, cell_of_block hres 1⟩, ⟨free_of_block hres 0, free_of_block hres 1⟩, fun a b => ?_⟩
    have hset := set_of_block (set_of_block hres 0 a) 1 b
    simp only [List.setIfInBounds_toArray, List.set_cons_zero, List.set_cons_succ] at hset
    have hS : Since (fun k => k = gx + 1) y ((y.setCell ⟨gx + 1, 0, none⟩ a).setCell ⟨gx + 1, 1, none⟩ b) := Since.setCell (F := fun k => k = gx + 1) (p := ⟨gx + 1, 1, none⟩) (Since.setCell (F := fun k => k = gx + 1) (p := ⟨gx + 1, 0, none⟩) (Since.refl _ y) (.inl rfl) _) (.inl rfl) _
    exact ⟨hset, hS, (HB.out.trans (hy.mono HB.out.size)).trans (hS.below (by have := HB.out.size; have := hy.size; omega) (fun k e => by have := HGX.out; omega))⟩
  obtain ⟨c0, c1⟩ := HC.out W (Below.refl _ _)
  go_upto_region 2 with (go_at_call 46; go_must (refine (clone_any W (.slice ma m mc) mem HM.out (by rw [← HMM.out]; omega)).mono ?_); rintro e W1 ⟨⟨ja, jc, rfl, hrow⟩, hb1, -⟩; have HROW := Lib.hid hrow; have HB1 := Lib.hid hb1; clear hrow hb1)
  rw [← HMM.out] at HROW
  rw [← HMM.out]
  have hof : OfAt W (W1.alloc (.cells #[.slice ja m jc, .slice none 0 0] 70)) W1.heap.size (.slice ja m jc) (.slice none 0 0) mem [] := ⟨HB1.out.alloc HB1.out.size _, HB1.out.size, heap_alloc_new _ _, (by rw [← HMM.out]; exact HROW.out.alloc _), World.ownsRow_nil _ _ _ _⟩
  have HO := Lib.hid hof
  clear hof c0 c1
  generalize World.alloc W1 _ = X0 at HO ⊢
  obtain ⟨g3, hg3⟩ : ∃ g, g = W1.heap.size := ⟨_, rfl⟩
  rw [← hg3] at HO ⊢
  clear hg3 HROW HB1
  obtain ⟨c0, c1⟩ := HC.out X0 HO.out.below
  go_wp2_with fail
  go_loopg [13] n (fun gg s13 wr => ∃ (i : Nat) (ra : Option Addr) (rc : Nat), i ≤ n ∧ Hid (gg = n - i) ∧ s13 = .int .i64 i ∧ Hid (OfAt W wr g3 (.slice ja m jc) (.slice ra i rc) mem (R.take i)))
  case atStart => exact ⟨0, none, 0, Nat.zero_le _, rfl, rfl, HO.out⟩
  case round =>
    obtain ⟨i, ra, rc, hi, HG, rfl, HOI⟩ := hrel
    by_cases hlt : i < n
    · have hltI : (i : Int) < (n : Int) := by omega
      obtain ⟨b, off, ba, bc, hea, -, hr4, x0, x1, x2, x3, x4, x5, -⟩ := ThreadsAt.part HT.out i (by rw [← HN.out]; exact hlt)
      subst hea
      have hrs := HRS0.out i hlt
      generalize ts.getD i default = t at x0 x1 x2 x3 x4 x5 hr4 hrs
      obtain ⟨pc, rg, bf⟩ := t
      simp only [] at x0 x1 x2 x3 x4 x5 hr4 hrs
      obtain ⟨q0, q1, q2, q3, rfl⟩ := four_of hr4
      simp only [List.getD_cons_zero, List.getD_cons_succ] at x1 x2 x3 x4
      generalize bf.length = bl at x5
      have hlr : (R.take i).length = i := by rw [List.length_take, HRL.out]; omega
      have HLR := Lib.hid hlr
      have HRS := Lib.hid hrs
      replace x0 := cells_kept HOI.out.below _ _ x0
      replace x1 := cells_kept HOI.out.below _ _ x1
      replace x2 := cells_kept HOI.out.below _ _ x2
      replace x3 := cells_kept HOI.out.below _ _ x3
      replace x4 := cells_kept HOI.out.below _ _ x4
      replace x5 := cells_kept HOI.out.below _ _ x5
      clear hr4 hrs hlr
      go_upto_region 5 with fail
      clear x0 x1 x2 x3 x4 x5
      have hox := HOI.out.later ((Below.refl wr.heap.size wr).alloc (Nat.le_refl _) (.cells #[.int .i64 pc, .int .i64 q0, .int .i64 q1, .int .i64 q2, .int .i64 q3, .slice ba bl bc] 58))
      have htb := heap_alloc_new wr (.cells #[.int .i64 pc, .int .i64 q0, .int .i64 q1, .int .i64 q2, .int .i64 q3, .slice ba bl bc] 58)
      have HOX := Lib.hid hox
      have HTB := Lib.hid htb
      clear hox htb
      generalize World.alloc wr _ = X at HOX HTB ⊢
      generalize wr.heap.size = tb at HTB ⊢
      have b1 := cell_of_block HOX.out.box 1
      have t1 := cell_of_block HTB.out 1
      have t2 := cell_of_block HTB.out 2
      have t3 := cell_of_block HTB.out 3
      have t4 := cell_of_block HTB.out 4
      have hrow := HOX.out.rrow
      rw [HLR.out] at hrow
      have HROWI := Lib.hid hrow
      clear hrow
      go_wp2_with (at_builtin; go_must (refine wpList_append_at_ _ rfl _ _ 68 rfl 55 (.agg #[.int .i64 0, .int .i64 0, .int .i64 0, .int .i64 0]) 4 32 Try.underlying68 regs_info rfl (by decide) W.heap.size (.slice ra i rc) i (flatC regsC (R.take i)) rfl ((HROWI.out).alloc _) ⟨X.heap.size, 0, none⟩ 1 1 [.int .i64 q0, .int .i64 q1, .int .i64 q2, .int .i64 q3] rfl rfl (row_new _ [.int .i64 q0, .int .i64 q1, .int .i64 q2, .int .i64 q3] _) (by simp [Value.oneCell']) (by unfold maxLen; omega) (by omega) (by have := HOX.out.below.size; simp; omega) ?_); intro ka kc X2 f1 f2 f3 f4 f5 f6; have hbx := box_kept HROWI.out HOX.out.box (by decide) f4; have k0 := cell_of_block hbx 1; have z0 := free_of_block hbx 1; have HP := Lib.hid (HOX.out.push (x := [q0, q1, q2, q3]) (by rw [HLR.out]; exact f1) f4); clear f1 f2 f3 f4 f5 f6 hbx)
      go_roundg (n - (i + 1))
      case measure => rw [HG.out]; omega
      case rel => exact ⟨i + 1, ka, kc, by omega, rfl, by simp, by rw [Hid, HRS.out]; exact HP.out⟩
    · obtain rfl : n = i := by omega
      have hRt : R.take n = R := List.take_of_length_le (by rw [HRL.out]; omega)
      rw [hRt] at HOI
      clear hRt
      have b0 := cell_of_block HOI.out.box 0
      have b1 := cell_of_block HOI.out.box 1
      obtain ⟨⟨q0, q1⟩, ⟨f0, f1⟩, hend⟩ := HRES.out wr HOI.out.below
      obtain ⟨hset, hsn, hbe⟩ := hend (.slice ja m jc) (.slice ra n rc)
      have HSET := Lib.hid hset
      have HSN := Lib.hid hsn
      have HBE := Lib.hid hbe
      clear hset hsn hbe hend
      obtain ⟨c0, c1⟩ := HC.out wr HOI.out.below
      go_wp2_with fail
      (try simp only [Exit.inBlock, Exit.then])
      refine bodyPost_ret (results_cell rfl _ _ (gx + 1) 70 _ (0, 0) _ rfl HSET.out Try.underlying70 rfl final_size) rfl ?_
      have hlt2 := lt_of_block H2.out
      refine ⟨⟨_, _, rfl, ?_⟩, HBE.out⟩
      exact (HOI.out.final HR4.out (F := fun k => k < W.heap.size) (fun k h => h)).step HSN.out (fun k e => .inl (by rw [e]; exact hlt2)) (fun k e => .inl (Nat.lt_of_lt_of_le e HB.out.size))
set_option maxRecDepth 100000 in
set_option maxHeartbeats 8000000 in
theorem refOf_any (w : World) (s : StateD) (tv mv : Value) (hs : StateAt w s tv mv) (hm : s.mem.length ≤ 1000000) (ht : s.threads.length ≤ 1000000) :
    Calls Try.prog 33 #[stateV s tv mv] w (OfEnd w (ofS s)) := by
  have hr4 := ofS_regs4 hs
  obtain ⟨ta, tc, rfl, -⟩ := SliceR.slice hs.threads
  obtain ⟨ma, mc, rfl, -⟩ := SliceR.slice hs.mem
  have hrs := fun i hi => ofS_regs s i hi
  have hrl : (ofS s).regs.length = s.threads.length := by simp [ofS]
  have hfin : ofS s = ⟨s.mem, (ofS s).regs⟩ := rfl
  rw [hfin]
  clear hfin
  generalize (ofS s).regs = R at hrs hrl hr4 ⊢
  unfold stateV
  have h1 := hs.threads
  have h2 := hs.mem
  clear hs
  obtain ⟨ts, mem, bad⟩ := s
  simp only [] at h1 h2 hm ht hrs hrl ⊢
  obtain ⟨n, hn⟩ : ∃ n, n = ts.length := ⟨_, rfl⟩
  obtain ⟨m, hmm⟩ : ∃ n, n = mem.length := ⟨_, rfl⟩
  rw [← hn] at h1 ht hrs hrl ⊢
  rw [← hmm] at h2 hm ⊢
  have hB := boxes_below w (.cells #[.slice ta n tc, .slice ma m mc, .bool bad] 31) (.cells #[.slice none 0 0, .slice none 0 0] 70)
  have H1 := Lib.hid (boxes_first w (.cells #[.slice ta n tc, .slice ma m mc, .bool bad] 31) (.cells #[.slice none 0 0, .slice none 0 0] 70))
  have H2 := Lib.hid (boxes_second w (.cells #[.slice ta n tc, .slice ma m mc, .bool bad] 31) (.cells #[.slice none 0 0, .slice none 0 0] 70))
  have HT := Lib.hid (SliceR.below ThreadR.stays h1 hB)
  have HM := Lib.hid (SliceR.below IntR.stays h2 hB)
  have HB := Lib.hid hB
  have HN := Lib.hid hn
  have HMM := Lib.hid hmm
  have HRS0 := Lib.hid hrs
  have HRL := Lib.hid hrl
  have HR4 := Lib.hid hr4
  clear h1 h2 hB hn hmm hrs hrl hr4
  go_enter Try.func33, Try.ntmps33
  go_upto_region 1 with fail
  generalize World.alloc (World.alloc w _) _ = W at HB H1 H2 HT HM ⊢
  obtain ⟨gx, hgx⟩ : ∃ gx, gx = w.heap.size := ⟨_, rfl⟩
  rw [← hgx] at H1 H2 ⊢
  have HGX := Lib.hid hgx
  clear hgx
  have HC : Hid (∀ x, Below W.heap.size W x → x.cell? ⟨gx, 0, none⟩ = some (.slice ta n tc) ∧ x.cell? ⟨gx, 1, none⟩ = some (.slice ma m mc)) := fun x hx => ⟨cells_kept hx _ _ (cell_of_block H1.out 0), cells_kept hx _ _ (cell_of_block H1.out 1)⟩
  have HRES : Hid (∀ y, Below W.heap.size W y → (y.cell? ⟨gx + 1, 0, none⟩ = some (.slice none 0 0) ∧ y.cell? ⟨gx + 1, 1, none⟩ = some (.slice none 0 0)) ∧ (y.frozen? ⟨gx + 1, 0, none⟩ = false ∧ y.frozen? ⟨gx + 1, 1, none⟩ = false) ∧
      ∀ a b : Value, ((y.setCell ⟨gx + 1, 0, none⟩ a).setCell ⟨gx + 1, 1, none⟩ b).heap[gx + 1]? = some (.cells #[a, b] 70 (0, 0)) ∧ Since (fun k => k = gx + 1) y ((y.setCell ⟨gx + 1, 0, none⟩ a).setCell ⟨gx + 1, 1, none⟩ b) ∧ Below w.heap.size w ((y.setCell ⟨gx + 1, 0, none⟩ a).setCell ⟨gx + 1, 1, none⟩ b)) := fun y hy => by
    have hres := (hy.block _ (lt_of_block H2.out)).trans H2.out
    refine ⟨⟨cell_of_block hres 0, cell_of_block hres 1⟩, ⟨free_of_block hres 0, free_of_block hres 1⟩, fun a b => ?_⟩
    have hset := set_of_block (set_of_block hres 0 a) 1 b
    simp only [List.setIfInBounds_toArray, List.set_cons_zero, List.set_cons_succ] at hset
    have hS : Since (fun k => k = gx + 1) y ((y.setCell ⟨gx + 1, 0, none⟩ a).setCell ⟨gx + 1, 1, none⟩ b) := Since.setCell (F := fun k => k = gx + 1) (p := ⟨gx + 1, 1, none⟩) (Since.setCell (F := fun k => k = gx + 1) (p := ⟨gx + 1, 0, none⟩) (Since.refl _ y) (.inl rfl) _) (.inl rfl) _
    exact ⟨hset, hS, (HB.out.trans (hy.mono HB.out.size)).trans (hS.below (by have := HB.out.size; have := hy.size; omega) (fun k e => by have := HGX.out; omega))⟩
  obtain ⟨c0, c1⟩ := HC.out W (Below.refl _ _)
  have HSRC := Lib.hid (ints_src HM.out)
  have HNONE : Hid (ma = none → m = 0) := fun e => by have := HM.out; rw [e] at this; exact ints_none this
  go_upto_region 2 with (at_builtin; go_must (refine wpList_append_src W rfl (.const (.slice none 0 0)) _ 29 rfl 3 (.int .i64 0) 1 8 Try.underlying29 int_info rfl (by decide) W.heap.size (.slice none 0 0) 0 [] rfl (World.ownsRow_nil _ _ _ _) ma m mc (flatC intC mem) rfl ((flatC_len (f := intC) int_len mem).trans (by rw [← HMM.out])) HSRC.out HNONE.out ints_one (by unfold maxLen; omega) (by omega) (Nat.le_refl _) ?_); intro ja jc W1 f1 f2 f3 f4 f5; have HROW := Lib.hid (zero_row f1); have HB1 : Hid (Below W.heap.size W W1) := f4.below (Nat.le_refl _) (fun k hk => by simp [Value.ownBlock] at hk); clear f1 f2 f3 f4 f5)
  have hof : OfAt W (W1.alloc (.cells #[.slice ja m jc, .slice none 0 0] 70)) W1.heap.size (.slice ja m jc) (.slice none 0 0) mem [] := ⟨HB1.out.alloc HB1.out.size _, HB1.out.size, heap_alloc_new _ _, (by rw [← HMM.out]; exact HROW.out.alloc _), World.ownsRow_nil _ _ _ _⟩
  have HO := Lib.hid hof
  clear hof c0 c1
  generalize World.alloc W1 _ = X0 at HO ⊢
  obtain ⟨g3, hg3⟩ : ∃ g, g = W1.heap.size := ⟨_, rfl⟩
  rw [← hg3] at HO ⊢
  clear hg3 HROW HB1
  obtain ⟨c0, c1⟩ := HC.out X0 HO.out.below
  go_wp2_with fail
  go_loopg [4] n (fun gg s4 wr => ∃ (i : Nat) (ra : Option Addr) (rc : Nat), i ≤ n ∧ Hid (gg = n - i) ∧ s4 = .int .i64 i ∧ Hid (OfAt W wr g3 (.slice ja m jc) (.slice ra i rc) mem (R.take i)))
  case atStart => exact ⟨0, none, 0, Nat.zero_le _, rfl, rfl, HO.out⟩
  case round =>
    obtain ⟨i, ra, rc, hi, HG, rfl, HOI⟩ := hrel
    by_cases hlt : i < n
    · have hltI : (i : Int) < (n : Int) := by omega
      obtain ⟨b, off, ba, bc, hea, -, hr4, x0, x1, x2, x3, x4, x5, -⟩ := ThreadsAt.part HT.out i (by rw [← HN.out]; exact hlt)
      subst hea
      have hrs := HRS0.out i hlt
      generalize ts.getD i default = t at x0 x1 x2 x3 x4 x5 hr4 hrs
      obtain ⟨pc, rg, bf⟩ := t
      simp only [] at x0 x1 x2 x3 x4 x5 hr4 hrs
      obtain ⟨q0, q1, q2, q3, rfl⟩ := four_of hr4
      simp only [List.getD_cons_zero, List.getD_cons_succ] at x1 x2 x3 x4
      generalize bf.length = bl at x5
      have hlr : (R.take i).length = i := by rw [List.length_take, HRL.out]; omega
      have HLR := Lib.hid hlr
      have HRS := Lib.hid hrs
      replace x0 := cells_kept HOI.out.below _ _ x0
      replace x1 := cells_kept HOI.out.below _ _ x1
      replace x2 := cells_kept HOI.out.below _ _ x2
      replace x3 := cells_kept HOI.out.below _ _ x3
      replace x4 := cells_kept HOI.out.below _ _ x4
      replace x5 := cells_kept HOI.out.below _ _ x5
      clear hr4 hrs hlr
      obtain ⟨c0, c1⟩ := HC.out wr HOI.out.below
      have b1 := cell_of_block HOI.out.box 1
      have HOX := HOI
      have hrow := HOX.out.rrow
      rw [HLR.out] at hrow
      have HROWI := Lib.hid hrow
      clear hrow
      go_upto_region 5 with fail
      have b1a : ∀ o, (World.alloc wr o).cell? ⟨g3, 1, none⟩ = some (.slice ra i rc) := fun o => cells_kept ((Below.refl wr.heap.size wr).alloc (Nat.le_refl _) o) _ _ b1
      go_region_law (refine step_append_where_ _ (by rfl) (.tmp 17) (.tmp 24) 68 rfl 55 (.agg #[.int .i64 0, .int .i64 0, .int .i64 0, .int .i64 0]) 4 32 Try.underlying68 regs_info rfl (by decide) W.heap.size (.slice ra i rc) i (flatC regsC (R.take i)) rfl ((Since.refl (fun _ => False) _).drew.row ((HROWI.out).alloc _) (fun _ _ h => h)) ⟨wr.heap.size, 0, none⟩ 1 1 [.int .i64 q0, .int .i64 q1, .int .i64 q2, .int .i64 q3] rfl rfl (fun j u hj => row_new wr [.int .i64 q0, .int .i64 q1, .int .i64 q2, .int .i64 q3] _ j u hj) (by simp [Value.oneCell']) (by unfold maxLen; omega) (by omega) (by have := HOX.out.below.size; simp; omega) ?_; intro ka kc X2 f1 f2 f3 f4 f5; replace f4 := ((Since.refl (fun k => (Value.slice ra i rc).ownBlock = some k) (wr.alloc (.cells [Value.int .i64 q0, .int .i64 q1, .int .i64 q2, .int .i64 q3].toArray 55))).drew).trans f4 (fun _ h => .inl h); have hbx := box_kept HROWI.out HOX.out.box (by decide) f4; have k0 := cell_of_block hbx 1; have z0 := free_of_block hbx 1; have HP := Lib.hid (HOX.out.push (x := [q0, q1, q2, q3]) (by rw [HLR.out]; exact f1) f4); clear f1 f2 f3 f4 f5 hbx)
      all_goals
        go_wp2_with fail
        go_roundg (n - (i + 1))
        case measure => rw [HG.out]; omega
        case rel => exact ⟨i + 1, ka, kc, by omega, rfl, by simp, by rw [Hid, HRS.out]; exact HP.out⟩
    · obtain rfl : n = i := by omega
      have hRt : R.take n = R := List.take_of_length_le (by rw [HRL.out]; omega)
      rw [hRt] at HOI
      clear hRt
      have b0 := cell_of_block HOI.out.box 0
      have b1 := cell_of_block HOI.out.box 1
      obtain ⟨⟨q0, q1⟩, ⟨f0, f1⟩, hend⟩ := HRES.out wr HOI.out.below
      obtain ⟨hset, hsn, hbe⟩ := hend (.slice ja m jc) (.slice ra n rc)
      have HSET := Lib.hid hset
      have HSN := Lib.hid hsn
      have HBE := Lib.hid hbe
      clear hset hsn hbe hend
      obtain ⟨c0, c1⟩ := HC.out wr HOI.out.below
      go_wp2_with fail
      (try simp only [Exit.inBlock, Exit.then])
      refine bodyPost_ret (results_cell rfl _ _ (gx + 1) 70 _ (0, 0) _ rfl HSET.out Try.underlying70 rfl final_size) rfl ?_
      have hlt2 := lt_of_block H2.out
      refine ⟨⟨_, _, rfl, ?_⟩, HBE.out⟩
      exact (HOI.out.final HR4.out (F := fun k => k < W.heap.size) (fun k h => h)).step HSN.out (fun k e => .inl (by rw [e]; exact hlt2)) (fun k e => .inl (Nat.lt_of_lt_of_le e HB.out.size))
end Go.Proofs.Ytnlkbboghcdpnaa
