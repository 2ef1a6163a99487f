/- The first state: the program's answer: the walk. -/
import Derived.Test.YtliajkheeniljaaGreatDoorQPCode
import Derived.Test.YtliajkheeniljaaGreatDoorQPSrc
import Derived.Test.YtliajkheeniljaaGreatDoorQStart
import Derived.Test.YtliajkheeniljaaGreatDoorQStepQ
import Derived.Test.YtliajkheeniljaaGreatDoorQShort
set_option linter.all false
namespace Go.Proofs.YtliajkheeniljaaGreatDoor
open Go.RowKit
set_option maxRecDepth 100000
set_option maxHeartbeats 16000000
theorem step_make_ {P : Program} (w : World) {ops : Array Oper} {o : Oper} {a : Act} {K : Act → World → Prop} {Q : Exit → Act → World → Prop} {E : Prop} (hw : Region.wanted o (yielded ops a.tmps) = true) (l c : Operand) (t : TypeId) (ho : o.op = Op.makeSlice t l c)
  (e : TypeId) (z : Value) (size bytes : Nat) (ht : P.underlying t = some (.slice e)) (hinfo : (P.info? e).map (fun i => (i.zero, i.size, i.bytes)) = some (some z, size, bytes)) (n : Nat) (hl : a.eval l = .int .i64 (n : Int)) (hc : a.eval c = .int .i64 (n : Int))
  (h63 : n ≤ maxLen) (hbytes : n * bytes ≤ 281474976710656) (h : K (a.put o.dst (.slice (some ⟨w.heap.size, 0, none⟩) n n)) (w.alloc (.cells (madeCells z.cells (n * size)).toList.toArray e))) : if Region.wanted o (yielded ops a.tmps) = true then Oper.wp P o a w K Q else E := by
 rw [if_pos hw]
 obtain ⟨i, hi, hz, hsize, hby⟩ := info_parts hinfo
 have h63' : (n : Int) ≤ 9223372036854775807 := by have := h63; unfold maxLen at this; omega
 have hb' : (i.bytes : Int) * (n : Int) ≤ 281474976710656 := by
  have h : ((i.bytes * n : Nat) : Int) ≤ 281474976710656 := by rw [hby, Nat.mul_comm]; omega
  rwa [Int.natCast_mul] at h
 have hr := run_make (P := P) w t e i z ht hi hz .i64 .i64 (n : Int) (n : Int) (by omega) (Int.le_refl _) hb' h63'
 unfold Oper.wp execOp
 simp only [ho, resolve, Sem.run_bind, Sem.run_pure, Result.andThen_ok, hl, hc, hr, Int.toNat_natCast, hsize]
 rw [Array.toArray_toList] at h
 exact h
theorem made_cells {z : Array Value} {n j : Nat} (h : j < n) : (madeCells z n).toList[j]? = some z[j % z.size]! := by
 rw [Array.getElem?_toList, madeCells, Array.getElem?_map, Array.getElem?_range, if_pos h]; rfl
theorem made_threads (n : Nat) : (madeCells (Value.agg #[.int .i64 0, .int .i64 0, .int .i64 0, .int .i64 0, .int .i64 0, .slice none 0 0]).cells (n * 6)).toList = threadsC (List.replicate n default) (List.replicate n (.slice none 0 0)) := by
 have hl := threadsC_len (List.replicate n default) (List.replicate n (.slice none 0 0))
 rw [List.length_replicate] at hl
 apply List.ext_getElem?
 intro j
 by_cases hj : j < n * 6
 rotate_left
 ·rw [List.getElem?_eq_none (by simp [size_madeCells]; omega), List.getElem?_eq_none (by omega)]
 rw [made_cells hj]
 have e : j = j / 6 * 6 + j % 6 := by omega
 have hd : (List.replicate n (default : ThreadD)).getD (j / 6) default = default := by simp [List.getD_eq_getElem?_getD, List.getElem?_replicate]; split <;> rfl
 have hv : (List.replicate n (Value.slice none 0 0)).getD (j / 6) (.slice none 0 0) = .slice none 0 0 := by simp [List.getD_eq_getElem?_getD, List.getElem?_replicate]; split <;> rfl
 have hc := threadsC_at (l := List.replicate n default) (bs := List.replicate n (.slice none 0 0)) (j := j / 6) (i := j % 6) (by rw [List.length_replicate]; omega) (by omega)
 rw [← e, hd, hv] at hc
 rw [hc]
 have h6 : j % 6 = 0 ∨ j % 6 = 1 ∨ j % 6 = 2 ∨ j % 6 = 3 ∨ j % 6 = 4 ∨ j % 6 = 5 := by omega
 show some (#[Value.int .i64 0, .int .i64 0, .int .i64 0, .int .i64 0, .int .i64 0, .slice none 0 0][j % 6]!) = _
 rcases h6 with h | h | h | h | h | h <;> rw [h] <;> rfl
theorem made_mem (n : Nat) : (madeCells (Value.int .i64 0).cells (n * 1)).toList = flatC intC (List.replicate n 0) := by
 rw [Nat.mul_one]
 refine (toList_madeCells_one (.int .i64 0) n).trans ?_
 induction n with
 | zero => rfl
 | succ n ih => rw [start_mem, ← ih, List.replicate_succ']
def PStartEnd (w : World) (s : StateD) (e : Ending) (w' : World) : Prop := (∃ sv mv, e = .returned (stateV s sv mv) ∧ Away (fun k => k < w.heap.size) w' (fun y => StateAt y s sv mv)) ∧ Below w.heap.size w w'
theorem pstart_of {w X : World} {g1 g2 gr n k : Nat} (hb : Below w.heap.size w X) (h1 : X.heap[g1]? = some (.cells (madeCells (Value.agg #[.int .i64 0, .int .i64 0, .int .i64 0, .int .i64 0, .int .i64 0, .slice none 0 0]).cells (n * 6)).toList.toArray 48 (0, 0))) (h2 : X.heap[g2]? = some (.cells (madeCells (Value.int .i64 0).cells (k * 1)).toList.toArray 3 (0, 0)))
  (l1 : w.heap.size ≤ g1) (l2 : w.heap.size ≤ g2) (hn : n ≤ 4) (hk : k ≤ 4) (_hr : X.heap[gr]? = some (.cells #[.slice (some ⟨g1, 0, none⟩) n n, .slice (some ⟨g2, 0, none⟩) k k, .bool false] 30 (0, 0))) :
  PStartEnd w ⟨List.replicate n default, List.replicate k 0, false⟩ (.returned (.agg #[.slice (some ⟨g1, 0, none⟩) n n, .slice (some ⟨g2, 0, none⟩) k k, .bool false])) X := by
 rw [made_threads] at h1
 rw [made_mem] at h2
 have r1 := row_of_block_ (n := n) h1 l1 (by rw [threadsC_len, List.length_replicate]) (by unfold maxLen; omega)
 have r2 := row_of_block_ (n := k) h2 l2 (by rw [flatC_len (f := intC) int_len, List.length_replicate]) (by unfold maxLen; omega)
 exact ⟨⟨_, _, rfl, fun y hy => start_state (hy.row r1 (fun x hx e => by cases hx; exact absurd l1 (Nat.not_le.2 e))) (hy.row r2 (fun x hx e => by cases hx; exact absurd l2 (Nat.not_le.2 e)))⟩, hb⟩
theorem pstart_own (w : World) (c : CodeD) (tv : Value) (d : Nat) (h : RowsAt d w tv c.threads) : Calls Tryz.prog 18 #[codeV c tv] w (PStartEnd w (startS c)) := by
 obtain ⟨ca, cc, rfl, hcl⟩ := SliceR.slice h
 obtain ⟨co, hco⟩ : ∃ co, co = codeOk c := ⟨_, rfl⟩
 have hcode := fun W (hW : RowsAt d W (.slice ca c.threads.length cc) c.threads) => pcodeOk_any W c (.slice ca c.threads.length cc) d hW
 rw [← hco] at hcode
 have hst : startS c = if co then ⟨List.replicate c.threads.length default, List.replicate c.vars.toNat 0, false⟩ else ⟨[], [], false⟩ := by rw [hco]; rfl
 rw [hst]
 have hbd : co = true → 1 ≤ c.vars ∧ c.vars ≤ 4 ∧ c.threads.length ≤ 4 := fun e => by
  have := codeOk_bounds (hco.symm.trans e); exact ⟨this.1, this.2.1, this.2.2.2.2.2⟩
 obtain ⟨vars, dom, cs⟩ := c
 simp only [] at h hcl hcode hbd ⊢
 unfold codeV
 unfold codeV at hcode
 simp only [] at hcode ⊢
 obtain ⟨n, hn⟩ : ∃ n, n = cs.length := ⟨_, rfl⟩
 rw [← hn] at h hcl hcode hbd ⊢
 have hl0 := (((Loc.start w).alloc 24 [.int .i64 vars, .int .i64 dom, .slice ca n cc]).alloc 30 [.slice none 0 0, .slice none 0 0, .bool false])
 have hsz : (w.alloc (.cells [.int .i64 vars, .int .i64 dom, .slice ca n cc].toArray 24)).heap.size = w.heap.size + 1 := by simp
 rw [hsz] at hl0
 have HL0 := qh hl0
 clear hl0 hsz
 have HT := qh h
 have HCODE := qh hcode
 have HBD := qh hbd
 obtain ⟨nv, hnv⟩ : ∃ nv : Nat, nv = vars.toNat := ⟨_, rfl⟩
 rw [← hnv]
 have HNV := qh hnv
 obtain ⟨R, hR⟩ : ∃ R : StateD, R = if co then ⟨List.replicate n default, List.replicate nv 0, false⟩ else ⟨[], [], false⟩ := ⟨_, rfl⟩
 rw [← hR]
 have HRR := qh hR
 clear hR
 clear h hcode hst hco hn hbd hnv
 go_enter Tryz.func18, Tryz.ntmps18
 go_upto_region 1 with fail
 obtain ⟨gx, hgx⟩ : ∃ gx, gx = w.heap.size := ⟨_, rfl⟩
 have HNE : Hid (gx + 1 ≠ gx) := by rw [Hid]; omega
 rw [← hgx] at HL0 ⊢
 generalize World.alloc (World.alloc w _) _ = W at HL0 ⊢
 clear hgx
 obtain ⟨n1, -⟩ := HL0.out.news (gx, 24, [.int .i64 vars, .int .i64 dom, .slice ca n cc]) (List.mem_cons_of_mem _ (List.mem_cons_self ..))
 have c0 := qcb n1 0
 have c1 := qcb n1 1
 have c2 := qcb n1 2
 clear n1
 go_wp2_with fail
 refine (HCODE.out W (SliceR.below (RowR.stays d) HT.out HL0.out.below)).mono ?_
 rintro e W1 ⟨rfl, hb⟩
 have HL := qh (HL0.out.later hb)
 clear hb c0 c1 c2 HCODE HT HL0
 cases co with
 | false =>
  obtain ⟨n2, -⟩ := HL.out.news (gx + 1, 30, [.slice none 0 0, .slice none 0 0, .bool false]) (List.mem_cons_self ..)
  have a0 := qcb n2 0
  have a1 := qcb n2 1
  have a2 := qcb n2 2
  have f0 := qfb n2 0
  have f1 := qfb n2 1
  have f2 := qfb n2 2
  have HS := qh (HL.out.store (List.mem_cons_self ..) [.slice none 0 0, .slice none 0 0, .bool false] rfl)
  clear n2
  go_wp2_with fail
  (try simp only [Exit.inBlock, Exit.then])
  obtain ⟨hset, -⟩ := HS.out.news (gx + 1, 30, [.slice none 0 0, .slice none 0 0, .bool false]) (upd_mem (List.mem_cons_self ..))
  have hset2 : (((W1.setCell ⟨gx + 1, 0, none⟩ (.slice none 0 0)).setCell ⟨gx + 1, 1, none⟩ (.slice none 0 0)).setCell ⟨gx + 1, 2, none⟩ (.bool false)).heap[gx + 1]? = some (.cells #[.slice none 0 0, .slice none 0 0, .bool false] 30 (0, 0)) := hset
  refine bodyPost_ret (results_cell rfl _ _ (gx + 1) 30 _ (0, 0) _ rfl hset2 Tryz.underlying30 rfl state_size) rfl ?_
  have hr : R = ⟨[], [], false⟩ := HRR.out
  rw [hr]
  exact ⟨⟨_, _, rfl, fun y _ => ⟨SliceR.nil _, SliceR.nil _⟩⟩, HS.out.below⟩
 | true =>
  obtain ⟨hv1, hv4, hn4⟩ := HBD.out rfl
  have hvn : vars = (nv : Int) := by rw [HNV.out]; omega
  subst hvn
  have hnv4 : nv ≤ 4 := by omega
  clear HBD HNV hv1 hv4
  have CC : Hid (∀ y, Since (fun k => k = gx + 1) W1 y → y.cell? ⟨gx, 0, none⟩ = some (.int .i64 nv) ∧ y.cell? ⟨gx, 2, none⟩ = some (.slice ca n cc)) := fun y hy => by
   obtain ⟨n1, -⟩ := HL.out.news (gx, 24, [.int .i64 nv, .int .i64 dom, .slice ca n cc]) (List.mem_cons_of_mem _ (List.mem_cons_self ..))
   have n3 := (hy.block gx (qlb n1) (by omega)).trans n1
   exact ⟨qcb n3 0, qcb n3 2⟩
  go_wp2_with fail
  refine wp_region_noPanic ?_
  refine wp_region_held_drew (S := fun x => Since (fun k => k = gx + 1) W1 x) (by kernel_rfl) (Since.refl _ _).drew (fun _ => ?_)
  obtain ⟨V1, hV1⟩ : ∃ V1, V1 = W1.drew := ⟨_, rfl⟩
  have hT0b : Hid (Since (fun k => k = gx + 1) W1 V1) := by rw [hV1]; exact (Since.refl _ _).drew
  have hT0 := qh (HL.out.drew)
  rw [← hV1] at hT0 ⊢
  clear hV1
  refine qtk 0 7 ?vs1 rfl ?hys1 (hT0b.out) ?_
  case hys1 => (intro _ _; go_simp <;> rfl)
  simp only [Act.put, qz1, qz2, qz3]
  refine qtk 1 8 ?vs2 rfl ?hys2 (hT0b.out) ?_
  case hys2 => (intro x h; have e := CC.out x h; go_simp <;> rfl)
  simp only [Act.put, qz1, qz2, qz3]
  refine qtk 2 9 ?vs3 rfl ?hys3 (hT0b.out) ?_
  case hys3 => (intro _ _; go_simp <;> rfl)
  simp only [Act.put, qz1, qz2, qz3]
  refine qtk 4 11 ?vs4 rfl ?hys4 (hT0b.out) ?_
  case hys4 => (intro _ _; go_simp <;> rfl)
  simp only [Act.put, qz1, qz2, qz3]
  refine qtk 5 12 ?vs5 rfl ?hys5 (hT0b.out) ?_
  case hys5 => (intro x h; have e := CC.out x h; go_simp <;> rfl)
  simp only [Act.put, qz1, qz2, qz3]
  refine wpAnyH_ready (rs := [3, 6]) (by kernel_rfl) (by simp) ?_
  refine AllReadyH.cons rfl (fun K hK => ?_) (AllReadyH.cons rfl (fun K hK => ?_) AllReadyH.nil)
  ·skip
   refine step_make_ V1 (by rfl) (.tmp 9) (.tmp 9) 27 rfl 48 (.agg #[.int .i64 0, .int .i64 0, .int .i64 0, .int .i64 0, .int .i64 0, .slice none 0 0]) 6 64 Tryz.underlying27 thread_info n (by rfl) (by rfl) (by unfold maxLen; omega) (by omega) ?_
   have ne_gr_ga : (gx + 1) ≠ V1.heap.size := hT0.out.ne_new (List.mem_cons_self ..)
   have hTs1 := hT0.out.alloc 48 (madeCells (Value.agg #[.int .i64 0, .int .i64 0, .int .i64 0, .int .i64 0, .int .i64 0, .slice none 0 0]).cells (n * 6)).toList
   have hTs1b := (hT0b.out).alloc (.cells (madeCells (Value.agg #[.int .i64 0, .int .i64 0, .int .i64 0, .int .i64 0, .int .i64 0, .slice none 0 0]).cells (n * 6)).toList.toArray 48)
   refine hK.out _ _ hTs1b (fun _ => ?_)
   change wpAnyH _ _ _ _ _ _ _ (Act.put _ (some 10) _) _
   simp only [Act.put, qz1]
   try simp only [qz2, qz3]
   obtain ⟨ga, hga⟩ : ∃ n, n = V1.heap.size := ⟨_, rfl⟩
   rw [← hga] at hTs1 ne_gr_ga ⊢
   clear hga
   replace ne_gr_ga := qh ne_gr_ga
   generalize World.alloc V1 _ = Xs2 at hTs1 hTs1b ⊢
   replace hTs1 := qh hTs1
   replace hTs1b := qh hTs1b
   clear hK K
   refine qrH 6 rfl (fun K hK => ?_)
   refine step_make_ Xs2 (by rfl) (.tmp 12) (.tmp 12) 28 rfl 3 (.int .i64 0) 1 8 Tryz.underlying28 int_info nv (by rfl) (by rfl) (by unfold maxLen; omega) (by omega) ?_
   have ne_gr_gm : (gx + 1) ≠ Xs2.heap.size := hTs1.out.ne_new (List.mem_cons_of_mem _ (List.mem_cons_self ..))
   have ne_ga_gm : ga ≠ Xs2.heap.size := hTs1.out.ne_new (List.mem_cons_self ..)
   have hTs3 := hTs1.out.alloc 3 (madeCells (Value.int .i64 0).cells (nv * 1)).toList
   have hTs3b := (hTs1b.out).alloc (.cells (madeCells (Value.int .i64 0).cells (nv * 1)).toList.toArray 3)
   refine hK.out _ _ hTs3b (fun _ => ?_)
   change wpAnyH _ _ _ _ _ _ _ (Act.put _ (some 13) _) _
   simp only [Act.put, qz1]
   try simp only [qz2, qz3]
   obtain ⟨gm, hgm⟩ : ∃ n, n = Xs2.heap.size := ⟨_, rfl⟩
   rw [← hgm] at hTs3 ne_gr_gm ne_ga_gm ⊢
   clear hgm
   replace ne_gr_gm := qh ne_gr_gm
   replace ne_ga_gm := qh ne_ga_gm
   generalize World.alloc Xs2 _ = Xs4 at hTs3 hTs3b ⊢
   replace hTs3 := qh hTs3
   replace hTs3b := qh hTs3b
   clear hK K
   refine qtk 7 14 ?vs6 rfl ?hys6 (hTs3b.out) ?_
   case hys6 => (intro _ _; go_simp <;> rfl)
   simp only [Act.put, qz1, qz2, qz3]
   refine qrH 8 rfl (fun K hK => ?_)
   obtain ⟨hn, -⟩ := hTs3.out.news (gx + 1, 30, [.slice none 0 0, .slice none 0 0, .bool false]) (List.mem_cons_of_mem _ (List.mem_cons_of_mem _ (List.mem_cons_self ..)))
   have d0 := qcb hn 0
   have f0 := qfb hn 0
   have d1 := qcb hn 1
   have f1 := qfb hn 1
   have d2 := qcb hn 2
   have f2 := qfb hn 2
   clear hn
   have HS := qh (hTs3.out.store (g := gx + 1) (t := 30) (cs := [.slice none 0 0, .slice none 0 0, .bool false]) (List.mem_cons_of_mem _ (List.mem_cons_of_mem _ (List.mem_cons_self ..))) [.slice (some ⟨ga, 0, none⟩) n n, .slice (some ⟨gm, 0, none⟩) nv nv, .bool false] rfl)
   go_simp
   clear d0 d1 d2 f0 f1 f2
   refine hK.out _ (setAll Xs4 (gx + 1) 0 [.slice (some ⟨ga, 0, none⟩) n n, .slice (some ⟨gm, 0, none⟩) nv nv, .bool false]) ((hTs3b.out).trans (setAll_since _ _ _) (fun _ h => .inl h)) (fun _ => ?_)
   obtain ⟨hset, -⟩ := HS.out.news (gx + 1, 30, [.slice (some ⟨ga, 0, none⟩) n n, .slice (some ⟨gm, 0, none⟩) nv nv, .bool false]) (upd_mem (List.mem_cons_of_mem _ (List.mem_cons_of_mem _ (List.mem_cons_self ..))))
   obtain ⟨hga, hla⟩ := HS.out.news (ga, 48, (madeCells (Value.agg #[.int .i64 0, .int .i64 0, .int .i64 0, .int .i64 0, .int .i64 0, .slice none 0 0]).cells (n * 6)).toList) (mem_upd (p := (ga, 48, (madeCells (Value.agg #[.int .i64 0, .int .i64 0, .int .i64 0, .int .i64 0, .int .i64 0, .slice none 0 0]).cells (n * 6)).toList)) (List.mem_cons_of_mem _ (List.mem_cons_self ..)) (by simpa using (Ne.symm ne_gr_ga.out)))
   obtain ⟨hgm, hlm⟩ := HS.out.news (gm, 3, (madeCells (Value.int .i64 0).cells (nv * 1)).toList) (mem_upd (p := (gm, 3, (madeCells (Value.int .i64 0).cells (nv * 1)).toList)) (List.mem_cons_self ..) (by simpa using (Ne.symm ne_gr_gm.out)))
   have HEND := qh (pstart_of (w := w) HS.out.below hga hgm hla hlm hn4 hnv4 hset)
   have HSET := qh hset
   clear hga hgm hla hlm hset HS
   generalize setAll Xs4 (gx + 1) 0 _ = Xs5 at HEND HSET ⊢
   clear hK K
   refine wpAnyH_done (by kernel_rfl) ?_ _
   refine NoPanic.normal ?_
   go_wp2_with fail
   (try simp only [Exit.inBlock, Exit.then])
   refine bodyPost_ret (results_cell rfl _ _ (gx + 1) 30 _ (0, 0) _ rfl HSET.out Tryz.underlying30 rfl state_size) rfl ?_
   have hr : R = ⟨List.replicate n default, List.replicate nv 0, false⟩ := HRR.out
   rw [hr]
   exact HEND.out
  ·skip
   refine step_make_ V1 (by rfl) (.tmp 12) (.tmp 12) 28 rfl 3 (.int .i64 0) 1 8 Tryz.underlying28 int_info nv (by rfl) (by rfl) (by unfold maxLen; omega) (by omega) ?_
   have ne_gr_gm : (gx + 1) ≠ V1.heap.size := hT0.out.ne_new (List.mem_cons_self ..)
   have hTs6 := hT0.out.alloc 3 (madeCells (Value.int .i64 0).cells (nv * 1)).toList
   have hTs6b := (hT0b.out).alloc (.cells (madeCells (Value.int .i64 0).cells (nv * 1)).toList.toArray 3)
   refine hK.out _ _ hTs6b (fun _ => ?_)
   change wpAnyH _ _ _ _ _ _ _ (Act.put _ (some 13) _) _
   simp only [Act.put, qz1]
   try simp only [qz2, qz3]
   obtain ⟨gm, hgm⟩ : ∃ n, n = V1.heap.size := ⟨_, rfl⟩
   rw [← hgm] at hTs6 ne_gr_gm ⊢
   clear hgm
   replace ne_gr_gm := qh ne_gr_gm
   generalize World.alloc V1 _ = Xs7 at hTs6 hTs6b ⊢
   replace hTs6 := qh hTs6
   replace hTs6b := qh hTs6b
   clear hK K
   refine qrH 3 rfl (fun K hK => ?_)
   refine step_make_ Xs7 (by rfl) (.tmp 9) (.tmp 9) 27 rfl 48 (.agg #[.int .i64 0, .int .i64 0, .int .i64 0, .int .i64 0, .int .i64 0, .slice none 0 0]) 6 64 Tryz.underlying27 thread_info n (by rfl) (by rfl) (by unfold maxLen; omega) (by omega) ?_
   have ne_gr_ga : (gx + 1) ≠ Xs7.heap.size := hTs6.out.ne_new (List.mem_cons_of_mem _ (List.mem_cons_self ..))
   have ne_gm_ga : gm ≠ Xs7.heap.size := hTs6.out.ne_new (List.mem_cons_self ..)
   have hTs8 := hTs6.out.alloc 48 (madeCells (Value.agg #[.int .i64 0, .int .i64 0, .int .i64 0, .int .i64 0, .int .i64 0, .slice none 0 0]).cells (n * 6)).toList
   have hTs8b := (hTs6b.out).alloc (.cells (madeCells (Value.agg #[.int .i64 0, .int .i64 0, .int .i64 0, .int .i64 0, .int .i64 0, .slice none 0 0]).cells (n * 6)).toList.toArray 48)
   refine hK.out _ _ hTs8b (fun _ => ?_)
   change wpAnyH _ _ _ _ _ _ _ (Act.put _ (some 10) _) _
   simp only [Act.put, qz1]
   try simp only [qz2, qz3]
   obtain ⟨ga, hga⟩ : ∃ n, n = Xs7.heap.size := ⟨_, rfl⟩
   rw [← hga] at hTs8 ne_gr_ga ne_gm_ga ⊢
   clear hga
   replace ne_gr_ga := qh ne_gr_ga
   replace ne_gm_ga := qh ne_gm_ga
   generalize World.alloc Xs7 _ = Xs9 at hTs8 hTs8b ⊢
   replace hTs8 := qh hTs8
   replace hTs8b := qh hTs8b
   clear hK K
   refine qtk 7 14 ?vs7 rfl ?hys7 (hTs8b.out) ?_
   case hys7 => (intro _ _; go_simp <;> rfl)
   simp only [Act.put, qz1, qz2, qz3]
   refine qrH 8 rfl (fun K hK => ?_)
   obtain ⟨hn, -⟩ := hTs8.out.news (gx + 1, 30, [.slice none 0 0, .slice none 0 0, .bool false]) (List.mem_cons_of_mem _ (List.mem_cons_of_mem _ (List.mem_cons_self ..)))
   have d0 := qcb hn 0
   have f0 := qfb hn 0
   have d1 := qcb hn 1
   have f1 := qfb hn 1
   have d2 := qcb hn 2
   have f2 := qfb hn 2
   clear hn
   have HS := qh (hTs8.out.store (g := gx + 1) (t := 30) (cs := [.slice none 0 0, .slice none 0 0, .bool false]) (List.mem_cons_of_mem _ (List.mem_cons_of_mem _ (List.mem_cons_self ..))) [.slice (some ⟨ga, 0, none⟩) n n, .slice (some ⟨gm, 0, none⟩) nv nv, .bool false] rfl)
   go_simp
   clear d0 d1 d2 f0 f1 f2
   refine hK.out _ (setAll Xs9 (gx + 1) 0 [.slice (some ⟨ga, 0, none⟩) n n, .slice (some ⟨gm, 0, none⟩) nv nv, .bool false]) ((hTs8b.out).trans (setAll_since _ _ _) (fun _ h => .inl h)) (fun _ => ?_)
   obtain ⟨hset, -⟩ := HS.out.news (gx + 1, 30, [.slice (some ⟨ga, 0, none⟩) n n, .slice (some ⟨gm, 0, none⟩) nv nv, .bool false]) (upd_mem (List.mem_cons_of_mem _ (List.mem_cons_of_mem _ (List.mem_cons_self ..))))
   obtain ⟨hga, hla⟩ := HS.out.news (ga, 48, (madeCells (Value.agg #[.int .i64 0, .int .i64 0, .int .i64 0, .int .i64 0, .int .i64 0, .slice none 0 0]).cells (n * 6)).toList) (mem_upd (p := (ga, 48, (madeCells (Value.agg #[.int .i64 0, .int .i64 0, .int .i64 0, .int .i64 0, .int .i64 0, .slice none 0 0]).cells (n * 6)).toList)) (List.mem_cons_self ..) (by simpa using (Ne.symm ne_gr_ga.out)))
   obtain ⟨hgm, hlm⟩ := HS.out.news (gm, 3, (madeCells (Value.int .i64 0).cells (nv * 1)).toList) (mem_upd (p := (gm, 3, (madeCells (Value.int .i64 0).cells (nv * 1)).toList)) (List.mem_cons_of_mem _ (List.mem_cons_self ..)) (by simpa using (Ne.symm ne_gr_gm.out)))
   have HEND := qh (pstart_of (w := w) HS.out.below hga hgm hla hlm hn4 hnv4 hset)
   have HSET := qh hset
   clear hga hgm hla hlm hset HS
   generalize setAll Xs9 (gx + 1) 0 _ = Xs10 at HEND HSET ⊢
   clear hK K
   refine wpAnyH_done (by kernel_rfl) ?_ _
   refine NoPanic.normal ?_
   go_wp2_with fail
   (try simp only [Exit.inBlock, Exit.then])
   refine bodyPost_ret (results_cell rfl _ _ (gx + 1) 30 _ (0, 0) _ rfl HSET.out Tryz.underlying30 rfl state_size) rfl ?_
   have hr : R = ⟨List.replicate n default, List.replicate nv 0, false⟩ := HRR.out
   rw [hr]
   exact HEND.out
end Go.Proofs.YtliajkheeniljaaGreatDoor
