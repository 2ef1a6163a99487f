/- A graph by numbers: the walk. -/
import Derived.Test.YtoojalcfojflhaaChainL
namespace Go.Proofs.Ytoojalcfojflhaa
open Go.RowKit

/-- What a made graph is. -/
structure MadeG (g : GraphD) : Prop where
  pos : 1 ≤ g.edges.length
  few : g.edges.length ≤ 7
  marks : 0 ≤ g.marks ∧ g.marks ≤ 3
  ends : ∀ j, ∀ e ∈ g.edges.getD j [], 0 ≤ e.to ∧ e.to < (g.edges.length : Int) ∧ 0 ≤ e.marks ∧ e.marks ≤ 15
  short : ∀ j, (g.edges.getD j []).length ≤ 20
  initial : ∀ x ∈ g.initial, 0 ≤ x ∧ x < (g.edges.length : Int)
  inits : g.initial.length ≤ 7
theorem MadeG.right {g : GraphD} (h : MadeG g) : g.right = true := by
  unfold GraphD.right GraphD.node
  have h1 : g.edges.all (fun l => l.all (fun e => decide (0 ≤ e.to ∧ e.to < (g.edges.length : Int)))) = true := by
    rw [List.all_eq_true]
    intro l hl
    obtain ⟨j, hj, rfl⟩ := List.getElem_of_mem hl
    rw [List.all_eq_true]
    intro e he
    have := h.ends j e (by rw [List.getD_eq_getElem?_getD, List.getElem?_eq_getElem hj]; exact he)
    simp; omega
  have h2 : g.initial.all (fun i => decide (0 ≤ i ∧ i < (g.edges.length : Int))) = true := by
    rw [List.all_eq_true]
    intro x hx
    simpa using h.initial x hx
  have h3 := h.few
  have h4 := h.marks
  rw [h1, h2]
  simp; omega
theorem MadeG.fits {g : GraphD} (h : MadeG g) : g.fits := by
  intro a k hk
  unfold GraphD.has at hk
  have := h.ends a ((g.edges.getD a []).getD k default) (by rw [List.getD_eq_getElem?_getD (l := g.edges.getD a []), List.getElem?_eq_getElem hk]; exact List.getElem_mem hk)
  unfold GraphD.markOf
  omega
theorem graph_size : (Try.prog.info? 25).map (·.size) = some 3 := by kernel_rfl
def edgesIn (n : Nat) (l : List EdgeD) : Prop := ∀ e ∈ l, 0 ≤ e.to ∧ e.to < (n : Int) ∧ 0 ≤ e.marks ∧ e.marks ≤ 15
set_option maxRecDepth 100000 in
set_option maxHeartbeats 4000000 in
theorem madeL_any (w : World) (sv : Value) (l : List Int) (hl : NumsAt w .u16 sv l) (many marks init : Int) (w1 : (Lit.int .u8 many).wf = true) (w2 : (Lit.int .u8 marks).wf = true) (w3 : (Lit.int .u8 init).wf = true) :
    Calls Try.prog 12 #[sv, .int .u8 many, .int .u8 marks, .int .u8 init] w fun e w' => ∃ g ev iv, e = .returned (graphV g ev iv) ∧ GraphAt w' g ev iv ∧ MadeG g ∧ Below w.heap.size w w' := by
  obtain ⟨sa, sc, rfl, hsl⟩ := hl.slice
  have h1 : 0 ≤ many ∧ many ≤ 255 := by
    simp [Lit.wf, IntKind.min, IntKind.max, IntKind.signed, IntKind.bits] at w1
    omega
  have h2 : 0 ≤ marks ∧ marks ≤ 255 := by
    simp [Lit.wf, IntKind.min, IntKind.max, IntKind.signed, IntKind.bits] at w2
    omega
  have h3 : 0 ≤ init ∧ init ≤ 255 := by
    simp [Lit.wf, IntKind.min, IntKind.max, IntKind.signed, IntKind.bits] at w3
    omega
  obtain ⟨many, rfl⟩ : ∃ x : Nat, many = (x : Int) := ⟨many.toNat, by omega⟩
  obtain ⟨marks, rfl⟩ : ∃ x : Nat, marks = (x : Int) := ⟨marks.toNat, by omega⟩
  obtain ⟨init, rfl⟩ : ∃ x : Nat, init = (x : Int) := ⟨init.toNat, by omega⟩
  obtain ⟨ln, hln⟩ : ∃ ln, ln = l.length := ⟨_, rfl⟩
  rw [← hln] at hl hsl ⊢
  have HL := Lib.hid hl
  have HLN := Lib.hid hln
  have HA := Lib.hid ((Below.refl w.heap.size w).alloc (Nat.le_refl _) (.cells #[.slice none 0 0, .slice none 0 0, .int .i64 0] 25))
  have HRB := Lib.hid (heap_alloc_new w (.cells #[.slice none 0 0, .slice none 0 0, .int .i64 0] 25))
  clear hl hln w1 w2 w3
  go_enter Try.func12, Try.ntmps12
  go_upto_region 1 with fail
  generalize World.alloc w _ = W at HA HRB ⊢
  obtain ⟨rb, hrb⟩ : ∃ rb, rb = w.heap.size := ⟨_, rfl⟩
  rw [← hrb] at HRB ⊢
  have HRW := Lib.hid hrb
  clear hrb
  go_upto_region 2 with fail
  obtain ⟨n, hn⟩ : ∃ n : Nat, n = 1 + many % 7 := ⟨_, rfl⟩
  have hnI : (1 + (many : Int) % 7) = (n : Int) := by omega
  rw [hnI]
  have hn1 : 1 ≤ n := by omega
  have hn2 : n ≤ 7 := by omega
  clear hn hnI
  obtain ⟨mk, hmk⟩ : ∃ mk : Nat, mk = marks % 4 := ⟨_, rfl⟩
  have hmkI : (marks : Int) % 4 = (mk : Int) := by omega
  have hmk3 : mk ≤ 3 := by omega
  clear hmk
  obtain ⟨i0, hi, hz0, hz1, hz2⟩ := info_parts slice_info
  have hb2 : i0.bytes * n ≤ 281474976710656 := by rw [hz2]; omega
  clear hz2
  go_wp2_with (at_make; refine wpList_make_full _ rfl _ _ 22 rfl W.heap.size 29 i0 (.slice none 0 0) 1 Try.underlying22 hi hz0 hz1 .i64 .i64 _ _ n rfl rfl rfl rfl hb2 (by unfold maxLen; omega) (Nat.le_refl _) ?_; intro w4 ho hg; have HO := Lib.hid (made_slices ho); have HB2 : Hid (Below W.heap.size W w4) := ((Since.refl (fun _ => False) W).grown hg (by simp)).below (Nat.le_refl _) (fun k h => h.elim); clear ho hg)
  clear hi hz0 hz1 hb2 hmkI
  obtain ⟨eb, heb⟩ : ∃ eb, eb = W.heap.size := ⟨_, rfl⟩
  rw [← heb] at HO ⊢
  have hx := (Below.refl w4.heap.size w4).alloc (Nat.le_refl _) (.cells #[.slice (some ⟨eb, 0, none⟩) n n, .slice none 0 0, .int .i64 (mk : Int)] 25)
  have HGX := Lib.hid (heap_alloc_new w4 (.cells #[.slice (some ⟨eb, 0, none⟩) n n, .slice none 0 0, .int .i64 (mk : Int)] 25))
  have HR0 := Lib.hid (show RowsAt w4 W.heap.size eb n (fun _ => .slice none 0 0) (fun _ => []) from ⟨HO.out, fun j hj => World.ownsRow_nil _ _ _ _, fun j hj y hy => by simp [Value.ownBlock] at hy, fun j k hj hk hjk y hy => by simp [Value.ownBlock] at hy, HB2.out.size⟩)
  have HR1 := Lib.hid (HR0.out.below hx)
  have HW3 := Lib.hid (below_then HB2.out hx)
  have HEB : Hid (W.heap.size ≤ eb ∧ eb < w4.heap.size) := ⟨by rw [heb]; exact Nat.le_refl _, lt_of_block HO.out⟩
  obtain ⟨gx, hgx⟩ : ∃ gx, gx = w4.heap.size := ⟨_, rfl⟩
  rw [← hgx] at HGX HEB ⊢
  clear heb hx hgx HO HR0 HB2
  generalize World.alloc w4 _ = W3 at HGX HR1 HW3 ⊢
  go_loopg [11] 20 (fun gg s11 wr => ∃ (i : Nat) (cs : Nat → Value) (f : Nat → List EdgeD), i ≤ 20 ∧ i ≤ ln ∧ Hid (gg = 20 - i) ∧ s11 = .int .i64 i ∧ Hid (RowsAt wr W.heap.size eb n cs f) ∧ Hid (∀ j, edgesIn n (f j) ∧ (f j).length ≤ i) ∧ Hid (wr.heap[gx]? = some (.cells #[.slice (some ⟨eb, 0, none⟩) n n, .slice none 0 0, .int .i64 (mk : Int)] 25 (0, 0))) ∧ Hid (∀ j, j < n → ∀ y, (cs j).ownBlock = some y → y ≠ gx) ∧ Hid (Below W.heap.size W wr))
  case atStart => exact ⟨0, _, _, by omega, Nat.zero_le _, rfl, rfl, HR1.out, fun j => ⟨fun e he => by simp at he, by simp⟩, HGX.out, fun j hj y hy => by simp [Value.ownBlock] at hy, HW3.out⟩
  case round =>
    obtain ⟨i, cs, f, hi20, hil, HG, rfl, HR, HF, HGB, HNG, HBX⟩ := hrel
    by_cases hlt : i < ln
    · by_cases hlt2 : i < 20
      · as_aux_lemma =>
          have hltI : (i : Int) < (ln : Int) := by omega
          have hlt2I : (i : Int) < 20 := by omega
          have hd1 : decide ((i : Int) < (ln : Int)) = true := by simp; omega
          have hd2 : decide (i < ln) = true := by simp; omega
          have hd3 : decide ((i : Int) < 20) = true := by simp; omega
          obtain ⟨-, xb, xo, rfl, hxb, hxc, hxw⟩ := HL.out.part i (by rw [← HLN.out]; exact hlt)
          obtain ⟨xv, hxv⟩ : ∃ xv, xv = l.getD i 0 := ⟨_, rfl⟩
          rw [← hxv] at hxc hxw
          clear hxv
          have hx0 : 0 ≤ xv ∧ xv ≤ 65535 := by
            simp [Lit.wf, IntKind.min, IntKind.max, IntKind.signed, IntKind.bits] at hxw
            omega
          obtain ⟨x, hx⟩ : ∃ x : Nat, xv = (x : Int) := ⟨xv.toNat, by omega⟩
          rw [hx] at hxc hx0
          replace hxc := cells_kept HBX.out _ _ (cells_kept HA.out _ _ hxc)
          have hxm : x ≤ 65535 := by omega
          obtain ⟨r, hr⟩ : ∃ r, r = x % n := ⟨_, rfl⟩
          obtain ⟨q1, hq1⟩ : ∃ q1, q1 = x / n := ⟨_, rfl⟩
          obtain ⟨t, ht⟩ : ∃ t, t = q1 % n := ⟨_, rfl⟩
          obtain ⟨q2, hq2⟩ : ∃ q2, q2 = x / 64 := ⟨_, rfl⟩
          obtain ⟨k, hk⟩ : ∃ k, k = q2 % 16 := ⟨_, rfl⟩
          have hrn : r < n := by rw [hr]; exact Nat.mod_lt _ (by omega)
          have htn : t < n := by rw [ht]; exact Nat.mod_lt _ (by omega)
          have hk15 : k ≤ 15 := by omega
          have m1 : (x : Int) % (n : Int) = (r : Int) := by rw [hr]; simp
          have m2 : (x : Int) / (n : Int) = (q1 : Int) := by rw [hq1]; simp
          have m3 : (q1 : Int) % (n : Int) = (t : Int) := by rw [ht]; simp
          have m4 : (x : Int) / 64 = (q2 : Int) := by omega
          have m5 : (q2 : Int) % 16 = (k : Int) := by omega
          have hrI : (r : Int) < (n : Int) := by omega
          have hnz : ¬ n = 0 := by omega
          have hq1b : q1 ≤ 65535 := by rw [hq1]; exact Nat.le_trans (Nat.div_le_self _ _) hxm
          have hq2b : q2 ≤ 65535 := by omega
          have m11 : IntKind.i64.wrap (q1 : Int) = (q1 : Int) := IntWalk.i64_in _ (by omega)
          have m12 : IntKind.i64.wrap (q2 : Int) = (q2 : Int) := IntWalk.i64_in _ (by omega)
          have m6 : (x : Int).tmod (n : Int) = (r : Int) := by rw [Int.tmod_eq_emod_of_nonneg (by omega)]; exact m1
          have m7 : (x : Int).tdiv (n : Int) = (q1 : Int) := by rw [Int.tdiv_eq_ediv_of_nonneg (by omega)]; exact m2
          have m8 : (q1 : Int).tmod (n : Int) = (t : Int) := by rw [Int.tmod_eq_emod_of_nonneg (by omega)]; exact m3
          have m9 : (x : Int).tdiv 64 = (q2 : Int) := by rw [Int.tdiv_eq_ediv_of_nonneg (by omega)]; exact m4
          have m10 : (q2 : Int).tmod 16 = (k : Int) := by rw [Int.tmod_eq_emod_of_nonneg (by omega)]; exact m5
          clear hr hq1 ht hq2 hk hx hx0 hxw hxb
          go_upto_region 7 with fail
          obtain ⟨ra, rc, hcs, hra1, hra2⟩ := row_slice (HR.out.row r hrn)
          unfold maxLen at hra2
          have hfl : (f r).length ≤ 20 := Nat.le_trans (HF.out r).2 hi20
          obtain ⟨fl, hflv⟩ : ∃ fl, fl = (f r).length := ⟨_, rfl⟩
          have hrow := HR.out.row r hrn
          rw [← hflv] at hcs hra1 hrow hfl
          have hcell := HR.out.cell hrn
          rw [hcs] at hcell hrow
          have hown : ∀ y, (Value.slice ra fl rc).ownBlock = some y → y ≠ eb ∧ y ≠ gx := fun y hy => ⟨HR.out.ne r hrn y (by rw [hcs]; exact hy), HNG.out r hrn y (by rw [hcs]; exact hy)⟩
          have hg0 := cell_of_block HGB.out 0
          simp only [List.getElem?_toArray, List.getElem?_cons_zero] at hg0
          have hcc : ∀ x', Since (fun y => (Value.slice ra fl rc).ownBlock = some y) wr x' → x'.cell? ⟨gx, 0, none⟩ = some (.slice (some ⟨eb, 0, none⟩) n n) ∧ x'.cell? ⟨eb, r, none⟩ = some (.slice ra fl rc) ∧ x'.frozen? ⟨eb, r, none⟩ = false ∧ True ∧ True ∧ True := fun x' hx' =>
            ⟨(hx'.cell (p := ⟨gx, 0, none⟩) (lt_of_block HGB.out) (fun e => (hown gx e).2 rfl)).trans hg0, (hx'.cell (p := ⟨eb, r, none⟩) (lt_of_block HR.out.block) (fun e => (hown eb e).1 rfl)).trans hcell, (hx'.frozen (p := ⟨eb, r, none⟩) (lt_of_block HR.out.block) (fun e => (hown eb e).1 rfl)).trans (free_of_block HR.out.block r), trivial, trivial, trivial⟩
          have CC := Lib.hid hcc
          have HCS := Lib.hid hcs
          have HFLV := Lib.hid hflv
          have HOWN := Lib.hid hown
          have hsize : W.heap.size ≤ wr.heap.size := HBX.out.size
          clear hcc hcs hflv hown hcell hg0 hxc
          have hS0 : Since (fun y => (Value.slice ra fl rc).ownBlock = some y) wr wr.drew := (Since.refl _ _).drew
          have hrow0 : wr.drew.ownsRow W.heap.size 37 2 (.slice ra fl rc) fl (edgesV (f r)) := (Since.refl (fun _ => False) wr).drew.row hrow (fun _ _ h => h)
          obtain ⟨V1, hV1⟩ : ∃ V1, V1 = wr.drew := ⟨_, rfl⟩
          rw [← hV1] at hS0 hrow0
          have hT0 := Lib.hid hS0
          have HROW0 := Lib.hid hrow0
          have hz1 : wr.heap.size = V1.heap.size := by rw [hV1]; rfl
          have HZ1 := Lib.hid hz1
          clear hS0 hrow hrow0 hz1
          refine wp_region_noPanic ?_
          refine wp_region_tail (n0 := 24) (S := fun x' => Since (fun y => (Value.slice ra fl rc).ownBlock = some y) wr x') (by kernel_rfl) (by rw [← hV1]; exact hT0.out) (fun _ => ?_)
          rw [← hV1]
          clear hV1
          refine wpAnyT_free (i := 0) (v := ?v1) rfl (by kernel_rfl) (by kernel_rfl) (by kernel_rfl) (by decide) (fun _ _ _ h => h) (Or.inl ⟨by rfl, ?hy1⟩) (fun _ => hT0.out) ?_
          case hy1 => (intro x' _; go_simp; try with_reducible rfl)
          change wpAnyT _ _ _ _ _ _ _ _ (Act.put _ (some 39) _) _
          simp only [Act.put, List.setIfInBounds_toArray, List.set_cons_zero, List.set_cons_succ]
          refine wpAnyT_take [23, 24] (i := 1) (v := ?v2) rfl (by kernel_rfl) (by kernel_rfl) (by kernel_rfl) (by decide) (by kernel_rfl) (by kernel_rfl) (by rfl) (by rfl) (fun _ _ _ h => h) (Or.inl ⟨by rfl, ?hy2⟩) (hT0.out) ?_
          case hy2 => (intro x' hxx; obtain ⟨e0, e1, e2, e3, e4, e5⟩ := CC.out x' hxx; go_simp; try with_reducible rfl)
          change wpAnyT _ _ _ _ _ _ _ _ (Act.put _ (some 40) _) _
          simp only [Act.put, List.setIfInBounds_toArray, List.set_cons_zero, List.set_cons_succ]
          refine wpAnyT_free (i := 2) (v := ?v3) rfl (by kernel_rfl) (by kernel_rfl) (by kernel_rfl) (by decide) (fun _ _ _ h => h) (Or.inl ⟨by rfl, ?hy3⟩) (fun _ => hT0.out) ?_
          case hy3 => (intro x' _; go_simp; try with_reducible rfl)
          change wpAnyT _ _ _ _ _ _ _ _ (Act.put _ (some 41) _) _
          simp only [Act.put, List.setIfInBounds_toArray, List.set_cons_zero, List.set_cons_succ]
          refine wpAnyT_free (i := 3) (v := ?v4) rfl (by kernel_rfl) (by kernel_rfl) (by kernel_rfl) (by decide) (fun _ _ _ h => h) (Or.inl ⟨by rfl, ?hy4⟩) (fun _ => hT0.out) ?_
          case hy4 => (intro x' _; go_simp; try with_reducible rfl)
          change wpAnyT _ _ _ _ _ _ _ _ (Act.put _ (some 42) _) _
          simp only [Act.put, List.setIfInBounds_toArray, List.set_cons_zero, List.set_cons_succ]
          refine wpAnyT_free (i := 4) (v := ?v5) rfl (by kernel_rfl) (by kernel_rfl) (by kernel_rfl) (by decide) (fun _ _ _ h => h) (Or.inl ⟨by rfl, ?hy5⟩) (fun _ => hT0.out) ?_
          case hy5 => (intro x' _; go_simp; try with_reducible rfl)
          change wpAnyT _ _ _ _ _ _ _ _ (Act.put _ (some 43) _) _
          simp only [Act.put, List.setIfInBounds_toArray, List.set_cons_zero, List.set_cons_succ]
          refine wpAnyT_free (i := 5) (v := ?v6) rfl (by kernel_rfl) (by kernel_rfl) (by kernel_rfl) (by decide) (fun _ _ _ h => h) (Or.inl ⟨by rfl, ?hy6⟩) (fun _ => hT0.out) ?_
          case hy6 => (intro x' _; go_simp; try with_reducible rfl)
          change wpAnyT _ _ _ _ _ _ _ _ (Act.put _ (some 44) _) _
          simp only [Act.put, List.setIfInBounds_toArray, List.set_cons_zero, List.set_cons_succ]
          refine wpAnyT_take [10, 11, 22, 23, 24] (i := 6) (v := ?v7) rfl (by kernel_rfl) (by kernel_rfl) (by kernel_rfl) (by decide) (by kernel_rfl) (by kernel_rfl) (by rfl) (by rfl) (fun _ _ _ h => h) (Or.inl ⟨by rfl, ?hy7⟩) (hT0.out) ?_
          case hy7 => (intro x' hxx; obtain ⟨e0, e1, e2, e3, e4, e5⟩ := CC.out x' hxx; go_simp; try with_reducible rfl)
          change wpAnyT _ _ _ _ _ _ _ _ (Act.put _ (some 45) _) _
          simp only [Act.put, List.setIfInBounds_toArray, List.set_cons_zero, List.set_cons_succ]
          refine wpAnyT_free (i := 7) (v := ?v8) rfl (by kernel_rfl) (by kernel_rfl) (by kernel_rfl) (by decide) (fun _ _ _ h => h) (Or.inl ⟨by rfl, ?hy8⟩) (fun _ => hT0.out) ?_
          case hy8 => (intro x' _; go_simp; try with_reducible rfl)
          change wpAnyT _ _ _ _ _ _ _ _ (Act.put _ (some 46) _) _
          simp only [Act.put, List.setIfInBounds_toArray, List.set_cons_zero, List.set_cons_succ]
          refine wpAnyT_free (i := 8) (v := ?v9) rfl (by kernel_rfl) (by kernel_rfl) (by kernel_rfl) (by decide) (fun _ _ _ h => h) (Or.inl ⟨by rfl, ?hy9⟩) (fun _ => hT0.out) ?_
          case hy9 => (intro x' _; go_simp; try with_reducible rfl)
          change wpAnyT _ _ _ _ _ _ _ _ (Act.put _ (some 47) _) _
          simp only [Act.put, List.setIfInBounds_toArray, List.set_cons_zero, List.set_cons_succ]
          refine wpAnyT_free (i := 9) (v := ?v10) rfl (by kernel_rfl) (by kernel_rfl) (by kernel_rfl) (by decide) (fun _ _ _ h => h) (Or.inl ⟨by rfl, ?hy10⟩) (fun _ => hT0.out) ?_
          case hy10 => (intro x' _; go_simp; try with_reducible rfl)
          change wpAnyT _ _ _ _ _ _ _ _ (Act.put _ (some 48) _) _
          simp only [Act.put, List.setIfInBounds_toArray, List.set_cons_zero, List.set_cons_succ]
          refine wpAnyT_free (i := 10) (v := ?v11) rfl (by kernel_rfl) (by kernel_rfl) (by kernel_rfl) (by decide) (fun _ _ _ h => h) (Or.inl ⟨by rfl, ?hy11⟩) (fun _ => hT0.out) ?_
          case hy11 => (intro x' _; go_simp; try with_reducible rfl)
          change wpAnyT _ _ _ _ _ _ _ _ (Act.put _ (some 49) _) _
          simp only [Act.put, List.setIfInBounds_toArray, List.set_cons_zero, List.set_cons_succ]
          refine wpAnyT_take [22, 23, 24] (i := 11) (v := ?v12) rfl (by kernel_rfl) (by kernel_rfl) (by kernel_rfl) (by decide) (by kernel_rfl) (by kernel_rfl) (by rfl) (by rfl) (fun _ _ _ h => h) (Or.inl ⟨by rfl, ?hy12⟩) (hT0.out) ?_
          case hy12 => (intro x' hxx; obtain ⟨e0, e1, e2, e3, e4, e5⟩ := CC.out x' hxx; go_simp; try with_reducible rfl)
          change wpAnyT _ _ _ _ _ _ _ _ (Act.put _ (some 50) _) _
          simp only [Act.put, List.setIfInBounds_toArray, List.set_cons_zero, List.set_cons_succ]
          refine wpAnyT_free (i := 12) (v := ?v13) rfl (by kernel_rfl) (by kernel_rfl) (by kernel_rfl) (by decide) (fun _ _ _ h => h) (Or.inl ⟨by rfl, ?hy13⟩) (fun _ => hT0.out) ?_
          case hy13 => (intro x' _; go_simp; try with_reducible rfl)
          change wpAnyT _ _ _ _ _ _ _ _ (Act.put _ (some 51) _) _
          simp only [Act.put, List.setIfInBounds_toArray, List.set_cons_zero, List.set_cons_succ]
          refine wpAnyT_free (i := 13) (v := ?v14) rfl (by kernel_rfl) (by kernel_rfl) (by kernel_rfl) (by decide) (fun _ _ _ h => h) (Or.inl ⟨by rfl, ?hy14⟩) (fun _ => hT0.out) ?_
          case hy14 => (intro x' _; go_simp; try with_reducible rfl)
          change wpAnyT _ _ _ _ _ _ _ _ (Act.put _ (some 52) _) _
          simp only [Act.put, List.setIfInBounds_toArray, List.set_cons_zero, List.set_cons_succ]
          refine wpAnyT_free (i := 14) (v := ?v15) rfl (by kernel_rfl) (by kernel_rfl) (by kernel_rfl) (by decide) (fun _ _ _ h => h) (Or.inl ⟨by rfl, ?hy15⟩) (fun _ => hT0.out) ?_
          case hy15 => (intro x' _; go_simp; try with_reducible rfl)
          change wpAnyT _ _ _ _ _ _ _ _ (Act.put _ (some 53) _) _
          simp only [Act.put, List.setIfInBounds_toArray, List.set_cons_zero, List.set_cons_succ]
          refine wpAnyT_free (i := 15) (v := ?v16) rfl (by kernel_rfl) (by kernel_rfl) (by kernel_rfl) (by decide) (fun _ _ _ h => h) (Or.inl ⟨by rfl, ?hy16⟩) (fun _ => hT0.out) ?_
          case hy16 => (intro x' _; go_simp; try with_reducible rfl)
          change wpAnyT _ _ _ _ _ _ _ _ (Act.put _ (some 54) _) _
          simp only [Act.put, List.setIfInBounds_toArray, List.set_cons_zero, List.set_cons_succ]
          refine wpAnyT_free (i := 16) (v := ?v17) rfl (by kernel_rfl) (by kernel_rfl) (by kernel_rfl) (by decide) (fun _ _ _ h => h) (Or.inl ⟨by rfl, ?hy17⟩) (fun _ => hT0.out) ?_
          case hy17 => (intro x' _; go_simp; try with_reducible rfl)
          change wpAnyT _ _ _ _ _ _ _ _ (Act.put _ (some 55) _) _
          simp only [Act.put, List.setIfInBounds_toArray, List.set_cons_zero, List.set_cons_succ]
          refine wpAnyT_free (i := 17) (v := ?v18) rfl (by kernel_rfl) (by kernel_rfl) (by kernel_rfl) (by decide) (fun _ _ _ h => h) (Or.inl ⟨by rfl, ?hy18⟩) (fun _ => hT0.out) ?_
          case hy18 => (intro x' _; go_simp; try with_reducible rfl)
          change wpAnyT _ _ _ _ _ _ _ _ (Act.put _ (some 56) _) _
          simp only [Act.put, List.setIfInBounds_toArray, List.set_cons_zero, List.set_cons_succ]
          refine wpAnyT_free (i := 18) (v := ?v19) rfl (by kernel_rfl) (by kernel_rfl) (by kernel_rfl) (by decide) (fun _ _ _ h => h) (Or.inl ⟨by rfl, ?hy19⟩) (fun _ => hT0.out) ?_
          case hy19 => (intro x' _; go_simp; try with_reducible rfl)
          change wpAnyT _ _ _ _ _ _ _ _ (Act.put _ (some 57) _) _
          simp only [Act.put, List.setIfInBounds_toArray, List.set_cons_zero, List.set_cons_succ]
          refine wpAnyT_free (i := 19) (v := ?v20) rfl (by kernel_rfl) (by kernel_rfl) (by kernel_rfl) (by decide) (fun _ _ _ h => h) (Or.inl ⟨by rfl, ?hy20⟩) (fun _ => hT0.out) ?_
          case hy20 => (intro x' _; go_simp; try with_reducible rfl)
          change wpAnyT _ _ _ _ _ _ _ _ (Act.put _ (some 58) _) _
          simp only [Act.put, List.setIfInBounds_toArray, List.set_cons_zero, List.set_cons_succ]
          refine wpAnyT_free (i := 20) (v := ?v21) rfl (by kernel_rfl) (by kernel_rfl) (by kernel_rfl) (by decide) (fun _ _ _ h => h) (Or.inl ⟨by rfl, ?hy21⟩) (fun _ => hT0.out) ?_
          case hy21 => (intro x' _; go_simp; try with_reducible rfl)
          change wpAnyT _ _ _ _ _ _ _ _ (Act.put _ (some 59) _) _
          simp only [Act.put, List.setIfInBounds_toArray, List.set_cons_zero, List.set_cons_succ]
          refine wpAnyT_ready (rs := [21]) (by kernel_rfl) (by simp) ?_
          refine AllT.cons rfl (fun K hK => ?_) AllT.nil
          go_simp
          have hT1 := Since.alloc hT0.out (.cells #[.int .i64 (t : Int), .int .i64 (k : Int)] 37)
          refine hK.out _ _ (fun _ _ => hT1) ?_
          have HROW1 := Lib.hid (HROW0.out.alloc (.cells #[.int .i64 (t : Int), .int .i64 (k : Int)] 37))
          have HNEW := Lib.hid (two_new V1 (.int .i64 (t : Int)) (.int .i64 (k : Int)) 37)
          have HSZ : Hid (W.heap.size ≤ (V1.alloc (.cells #[.int .i64 (t : Int), .int .i64 (k : Int)] 37)).heap.size) := by have h5 := HZ1.out; rw [Hid]; simp; omega
          have HSZ2 : Hid (wr.heap.size ≤ (V1.alloc (.cells #[.int .i64 (t : Int), .int .i64 (k : Int)] 37)).heap.size) := by have h5 := HZ1.out; rw [Hid]; simp; omega
          replace hT1 := Lib.hid hT1
          generalize World.alloc V1 _ = X1 at hT1 HROW1 HNEW HSZ HSZ2 ⊢
          obtain ⟨nb, hnb⟩ : ∃ nb, nb = V1.heap.size := ⟨_, rfl⟩
          rw [← hnb] at HNEW ⊢
          clear hnb
          clear hK K
          refine wpAnyT_ready (rs := [22]) (by kernel_rfl) (by simp) ?_
          refine AllT.cons rfl (fun K hK => ?_) AllT.nil
          refine step_append_where_ X1 (by rfl) (.tmp 50) (.tmp 60) 29 rfl 37 (.agg #[.int .i64 0, .int .i64 0]) 2 16 Try.underlying29 edge_info rfl (by decide) W.heap.size (.slice ra fl rc) fl (edgesV (f r)) (by rfl) HROW1.out ⟨nb, 0, none⟩ 1 1 [.int .i64 (t : Int), .int .i64 (k : Int)] (by rfl) rfl HNEW.out (by simp [Value.oneCell']) (by unfold maxLen; omega) (by omega) HSZ.out ?_
          intro na' nc' X2 e1 e2 e3 e4 e5
          have hT2 := Lib.hid (Since.trans hT1.out e4 (fun y hy => .inl hy))
          have HE1 := Lib.hid e1
          have HE5 : Hid (∀ y, (Value.slice na' (fl + 1) nc').ownBlock = some y → (Value.slice ra fl rc).ownBlock = some y ∨ wr.heap.size ≤ y) := fun y hy => (e5 y hy).imp id (fun e => by have h5 := HSZ2.out; omega)
          clear e1 e2 e3 e4 e5 HROW1 HNEW
          refine hK.out _ _ (fun _ _ => hT2.out) ?_
          clear hK K
          change wpAnyT _ _ _ _ _ _ _ _ (Act.put _ (some 61) _) _
          simp only [Act.put, List.setIfInBounds_toArray, List.set_cons_zero, List.set_cons_succ]
          refine wpAnyT_free (i := 23) (v := ?v22) rfl (by kernel_rfl) (by kernel_rfl) (by kernel_rfl) (by decide) (fun _ _ _ h => h) (Or.inl ⟨by rfl, ?hy22⟩) (fun _ => hT2.out) ?_
          case hy22 => (intro x' _; go_simp; try with_reducible rfl)
          change wpAnyT _ _ _ _ _ _ _ _ (Act.put _ (some 62) _) _
          simp only [Act.put, List.setIfInBounds_toArray, List.set_cons_zero, List.set_cons_succ]
          refine wpAnyT_ready (rs := [24]) (by kernel_rfl) (by simp) ?_
          refine AllT.cons rfl (fun K hK => ?_) AllT.nil
          obtain ⟨u0, u1, u2, -, -, -⟩ := CC.out X2 hT2.out
          go_simp
          refine hK.out _ _ (fun h => absurd rfl h) ?_
          clear u0 u1 u2
          have hT3 := Lib.hid hT2.out
          clear hK K
          refine wpAnyT_done (by kernel_rfl) ?_ _
          refine NoPanic.normal ?_
          have hnx := HR.out.set (i := r) hrn (w' := X2) (v := .slice na' (fl + 1) nc') (l := f r ++ [⟨(t : Int), (k : Int)⟩]) (by rw [HCS.out]; exact hT2.out) (by rw [edgesV_append, List.length_append, ← HFLV.out]; exact HE1.out) (by rw [HCS.out]; exact HE5.out)
          have hgb : (X2.setCell ⟨eb, r, none⟩ (.slice na' (fl + 1) nc')).heap[gx]? = _ := (kept_get (by have h5 := HEB.out; omega)).trans ((hT2.out.block gx (lt_of_block HGB.out) (fun e => (HOWN.out gx e).2 rfl)).trans HGB.out)
          have hbx : Below W.heap.size W (X2.setCell ⟨eb, r, none⟩ (.slice na' (fl + 1) nc')) := (HBX.out.trans (hT2.out.below HBX.out.size (fun y hy => (HROW0.out.lt y hy).1))).setCell (p := ⟨eb, r, none⟩) HEB.out.1 _
          have HNX := Lib.hid hnx
          have HGB2 := Lib.hid hgb
          have HBX2 := Lib.hid hbx
          clear hnx hgb hbx
          generalize World.setCell X2 _ _ = Z at HNX HGB2 HBX2 ⊢
          go_wp2_with fail
          go_roundg (20 - (i + 1))
          case measure => rw [HG.out]; omega
          case rel =>
            refine ⟨i + 1, _, _, by omega, by omega, rfl, by simp, HNX.out, fun j => ?_, HGB2.out, fun j hj y hy => ?_, HBX2.out⟩
            · unfold upd; split
              · refine ⟨fun e he => ?_, by have h5 := (HF.out r).2; simp; omega⟩
                rcases List.mem_append.1 he with h5 | h5
                · exact (HF.out r).1 e h5
                · simp at h5; subst h5; exact ⟨by simp, by simp; omega, by simp, by simp; omega⟩
              · exact ⟨(HF.out j).1, Nat.le_succ_of_le (HF.out j).2⟩
            · by_cases e : j = r
              · subst e; rw [upd_same] at hy
                rcases HE5.out y hy with h5 | h5
                · exact (HOWN.out y h5).2
                · have h6 := lt_of_block HGB.out; omega
              · rw [upd_other _ _ _ _ e] at hy; exact HNG.out j hj y hy
      · have hlt2I : ¬ (i : Int) < 20 := by omega
        have hltI : (i : Int) < (ln : Int) := by omega
        have hd1 : decide ((i : Int) < (ln : Int)) = true := by simp; omega
        have hd2 : decide (i < ln) = true := by simp; omega
        have hd3 : decide ((i : Int) < 20) = false := by simp; omega
        have hi20' : i = 20 := by omega
        clear hi20'
        obtain ⟨wo, rfl⟩ : ∃ wo : World, wo = wr := ⟨_, rfl⟩
        have HEBG : Hid (eb ≠ gx ∧ rb < W.heap.size) := ⟨by have h5 := HEB.out; omega, lt_of_block HRB.out⟩
        go_wp2_with fail
        go_loopg [13] n (fun gg s13 wr => ∃ (j : Nat) (ia : Option Addr) (ic : Nat) (xs : List Nat), j ≤ n ∧ Hid (gg = n - j) ∧ s13 = .int .i64 j ∧ Hid (wr.heap[gx]? = some (.cells #[.slice (some ⟨eb, 0, none⟩) n n, .slice ia xs.length ic, .int .i64 (mk : Int)] 25 (0, 0))) ∧ Hid (wr.ownsRow wo.heap.size 3 1 (.slice ia xs.length ic) xs.length (natsV xs)) ∧ Hid ((∀ x ∈ xs, x < n) ∧ xs.length ≤ j) ∧ Hid (Since (fun y => y = gx) wo wr))
        case atStart => exact ⟨0, none, 0, [], Nat.zero_le _, rfl, rfl, HGB.out, World.ownsRow_nil _ _ _ _, ⟨by simp, by simp⟩, Since.refl _ _⟩
        case round =>
          obtain ⟨j, ia, ic, xs, hj, HG2, rfl, HGY, HXR, HXS, HSI⟩ := hrel
          obtain ⟨xn, hxn⟩ : ∃ xn, xn = xs.length := ⟨_, rfl⟩
          have hxb := HXS.out.2
          have hgy := HGY.out
          have hxr := HXR.out
          rw [← hxn] at hgy hxr hxb
          have HXN := Lib.hid hxn
          have HGY2 := Lib.hid hgy
          have HXR2 := Lib.hid hxr
          have c0 := cell_of_block hgy 0
          have c1 := cell_of_block hgy 1
          have c2 := cell_of_block hgy 2
          simp only [List.getElem?_toArray, List.getElem?_cons_zero, List.getElem?_cons_succ] at c0 c1 c2
          clear hxn hgy hxr HGY HXR
          by_cases hjn : j < n
          · have hjnI : (j : Int) < (n : Int) := by omega
            have hj64 : j < 64 := by omega
            by_cases hbit : init / 2 ^ j % 2 = 1
            · have hb1 : ((init : Int) / 2 ^ j) % 2 = 1 := by
                have : ((init / 2 ^ j % 2 : Nat) : Int) = 1 := by rw [hbit]; rfl
                simpa using this
              have hb2 : ((init : Int) / 2 ^ j).tmod 2 = 1 := by rw [Int.tmod_eq_emod_of_nonneg (Int.ediv_nonneg (by omega) (by exact Int.le_of_lt (Int.pow_pos (by decide))))]; exact hb1
              clear hbit
              have hsz : wo.heap.size ≤ wr.heap.size := HSI.out.size
              go_wp2_with (at_builtin; go_must (refine wpList_append_at_ _ rfl _ _ 23 rfl 3 (.int .i64 0) 1 8 Try.underlying23 int_info rfl (by decide) wo.heap.size (.slice ia xn ic) xn (natsV xs) rfl (HXR2.out.alloc _) ⟨wr.heap.size, 0, none⟩ 1 1 [.int .i64 (j : Int)] rfl rfl (cell_one_new _ _ _) (by simp [Value.oneCell']) (by unfold maxLen; omega) (by omega) (by simp; omega) ?_); intro a' c' W5 e1 e2 e3 e4 e5 e6; have HE1 := Lib.hid e1; have hg5 : W5.heap[gx]? = _ := (e4.block gx (by have h5 := lt_of_block HGY2.out; simp; omega) (fun e => by have h5 := (HXR2.out.lt gx e).1; have h6 := lt_of_block HGB.out; omega)).trans ((Below.heap_alloc _ _ _ (lt_of_block HGY2.out)).trans HGY2.out); have HG5 := Lib.hid hg5; have HS5 : Hid (Since (fun y => y = gx) wo W5) := (HSI.out.alloc _).trans e4 (fun y hy => .inr (HXR2.out.lt y hy).1); have c5 := cell_of_block hg5 1; have f5 : W5.frozen? ⟨gx, 1, none⟩ = false := free_of_block hg5 1; simp only [List.getElem?_toArray, List.getElem?_cons_zero, List.getElem?_cons_succ] at c5; clear e1 e2 e3 e4 e5 e6 hg5)
              have hs6 := set_of_block HG5.out 1 (.slice a' (xn + 1) c')
              simp only [List.setIfInBounds_toArray, List.set_cons_zero, List.set_cons_succ] at hs6
              have hS6 : Since (fun y => y = gx) W5 (W5.setCell ⟨gx, 1, none⟩ (.slice a' (xn + 1) c')) := Since.setCell (F := fun y => y = gx) (p := ⟨gx, 1, none⟩) (Since.refl _ W5) (.inl rfl) _
              have hr6 := hS6.row HE1.out (fun y hy e => by have h5 := (HE1.out.lt y hy).1; have h6 := lt_of_block HGB.out; omega)
              have HS6 := Lib.hid hs6
              have HR6 := Lib.hid hr6
              have HT6 : Hid (Since (fun y => y = gx) wo (W5.setCell ⟨gx, 1, none⟩ (.slice a' (xn + 1) c'))) := HS5.out.trans hS6 (fun y hy => .inl hy)
              clear hs6 hS6 hr6
              generalize World.setCell W5 _ _ = Z at HS6 HR6 HT6 ⊢
              go_wp2_with fail
              go_roundg (n - (j + 1))
              case measure => rw [HG2.out]; omega
              case rel =>
                have hlen : (xs ++ [j]).length = xn + 1 := by rw [List.length_append, ← HXN.out]; rfl
                refine ⟨j + 1, a', c', xs ++ [j], by omega, rfl, by simp, by rw [Hid, hlen]; exact HS6.out, by rw [Hid, hlen, natsV_snoc]; exact HR6.out, ⟨fun x hx => ?_, by rw [hlen]; omega⟩, HT6.out⟩
                rcases List.mem_append.1 hx with h5 | h5
                · exact HXS.out.1 x h5
                · simp at h5; omega
            · have hb0 : init / 2 ^ j % 2 = 0 := by omega
              have hb1 : ((init : Int) / 2 ^ j) % 2 = 0 := by
                have : ((init / 2 ^ j % 2 : Nat) : Int) = 0 := by rw [hb0]; rfl
                simpa using this
              have hb2 : ((init : Int) / 2 ^ j).tmod 2 = 0 := by rw [Int.tmod_eq_emod_of_nonneg (Int.ediv_nonneg (by omega) (by exact Int.le_of_lt (Int.pow_pos (by decide))))]; exact hb1
              clear hbit hb0
              go_wp2_with fail
              go_roundg (n - (j + 1))
              case measure => rw [HG2.out]; omega
              case rel => exact ⟨j + 1, ia, ic, xs, by omega, rfl, by simp, by rw [Hid, ← HXN.out]; exact HGY2.out, by rw [Hid, ← HXN.out]; exact HXR2.out, ⟨HXS.out.1, by rw [← HXN.out]; omega⟩, HSI.out⟩
          · obtain rfl : j = n := by omega
            have hgxw : gx < wo.heap.size := lt_of_block HGB.out
            have hrbg : rb ≠ gx := by have h5 := HEBG.out; have h6 := HEB.out; omega
            have hrbw := (HSI.out.block rb (Nat.lt_of_lt_of_le HEBG.out.2 HBX.out.size) hrbg).trans ((HBX.out.block rb HEBG.out.2).trans HRB.out)
            have d0 := cell_of_block hrbw 0
            have d1 := cell_of_block hrbw 1
            have d2 := cell_of_block hrbw 2
            have f0 : wr.frozen? ⟨rb, 0, none⟩ = false := free_of_block hrbw 0
            have f1 : wr.frozen? ⟨rb, 1, none⟩ = false := free_of_block hrbw 1
            have f2 : wr.frozen? ⟨rb, 2, none⟩ = false := free_of_block hrbw 2
            simp only [List.getElem?_toArray, List.getElem?_cons_zero, List.getElem?_cons_succ] at d0 d1 d2
            have HRBW := Lib.hid hrbw
            clear hrbw
            go_wp2_with fail
            (try simp only [Exit.inBlock, Exit.then])
            have hs3 := set_of_block (set_of_block (set_of_block HRBW.out 0 (.slice (some ⟨eb, 0, none⟩) j j)) 1 (.slice ia xn ic)) 2 (.int .i64 (mk : Int))
            simp only [List.setIfInBounds_toArray, List.set_cons_zero, List.set_cons_succ] at hs3
            have hSS : Since (fun x => x = rb) wr (((wr.setCell ⟨rb, 0, none⟩ (.slice (some ⟨eb, 0, none⟩) j j)).setCell ⟨rb, 1, none⟩ (.slice ia xn ic)).setCell ⟨rb, 2, none⟩ (.int .i64 (mk : Int))) :=
              Since.setCell (p := ⟨rb, 2, none⟩) (Since.setCell (p := ⟨rb, 1, none⟩) (Since.setCell (F := fun x => x = rb) (p := ⟨rb, 0, none⟩) (Since.refl _ wr) (.inl rfl) _) (.inl rfl) _) (.inl rfl) _
            refine bodyPost_ret (results_cell_row rfl _ _ rb 25 _ (0, 0) _ rfl hs3 Try.underlying25 rfl graph_size) rfl ?_
            have hrows := ((HR.out.since HSI.out HEBG.out.1 (fun k hk y hy => HNG.out k hk y hy)).since hSS (by have h5 := HEBG.out; have h6 := HEB.out; omega) (fun k hk y hy e => by have h5 := ((HR.out.row k hk).lt y hy).1; have h6 := HEBG.out; omega))
            have hxr := hSS.row HXR2.out (fun y hy e => by have h5 := (HXR2.out.lt y hy).1; have h6 := HEBG.out; have h7 := HBX.out.size; omega)
            have hlen : (⟨(List.range j).map f, xs.map (fun x : Nat => (x : Int)), (mk : Int)⟩ : GraphD).edges.length = j := by simp
            refine ⟨⟨(List.range j).map f, xs.map (fun x : Nat => (x : Int)), (mk : Int)⟩, .slice (some ⟨eb, 0, none⟩) j j, .slice ia xn ic, rfl, ⟨hrows.edges (by omega), nums_of_row (B := wo.heap.size) (n := xn) ?_ (by omega) (fun x hx => ?_)⟩, ⟨by rw [hlen]; omega, by rw [hlen]; omega, ⟨by simp, by simp; omega⟩, fun k e he => ?_, fun k => ?_, fun x hx => ?_, by simp; rw [← HXN.out]; omega⟩, ?_⟩
            · have : (xs.map (fun x : Nat => (x : Int))).map (Value.int .i64) = natsV xs := by unfold natsV; simp only [List.map_map]; rfl
              rw [this]; exact hxr
            · obtain ⟨y, hy, rfl⟩ := List.mem_map.1 hx
              have := HXS.out.1 y hy
              omega
            · rw [hlen]
              by_cases hk : k < j
              · have h5 := (HF.out k).1
                refine h5 e ?_
                simpa [List.getD_eq_getElem?_getD, hk] using he
              · have : ((List.range j).map f).getD k [] = [] := by simp [List.getD_eq_getElem?_getD, hk]
                rw [this] at he; simp at he
            · by_cases hk : k < j
              · have h5 := (HF.out k).2
                have : ((List.range j).map f).getD k [] = f k := by simp [List.getD_eq_getElem?_getD, hk]
                show (((List.range j).map f).getD k []).length ≤ 20
                rw [this]; omega
              · have : ((List.range j).map f).getD k [] = [] := by simp [List.getD_eq_getElem?_getD, hk]
                show (((List.range j).map f).getD k []).length ≤ 20
                rw [this]; simp
            · rw [hlen]
              obtain ⟨y, hy, rfl⟩ := List.mem_map.1 hx
              have := HXS.out.1 y hy
              omega
            · have h5 := HRW.out
              have h6 := HEB.out
              have h7 := HA.out.size
              exact ((HA.out.trans (HBX.out.mono HA.out.size)).trans (HSI.out.below (Nat.le_trans HA.out.size HBX.out.size) (fun y hy => by omega))).trans (hSS.below (Nat.le_trans (Nat.le_trans HA.out.size HBX.out.size) HSI.out.size) (fun y hy => by omega))
    · have hltI : ¬ (i : Int) < (ln : Int) := by omega
      have hd1 : decide ((i : Int) < (ln : Int)) = false := by simp; omega
      have hd2 : decide (i < ln) = false := by simp; omega
      as_aux_lemma =>
        obtain ⟨wo, rfl⟩ : ∃ wo : World, wo = wr := ⟨_, rfl⟩
        have HEBG : Hid (eb ≠ gx ∧ rb < W.heap.size) := ⟨by have h5 := HEB.out; omega, lt_of_block HRB.out⟩
        go_wp2_with fail
        go_loopg [13] n (fun gg s13 wr => ∃ (j : Nat) (ia : Option Addr) (ic : Nat) (xs : List Nat), j ≤ n ∧ Hid (gg = n - j) ∧ s13 = .int .i64 j ∧ Hid (wr.heap[gx]? = some (.cells #[.slice (some ⟨eb, 0, none⟩) n n, .slice ia xs.length ic, .int .i64 (mk : Int)] 25 (0, 0))) ∧ Hid (wr.ownsRow wo.heap.size 3 1 (.slice ia xs.length ic) xs.length (natsV xs)) ∧ Hid ((∀ x ∈ xs, x < n) ∧ xs.length ≤ j) ∧ Hid (Since (fun y => y = gx) wo wr))
        case atStart => exact ⟨0, none, 0, [], Nat.zero_le _, rfl, rfl, HGB.out, World.ownsRow_nil _ _ _ _, ⟨by simp, by simp⟩, Since.refl _ _⟩
        case round =>
          obtain ⟨j, ia, ic, xs, hj, HG2, rfl, HGY, HXR, HXS, HSI⟩ := hrel
          obtain ⟨xn, hxn⟩ : ∃ xn, xn = xs.length := ⟨_, rfl⟩
          have hxb := HXS.out.2
          have hgy := HGY.out
          have hxr := HXR.out
          rw [← hxn] at hgy hxr hxb
          have HXN := Lib.hid hxn
          have HGY2 := Lib.hid hgy
          have HXR2 := Lib.hid hxr
          have c0 := cell_of_block hgy 0
          have c1 := cell_of_block hgy 1
          have c2 := cell_of_block hgy 2
          simp only [List.getElem?_toArray, List.getElem?_cons_zero, List.getElem?_cons_succ] at c0 c1 c2
          clear hxn hgy hxr HGY HXR
          by_cases hjn : j < n
          · have hjnI : (j : Int) < (n : Int) := by omega
            have hj64 : j < 64 := by omega
            by_cases hbit : init / 2 ^ j % 2 = 1
            · have hb1 : ((init : Int) / 2 ^ j) % 2 = 1 := by
                have : ((init / 2 ^ j % 2 : Nat) : Int) = 1 := by rw [hbit]; rfl
                simpa using this
              have hb2 : ((init : Int) / 2 ^ j).tmod 2 = 1 := by rw [Int.tmod_eq_emod_of_nonneg (Int.ediv_nonneg (by omega) (by exact Int.le_of_lt (Int.pow_pos (by decide))))]; exact hb1
              clear hbit
              have hsz : wo.heap.size ≤ wr.heap.size := HSI.out.size
              go_wp2_with (at_builtin; go_must (refine wpList_append_at_ _ rfl _ _ 23 rfl 3 (.int .i64 0) 1 8 Try.underlying23 int_info rfl (by decide) wo.heap.size (.slice ia xn ic) xn (natsV xs) rfl (HXR2.out.alloc _) ⟨wr.heap.size, 0, none⟩ 1 1 [.int .i64 (j : Int)] rfl rfl (cell_one_new _ _ _) (by simp [Value.oneCell']) (by unfold maxLen; omega) (by omega) (by simp; omega) ?_); intro a' c' W5 e1 e2 e3 e4 e5 e6; have HE1 := Lib.hid e1; have hg5 : W5.heap[gx]? = _ := (e4.block gx (by have h5 := lt_of_block HGY2.out; simp; omega) (fun e => by have h5 := (HXR2.out.lt gx e).1; have h6 := lt_of_block HGB.out; omega)).trans ((Below.heap_alloc _ _ _ (lt_of_block HGY2.out)).trans HGY2.out); have HG5 := Lib.hid hg5; have HS5 : Hid (Since (fun y => y = gx) wo W5) := (HSI.out.alloc _).trans e4 (fun y hy => .inr (HXR2.out.lt y hy).1); have c5 := cell_of_block hg5 1; have f5 : W5.frozen? ⟨gx, 1, none⟩ = false := free_of_block hg5 1; simp only [List.getElem?_toArray, List.getElem?_cons_zero, List.getElem?_cons_succ] at c5; clear e1 e2 e3 e4 e5 e6 hg5)
              have hs6 := set_of_block HG5.out 1 (.slice a' (xn + 1) c')
              simp only [List.setIfInBounds_toArray, List.set_cons_zero, List.set_cons_succ] at hs6
              have hS6 : Since (fun y => y = gx) W5 (W5.setCell ⟨gx, 1, none⟩ (.slice a' (xn + 1) c')) := Since.setCell (F := fun y => y = gx) (p := ⟨gx, 1, none⟩) (Since.refl _ W5) (.inl rfl) _
              have hr6 := hS6.row HE1.out (fun y hy e => by have h5 := (HE1.out.lt y hy).1; have h6 := lt_of_block HGB.out; omega)
              have HS6 := Lib.hid hs6
              have HR6 := Lib.hid hr6
              have HT6 : Hid (Since (fun y => y = gx) wo (W5.setCell ⟨gx, 1, none⟩ (.slice a' (xn + 1) c'))) := HS5.out.trans hS6 (fun y hy => .inl hy)
              clear hs6 hS6 hr6
              generalize World.setCell W5 _ _ = Z at HS6 HR6 HT6 ⊢
              go_wp2_with fail
              go_roundg (n - (j + 1))
              case measure => rw [HG2.out]; omega
              case rel =>
                have hlen : (xs ++ [j]).length = xn + 1 := by rw [List.length_append, ← HXN.out]; rfl
                refine ⟨j + 1, a', c', xs ++ [j], by omega, rfl, by simp, by rw [Hid, hlen]; exact HS6.out, by rw [Hid, hlen, natsV_snoc]; exact HR6.out, ⟨fun x hx => ?_, by rw [hlen]; omega⟩, HT6.out⟩
                rcases List.mem_append.1 hx with h5 | h5
                · exact HXS.out.1 x h5
                · simp at h5; omega
            · have hb0 : init / 2 ^ j % 2 = 0 := by omega
              have hb1 : ((init : Int) / 2 ^ j) % 2 = 0 := by
                have : ((init / 2 ^ j % 2 : Nat) : Int) = 0 := by rw [hb0]; rfl
                simpa using this
              have hb2 : ((init : Int) / 2 ^ j).tmod 2 = 0 := by rw [Int.tmod_eq_emod_of_nonneg (Int.ediv_nonneg (by omega) (by exact Int.le_of_lt (Int.pow_pos (by decide))))]; exact hb1
              clear hbit hb0
              go_wp2_with fail
              go_roundg (n - (j + 1))
              case measure => rw [HG2.out]; omega
              case rel => exact ⟨j + 1, ia, ic, xs, by omega, rfl, by simp, by rw [Hid, ← HXN.out]; exact HGY2.out, by rw [Hid, ← HXN.out]; exact HXR2.out, ⟨HXS.out.1, by rw [← HXN.out]; omega⟩, HSI.out⟩
          · obtain rfl : j = n := by omega
            have hgxw : gx < wo.heap.size := lt_of_block HGB.out
            have hrbg : rb ≠ gx := by have h5 := HEBG.out; have h6 := HEB.out; omega
            have hrbw := (HSI.out.block rb (Nat.lt_of_lt_of_le HEBG.out.2 HBX.out.size) hrbg).trans ((HBX.out.block rb HEBG.out.2).trans HRB.out)
            have d0 := cell_of_block hrbw 0
            have d1 := cell_of_block hrbw 1
            have d2 := cell_of_block hrbw 2
            have f0 : wr.frozen? ⟨rb, 0, none⟩ = false := free_of_block hrbw 0
            have f1 : wr.frozen? ⟨rb, 1, none⟩ = false := free_of_block hrbw 1
            have f2 : wr.frozen? ⟨rb, 2, none⟩ = false := free_of_block hrbw 2
            simp only [List.getElem?_toArray, List.getElem?_cons_zero, List.getElem?_cons_succ] at d0 d1 d2
            have HRBW := Lib.hid hrbw
            clear hrbw
            go_wp2_with fail
            (try simp only [Exit.inBlock, Exit.then])
            have hs3 := set_of_block (set_of_block (set_of_block HRBW.out 0 (.slice (some ⟨eb, 0, none⟩) j j)) 1 (.slice ia xn ic)) 2 (.int .i64 (mk : Int))
            simp only [List.setIfInBounds_toArray, List.set_cons_zero, List.set_cons_succ] at hs3
            have hSS : Since (fun x => x = rb) wr (((wr.setCell ⟨rb, 0, none⟩ (.slice (some ⟨eb, 0, none⟩) j j)).setCell ⟨rb, 1, none⟩ (.slice ia xn ic)).setCell ⟨rb, 2, none⟩ (.int .i64 (mk : Int))) :=
              Since.setCell (p := ⟨rb, 2, none⟩) (Since.setCell (p := ⟨rb, 1, none⟩) (Since.setCell (F := fun x => x = rb) (p := ⟨rb, 0, none⟩) (Since.refl _ wr) (.inl rfl) _) (.inl rfl) _) (.inl rfl) _
            refine bodyPost_ret (results_cell_row rfl _ _ rb 25 _ (0, 0) _ rfl hs3 Try.underlying25 rfl graph_size) rfl ?_
            have hrows := ((HR.out.since HSI.out HEBG.out.1 (fun k hk y hy => HNG.out k hk y hy)).since hSS (by have h5 := HEBG.out; have h6 := HEB.out; omega) (fun k hk y hy e => by have h5 := ((HR.out.row k hk).lt y hy).1; have h6 := HEBG.out; omega))
            have hxr := hSS.row HXR2.out (fun y hy e => by have h5 := (HXR2.out.lt y hy).1; have h6 := HEBG.out; have h7 := HBX.out.size; omega)
            have hlen : (⟨(List.range j).map f, xs.map (fun x : Nat => (x : Int)), (mk : Int)⟩ : GraphD).edges.length = j := by simp
            refine ⟨⟨(List.range j).map f, xs.map (fun x : Nat => (x : Int)), (mk : Int)⟩, .slice (some ⟨eb, 0, none⟩) j j, .slice ia xn ic, rfl, ⟨hrows.edges (by omega), nums_of_row (B := wo.heap.size) (n := xn) ?_ (by omega) (fun x hx => ?_)⟩, ⟨by rw [hlen]; omega, by rw [hlen]; omega, ⟨by simp, by simp; omega⟩, fun k e he => ?_, fun k => ?_, fun x hx => ?_, by simp; rw [← HXN.out]; omega⟩, ?_⟩
            · have : (xs.map (fun x : Nat => (x : Int))).map (Value.int .i64) = natsV xs := by unfold natsV; simp only [List.map_map]; rfl
              rw [this]; exact hxr
            · obtain ⟨y, hy, rfl⟩ := List.mem_map.1 hx
              have := HXS.out.1 y hy
              omega
            · rw [hlen]
              by_cases hk : k < j
              · have h5 := (HF.out k).1
                refine h5 e ?_
                simpa [List.getD_eq_getElem?_getD, hk] using he
              · have : ((List.range j).map f).getD k [] = [] := by simp [List.getD_eq_getElem?_getD, hk]
                rw [this] at he; simp at he
            · by_cases hk : k < j
              · have h5 := (HF.out k).2
                have : ((List.range j).map f).getD k [] = f k := by simp [List.getD_eq_getElem?_getD, hk]
                show (((List.range j).map f).getD k []).length ≤ 20
                rw [this]; omega
              · have : ((List.range j).map f).getD k [] = [] := by simp [List.getD_eq_getElem?_getD, hk]
                show (((List.range j).map f).getD k []).length ≤ 20
                rw [this]; simp
            · rw [hlen]
              obtain ⟨y, hy, rfl⟩ := List.mem_map.1 hx
              have := HXS.out.1 y hy
              omega
            · have h5 := HRW.out
              have h6 := HEB.out
              have h7 := HA.out.size
              exact ((HA.out.trans (HBX.out.mono HA.out.size)).trans (HSI.out.below (Nat.le_trans HA.out.size HBX.out.size) (fun y hy => by omega))).trans (hSS.below (Nat.le_trans (Nat.le_trans HA.out.size HBX.out.size) HSI.out.size) (fun y hy => by omega))
end Go.Proofs.Ytoojalcfojflhaa
