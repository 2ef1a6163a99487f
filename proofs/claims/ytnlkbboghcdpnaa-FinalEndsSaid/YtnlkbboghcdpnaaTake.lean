/- The oldest store to a variable, and the others: the document's answer: the walk. -/
import Derived.Test.YtnlkbboghcdpnaaLook
namespace Go.Proofs.Ytnlkbboghcdpnaa
open Go.RowKit

/-- What is taken of the first so many, and the others. -/
def takeTo (l : List EntryD) (v : Int) : Nat → Option EntryD × List EntryD
  | 0 => (none, [])
  | i + 1 => if (takeTo l v i).1.isNone && decide ((l.getD i default).var = v) then (some (l.getD i default), (takeTo l v i).2) else ((takeTo l v i).1, (takeTo l v i).2 ++ [l.getD i default])
def takeB (l : List EntryD) (v : Int) : Option EntryD × List EntryD := takeTo l v l.length
theorem takeTo_len (l : List EntryD) (v : Int) (i : Nat) : (takeTo l v i).2.length ≤ i := by
  induction i with
  | zero => simp [takeTo]
  | succ i ih =>
    unfold takeTo
    split
    · simp only []; omega
    · simp only [List.length_append, List.length_cons, List.length_nil]; omega
theorem results_cell2 {P : Program} {fn : Func} {p u v : Tmp} {ty : TypeId} (h : fn.results = #[.cell p ty, .tmp u, .tmp v]) (tmps : Array Value) (w : World) (g : Nat) (t : TypeId) (cs : Array Value) (fr : Nat × Nat) (d : TypeDesc)
    (hp : tmps.getD p undef = .pointer (some ⟨g, 0, none⟩)) (hg : w.heap[g]? = some (.cells cs t fr))
    (hu : P.underlying ty = some d) (hd : (match d with | .struct _ | .array _ _ => true | _ => false) = true) (hi : (P.info? ty).map (·.size) = some cs.size) :
    (results fn tmps).run P w = .ok (.tuple #[.agg cs, tmps.getD u undef, tmps.getD v undef]) w := by
  have hp' : tmps[p]?.getD undef = .pointer (some ⟨g, 0, none⟩) := by simpa using hp
  simp [results, h, hp', asAddr, run_loadVar_row w g t ty cs fr d hg hu hd hi]
theorem results_cell {P : Program} {fn : Func} {p : Tmp} {ty : TypeId} (h : fn.results = #[.cell p ty]) (tmps : Array Value) (w : World) (g : Nat) (t : TypeId) (cs : Array Value) (fr : Nat × Nat) (d : TypeDesc)
    (hp : tmps.getD p undef = .pointer (some ⟨g, 0, none⟩)) (hg : w.heap[g]? = some (.cells cs t fr))
    (hu : P.underlying ty = some d) (hd : (match d with | .struct _ | .array _ _ => true | _ => false) = true) (hi : (P.info? ty).map (·.size) = some cs.size) :
    (results fn tmps).run P w = .ok (.agg cs) w := by
  have hp' : tmps[p]?.getD undef = .pointer (some ⟨g, 0, none⟩) := by simpa using hp
  simp [results, h, hp', asAddr, run_loadVar_row w g t ty cs fr d hg hu hd hi]
theorem results_cell1 {P : Program} {fn : Func} {p u : Tmp} {ty : TypeId} (h : fn.results = #[.cell p ty, .tmp u]) (tmps : Array Value) (w : World) (g : Nat) (t : TypeId) (cs : Array Value) (fr : Nat × Nat) (d : TypeDesc)
    (hp : tmps.getD p undef = .pointer (some ⟨g, 0, none⟩)) (hg : w.heap[g]? = some (.cells cs t fr))
    (hu : P.underlying ty = some d) (hd : (match d with | .struct _ | .array _ _ => true | _ => false) = true) (hi : (P.info? ty).map (·.size) = some cs.size) :
    (results fn tmps).run P w = .ok (.tuple #[.agg cs, tmps.getD u undef]) w := by
  have hp' : tmps[p]?.getD undef = .pointer (some ⟨g, 0, none⟩) := by simpa using hp
  simp [results, h, hp', asAddr, run_loadVar_row w g t ty cs fr d hg hu hd hi]
theorem entry_size : (Try.prog.info? 113).map (·.size) = some 2 := by kernel_rfl
theorem two_new (w : World) (a b : Value) (t : TypeId) : ∀ j u, [a, b][j]? = some u → (w.alloc (.cells #[a, b] t)).cell? ((⟨w.heap.size, 0, none⟩ : Addr).add j) = some u := by
  intro j u hj
  have h := fun i => cell_of_block (heap_alloc_new w (.cells #[a, b] t)) i
  match j with
  | 0 => simp only [List.getElem?_cons_zero, Option.some.injEq] at hj; subst hj; simp [Addr.add, h 0]
  | 1 => simp only [List.getElem?_cons_succ, List.getElem?_cons_zero, Option.some.injEq] at hj; subst hj; simp [Addr.add, h 1]
  | j + 2 => simp at hj
set_option maxRecDepth 100000 in
set_option maxHeartbeats 4000000 in
theorem take_any (w : World) (bv : Value) (l : List EntryD) (h : BufAt w bv l) (hl : l.length ≤ 1000000) (v : Int) :
    Calls Try.prog 53 #[bv, .int .i64 v] w fun e w' => (∃ sv, e = .returned (.tuple #[((takeB l v).1.getD default).val, sv, .bool (takeB l v).1.isSome]) ∧ BufAt w' sv (takeB l v).2 ∧ w'.ownsRow w.heap.size 113 2 sv (takeB l v).2.length (flatC EntryD.cells (takeB l v).2)) ∧ Below w.heap.size w w' := by
  obtain ⟨ba, bc, rfl, -⟩ := SliceR.slice h
  obtain ⟨n, hn⟩ : ∃ n, n = l.length := ⟨_, rfl⟩
  unfold takeB
  rw [← hn] at h hl ⊢
  have hb0 := boxes_below w (.cells #[.int .i64 0, .int .i64 0] 113) (.cells #[.int .i64 0, .int .i64 0] 113)
  have HB := Lib.hid hb0
  have H1 := Lib.hid (boxes_first w (.cells #[.int .i64 0, .int .i64 0] 113) (.cells #[.int .i64 0, .int .i64 0] 113))
  have H2 := Lib.hid (boxes_second w (.cells #[.int .i64 0, .int .i64 0] 113) (.cells #[.int .i64 0, .int .i64 0] 113))
  have HL := Lib.hid h
  have HN := Lib.hid hn
  have hsz : ((w.alloc (.cells #[.int .i64 0, .int .i64 0] 113)).alloc (.cells #[.int .i64 0, .int .i64 0] 113)).heap.size = w.heap.size + 2 := by simp
  have HSZ := Lib.hid hsz
  clear h hb0 hn hsz
  go_enter Try.func53, Try.ntmps53
  go_upto_region 3 with fail
  generalize World.alloc (World.alloc w _) _ = W at HB H1 H2 HSZ ⊢
  obtain ⟨gx, hgx⟩ : ∃ gx, gx = w.heap.size := ⟨_, rfl⟩
  rw [← hgx] at H1 H2 HSZ ⊢
  have HGX := Lib.hid hgx
  clear hgx
  go_wp2_with fail
  go_loopg [7, 9, 10] n (fun gg s7 s9 s10 wr => ∃ (i : Nat) (ra : Option Addr) (rl rc : Nat) (x : EntryD) (is_ : Bool), i ≤ n ∧ Hid (gg = n - i) ∧ s7 = .slice ra rl rc ∧ s9 = .bool is_ ∧ s10 = .int .i64 i ∧
    Hid (wr.ownsRow (gx + 2) 113 2 (.slice ra rl rc) rl (flatC EntryD.cells (takeTo l v i).2)) ∧ Hid (is_ = (takeTo l v i).1.isSome) ∧ Hid (x = (takeTo l v i).1.getD default) ∧ Hid (rl = (takeTo l v i).2.length) ∧
    Hid (wr.heap[gx]? = some (.cells #[.int .i64 0, .int .i64 0] 113 (0, 0))) ∧ Hid (wr.heap[gx + 1]? = some (.cells #[.int .i64 x.var, .int .i64 x.n] 113 (0, 0))) ∧ Hid (Below gx w wr) ∧ Hid (gx + 2 ≤ wr.heap.size))
  case atStart => exact ⟨0, none, 0, 0, default, false, Nat.zero_le _, rfl, rfl, rfl, rfl, World.ownsRow_nil _ _ _ _, rfl, rfl, rfl, H1.out, H2.out, by rw [Hid, HGX.out]; exact HB.out, by rw [Hid, HSZ.out]; omega⟩
  case round =>
    obtain ⟨i, ra, rl, rc, x, is_, hi, HG, rfl, rfl, rfl, HR, HIS, HXX, HRL, HG1, HG2, HBR, HGS⟩ := hrel
    by_cases hlt : i < n
    · have hltI : (i : Int) < (n : Int) := by omega
      obtain ⟨eb, eo, hea, heb, he1, he2⟩ := HL.out.part i (by rw [← HN.out]; exact hlt)
      subst hea
      obtain ⟨y, hy⟩ : ∃ y, y = l.getD i default := ⟨_, rfl⟩
      rw [← hy] at he1 he2
      have hk : ∀ a u, w.cell? a = some u → wr.cell? a = some u := fun a u h => by have := HBR.out; rw [HGX.out] at this; exact cells_kept this a u h
      replace he1 := hk _ _ he1
      replace he2 := hk _ _ he2
      have hst : takeTo l v (i + 1) = if (takeTo l v i).1.isNone && decide (y.var = v) then (some y, (takeTo l v i).2) else ((takeTo l v i).1, (takeTo l v i).2 ++ [y]) := by rw [hy]; rfl
      have HST := Lib.hid hst
      have hrl : rl ≤ 1000000 := by have := takeTo_len l v i; rw [HRL.out]; omega
      obtain ⟨yv, yn⟩ := y
      simp only [] at he1 he2 hst
      clear hy hk hst
      have hnone : (takeTo l v i).1.isNone = !is_ := by rw [HIS.out]; cases (takeTo l v i).1 <;> rfl
      have HNO := Lib.hid hnone
      clear hnone
      by_cases a1 : is_ = false ∧ yv = v
      · obtain ⟨rfl, rfl⟩ := a1
        have hst2 : takeTo l yv (i + 1) = (some ⟨yv, yn⟩, (takeTo l yv i).2) := by rw [HST.out, HNO.out]; simp
        have HST2 := Lib.hid hst2
        have d0 : wr.cell? ⟨gx + 1, 0, none⟩ = some (.int .i64 x.var) := cell_of_block HG2.out 0
        have d1 : wr.cell? ⟨gx + 1, 1, none⟩ = some (.int .i64 x.n) := cell_of_block HG2.out 1
        have f0 : wr.frozen? ⟨gx + 1, 0, none⟩ = false := free_of_block HG2.out 0
        have f1 : wr.frozen? ⟨gx + 1, 1, none⟩ = false := free_of_block HG2.out 1
        have hset := set_of_block (set_of_block HG2.out 0 (.int .i64 yv)) 1 (.int .i64 yn)
        simp only [List.setIfInBounds_toArray, List.set_cons_zero, List.set_cons_succ] at hset
        have hS : Since (fun k => k = gx + 1) wr ((wr.setCell ⟨gx + 1, 0, none⟩ (.int .i64 yv)).setCell ⟨gx + 1, 1, none⟩ (.int .i64 yn)) := Since.setCell (p := ⟨gx + 1, 1, none⟩) (Since.setCell (F := fun k => k = gx + 1) (p := ⟨gx + 1, 0, none⟩) (Since.refl _ wr) (.inl rfl) _) (.inl rfl) _
        have HSET := Lib.hid hset
        have HSS := Lib.hid hS
        clear hset hS hst2
        go_wp2_with fail
        go_roundg (n - (i + 1))
        case measure => rw [HG.out]; omega
        case rel => exact ⟨i + 1, ra, rl, rc, ⟨yv, yn⟩, true, by omega, rfl, rfl, by first | rfl | simp, by simp, by rw [Hid, HST2.out]; exact HSS.out.row HR.out (fun y hy e => by have := (HR.out.lt y hy).1; omega), by rw [Hid, HST2.out]; rfl, by rw [Hid, HST2.out]; rfl, by rw [Hid, HST2.out]; exact HRL.out, (HSS.out.block _ (lt_of_block HG1.out) (by omega)).trans HG1.out, HSET.out, HBR.out.trans (HSS.out.below (by have := HGS.out; omega) (fun y hy => by omega)), Nat.le_trans HGS.out HSS.out.size⟩
      · have hst2 : takeTo l v (i + 1) = ((takeTo l v i).1, (takeTo l v i).2 ++ [⟨yv, yn⟩]) := by
          rw [HST.out, HNO.out, if_neg]
          simp only [Bool.and_eq_true, Bool.not_eq_true', decide_eq_true_eq]
          exact a1
        have HST2 := Lib.hid hst2
        have hcond : ∀ b : Bool, b = is_ → (b = false → ((yv : Int) == v) = false) := fun b hb h => by
          rw [beq_eq_false_iff_ne]; exact fun e => a1 ⟨hb ▸ h, e⟩
        have HCD := Lib.hid (hcond is_ rfl)
        clear hst2 a1 hcond
        have hap : ∀ (X : World) (ja : Option Addr) (jc : Nat) (o : Obj), X.ownsRow (gx + 2) 113 2 (.slice ja (rl + 1) jc) (rl + 1) (flatC EntryD.cells (takeTo l v i).2 ++ [.int .i64 yv, .int .i64 yn]) → Since (fun k => (Value.slice ra rl rc).ownBlock = some k) (wr.alloc o) X →
            X.ownsRow (gx + 2) 113 2 (.slice ja (rl + 1) jc) (rl + 1) (flatC EntryD.cells (takeTo l v (i + 1)).2) ∧ X.heap[gx]? = some (.cells #[.int .i64 0, .int .i64 0] 113 (0, 0)) ∧ X.heap[gx + 1]? = some (.cells #[.int .i64 x.var, .int .i64 x.n] 113 (0, 0)) ∧ Below gx w X ∧ gx + 2 ≤ X.heap.size := fun X ja jc o h1 h2 => by
          have hS : Since (fun k => (Value.slice ra rl rc).ownBlock = some k) wr X := ((Since.refl _ wr).alloc o).trans h2 (fun k hk => .inl hk)
          have hlo : ∀ k, (Value.slice ra rl rc).ownBlock = some k → gx + 2 ≤ k := fun k hk => (HR.out.lt k hk).1
          refine ⟨by rw [HST2.out]; simp only []; rw [flatC_append]; exact h1, (hS.block _ (lt_of_block HG1.out) (fun e => by have := hlo _ e; omega)).trans HG1.out, (hS.block _ (lt_of_block HG2.out) (fun e => by have := hlo _ e; omega)).trans HG2.out, HBR.out.trans (hS.below (by have := HGS.out; omega) (fun k hk => by have := hlo _ hk; omega)), Nat.le_trans HGS.out hS.size⟩
        have HAP := Lib.hid hap
        clear hap
        cases is_ with
        | true =>
          go_wp2_with (at_builtin; go_must (refine wpList_append_at_ _ rfl _ _ 56 rfl 113 (.agg #[.int .i64 0, .int .i64 0]) 2 16 Try.underlying56 entry_info rfl (by decide) (gx + 2) (.slice ra rl rc) rl (flatC EntryD.cells (takeTo l v i).2) rfl (HR.out.alloc _) ⟨wr.heap.size, 0, none⟩ 1 1 [.int .i64 yv, .int .i64 yn] rfl rfl (two_new _ _ _ _) (by simp [Value.oneCell']) (by unfold maxLen; omega) (by omega) (by have := HGS.out; simp; omega) ?_); intro ja jc X e1 e2 e3 e4 e5 e6; have HE := Lib.hid (HAP.out X ja jc _ e1 e4); clear e1 e2 e3 e4 e5 e6)
          go_roundg (n - (i + 1))
          case measure => rw [HG.out]; omega
          case rel => exact ⟨i + 1, ja, rl + 1, jc, x, true, by omega, rfl, rfl, by first | rfl | simp, by simp, HE.out.1, by rw [Hid, HST2.out]; exact HIS.out, by rw [Hid, HST2.out]; exact HXX.out, by rw [Hid, HST2.out, List.length_append, ← HRL.out]; rfl, HE.out.2.1, HE.out.2.2.1, HE.out.2.2.2.1, HE.out.2.2.2.2⟩
        | false =>
          have a2 := HCD.out rfl
          clear HCD
          go_wp2_with (at_builtin; go_must (refine wpList_append_at_ _ rfl _ _ 56 rfl 113 (.agg #[.int .i64 0, .int .i64 0]) 2 16 Try.underlying56 entry_info rfl (by decide) (gx + 2) (.slice ra rl rc) rl (flatC EntryD.cells (takeTo l v i).2) rfl (HR.out.alloc _) ⟨wr.heap.size, 0, none⟩ 1 1 [.int .i64 yv, .int .i64 yn] rfl rfl (two_new _ _ _ _) (by simp [Value.oneCell']) (by unfold maxLen; omega) (by omega) (by have := HGS.out; simp; omega) ?_); intro ja jc X e1 e2 e3 e4 e5 e6; have HE := Lib.hid (HAP.out X ja jc _ e1 e4); clear e1 e2 e3 e4 e5 e6)
          go_roundg (n - (i + 1))
          case measure => rw [HG.out]; omega
          case rel => exact ⟨i + 1, ja, rl + 1, jc, x, false, by omega, rfl, rfl, by first | rfl | simp, by simp, HE.out.1, by rw [Hid, HST2.out]; exact HIS.out, by rw [Hid, HST2.out]; exact HXX.out, by rw [Hid, HST2.out, List.length_append, ← HRL.out]; rfl, HE.out.2.1, HE.out.2.2.1, HE.out.2.2.2.1, HE.out.2.2.2.2⟩
    · obtain rfl : n = i := by omega
      have d0 : wr.cell? ⟨gx + 1, 0, none⟩ = some (.int .i64 x.var) := cell_of_block HG2.out 0
      have d1 : wr.cell? ⟨gx + 1, 1, none⟩ = some (.int .i64 x.n) := cell_of_block HG2.out 1
      have d2 : wr.cell? ⟨gx, 0, none⟩ = some (.int .i64 0) := cell_of_block HG1.out 0
      have d3 : wr.cell? ⟨gx, 1, none⟩ = some (.int .i64 0) := cell_of_block HG1.out 1
      have f0 : wr.frozen? ⟨gx, 0, none⟩ = false := free_of_block HG1.out 0
      have f1 : wr.frozen? ⟨gx, 1, none⟩ = false := free_of_block HG1.out 1
      have hset := set_of_block (set_of_block HG1.out 0 (.int .i64 x.var)) 1 (.int .i64 x.n)
      simp only [List.setIfInBounds_toArray, List.set_cons_zero, List.set_cons_succ] at hset
      have hS : Since (fun k => k = gx) wr ((wr.setCell ⟨gx, 0, none⟩ (.int .i64 x.var)).setCell ⟨gx, 1, none⟩ (.int .i64 x.n)) := Since.setCell (p := ⟨gx, 1, none⟩) (Since.setCell (F := fun k => k = gx) (p := ⟨gx, 0, none⟩) (Since.refl _ wr) (.inl rfl) _) (.inl rfl) _
      have HSET := Lib.hid hset
      have HSS := Lib.hid hS
      clear hset hS
      go_wp2_with fail
      (try simp only [Exit.inBlock, Exit.then])
      refine bodyPost_ret (results_cell2 rfl _ _ gx 113 _ (0, 0) _ rfl HSET.out Try.underlying113 rfl entry_size) rfl ?_
      have hrow : (((wr.setCell ⟨gx, 0, none⟩ (.int .i64 x.var)).setCell ⟨gx, 1, none⟩ (.int .i64 x.n))).ownsRow (gx + 2) 113 2 (.slice ra rl rc) (takeTo l v n).2.length (flatC EntryD.cells (takeTo l v n).2) := by rw [← HRL.out]; exact HSS.out.row HR.out (fun y hy e => by have := (HR.out.lt y hy).1; omega)
      refine ⟨⟨.slice ra rl rc, ?_, buf_of hrow, own_lower hrow (by have := HGX.out; omega)⟩, by rw [← HGX.out]; exact HBR.out.trans (HSS.out.below (by have := HGS.out; omega) (fun y hy => by omega))⟩
      rw [← HXX.out, ← HIS.out]; rfl
end Go.Proofs.Ytnlkbboghcdpnaa
