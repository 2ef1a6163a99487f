/- The finals of states, sorted at the end: the program's answer: the walk. Two threads that each store and look at the other one's: the code, in memory. -/
import Derived.Test.YtnlkbboghcdpnaaPSort
import Derived.Test.YtnlkbboghcdpnaaRFinals
namespace Go.Proofs.Ytnlkbboghcdpnaa
open Go.RowKit

theorem endsS_succ {c : CodeD} {l : List StateD} {i : Nat} (hi : i < l.length) : endsS c (l.take (i + 1)) = if endedS c (l.getD i default) then endsS c (l.take i) ++ [ofS (l.getD i default)] else endsS c (l.take i) := by
  unfold endsS
  rw [List.take_succ_eq_append_getElem hi, List.filter_append, List.map_append, List.getD_eq_getElem?_getD, List.getElem?_eq_getElem hi]
  simp only [Option.getD_some, List.filter_cons, List.filter_nil]
  split <;> simp
theorem endsS_len (c : CodeD) (l : List StateD) (i : Nat) : (endsS c (l.take i)).length ≤ i := by
  unfold endsS
  rw [List.length_map]
  have h1 := List.length_filter_le (endedS c) (l.take i)
  have h2 := List.length_take_le i l
  omega
theorem endsS_mem {c : CodeD} {l : List StateD} {x : FinalD} (h : x ∈ endsS c l) : ∃ s ∈ l, x = ofS s := by
  unfold endsS at h
  obtain ⟨s, hs, rfl⟩ := List.mem_map.1 h
  exact ⟨s, (List.mem_filter.1 hs).1, rfl⟩
theorem regs4_of {w : World} {l : List StateD} {lv : Value} (hl : StatesAt w lv l) : ∀ s ∈ l, ∀ t ∈ s.threads, t.regs.length = 4 := fun s hs t ht => by
  obtain ⟨a, cap, rfl, -⟩ := SliceR.slice hl
  obtain ⟨j, hj, rfl⟩ := List.getElem_of_mem hs
  obtain ⟨b, off, tv, yv, -, -, -, -, -, hst⟩ := StatesAt.part hl j hj
  have h4 := ofS_regs4 hst
  have hlj : l.getD j default = l[j] := by rw [List.getD_eq_getElem?_getD, List.getElem?_eq_getElem hj]; rfl
  rw [hlj] at h4
  obtain ⟨i, hi, rfl⟩ := List.getElem_of_mem ht
  have h5 := h4 i (by simp [ofS]; exact hi)
  simp only [ofS, List.getD_eq_getElem?_getD, List.getElem?_map, List.getElem?_eq_getElem hi, Option.map_some, Option.getD_some] at h5
  exact h5
set_option maxRecDepth 100000 in
set_option maxHeartbeats 8000000 in
theorem finals_any (w : World) (d : Nat) (c : CodeD) (cv : Value) (hc : RowsAt d w cv c.threads) (l : List StateD) (lv : Value) (hl : StatesAt w lv l) (M : Nat) (hM : ∀ s ∈ l, s.mem.length = M) (hfew : ∀ s ∈ l, fewS s) (hn : l.length ≤ 100000) :
    Calls Try.prog 14 #[codeV c cv, lv] w (AddEnd w (finalsS c l)) := by
  have hr4 := regs4_of hl
  obtain ⟨ca, cc, rfl, -⟩ := SliceR.slice hc
  obtain ⟨la, lc, rfl, -⟩ := SliceR.slice hl
  have hfin : ∀ r, SortRes M (endsS c l) r → r = finalsS c l := fun r ⟨h1, h2, h3⟩ => finals_of hM hr4 h1 h2 h3
  have hend := fun W hc s sv mv hs => ended_any W d c (.slice ca c.threads.length cc) hc s sv mv hs
  have hst := fun i (hi : i < l.length) => endsS_succ (c := c) (l := l) hi
  have hln := fun i => endsS_len c l i
  have hEM : ∀ x ∈ endsS c l, x.mem.length = M := fun x hx => by
    obtain ⟨s, hs, rfl⟩ := endsS_mem hx
    exact hM s hs
  have hEF : ∀ x ∈ endsS c l, fewD x := fun x hx => by
    obtain ⟨s, hs, rfl⟩ := endsS_mem hx
    exact fewS_of (hfew s hs)
  have hz : endsS c (l.take 0) = [] := rfl
  have hall : endsS c l = endsS c (l.take l.length) := by rw [List.take_length]
  rw [hall] at hfin hEM hEF
  obtain ⟨ET, hET⟩ : ∃ ET : Nat → List FinalD, ET = fun i => endsS c (l.take i) := ⟨_, rfl⟩
  have hET2 : ∀ i, endsS c (l.take i) = ET i := fun i => by rw [hET]
  obtain ⟨ES, hES⟩ : ∃ ES, ES = endedS c := ⟨_, rfl⟩
  have hES2 : ∀ s, endedS c s = ES s := fun s => by rw [hES]
  simp only [hET2] at hfin hst hln hz hEM hEF
  simp only [hES2] at hend hst
  obtain ⟨R, hR⟩ : ∃ R, R = finalsS c l := ⟨_, rfl⟩
  rw [← hR] at hfin ⊢
  unfold codeV at hend ⊢
  generalize c.vars = vars at hend ⊢
  generalize c.domain = dom at hend ⊢
  obtain ⟨n, hnn⟩ : ∃ n, n = l.length := ⟨_, rfl⟩
  obtain ⟨cn, hcn⟩ : ∃ n, n = c.threads.length := ⟨_, rfl⟩
  rw [← hnn] at hl hn hst hfin hEM hEF ⊢
  rw [← hcn] at hc hend ⊢
  have hB := (Below.refl w.heap.size w).alloc (Nat.le_refl _) (.cells #[.int .i64 vars, .int .i64 dom, .slice ca cn cc] 24)
  have H1 := Lib.hid (heap_alloc_new w (.cells #[.int .i64 vars, .int .i64 dom, .slice ca cn cc] 24))
  have HL := Lib.hid (SliceR.below StateR.stays hl hB)
  have HCS := Lib.hid (SliceR.below (RowR.stays d) hc hB)
  have HB := Lib.hid hB
  have HN := Lib.hid hnn
  have HFEW := Lib.hid hfew
  have HFIN := Lib.hid hfin
  have HEND := Lib.hid hend
  have HST := Lib.hid hst
  have HLN := Lib.hid hln
  have HEM := Lib.hid hEM
  have HEF := Lib.hid hEF
  have HZ := Lib.hid hz
  clear hc hl hB hnn hcn hfew hR hM hfin hend hst hln hEM hEF hz hall hET hET2 hES hES2 hr4
  go_enter Try.func14, Try.ntmps14
  go_upto_region 1 with fail
  generalize World.alloc w _ = W at HB H1 HL HCS ⊢
  generalize w.heap.size = gx at H1 ⊢
  have HOUT : Hid (∀ x, Below W.heap.size W x → Below w.heap.size w x) := fun x hx => HB.out.trans (hx.mono HB.out.size)
  go_wp2_with fail
  go_loopg [5, 10] n (fun gg s5 s10 wr => ∃ (i : Nat) (oa : Option Addr) (on oc : Nat) (css : List (List Value)), i ≤ n ∧ Hid (gg = n - i) ∧ s5 = .slice oa on oc ∧ s10 = .int .i64 i ∧ Hid (ThingsC (fun k => (Value.slice oa on oc).ownBlock = some k) wr FinalR 2 W.heap.size 70 (.slice oa on oc) (ET i) css) ∧ Hid (on = (ET i).length) ∧ Hid (Below W.heap.size W wr))
  case atStart => exact ⟨0, none, 0, 0, [], Nat.zero_le _, rfl, rfl, rfl, by rw [Hid, HZ.out]; exact ThingsC.nil _ _ _ _ _ _, by rw [Hid, HZ.out]; rfl, Below.refl _ _⟩
  case round =>
    obtain ⟨i, oa, on, oc, css, hi, HG, rfl, rfl, HO, HON, HBR⟩ := hrel
    by_cases hlt : i < n
    · have hltI : (i : Int) < (n : Int) := by omega
      obtain ⟨b, off, tv, yv, hea, -, x0, x1, x2, hst⟩ := StatesAt.part HL.out i (by rw [← HN.out]; exact hlt)
      subst hea
      have hfw := HFEW.out (l.getD i default) (getD_mem (by rw [← HN.out]; exact hlt))
      have hs1 := HST.out i hlt
      generalize l.getD i default = s at x2 hst hfw hs1
      obtain ⟨ta, tac, rfl, -⟩ := SliceR.slice hst.threads
      obtain ⟨ya, yac, rfl, -⟩ := SliceR.slice hst.mem
      have hEN := fun y (hy : Below W.heap.size W y) => HEND.out y (SliceR.below (RowR.stays d) HCS.out hy) s _ _ (hst.below hy)
      have hOF := fun y (hy : Below W.heap.size W y) => of_any y s _ _ (hst.below hy) hfw.1 hfw.2
      obtain ⟨f, hf⟩ : ∃ f, f = ofS s := ⟨_, rfl⟩
      obtain ⟨en, hen⟩ : ∃ q, q = ES s := ⟨_, rfl⟩
      rw [← hen] at hEN hs1
      rw [← hf] at hOF hs1
      unfold stateV at hEN hOF
      generalize s.threads.length = n1 at x0 hEN hOF
      generalize s.mem.length = n2 at x1 hEN hOF
      generalize s.bad = bd at x2 hEN hOF
      have HEN := Lib.hid hEN
      have HOF := Lib.hid hOF
      have HS1 := Lib.hid hs1
      replace x0 := cells_kept HBR.out _ _ x0
      replace x1 := cells_kept HBR.out _ _ x1
      replace x2 := cells_kept HBR.out _ _ x2
      clear hst hfw hs1 hEN hOF hf hen
      go_upto_region 5 with fail
      clear x0 x1 x2
      have hblk := heap_alloc_new wr (.cells #[.slice ta n1 tac, .slice ya n2 yac, .bool bd] 31)
      have hbx := below_then HBR.out ((Below.refl wr.heap.size wr).alloc (Nat.le_refl _) (.cells #[.slice ta n1 tac, .slice ya n2 yac, .bool bd] 31))
      have hox := HO.out.step ((Since.refl (fun _ => False) wr).alloc (.cells #[.slice ta n1 tac, .slice ya n2 yac, .bool bd] 31)) (fun _ _ h => h) (fun _ h => h.elim) (fun k hk => .inl hk)
      have HBLK := Lib.hid hblk
      have HBX := Lib.hid hbx
      have HOX := Lib.hid hox
      clear hblk hbx hox
      generalize World.alloc wr _ = X at HBLK HBX HOX ⊢
      generalize wr.heap.size = xb at HBLK ⊢
      have x0 := cell_of_block HBLK.out 0
      have x1 := cell_of_block HBLK.out 1
      have x2 := cell_of_block HBLK.out 2
      have k0 := cells_kept HBX.out _ _ (cell_of_block H1.out 0)
      have k1 := cells_kept HBX.out _ _ (cell_of_block H1.out 1)
      have k2 := cells_kept HBX.out _ _ (cell_of_block H1.out 2)
      cases en with
      | true =>
        go_upto_region 6 with (go_at_call 11; go_must (refine (HEN.out X HBX.out).mono ?_); rintro e X5 ⟨rfl, hb⟩; have HE5 := Lib.hid hb; clear hb)
        replace x0 := cells_kept HE5.out _ _ x0
        replace x1 := cells_kept HE5.out _ _ x1
        replace x2 := cells_kept HE5.out _ _ x2
        clear k0 k1 k2
        have hs2 : ET (i + 1) = ET i ++ [f] := by rw [HS1.out]; simp
        have HS2 := Lib.hid hs2
        have hol : on ≤ i := by rw [HON.out]; exact HLN.out i
        have hnx : on + 1 = (ET (i + 1)).length := by rw [hs2, List.length_append, HON.out]; rfl
        have HNX := Lib.hid hnx
        have HB5 := Lib.hid (below_then HBX.out HE5.out)
        have hox5 := HOX.out.step (since_of (fun _ => False) HE5.out) (fun _ _ h => h) (fun _ h => h.elim) (fun k hk => .inl hk)
        have HO5 := Lib.hid hox5
        clear hs2 hox5 hnx
        go_wp2_with (first | (at_builtin; go_loud (go_must (refine wpList_append_at_ _ rfl _ _ 34 rfl 70 (.agg #[.slice none 0 0, .slice none 0 0]) 2 48 Try.underlying34 final_info rfl (by decide) W.heap.size (.slice oa on oc) on (css.flatten) rfl ((HROW.out).alloc _) ⟨X6.heap.size, 0, none⟩ 1 1 [.slice ma f.mem.length mc, .slice ra f.regs.length rc] rfl rfl (row_new _ [.slice ma f.mem.length mc, .slice ra f.regs.length rc] _) (by simp [Value.oneCell']) (by unfold maxLen; omega) (by omega) (by have := HB6.out.size; simp; omega) ?_); intro ja jc X7 f1 f2 f3 f4 f5 f6; have HP := Lib.hid (HO6.out.push (x := f) (cs := [.slice ma f.mem.length mc, .slice ra f.regs.length rc]) (((Since.refl _ X6).alloc _).trans f4 (fun k hk => .inl hk)) (fun k hk => .inl hk) (fun k hk => (f5 k hk).imp id (fun e => by rw [e]; simp)) (fun y hy => ⟨_, _, rfl, HAW.out y (hy.mono (fun k _ hk => (HO5.out.row.lt k hk).2))⟩) rfl (by rw [← HON.out]; exact f1)); have HF4 := Lib.hid f4; clear f1 f2 f3 f4 f5 f6)) | (go_at_call 30; go_must (refine (HOF.out X5 HB5.out).mono ?_); rintro e X6 ⟨⟨mv, rv, rfl, haw⟩, hb⟩; have HAW := Lib.hid haw; have HB6 := Lib.hid (below_then HB5.out hb); have HO6 := Lib.hid (HO5.out.step (since_of (fun _ => False) hb) (fun _ _ h => h) (fun _ h => h.elim) (fun k hk => .inl hk)); (obtain ⟨ma, mc, rfl, -⟩ := SliceR.slice haw.now.mem); (obtain ⟨ra, rc, rfl, -⟩ := SliceR.slice haw.now.regs); (have hr6 := HO6.out.row); rw [← HON.out] at hr6; (have HROW := Lib.hid hr6); clear haw hb x0 x1 x2 hr6; unfold finalV))
        go_roundg (n - (i + 1))
        case measure => rw [HG.out]; omega
        case rel => exact ⟨i + 1, ja, on + 1, jc, _, by omega, rfl, rfl, by simp, by rw [Hid, HS2.out]; exact HP.out, HNX.out, HB6.out.trans ((((Since.refl _ X6).alloc _).trans HF4.out (fun k hk => .inl hk)).below HB6.out.size (fun k hk => (HROW.out.lt k hk).1))⟩
      | false =>
        go_wp2_with (go_at_call 11; go_must (refine (HEN.out X HBX.out).mono ?_); rintro e X5 ⟨rfl, hb⟩; have HE5 := Lib.hid hb; clear hb)
        have hs2 : ET (i + 1) = ET i := by rw [HS1.out]; simp
        have HS2 := Lib.hid hs2
        have hox5 := HOX.out.step (since_of (fun _ => False) HE5.out) (fun _ _ h => h) (fun _ h => h.elim) (fun k hk => .inl hk)
        have HO5 := Lib.hid hox5
        have HB5 := Lib.hid (below_then HBX.out HE5.out)
        clear hs2 hox5
        go_roundg (n - (i + 1))
        case measure => rw [HG.out]; omega
        case rel => exact ⟨i + 1, oa, on, oc, css, by omega, rfl, rfl, by simp, by rw [Hid, HS2.out]; exact HO5.out, by rw [Hid, HS2.out]; exact HON.out, HB5.out⟩
    · obtain rfl : n = i := by omega
      have hsort := psort_any wr M (ET n) _ (by have := HO.out.slice; exact this) HEM.out HEF.out (by have := HLN.out n; omega)
      have HSORT := Lib.hid hsort
      clear hsort
      go_wp2_with (go_at_call 31; go_must (refine HSORT.out.mono ?_); rintro e W2 ⟨r, hr, ⟨xa, xc, rfl, hx⟩, hb⟩; (obtain rfl := HFIN.out r hr); (have HX := Lib.hid hx); (have HB2 := Lib.hid (HOUT.out _ (below_then HBR.out hb))); clear hx hb hr)
      go_ret
      exact ⟨⟨xa, xc, rfl, HX.out⟩, HB2.out⟩
end Go.Proofs.Ytnlkbboghcdpnaa
namespace Go.Proofs.Ytnlkbboghcdpnaa
open Go.RowKit

def num1 : ExprT := .mk 1 1 0 []
def noE : ExprT := .mk 0 0 0 []
def dekkerC : CodeD := ⟨2, 2, [[⟨2, 0, 0, num1, noE, 0⟩, ⟨1, 0, 1, noE, noE, 0⟩], [⟨2, 0, 1, num1, noE, 0⟩, ⟨1, 0, 0, noE, noE, 0⟩]]⟩
theorem num_any (w : World) : Calls Try.prog 44 #[.int .i64 1] w fun e w' => e = .returned (.agg #[.int .i64 1, .int .i64 1, .int .u8 0, .slice none 0 0]) ∧ Below w.heap.size w w' := by
  go_enter Try.func44, Try.ntmps44
  go_wp2
  exact bodyPost_ret (v := .agg #[.int .i64 1, .int .i64 1, .int .u8 0, .slice none 0 0]) (by simp [results, Try.results44, go_sem]) rfl ⟨rfl, (Below.refl _ _).alloc (Nat.le_refl _) _⟩
theorem rows_at {d : Nat} {w : World} {l : List (List InstrD)} {g m : Nat} {vs : List Value} {t : TypeId} (hb : w.heap[g]? = some (.cells vs.toArray t (0, 0))) (hm : l.length ≤ 9223372036854775807) (h : ∀ j, j < l.length → ∃ v, vs[j]? = some v ∧ InstrsAt d w v (l.getD j [])) : RowsAt d w (.slice (some ⟨g, 0, none⟩) l.length m) l :=
  ⟨_, _, rfl, hm, fun j hj => by
    obtain ⟨v, hv, hi⟩ := h j hj
    refine ⟨g, 0, [v], rfl, lt_of_block hb, rfl, fun i hi => ?_, v, rfl, hi⟩
    obtain rfl : i = 0 := by omega
    rw [show 0 + j * 1 + 0 = j by omega, cell_of_block hb, List.getElem?_toArray, hv]; rfl⟩
theorem expr_leaf (w : World) (k n o : Int) : ExprAt 1 w (.mk k n o []) (.slice none 0 0) := ⟨none, 0, rfl, by simp [ExprT.kids], fun j hj => by simp [ExprT.kids] at hj⟩
theorem code_size : (Try.prog.info? 24).map (·.size) = some 3 := by kernel_rfl
def leafC (x : InstrD) : List Value := x.cells (.slice none 0 0) (.slice none 0 0)
theorem leaf_len (x : InstrD) : (leafC x).length = 12 := rfl
theorem leaf_expr (w : World) {x : ExprT} (h : x.kids = []) : ExprAt 1 w x (.slice none 0 0) := by
  obtain ⟨k, n, o, l⟩ := x
  have : l = [] := h
  subst this
  exact expr_leaf _ _ _ _
theorem leaf_instrs {w : World} {g m : Nat} {l : List InstrD} {t : TypeId} (hb : w.heap[g]? = some (.cells (flatC leafC l).toArray t (0, 0))) (hl : l.length ≤ maxLen) (hm : l.length = m) (h : ∀ j, j < l.length → (l.getD j default).a.kids = [] ∧ (l.getD j default).b.kids = []) : InstrsAt 1 w (.slice (some ⟨g, 0, none⟩) m m) l := by
  subst hm
  exact SliceR.of_row (R := InstrR 1) (row_of_block (B := 0) hb (Nat.zero_le _) (flatC_len leaf_len l) hl) fun j hj => ⟨leafC (l.getD j default), leaf_len _, fun _ hi => flatC_at leaf_len hj hi, _, _, rfl, leaf_expr _ (h j hj).1, leaf_expr _ (h j hj).2⟩
def DekEnd (w : World) (e : Ending) (w' : World) : Prop := (∃ tv, e = .returned (codeV dekkerC tv) ∧ RowsAt 1 w' tv dekkerC.threads) ∧ Below w.heap.size w w'
set_option maxRecDepth 100000 in
set_option maxHeartbeats 4000000 in
theorem dekker_any (w : World) : Calls Try.prog 24 #[] w (DekEnd w) := by
  go_enter Try.func24, Try.ntmps24
  go_upto_region 1 with fail
  have L0 := Lib.hid ((Loc.start w).alloc 24 [.int .i64 0, .int .i64 0, .slice none 0 0])
  generalize World.alloc w _ = W0 at L0 ⊢
  generalize w.heap.size = g at L0 ⊢
  go_upto_region 2 with (go_at_call 44; go_must (refine (num_any _).mono ?_); rintro e W1 ⟨rfl, hb⟩; have L1 := Lib.hid ((L0.out.later hb).alloc 64 [.int .i64 2, .int .i64 0, .int .i64 0, .int .i64 1, .int .i64 1, .int .u8 0, .slice none 0 0, .int .i64 0, .int .i64 0, .int .u8 0, .slice none 0 0, .int .i64 0, .int .i64 1, .int .i64 0, .int .i64 1, .int .i64 0, .int .i64 0, .int .u8 0, .slice none 0 0, .int .i64 0, .int .i64 0, .int .u8 0, .slice none 0 0, .int .i64 0]); clear hb L0)
  generalize World.alloc W1 _ = X at L1 ⊢
  generalize W1.heap.size = b1 at L1 ⊢
  go_upto_region 3 with (go_at_call 44; go_must (refine (num_any _).mono ?_); rintro e W2 ⟨rfl, hb⟩; have L3 := Lib.hid ((L1.out.later hb).alloc 64 [.int .i64 2, .int .i64 0, .int .i64 1, .int .i64 1, .int .i64 1, .int .u8 0, .slice none 0 0, .int .i64 0, .int .i64 0, .int .u8 0, .slice none 0 0, .int .i64 0, .int .i64 1, .int .i64 0, .int .i64 0, .int .i64 0, .int .i64 0, .int .u8 0, .slice none 0 0, .int .i64 0, .int .i64 0, .int .u8 0, .slice none 0 0, .int .i64 0]); clear hb L1)
  generalize World.alloc W2 _ = Y at L3 ⊢
  generalize W2.heap.size = b2 at L3 ⊢
  have l5 := L3.out.alloc 59 [.slice (some ⟨b1, 0, none⟩) 2 2, .slice (some ⟨b2, 0, none⟩) 2 2]
  have hg := (l5.news (g, 24, [.int .i64 0, .int .i64 0, .slice none 0 0]) (by simp)).1
  have L5 := Lib.hid l5
  have k0 := cell_of_block hg 0
  have k1 := cell_of_block hg 1
  have k2 := cell_of_block hg 2
  have z0 := free_of_block hg 0
  have z1 := free_of_block hg 1
  have z2 := free_of_block hg 2
  clear l5 hg L3
  go_wp2
  have l6 := L5.out.store (g := g) (t := 24) (cs := [.int .i64 0, .int .i64 0, .slice none 0 0]) (by simp) [.int .i64 2, .int .i64 2, .slice (some ⟨Y.heap.size, 0, none⟩) 2 2] rfl
  have ha := L5.out.apart
  simp only [List.map_cons, List.map_nil, List.nodup_cons, List.mem_cons, List.not_mem_nil, or_false, not_or] at ha
  have hg := (l6.news _ (upd_mem (t := 24) (cs := [.int .i64 0, .int .i64 0, .slice none 0 0]) (by simp))).1
  have hy := (l6.news _ (mem_upd (p := (Y.heap.size, 59, [.slice (some ⟨b1, 0, none⟩) 2 2, .slice (some ⟨b2, 0, none⟩) 2 2])) (by simp) ha.1.2.2)).1
  have h2 := (l6.news _ (mem_upd (p := (b2, 64, [.int .i64 2, .int .i64 0, .int .i64 1, .int .i64 1, .int .i64 1, .int .u8 0, .slice none 0 0, .int .i64 0, .int .i64 0, .int .u8 0, .slice none 0 0, .int .i64 0, .int .i64 1, .int .i64 0, .int .i64 0, .int .i64 0, .int .i64 0, .int .u8 0, .slice none 0 0, .int .i64 0, .int .i64 0, .int .u8 0, .slice none 0 0, .int .i64 0])) (by simp) ha.2.1.2)).1
  have h1 := (l6.news _ (mem_upd (p := (b1, 64, [.int .i64 2, .int .i64 0, .int .i64 0, .int .i64 1, .int .i64 1, .int .u8 0, .slice none 0 0, .int .i64 0, .int .i64 0, .int .u8 0, .slice none 0 0, .int .i64 0, .int .i64 1, .int .i64 0, .int .i64 1, .int .i64 0, .int .i64 0, .int .u8 0, .slice none 0 0, .int .i64 0, .int .i64 0, .int .u8 0, .slice none 0 0, .int .i64 0])) (by simp) ha.2.2.1)).1
  have L6 := Lib.hid l6.below
  change bodyPost _ _ _ _ _ (setAll _ g 0 [.int .i64 2, .int .i64 2, .slice (some ⟨Y.heap.size, 0, none⟩) 2 2])
  generalize setAll _ g 0 _ = Z at hg hy h2 h1 L6 ⊢
  refine bodyPost_ret (results_cell rfl _ _ g 24 _ (0, 0) _ rfl hg Try.underlying24 rfl code_size) rfl ?_
  refine ⟨⟨_, rfl, rows_at (l := dekkerC.threads) hy (by decide) fun j hj => ?_⟩, L6.out⟩
  match j, hj with
  | 0, _ => exact ⟨_, rfl, leaf_instrs (l := [⟨2, 0, 0, num1, noE, 0⟩, ⟨1, 0, 1, noE, noE, 0⟩]) h1 (by decide) rfl (fun j hj => by match j, hj with | 0, _ => exact ⟨rfl, rfl⟩ | 1, _ => exact ⟨rfl, rfl⟩)⟩
  | 1, _ => exact ⟨_, rfl, leaf_instrs (l := [⟨2, 0, 1, num1, noE, 0⟩, ⟨1, 0, 0, noE, noE, 0⟩]) h2 (by decide) rfl (fun j hj => by match j, hj with | 0, _ => exact ⟨rfl, rfl⟩ | 1, _ => exact ⟨rfl, rfl⟩)⟩
end Go.Proofs.Ytnlkbboghcdpnaa
