/- The fewest edges to what is looked for: the walk. -/
import Derived.Test.YtoojalcfojflhaaBack
namespace Go.Proofs.Ytoojalcfojflhaa
open Go.RowKit

/-- The seeker in memory. -/
structure SeekAt (w : World) (sb : Nat) (g : GraphD) (ea : Option Addr) (ec : Nat) (iv fv : Value) : Prop where
  block : w.heap[sb]? = some (.cells #[.slice ea g.edges.length ec, iv, .int .i64 g.marks, fv] 54 (0, 0))
  edges : EdgesAt w (.slice ea g.edges.length ec) g.edges
  initial : NumsAt w .i64 iv g.initial
theorem SeekAt.below {w w' : World} {sb : Nat} {g : GraphD} {ea : Option Addr} {ec : Nat} {iv fv : Value} (h : SeekAt w sb g ea ec iv fv) (hb : Below w.heap.size w w') : SeekAt w' sb g ea ec iv fv :=
  ⟨(hb.block sb (lt_of_block h.block)).trans h.block, h.edges.below hb, h.initial.below hb⟩
structure WaySt (w wr : World) (g : GraphD) (may : Nat → Bool) (found : Nat → Nat → Bool) (x mb : Nat) (Q : List Nat) (A : Nat → Option (Nat × Nat)) (ml : List (Int × Value)) (qa : Option Addr) (qc n k : Nat) : Prop where
  seek : Seek g may x Q A
  map : MapSteps wr mb A ml
  row : wr.ownsRow w.heap.size 3 1 (.slice qa Q.length qc) Q.length (natsV Q)
  ne : ∀ b, (Value.slice qa Q.length qc).ownBlock = some b → b ≠ mb
  base : w.heap.size ≤ mb
  below : Below w.heap.size w wr
  done : ∀ j y : Nat, j < n → Q[j]? = some y → ∀ k', g.has y k' → may (g.toOf y k') = true → g.toOf y k' ∈ Q ∧ found y k' = false
  now : ∀ y : Nat, Q[n]? = some y → ∀ k', k' < k → g.has y k' → may (g.toOf y k') = true → g.toOf y k' ∈ Q ∧ found y k' = false
section
variable {w wr wr' : World} {g : GraphD} {may : Nat → Bool} {found : Nat → Nat → Bool} {x mb : Nat} {Q : List Nat} {A : Nat → Option (Nat × Nat)} {ml : List (Int × Value)} {qa : Option Addr} {qc n k : Nat}
theorem WaySt.after (h : WaySt w wr g may found x mb Q A ml qa qc n k) (hb : Below wr.heap.size wr wr') : WaySt w wr' g may found x mb Q A ml qa qc n k :=
  ⟨h.seek, h.map.below hb, row_below h.row hb, h.ne, h.base, below_then' h.below hb, h.done, h.now⟩
where below_then' {a b c : World} (h : Below a.heap.size a b) (k : Below b.heap.size b c) : Below a.heap.size a c := h.trans (k.mono h.size)
theorem WaySt.next (h : WaySt w wr g may found x mb Q A ml qa qc n k) {i : Nat} (hi : Q[n]? = some i) (hk : may (g.toOf i k) = true → g.toOf i k ∈ Q ∧ found i k = false) : WaySt w wr g may found x mb Q A ml qa qc n (k + 1) :=
  ⟨h.seek, h.map, h.row, h.ne, h.base, h.below, h.done, fun y hy k' hk' h1 h2 => by
    rcases Nat.lt_or_eq_of_le (Nat.le_of_lt_succ hk') with e | rfl
    · exact h.now y hy k' e h1 h2
    · rw [hi] at hy; cases hy; exact hk h2⟩
theorem WaySt.over (h : WaySt w wr g may found x mb Q A ml qa qc n k) {i : Nat} (hi : Q[n]? = some i) (hk : ¬ g.has i k) : WaySt w wr g may found x mb Q A ml qa qc (n + 1) 0 :=
  ⟨h.seek, h.map, h.row, h.ne, h.base, h.below, fun j y hj hy k' h1 h2 => by
    rcases Nat.lt_or_eq_of_le (Nat.le_of_lt_succ hj) with e | rfl
    · exact h.done j y e hy k' h1 h2
    · rw [hi] at hy; cases hy
      refine h.now _ hi k' ?_ h1 h2
      unfold GraphD.has at hk h1; omega, fun _ _ k' hk' => by omega⟩
/-- A node more. -/
theorem WaySt.push (h : WaySt w wr g may found x mb Q A ml qa qc n k) {i : Nat} (hi : Q[n]? = some i) (hk : g.has i k) (hm : may (g.toOf i k) = true) (hA : A (g.toOf i k) = none) (hx : g.toOf i k ≠ x) (hn : g.toOf i k < g.edges.length) (hf : found i k = false)
    {qa' : Option Addr} {qc' : Nat} (hmap : MapInts wr' mb (mput ml (g.toOf i k : Int) (stepV (i, k)))) (hrow : wr'.ownsRow w.heap.size 3 1 (.slice qa' (Q.length + 1) qc') (Q.length + 1) (natsV Q ++ [.int .i64 (g.toOf i k : Int)])) (hne : ∀ b, (Value.slice qa' (Q.length + 1) qc').ownBlock = some b → b ≠ mb) (hb : Below w.heap.size w wr') :
    WaySt w wr' g may found x mb (Q ++ [g.toOf i k]) (upd A (g.toOf i k) (some (i, k))) (mput ml (g.toOf i k : Int) (stepV (i, k))) qa' qc' n (k + 1) := by
  have hnl : n < Q.length := (List.getElem?_eq_some_iff.1 hi).1
  refine ⟨h.seek.push hi hk rfl hm hA hx hn, ⟨hmap, fun y => ?_⟩, by simpa [natsV] using hrow, by simpa using hne, h.base, hb, fun j y hj hy k' h1 h2 => ?_, fun y hy k' hk' h1 h2 => ?_⟩
  · rw [mfind_mput]
    by_cases e : y = g.toOf i k
    · subst e; rw [if_pos rfl, upd_same]; rfl
    · rw [if_neg (by omega), upd_other _ _ _ _ e]; exact h.map.holds y
  · rw [List.getElem?_append_left (by omega)] at hy
    obtain ⟨a, b⟩ := h.done j y hj hy k' h1 h2
    exact ⟨List.mem_append_left _ a, b⟩
  · rw [List.getElem?_append_left hnl] at hy
    rcases Nat.lt_or_eq_of_le (Nat.le_of_lt_succ hk') with e | rfl
    · obtain ⟨a, b⟩ := h.now y hy k' e h1 h2
      exact ⟨List.mem_append_left _ a, b⟩
    · rw [hi] at hy; cases hy
      exact ⟨by simp, hf⟩
theorem WaySt.told (h : WaySt w wr g may found x mb Q A ml qa qc Q.length 0) : WayTold g may found x [] := by
  refine .inr ⟨rfl, fun y r k hw hk hm => ?_⟩
  have hmem : y ∈ Q := h.seek.all (fun j y hj k' h1 h2 => (h.done j y (List.getElem?_eq_some_iff.1 hj).1 hj k' h1 h2).1) hw (List.mem_of_getElem? h.seek.head)
  obtain ⟨j, hj, rfl⟩ := List.getElem_of_mem hmem
  exact (h.done j _ hj (List.getElem?_eq_getElem hj) k hk hm).2
theorem WaySt.found_ (h : WaySt w wr g may found x mb Q A ml qa qc n k) {i : Nat} (hi : Q[n]? = some i) (hk : g.has i k) (hm : may (g.toOf i k) = true) (hf : found i k = true) : ∃ l, Back A x i l ∧ l.length < g.edges.length ∧ WayTold g may found x (l.reverse ++ [(i, k)]) := by
  obtain ⟨l, h1, h2, h3⟩ := h.seek.back n i hi
  have hnl : n < Q.length := (List.getElem?_eq_some_iff.1 hi).1
  have := h.seek.size
  refine ⟨l, h2, by omega, .inl ⟨by simp, by simp; omega, i, k, l.reverse, rfl, hf, h3.append (Way.one hk hm)⟩⟩
end
set_option maxRecDepth 100000 in
set_option maxHeartbeats 4000000 in
theorem way_any (w : World) (g : GraphD) (hright : g.right = true) (sb : Nat) (ea : Option Addr) (ec : Nat) (iv : Value) (mf : FuncId) (mcap : Array Value) (hs : SeekAt w sb g ea ec iv (.func (.func mf) #[] mcap)) (may : Nat → Bool) (found : Nat → Nat → Bool) (ff : FuncId) (fcap : Array Value)
    (hmf : ∀ args W, (callFunc mf args).run Try.prog W = .ok (.enter mf args) W) (hff : ∀ args W, (callFunc ff args).run Try.prog W = .ok (.enter ff args) W)
    (hmay : ∀ W, Below w.heap.size w W → ∀ y, y < g.edges.length → Calls Try.prog mf (#[.int .i64 (y : Int)] ++ mcap) W fun e w' => e = .returned (.bool (may y)) ∧ Below W.heap.size W w')
    (hfound : ∀ W, Below w.heap.size w W → ∀ y k, g.has y k → Calls Try.prog ff (#[.int .i64 (y : Int), .agg #[.int .i64 (g.toOf y k : Int), .int .i64 (g.markOf y k)]] ++ fcap) W fun e w' => e = .returned (.bool (found y k)) ∧ Below W.heap.size W w')
    (x : Nat) (hx : x < g.edges.length) :
    Calls Try.prog 36 #[.pointer (some ⟨sb, 0, none⟩), .int .i64 (x : Int), .func (.func ff) #[] fcap] w fun e w' => ∃ v l, e = .returned v ∧ StepsRow w' w.heap.size v l ∧ Below w.heap.size w w' ∧ WayTold g may found x l := by
  obtain ⟨N, hN⟩ : ∃ N, N = g.edges.length := ⟨_, rfl⟩
  have hN1 : N ≤ 1000000 := by
    unfold GraphD.right at hright
    simp only [Bool.and_eq_true, decide_eq_true_eq] at hright
    omega
  have HS := Lib.hid hs
  have HMF := Lib.hid hmf
  have HFF := Lib.hid hff
  have HMAY := Lib.hid hmay
  have HFOUND := Lib.hid hfound
  have HRIGHT := Lib.hid hright
  have HN := Lib.hid hN
  have HX := Lib.hid hx
  have hmk := fun X => run_makeMap (P := Try.prog) 84 X
  clear hs hmf hff hmay hfound hright hN hx
  go_enter Try.func36, Try.ntmps36
  go_wp2_with fail
  clear hmk
  have hst0 : WaySt w ((w.alloc (.map #[] 0)).alloc (.cells #[.int .i64 (x : Int)] 3)) g may found x w.heap.size [x] (fun _ => none) [] (some ⟨w.heap.size + 1, 0, none⟩) 1 0 0 := by
    have hb : Below w.heap.size w ((w.alloc (.map #[] 0)).alloc (.cells #[.int .i64 (x : Int)] 3)) := boxes_below w _ _
    refine ⟨Seek.start HX.out, ⟨⟨#[], 0, boxes_first w _ _, rfl⟩, fun y => rfl⟩, ⟨rfl, .inr ⟨w.heap.size + 1, 1, _, rfl, by omega, boxes_second w _ _, Nat.le_refl _, by decide, rfl, rfl⟩⟩, ?_, Nat.le_refl _, hb, fun j y hj => by omega, fun y hy k hk => by omega⟩
    intro b hb2
    simp [Value.ownBlock] at hb2
    omega
  have HST0 := Lib.hid hst0
  clear hst0
  generalize World.alloc _ _ = W0 at HST0 ⊢
  obtain ⟨mb, hmb⟩ : ∃ mb, mb = w.heap.size := ⟨_, rfl⟩
  rw [← hmb] at HST0 ⊢
  have HMB := Lib.hid hmb
  clear hmb
  have hfl := fun X (a b : Value) => field_step X a b
  go_loopg [8, 9] N (fun gg s8 s9 wr => ∃ (n : Nat) (Q : List Nat) (A : Nat → Option (Nat × Nat)) (ml : List (Int × Value)) (qa : Option Addr) (qc : Nat), s8 = .slice qa Q.length qc ∧ s9 = .int .i64 n ∧ n ≤ Q.length ∧ Hid (gg = N - n) ∧ Hid (WaySt w wr g may found x mb Q A ml qa qc n 0))
  case atStart => exact ⟨0, [x], _, [], _, 1, rfl, rfl, by simp, rfl, HST0.out⟩
  case round =>
    obtain ⟨n, Q, A, ml, qa, qc, rfl, rfl, hnq, HG, HST⟩ := hrel
    clear HST0
    obtain ⟨ql, hql⟩ : ∃ ql, ql = Q.length := ⟨_, rfl⟩
    have hqN : ql ≤ N := by rw [hql, HN.out]; exact HST.out.seek.size
    rw [← hql] at hnq ⊢
    by_cases hlt : n < ql
    · have hltI : (n : Int) < (ql : Int) := by omega
      obtain ⟨i, hi⟩ : ∃ i, Q[n]? = some i := ⟨_, List.getElem?_eq_getElem (by omega)⟩
      have hiN : i < N := by rw [HN.out]; exact HST.out.seek.lt i (List.mem_of_getElem? hi)
      have hiI : (i : Int) < (N : Int) := by omega
      obtain ⟨qg, hqa, hqc⟩ : ∃ qg, qa = some ⟨qg, 0, none⟩ ∧ wr.cell? ⟨qg, n, none⟩ = some (.int .i64 (i : Int)) := by
        obtain ⟨g', cap, he, -, -⟩ := row_some HST.out.row (by omega)
        cases he
        exact ⟨g', rfl, by rw [HST.out.row.cellAt n (by omega)]; exact natsV_at hi⟩
      subst hqa
      have hsk := HS.out.below HST.out.below
      have d0 := cell_of_block hsk.block 0
      simp only [List.getElem?_toArray, List.getElem?_cons_zero, ← HN.out] at d0
      obtain ⟨-, eb, eo, ka, kc, rfl, heb, he0, he2⟩ := HS.out.edges.part i (by rw [← HN.out]; exact hiN)
      obtain ⟨ln, hln⟩ : ∃ ln, ln = (g.edges.getD i []).length := ⟨_, rfl⟩
      rw [← hln] at he0 he2
      have hlb : ln ≤ 9223372036854775807 := by obtain ⟨_, _, _, h⟩ := he2.slice; omega
      have he1 := cells_kept HST.out.below _ _ he0
      have HLN := Lib.hid hln
      have HEL := Lib.hid he2
      have HI := Lib.hid hi
      have HQL := Lib.hid hql
      clear hln he2 he0 heb hsk hi hql
      go_wp2_with fail
      clear d0 he1 hqc
      as_aux_lemma =>
        go_loopg [8, 37] ln (fun gg2 s8 s37 wr => ∃ (k : Nat) (Q : List Nat) (A : Nat → Option (Nat × Nat)) (ml : List (Int × Value)) (qa : Option Addr) (qc : Nat), s8 = .slice qa Q.length qc ∧ s37 = .int .i64 k ∧ k ≤ ln ∧ Hid (gg2 = ln - k) ∧ Hid (WaySt w wr g may found x mb Q A ml qa qc n k) ∧ Hid (Q[n]? = some i))
        case atStart => exact ⟨0, Q, A, ml, _, qc, by rw [HQL.out], rfl, Nat.zero_le _, rfl, HST.out, HI.out⟩
        case round =>
          obtain ⟨k, Q, A, ml, qa, qc, rfl, rfl, hkl, HG2, HST, HI⟩ := hrel
          obtain ⟨ql, hql⟩ : ∃ ql, ql = Q.length := ⟨_, rfl⟩
          have hqN : ql ≤ N := by rw [hql, HN.out]; exact HST.out.seek.size
          have hnl : n < ql := by rw [hql]; exact (List.getElem?_eq_some_iff.1 HI.out).1
          rw [← hql]
          have HQL := Lib.hid hql
          clear hql
          by_cases hlt2 : k < ln
          · have hkI : (k : Int) < (ln : Int) := by omega
            have hhas : g.has i k := by unfold GraphD.has; rw [← HLN.out]; exact hlt2
            obtain ⟨-, qb, qo, rfl, -, q1, q2⟩ := HEL.out.part k (by rw [← HLN.out]; exact hlt2)
            have hto := GraphD.right_to HRIGHT.out hhas
            obtain ⟨y, hy⟩ : ∃ y, y = g.toOf i k := ⟨_, rfl⟩
            obtain ⟨mk, hmk⟩ : ∃ mk, mk = g.markOf i k := ⟨_, rfl⟩
            rw [hto.2, ← hy] at q1
            rw [show ((g.edges.getD i []).getD k default).marks = mk from hmk.symm] at q2
            replace q1 := cells_kept HST.out.below _ _ q1
            replace q2 := cells_kept HST.out.below _ _ q2
            have hyN : y < N := by rw [HN.out, hy]; exact hto.1
            have HY := Lib.hid hy
            have HMK := Lib.hid hmk
            have HHAS := Lib.hid hhas
            have hal := (Below.refl wr.heap.size wr).alloc (Nat.le_refl _) (.cells #[.int .i64 y, .int .i64 mk] 37)
            have HNW := Lib.hid (heap_alloc_new wr (.cells #[.int .i64 y, .int .i64 mk] 37))
            have HST3 := Lib.hid (HST.out.after hal)
            clear hy hmk hhas hto hal
            go_upto_region 10 with fail
            generalize World.alloc wr _ = V at HST3 HNW ⊢
            clear HST q1 q2
            obtain ⟨e9, he9⟩ : ∃ e9, e9 = wr.heap.size := ⟨_, rfl⟩
            rw [← he9] at HNW ⊢
            clear he9
            have hsk := HS.out.below HST3.out.below
            have hcc : ∀ X, Below V.heap.size V X → X.cell? ⟨sb, 3, none⟩ = some (.func (.func mf) #[] mcap) ∧ X.cell? ⟨e9, 0, none⟩ = some (.int .i64 (y : Int)) := fun X hX =>
              ⟨cells_kept hX _ _ (cell_of_block hsk.block 3), cells_kept hX _ _ (cell_of_block HNW.out 0)⟩
            have CC := Lib.hid hcc
            have hmfn := HMF.out
            have hffn := HFF.out
            clear hsk hcc
            refine wp_region_noPanic ?_
            refine wp_region_held_drew (S := fun x => Below V.heap.size V x) (by kernel_rfl) (Below.refl _ _).drew (fun hH => ?_)
            refine wpAnyH_take (i := 0) (v := ?v1) rfl (by kernel_rfl) (by kernel_rfl) (by kernel_rfl) (fun _ _ _ h => h) (Or.inl ⟨by rfl, ?hy1⟩) (by assumption) ?_
            case hy1 => (intro x' hxx; obtain ⟨e0, e1⟩ := CC.out x' hxx; go_simp; try with_reducible rfl)
            change wpAnyH _ _ _ _ _ _ _ (Act.put _ (some 42) _) _
            simp only [Act.put, List.setIfInBounds_toArray, List.set_cons_zero, List.set_cons_succ]
            refine wpAnyH_take (i := 1) (v := ?v2) rfl (by kernel_rfl) (by kernel_rfl) (by kernel_rfl) (fun _ _ _ h => h) (Or.inl ⟨by rfl, ?hy2⟩) (by assumption) ?_
            case hy2 => (intro x' hxx; obtain ⟨e0, e1⟩ := CC.out x' hxx; go_simp; try with_reducible rfl)
            change wpAnyH _ _ _ _ _ _ _ (Act.put _ (some 43) _) _
            simp only [Act.put, List.setIfInBounds_toArray, List.set_cons_zero, List.set_cons_succ]
            refine wpAnyH_take (i := 2) (v := ?v3) rfl (by kernel_rfl) (by kernel_rfl) (by kernel_rfl) (fun _ _ _ h => h) (Or.inl ⟨by rfl, ?hy3⟩) (by assumption) ?_
            case hy3 => (intro x' hxx; obtain ⟨e0, e1⟩ := CC.out x' hxx; go_simp; try with_reducible rfl)
            change wpAnyH _ _ _ _ _ _ _ (Act.put _ (some 44) _) _
            simp only [Act.put, List.setIfInBounds_toArray, List.set_cons_zero, List.set_cons_succ]
            refine wpAnyH_take (i := 3) (v := ?v4) rfl (by kernel_rfl) (by kernel_rfl) (by kernel_rfl) (fun _ _ _ h => h) (Or.inl ⟨by rfl, ?hy4⟩) (by assumption) ?_
            case hy4 => (intro x' hxx; obtain ⟨e0, e1⟩ := CC.out x' hxx; go_simp; try with_reducible rfl)
            change wpAnyH _ _ _ _ _ _ _ (Act.put _ (some 45) _) _
            simp only [Act.put, List.setIfInBounds_toArray, List.set_cons_zero, List.set_cons_succ]
            refine wpAnyH_take (i := 4) (v := ?v5) rfl (by kernel_rfl) (by kernel_rfl) (by kernel_rfl) (fun _ _ _ h => h) (Or.inl ⟨by rfl, ?hy5⟩) (by assumption) ?_
            case hy5 => (intro x' hxx; obtain ⟨e0, e1⟩ := CC.out x' hxx; go_simp; try with_reducible rfl)
            change wpAnyH _ _ _ _ _ _ _ (Act.put _ (some 46) _) _
            simp only [Act.put, List.setIfInBounds_toArray, List.set_cons_zero, List.set_cons_succ]
            refine wpAnyH_take (i := 5) (v := ?v6) rfl (by kernel_rfl) (by kernel_rfl) (by kernel_rfl) (fun _ _ _ h => h) (Or.inl ⟨by rfl, ?hy6⟩) (by assumption) ?_
            case hy6 => (intro x' hxx; obtain ⟨e0, e1⟩ := CC.out x' hxx; go_simp; try with_reducible rfl)
            change wpAnyH _ _ _ _ _ _ _ (Act.put _ (some 47) _) _
            simp only [Act.put, List.setIfInBounds_toArray, List.set_cons_zero, List.set_cons_succ]
            refine wpAnyH_ready (rs := [6]) (by kernel_rfl) (by simp) ?_
            refine AllReadyH.cons rfl (fun K hK => ?_) AllReadyH.nil
            go_simp
            refine (HMAY.out _ (HST3.out.below.trans (hH.mono HST3.out.below.size)) y (by rw [← HN.out]; exact hyN)).mono ?_
            rintro e w2 ⟨rfl, hb2⟩
            have hH2 : Below V.heap.size V w2 := below_then hH hb2
            refine hK.out _ _ hH2 (fun _ => ?_)
            clear hK K hb2 hH
            obtain ⟨rm, hrm⟩ : ∃ rm, rm = may y := ⟨_, rfl⟩
            rw [← hrm]
            have HRM := Lib.hid hrm
            clear hrm
            refine wpAnyH_take (i := 7) (v := ?v7) rfl (by kernel_rfl) (by kernel_rfl) (by kernel_rfl) (fun _ _ _ h => h) (Or.inl ⟨by rfl, ?hy7⟩) (by assumption) ?_
            case hy7 => (intro x' hxx; obtain ⟨e0, e1⟩ := CC.out x' hxx; go_simp; try with_reducible rfl)
            change wpAnyH _ _ _ _ _ _ _ (Act.put _ (some 49) _) _
            simp only [Act.put, List.setIfInBounds_toArray, List.set_cons_zero, List.set_cons_succ]
            refine wpAnyH_done (by kernel_rfl) ?_ _
            refine NoPanic.normal ?_
            have HST4 := Lib.hid (HST3.out.after hH2)
            have r0 := cells_kept hH2 _ _ (cell_of_block HNW.out 0)
            have r1 := cells_kept hH2 _ _ (cell_of_block HNW.out 1)
            clear hH2 CC HST3 HNW
            cases rm
            · go_wp2_with fail
              go_roundg (ln - (k + 1))
              case measure => rw [HG2.out]; omega
              case rel => exact ⟨k + 1, Q, A, ml, qa, qc, by rw [HQL.out], by simp, by omega, rfl, HST4.out.next HI.out (fun h => by rw [← HY.out, ← HRM.out] at h; cases h), HI.out⟩
            · have hcf := HFOUND.out w2 HST4.out.below i k HHAS.out
              rw [← HY.out, ← HMK.out] at hcf
              have HCF := Lib.hid hcf
              clear hcf
              go_wp2_with fail
              refine HCF.out.mono ?_
              rintro e w3 ⟨rfl, hb3⟩
              have HST5 := Lib.hid (HST4.out.after hb3)
              replace r0 := cells_kept hb3 _ _ r0
              clear hb3 HST4 HCF r1
              obtain ⟨rf, hrf⟩ : ∃ rf, rf = found i k := ⟨_, rfl⟩
              rw [← hrf]
              have HRF := Lib.hid hrf
              clear hrf
              cases rf
              · obtain ⟨had, a1, a2, hA1, hA2⟩ : ∃ (had : Bool) (a1 a2 : Nat), (A y).isSome = had ∧ (mfind ml (y : Int)).getD (.agg #[.int .i64 0, .int .i64 0]) = .agg #[.int .i64 (a1 : Int), .int .i64 (a2 : Int)] := by
                  rw [HST5.out.map.holds y]
                  cases hAy : A y with
                  | none => exact ⟨false, 0, 0, rfl, rfl⟩
                  | some p => exact ⟨true, p.1, p.2, rfl, rfl⟩
                have hlk : (Instr.lookup 84 (.map (some mb)) (.int .i64 (y : Int)) true).run Try.prog w3 = .ok (.tuple #[.agg #[.int .i64 (a1 : Int), .int .i64 (a2 : Int)], .bool had]) w3 := by
                  rw [run_lookup_ints HST5.out.map.at_ Try.underlying84 Try.underlying3 (zero_step_run w3) y true, hA2]
                  have : (mfind ml (y : Int)).isSome = had := by rw [HST5.out.map.holds y, Option.isSome_map]; exact hA1
                  rw [this]; rfl
                have HA1 := Lib.hid hA1
                clear hA1 hA2
                go_upto_region 14 with fail
                have HST6 := Lib.hid (HST5.out.after ((Below.refl w3.heap.size w3).alloc (Nat.le_refl _) (.cells #[.int .i64 (a1 : Int), .int .i64 (a2 : Int)] 60)))
                replace r0 := cells_kept ((Below.refl w3.heap.size w3).alloc (Nat.le_refl _) (.cells #[.int .i64 (a1 : Int), .int .i64 (a2 : Int)] 60)) _ _ r0
                clear hlk HST5
                generalize World.alloc w3 _ = V2 at HST6 r0 ⊢
                cases had
                · have hAn : A y = none := by simpa using HA1.out
                  by_cases hyx : y = x
                  · have hnx : ((y : Int) != (x : Int)) = false := by simp [hyx]
                    have hnext := HST6.out.next HI.out (fun _ => ⟨by rw [← HY.out, hyx]; exact List.mem_of_getElem? HST6.out.seek.head, HRF.out.symm⟩)
                    have HNEXT := Lib.hid hnext
                    clear hnext hyx hAn HA1
                    go_wp2_with fail
                    go_roundg (ln - (k + 1))
                    case measure => rw [HG2.out]; omega
                    case rel => exact ⟨k + 1, Q, A, ml, qa, qc, by rw [HQL.out], by simp, by omega, rfl, HNEXT.out, HI.out⟩
                  · have hnx : ((y : Int) != (x : Int)) = true := by rw [bne_iff_ne]; omega
                    have HAN := Lib.hid hAn
                    have HYX := Lib.hid hyx
                    clear hAn hyx HA1
                    go_upto_region 15 with fail
                    obtain ⟨W2, hup, hm2, hs2, hz2⟩ := run_update_ints (P := Try.prog) HST6.out.map.at_ Try.underlying84 Try.underlying3 (y : Int) (.agg #[.int .i64 (i : Int), .int .i64 (k : Int)])
                    have hrow2 := hs2.row HST6.out.row (fun b hb e => HST6.out.ne b hb e)
                    have hb2 : Below w.heap.size w W2 := HST6.out.below.trans (hs2.below HST6.out.below.size (fun b hb => by rw [hb]; exact HST6.out.base))
                    have r0' : W2.cell? ⟨e9, 0, none⟩ = some (.int .i64 (y : Int)) := (hs2.cell (World.block_lt_of_cell? V2 _ r0) (fun e => by
                      have e : e9 = mb := e
                      obtain ⟨es, ck, he, -⟩ := HST6.out.map.at_
                      have h1 := r0
                      rw [e] at h1
                      simp [World.cell?, he] at h1)).trans r0
                    rw [← HQL.out] at hrow2
                    have HROW2 := Lib.hid hrow2
                    have HM2 := Lib.hid hm2
                    have HB2 := Lib.hid hb2
                    have HZ2 := Lib.hid hz2
                    clear hm2 hs2 hz2 hrow2 hb2
                    go_wp2_with (at_builtin; go_must (refine wpList_append_at_ _ rfl _ _ 23 rfl 3 (.int .i64 0) 1 8 Try.underlying23 int_info rfl (by decide) w.heap.size (.slice qa ql qc) ql (natsV Q) rfl (HROW2.out.alloc _) ⟨W2.heap.size, 0, none⟩ 1 1 [.int .i64 (y : Int)] rfl rfl (cell_one_new _ _ _) (by simp [Value.oneCell']) (by unfold maxLen; omega) (by omega) (by have := HB2.out.size; simp; omega) ?_); intro a' c' W3 e1 e2 e3 e4 e5 e6; have HE1 := Lib.hid e1; have HE4 := Lib.hid e4; have HE5 := Lib.hid e5; clear e1 e2 e3 e4 e5 e6 hup r0 r0')
                    go_roundg (ln - (k + 1))
                    case measure => rw [HG2.out]; omega
                    case rel =>
                      have hy := HY.out
                      subst hy
                      have hq := HQL.out
                      subst hq
                      have hb3 : Below w.heap.size w W3 := (HB2.out.alloc HB2.out.size _).trans (HE4.out.below (by have := HB2.out.size; simp; omega) (fun b hb => (HROW2.out.lt b hb).1))
                      have hm3 : MapInts W3 mb (mput ml (g.toOf i k : Int) (stepV (i, k))) := (HM2.out.below ((Below.refl _ _).alloc (Nat.le_refl _) _)).since HE4.out (fun e => HST6.out.ne mb e rfl)
                      refine ⟨k + 1, Q ++ [g.toOf i k], upd A (g.toOf i k) (some (i, k)), _, a', c', by simp, by simp, by omega, rfl, HST6.out.push HI.out HHAS.out HRM.out.symm HAN.out HYX.out (by rw [← HN.out]; exact hyN) HRF.out.symm hm3 HE1.out (fun b hb => ?_) hb3, by rw [Hid, List.getElem?_append_left hnl]; exact HI.out⟩
                      rcases HE5.out b hb with e | e
                      · exact HST6.out.ne b e
                      · rintro rfl
                        have := HM2.out.lt
                        simp at e; omega
                · have hnext := HST6.out.next HI.out (fun _ => ⟨by rw [← HY.out]; exact ((HST6.out.seek.dom y).1 HA1.out).1, HRF.out.symm⟩)
                  have HNEXT := Lib.hid hnext
                  clear hnext HA1
                  go_wp2_with fail
                  go_roundg (ln - (k + 1))
                  case measure => rw [HG2.out]; omega
                  case rel => exact ⟨k + 1, Q, A, ml, qa, qc, by rw [HQL.out], by simp, by omega, rfl, HNEXT.out, HI.out⟩
              · obtain ⟨l, hl1, hl2, hl3⟩ := HST5.out.found_ HI.out HHAS.out (by rw [← HY.out, ← HRM.out]) (by rw [← HRF.out])
                have hback := back_any w3 mb A ml HST5.out.map x i l hl1 (by have := HN.out; omega)
                have HBACK := Lib.hid hback
                have HL3 := Lib.hid hl3
                have HLL : Hid (l.length < N) := by rw [Hid, HN.out]; exact hl2
                clear hback hl3 hl1 hl2
                go_wp2_with fail
                refine HBACK.out.mono ?_
                rintro e w4 ⟨v, rfl, hs4, hb4⟩
                obtain ⟨oa, oc, rfl, ho1, ho2⟩ := hs4.slice
                obtain ⟨on, hon⟩ : ∃ on, on = l.reverse.length := ⟨_, rfl⟩
                have hon1 : on ≤ 1000000 := by have := HLL.out; rw [hon, List.length_reverse]; omega
                unfold StepsRow at hs4
                rw [← hon] at ho1 hs4 ⊢
                have HB4 : Hid (Below w.heap.size w w4) := HST5.out.below.trans (hb4.mono HST5.out.below.size)
                have HS4 := Lib.hid (row_mono hs4 HST5.out.below.size)
                have HON := Lib.hid hon
                clear hs4 hb4 HBACK hon
                go_wp2_with (at_builtin; go_must (refine wpList_append_at_ _ rfl _ _ 55 rfl 60 (.agg #[.int .i64 0, .int .i64 0]) 2 16 Try.underlying55 step_info rfl (by decide) w.heap.size (.slice oa on oc) on (stepsV l.reverse) rfl (HS4.out.alloc _) ⟨w4.heap.size, 0, none⟩ 1 1 [.int .i64 (i : Int), .int .i64 (k : Int)] rfl rfl (two_new _ _ _ _) (by simp [Value.oneCell']) (by unfold maxLen; omega) (by omega) (by have := HB4.out.size; simp; omega) ?_); intro a' c' W5 e1 e2 e3 e4 e5 e6; have HE1 := Lib.hid e1; have HB5 : Hid (Below w.heap.size w W5) := (HB4.out.alloc HB4.out.size _).trans (e4.below (by have := HB4.out.size; simp; omega) (fun b hb => (HS4.out.lt b hb).1)); clear e1 e2 e3 e4 e5 e6)
                go_ret
                refine ⟨_, l.reverse ++ [(i, k)], rfl, ?_, HB5.out, HL3.out⟩
                unfold StepsRow
                rw [stepsV_append, List.length_append, ← HON.out]
                exact HE1.out
          · obtain rfl : k = ln := by omega
            have hover := HST.out.over HI.out (by unfold GraphD.has; rw [← HLN.out]; omega)
            have HOV := Lib.hid hover
            clear hover
            go_wp2_with fail
            go_roundg (N - (n + 1))
            case measure => rw [HG.out]; omega
            case rel => exact ⟨n + 1, Q, A, ml, qa, qc, by rw [HQL.out], by simp, by rw [← HQL.out]; omega, rfl, HOV.out⟩
    · obtain rfl : n = ql := by omega
      have htold := HST.out
      rw [hql] at htold
      have HTOLD := Lib.hid htold.told
      have HBE := Lib.hid HST.out.below
      clear htold hql
      go_wp2_with fail
      go_ret
      exact ⟨_, [], rfl, World.ownsRow_nil _ _ _ _, HBE.out, HTOLD.out⟩
end Go.Proofs.Ytoojalcfojflhaa
