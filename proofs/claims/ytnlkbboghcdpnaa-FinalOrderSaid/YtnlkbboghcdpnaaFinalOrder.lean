/- Of code by numbers: the order of states makes no difference, and finals rise: the walk of the law. -/
import Derived.Test.YtnlkbboghcdpnaaFinMadeP
namespace Go.Proofs.Ytnlkbboghcdpnaa
open Go.RowKit

theorem wrap_big (j : Nat) (h : j ≤ 9223372036854775807) : IntKind.i64.wrap (j : Int) = (j : Int) := IntWalk.i64_in _ (by omega)
theorem turned_mem {α : Type} {l : List α} {k : Nat} {s : α} : s ∈ l.drop k ++ l.take k ↔ s ∈ l := by
  rw [List.mem_append, or_comm, ← List.mem_append, List.take_append_drop]
theorem finals_turned {c : CodeD} {l : List StateD} {M : Nat} (k : Nat) (hM : ∀ s ∈ l, s.mem.length = M) (hR : ∀ s ∈ l, ∀ t ∈ s.threads, t.regs.length = 4) : finalsS c (l.drop k ++ l.take k) = finalsS c l := by
  have hends : ∀ x, x ∈ endsS c (l.drop k ++ l.take k) ↔ x ∈ endsS c l := fun x => by
    unfold endsS
    simp only [List.mem_map, List.mem_filter, turned_mem]
  obtain ⟨k1, k2, k3⟩ := finalsTo_facts (c := c) (l := l.drop k ++ l.take k) (M := M) (fun s hs => hM s (turned_mem.1 hs)) _ (Nat.le_refl _)
  rw [List.take_length] at k2 k3
  exact finals_of hM hR k1 (fun x hx => (hends x).1 (k2 x hx)) (fun x hx => k3 x ((hends x).2 hx))
theorem rises_next {l : List FinalD} (h : Rises l) {i : Nat} (hi : i + 1 < l.length) : belowD (l.getD i default) (l.getD (i + 1) default) = true := by
  rw [belowD_iff]
  simp only [List.getD_eq_getElem?_getD, List.getElem?_eq_getElem hi, List.getElem?_eq_getElem (show i < l.length by omega), Option.getD_some]
  exact List.pairwise_iff_getElem.1 h i (i + 1) (by omega) hi (by omega)
section
variable {α : Type} [Inhabited α] {R : World → α → List Value → Prop} {size b off n cap : Nat} {w : World} {l : List α}
theorem SliceR.from_ (h : SliceR R size w (.slice (some ⟨b, off, none⟩) n cap) l) (k : Nat) (hk : k ≤ n) (c' : Nat) : SliceR R size w (.slice (some ⟨b, off + k * size, none⟩) (n - k) c') (l.drop k) := by
  obtain ⟨a, cap', he, h2, h4⟩ := h
  cases he
  refine ⟨_, c', by rw [List.length_drop], by rw [List.length_drop]; omega, fun j hj => ?_⟩
  rw [List.length_drop] at hj
  obtain ⟨b', o', cs, h5, h6, h7, h8, h9⟩ := h4 (k + j) (by omega)
  cases h5
  refine ⟨b, off + k * size, cs, rfl, h6, h7, fun i hi => ?_, ?_⟩
  · rw [← h8 i hi, Nat.add_mul]
    congr 2; omega
  · rw [show (l.drop k).getD j default = l.getD (k + j) default by simp only [List.getD_eq_getElem?_getD, List.getElem?_drop]]; exact h9
theorem SliceR.upto {a : Option Addr} (h : SliceR R size w (.slice a n cap) l) (k : Nat) (hk : k ≤ n) (c' : Nat) : SliceR R size w (.slice a k c') (l.take k) := by
  obtain ⟨a', cap', he, h2, h4⟩ := h
  cases he
  have hl : (l.take k).length = k := by rw [List.length_take]; omega
  refine ⟨a, c', by rw [hl], by omega, fun j hj => ?_⟩
  rw [hl] at hj
  obtain ⟨b', o', cs, h5, h6, h7, h8, h9⟩ := h4 j (by omega)
  exact ⟨b', o', cs, h5, h6, h7, h8, by rw [show (l.take k).getD j default = l.getD j default by simp only [List.getD_eq_getElem?_getD, List.getElem?_take_of_lt hj]]; exact h9⟩
/-- The cells of what lies in a slice. -/
theorem SliceR.rows {A : Addr} (h : SliceR R size w (.slice (some A) n cap) l) (hsz : 0 < size) (h1 : ∀ x cs, R w x cs → ∀ u ∈ cs, u.oneCell' = true) : ∃ css : List (List Value), css.length = n ∧ l.length = n ∧ (∀ j, j < l.length → (css.getD j []).length = size ∧ R w (l.getD j default) (css.getD j [])) ∧
    (∀ j u, css.flatten[j]? = some u → w.cell? (A.add j) = some u) ∧ css.flatten.length = n * size ∧ ∀ u ∈ css.flatten, u.oneCell' = true := by
  have hpart := fun j hj => h.part j hj
  obtain ⟨a', cap', he, h2, -⟩ := h
  cases he
  have hch : ∃ f : Nat → List Value, ∀ j, j < l.length → ∃ b off, A = ⟨b, off, none⟩ ∧ (f j).length = size ∧ (∀ i, i < size → w.cell? ⟨b, off + j * size + i, none⟩ = (f j)[i]?) ∧ R w (l.getD j default) (f j) := by
    refine ⟨fun j => if hj : j < l.length then (hpart j hj).choose_spec.choose_spec.choose else [], fun j hj => ?_⟩
    have hs := (hpart j hj).choose_spec.choose_spec.choose_spec
    simp only [hj, dif_pos]
    exact ⟨_, _, Option.some.inj hs.1, hs.2.2.1, hs.2.2.2.1, hs.2.2.2.2⟩
  obtain ⟨f, hf⟩ := hch
  have hget : ∀ j, j < l.length → (((List.range l.length).map f).getD j []) = f j := fun j hj => by
    simp [List.getD_eq_getElem?_getD, hj]
  have hlen : ∀ j, j < ((List.range l.length).map f).length → (((List.range l.length).map f).getD j []).length = size := fun j hj => by
    rw [List.length_map, List.length_range] at hj
    rw [hget j hj]
    obtain ⟨_, _, _, h, _⟩ := hf j hj
    exact h
  have hfl : ∀ m, m ≤ l.length → (((List.range m).map f).flatten).length = m * size := by
    intro m
    induction m with
    | zero => intro _; simp
    | succ m ih =>
      intro hm
      obtain ⟨_, _, _, h, _⟩ := hf m (by omega)
      rw [List.range_succ, List.map_append, List.flatten_append, List.length_append, ih (by omega), Nat.add_mul]
      simp [h]
  refine ⟨(List.range l.length).map f, by simp, rfl, fun j hj => ?_, fun q u hu => ?_, hfl _ (Nat.le_refl _), fun u hu => ?_⟩
  · rw [hget j hj]
    obtain ⟨_, _, _, h, _, h'⟩ := hf j hj
    exact ⟨h, h'⟩
  · have hq : q < l.length * size := by
      rcases Nat.lt_or_ge q (l.length * size) with e | e
      · exact e
      · rw [List.getElem?_eq_none (by rw [hfl _ (Nat.le_refl _)]; exact e)] at hu; cases hu
    obtain ⟨j, i, hj, hi, rfl⟩ : ∃ j i, j < l.length ∧ i < size ∧ q = j * size + i :=
      ⟨q / size, q % size, Nat.div_lt_of_lt_mul (by rw [Nat.mul_comm]; exact hq), Nat.mod_lt _ hsz, by rw [Nat.mul_comm]; exact (Nat.div_add_mod q size).symm⟩
    rw [flatten_at hlen (by simpa using hj) hi, hget j hj] at hu
    obtain ⟨b', o', rfl, _, h, _⟩ := hf j hj
    rw [show (⟨b', o', none⟩ : Addr).add (j * size + i) = ⟨b', o' + j * size + i, none⟩ by simp only [Addr.add]; split <;> (simp_all; try omega), h i hi]
    exact hu
  · obtain ⟨cs, hcs, hu⟩ := List.mem_flatten.1 hu
    obtain ⟨j, hj, rfl⟩ := List.mem_map.1 hcs
    obtain ⟨_, _, _, _, _, h⟩ := hf j (List.mem_range.1 hj)
    exact h1 _ _ h u hu
end
theorem state_one {w : World} {x : StateD} {cs : List Value} (h : StateR w x cs) : ∀ u ∈ cs, u.oneCell' = true := by
  obtain ⟨tv, mv, rfl, hs⟩ := h
  obtain ⟨_, _, rfl, -⟩ := SliceR.slice hs.threads
  obtain ⟨_, _, rfl, -⟩ := SliceR.slice hs.mem
  intro u hu
  simp only [List.mem_cons, List.not_mem_nil, or_false] at hu
  rcases hu with rfl | rfl | rfl <;> rfl
set_option maxRecDepth 100000 in
set_option maxHeartbeats 8000000 in
theorem finalOrder_any (w : World) (sv : Value) (l0 : List Int) (hn : NumsAt w .u8 sv l0) (hcap : ∀ a n c, sv = .slice a n c → n ≤ c) (q : Int) (q0 : 0 ≤ q) (q1 : q ≤ 255) (p : Int) (p0 : 0 ≤ p) (p1 : p ≤ 65535) :
    Calls Try.prog 6 #[sv, .int .u8 q, .int .u16 p] w fun e w' => e = .returned (.bool true) ∧ Below w.heap.size w w' := by
  have HSMALL : Hid (∀ y, Below w.heap.size w y → Calls Try.prog 16 #[sv] y (SmallEnd y)) := fun y hy => small10_any y sv l0 (hn.below hy) hcap
  obtain ⟨sa, sc, rfl, -⟩ : ∃ a c, sv = .slice a l0.length c ∧ True := by obtain ⟨a, c, h, -⟩ := hn; exact ⟨a, c, h, trivial⟩
  generalize l0.length = ln at HSMALL ⊢
  clear hn hcap
  have HAW : Hid (∀ y : World, Calls Try.prog 7 #[] y fun e w' => e = .returned (.bool true) ∧ Below y.heap.size y w') := fun y => awakeF_any y
  go_enter Try.func6, Try.ntmps6
  go_upto_region 4 with (go_at_call 7; go_must (refine (HAW.out w).mono ?_); rintro en W0 ⟨rfl, hb⟩; (have HB0 := Lib.hid hb); clear hb)
  go_upto_region 5 with (go_at_call 16; go_must (refine (HSMALL.out W0 HB0.out).mono ?_); rintro en W1 ⟨⟨c, tv, rfl, hc, hok, hct⟩, hb⟩; (have HB1 := Lib.hid (below_then HB0.out hb)); (have HC1 := Lib.hid hc); (obtain ⟨ca, cc, rfl, -⟩ := SliceR.slice hc); clear hb hc hok hct; unfold codeV)
  obtain ⟨C, hC⟩ : ∃ C, C = c := ⟨_, rfl⟩
  have hexp := fun y hy => explore_any y c (.slice ca c.threads.length cc) 3 hy (machS q) 400
  have hfewA := states_few c (machS q) 3
  obtain ⟨SX, hSX⟩ : ∃ SX, SX = exploreS c (machS q) 400 3 := ⟨_, rfl⟩
  rw [← hSX] at hexp hfewA
  obtain ⟨hM, hfew, h400⟩ := hfewA
  have hfin : ∀ la lc W, RowsAt 3 W (.slice ca c.threads.length cc) c.threads → StatesAt W (.slice la SX.1.states.length lc) SX.1.states → Calls Try.prog 14 #[codeV c (.slice ca c.threads.length cc), .slice la SX.1.states.length lc] W (AddEnd W (finalsS c SX.1.states)) := fun la lc W h1 h2 => finals_any W 3 c _ h1 SX.1.states _ h2 _ hM hfew (by omega)
  have hmem : ∀ x ∈ finalsS c SX.1.states, ∃ s ∈ SX.1.states, x = ofS s := fun x hx => finalsTo_mem hx
  have hturn : ∀ k la lc W, RowsAt 3 W (.slice ca c.threads.length cc) c.threads → (∃ lv, StatesAt W lv SX.1.states) → StatesAt W (.slice la SX.1.states.length lc) (SX.1.states.drop k ++ SX.1.states.take k) → Calls Try.prog 14 #[codeV c (.slice ca c.threads.length cc), .slice la SX.1.states.length lc] W (AddEnd W (finalsS c SX.1.states)) := fun k la lc W h1 ⟨lv, h0⟩ h2 => by
    have := finals_any W 3 c _ h1 (SX.1.states.drop k ++ SX.1.states.take k) _ h2 _ (fun s hs => hM s (turned_mem.1 hs)) (fun s hs => hfew s (turned_mem.1 hs)) (by rw [List.length_append, List.length_drop, List.length_take]; omega)
    rw [finals_turned k hM (regs4_of h0)] at this
    exact this
  have hrises : Rises (finalsS c SX.1.states) := (finalsTo_facts (c := c) (l := SX.1.states) hM _ (Nat.le_refl _)).1
  obtain ⟨R, hR⟩ : ∃ R, R = finalsS c SX.1.states := ⟨_, rfl⟩
  rw [← hR] at hfin hmem hturn hrises
  have hfr : ∀ j, j < R.length → fewD (R.getD j default) := fun j hj => by
    obtain ⟨s, hs, e⟩ := hmem _ (getD_mem (x := default) hj)
    rw [e]; exact fewS_of (hfew s hs)
  clear hR hM hfew hmem hSX hC C
  unfold codeV at hexp hfin hturn
  unfold machV at hexp
  generalize c.vars = vars at hexp hfin hturn ⊢
  generalize c.domain = dom at hexp hfin hturn ⊢
  generalize c.threads = cs at HC1 hexp hfin hturn ⊢
  generalize cs.length = cn at HC1 hexp hfin hturn ⊢
  have hmach := fun y => machine_any y q q0 q1
  unfold machV at hmach
  generalize (machS q).model = mo at hexp hmach
  generalize (machS q).bound = bo at hexp hmach
  obtain ⟨n, hnn⟩ : ∃ n, n = SX.1.states.length := ⟨_, rfl⟩
  rw [← hnn] at hfin h400 hturn
  have HN := Lib.hid hnn
  have HEXP := Lib.hid hexp
  have HFI := Lib.hid hfin
  have HTURN := Lib.hid hturn
  have HRIS := Lib.hid hrises
  have HFR := Lib.hid hfr
  have HMACH := Lib.hid hmach
  have HBV := Lib.hid (HB1.out.alloc HB1.out.size (.cells #[.int .i64 vars, .int .i64 dom, .slice ca cn cc] 24))
  have HCV := Lib.hid (SliceR.below (RowR.stays 3) HC1.out ((Below.refl W1.heap.size W1).alloc (Nat.le_refl _) (.cells #[.int .i64 vars, .int .i64 dom, .slice ca cn cc] 24)))
  have H1 := Lib.hid (heap_alloc_new W1 (.cells #[.int .i64 vars, .int .i64 dom, .slice ca cn cc] 24))
  clear hnn hturn hrises hexp hfin hfr hmach HC1 HB1
  generalize World.alloc W1 _ = V at HBV HCV H1 ⊢
  generalize W1.heap.size = gx at H1 ⊢
  go_cut [9] (fun s9 w' => ∃ (gs : Nat) (la : Option Addr) (lc : Nat) (mv nv : Value), s9 = .pointer (some ⟨gs, 0, none⟩) ∧ n ≤ lc ∧ Hid (Below V.heap.size V w') ∧ Hid (w'.heap[gs]? = some (.cells #[.slice la n lc, mv, nv] 42 (0, 0))) ∧ Hid (StatesAt w' (.slice la n lc) SX.1.states))
  case first =>
    have hT0 : Hid (Sp V V.drew none) := ⟨(Below.refl _ _).drew, fun _ h => by cases h⟩
    have CC : Hid (∀ x, Below V.heap.size V x → x.cell? ⟨gx, 0, none⟩ = some (.int .i64 vars) ∧ x.cell? ⟨gx, 1, none⟩ = some (.int .i64 dom) ∧ x.cell? ⟨gx, 2, none⟩ = some (.slice ca cn cc)) := fun x hx => ⟨cells_kept hx _ _ (cell_of_block H1.out 0), cells_kept hx _ _ (cell_of_block H1.out 1), cells_kept hx _ _ (cell_of_block H1.out 2)⟩
    refine wp_region_noPanic ?_
    refine wp_region_held_drew (S := fun x => Below V.heap.size V x) (by kernel_rfl) (Below.refl _ _).drew (fun _ => ?_)
    obtain ⟨V1, hV1⟩ : ∃ V1, V1 = V.drew := ⟨_, rfl⟩
    rw [← hV1]
    rw [← hV1] at hT0
    clear hV1
    refine wpAnyH_take (i := 0) (v := ?vx1) rfl (by kernel_rfl) (by kernel_rfl) (by kernel_rfl) (fun _ _ _ h => h) (Or.inl ⟨by rfl, ?hyx1⟩) (hT0.out.below) ?_
    case hyx1 => (intro x' hxx; obtain ⟨e0, e1, e2⟩ := CC.out x' hxx; go_simp; try with_reducible rfl)
    change wpAnyH _ _ _ _ _ _ _ (Act.put _ (some 22) _) _
    simp only [Act.put, List.setIfInBounds_toArray]
    try simp only [List.set_cons_zero, List.set_cons_succ]
    refine wpAnyH_take (i := 1) (v := ?vx2) rfl (by kernel_rfl) (by kernel_rfl) (by kernel_rfl) (fun _ _ _ h => h) (Or.inl ⟨by rfl, ?hyx2⟩) (hT0.out.below) ?_
    case hyx2 => (intro x' hxx; clear hxx; go_simp; try with_reducible rfl)
    change wpAnyH _ _ _ _ _ _ _ (Act.put _ (some 23) _) _
    simp only [Act.put, List.setIfInBounds_toArray]
    try simp only [List.set_cons_zero, List.set_cons_succ]
    refine wpAnyH_ready (rs := [2, 7]) (by kernel_rfl) (by simp) ?_
    refine AllReadyH.cons rfl (fun K hK => ?_) (AllReadyH.cons rfl (fun K hK => ?_) AllReadyH.nil)
    · skip
      go_simp
      refine (HMACH.out V1).mono ?_
      rintro en Xx2 ⟨rfl, hb⟩
      have hTx1 := Lib.hid (hT0.out.call hb)
      clear hb
      refine hK.out _ _ hTx1.out.below (fun _ => ?_)
      clear hK K
      refine wpAnyH_ready (rs := [3, 7]) (by kernel_rfl) (by simp) ?_
      refine AllReadyH.cons rfl (fun K hK => ?_) (AllReadyH.cons rfl (fun K hK => ?_) AllReadyH.nil)
      · skip
        go_simp
        refine (HEXP.out Xx2 (SliceR.below (RowR.stays 3) HCV.out hTx1.out.below)).mono ?_
        rintro en Xx4 ⟨⟨lv, mv, nv, rfl, hsp, hspA, hcp⟩, hb⟩
        obtain ⟨ma, mc, rfl, -⟩ := SliceR.slice hsp.2.1
        obtain ⟨na, nc, rfl, -⟩ := SliceR.slice hsp.2.2
        have hsp := hsp.1
        clear hspA
        generalize SX.1.moves.length = mn
        generalize SX.1.next.length = nn
        obtain ⟨la, lc, rfl, -⟩ := SliceR.slice hsp
        have hcp := hcp _ _ _ rfl
        rw [← HN.out] at hsp hcp ⊢
        have HCP := Lib.hid hcp
        clear hcp
        have HSP := Lib.hid hsp
        have hTx3 := Lib.hid (hTx1.out.call hb)
        clear hb hsp
        refine hK.out _ _ hTx3.out.below (fun _ => ?_)
        clear hK K
        refine wpAnyH_take (i := 4) (v := ?vx3) rfl (by kernel_rfl) (by kernel_rfl) (by kernel_rfl) (fun _ _ _ h => h) (Or.inl ⟨by rfl, ?hyx3⟩) (hTx3.out.below) ?_
        case hyx3 => (intro x' hxx; clear hxx; go_simp; try with_reducible rfl)
        change wpAnyH _ _ _ _ _ _ _ (Act.put _ (some 21) _) _
        simp only [Act.put, List.setIfInBounds_toArray]
        try simp only [List.set_cons_zero, List.set_cons_succ]
        refine wpAnyH_take (i := 5) (v := ?vx4) rfl (by kernel_rfl) (by kernel_rfl) (by kernel_rfl) (fun _ _ _ h => h) (Or.inl ⟨by rfl, ?hyx4⟩) (hTx3.out.below) ?_
        case hyx4 => (intro x' hxx; clear hxx; go_simp; try with_reducible rfl)
        change wpAnyH _ _ _ _ _ _ _ (Act.put _ (some 26) _) _
        simp only [Act.put, List.setIfInBounds_toArray]
        try simp only [List.set_cons_zero, List.set_cons_succ]
        refine wpAnyH_take (i := 6) (v := ?vx5) rfl (by kernel_rfl) (by kernel_rfl) (by kernel_rfl) (fun _ _ _ h => h) (Or.inl ⟨by rfl, ?hyx5⟩) (hTx3.out.below) ?_
        case hyx5 => (intro x' hxx; clear hxx; go_simp; try with_reducible rfl)
        change wpAnyH _ _ _ _ _ _ _ (Act.put _ (some 27) _) _
        simp only [Act.put, List.setIfInBounds_toArray]
        try simp only [List.set_cons_zero, List.set_cons_succ]
        refine wpAnyH_ready (rs := [7]) (by kernel_rfl) (by simp) ?_
        refine AllReadyH.cons rfl (fun K hK => ?_) AllReadyH.nil
        go_simp
        have hTx5 := hTx3.out.lay
        have hsp2 := SliceR.below StateR.stays HSP.out ((Below.refl Xx4.heap.size Xx4).alloc (Nat.le_refl _) (.cells #[.slice none 0 0, .slice none 0 0, .slice none 0 0] 42))
        refine hK.out _ _ hTx5.below (fun _ => ?_)
        obtain ⟨gs, hgs⟩ : ∃ n, n = Xx4.heap.size := ⟨_, rfl⟩
        rw [← hgs] at hTx5 ⊢
        clear hgs
        generalize World.alloc Xx4 _ = Xx6 at hTx5 hsp2 ⊢
        replace hTx5 := Lib.hid hTx5
        have HSP2 := Lib.hid hsp2
        clear hsp2
        clear hK K
        refine wpAnyH_ready (rs := [8]) (by kernel_rfl) (by simp) ?_
        refine AllReadyH.cons rfl (fun K hK => ?_) AllReadyH.nil
        obtain ⟨hp, -⟩ := hTx5.out.box gs rfl
        have q0 : Xx6.cell? ⟨gs, 0, none⟩ = some (.slice none 0 0) := cell_of_block hp 0
        have f0 := free_of_block hp 0
        have q1 : Xx6.cell? ⟨gs, 1, none⟩ = some (.slice none 0 0) := cell_of_block hp 1
        have f1 := free_of_block hp 1
        have q2 : Xx6.cell? ⟨gs, 2, none⟩ = some (.slice none 0 0) := cell_of_block hp 2
        have f2 := free_of_block hp 2
        clear hp
        go_simp
        have hput := hTx5.out.put (.slice la n lc) (.slice ma mn mc) (.slice na nn nc)
        have HPUT := Lib.hid (And.intro hput.1 (And.intro hput.2.1 (hput.2.2 _ _ HSP2.out)))
        refine hK.out _ _ hput.1 (fun _ => ?_)
        clear hput q0 q1 q2 f0 f1 f2
        clear hK K
        refine wpAnyH_take (i := 9) (v := ?vx6) rfl (by kernel_rfl) (by kernel_rfl) (by kernel_rfl) (fun _ _ _ h => h) (Or.inl ⟨by rfl, ?hyx6⟩) (HPUT.out.1) ?_
        case hyx6 => (intro x' hxx; clear hxx; go_simp; try with_reducible rfl)
        change wpAnyH _ _ _ _ _ _ _ (Act.put _ (some 10) _) _
        simp only [Act.put, List.setIfInBounds_toArray]
        try simp only [List.set_cons_zero, List.set_cons_succ]
        refine wpAnyH_done (by kernel_rfl) ?_ _
        refine NoPanic.normal ?_
        go_wp2_with fail
        go_meet
        case rel => exact ⟨gs, la, lc, _, _, rfl, HCP.out, HPUT.out.1, HPUT.out.2.1, HPUT.out.2.2⟩
      · skip
        go_simp
        have hTx7 := hTx1.out.lay
        refine hK.out _ _ hTx7.below (fun _ => ?_)
        obtain ⟨gs, hgs⟩ : ∃ n, n = Xx2.heap.size := ⟨_, rfl⟩
        rw [← hgs] at hTx7 ⊢
        clear hgs
        generalize World.alloc Xx2 _ = Xx8 at hTx7 ⊢
        replace hTx7 := Lib.hid hTx7
        clear hK K
        refine wpAnyH_ready (rs := [3]) (by kernel_rfl) (by simp) ?_
        refine AllReadyH.cons rfl (fun K hK => ?_) AllReadyH.nil
        go_simp
        refine (HEXP.out Xx8 (SliceR.below (RowR.stays 3) HCV.out hTx7.out.below)).mono ?_
        rintro en Xx10 ⟨⟨lv, mv, nv, rfl, hsp, hspA, hcp⟩, hb⟩
        obtain ⟨ma, mc, rfl, -⟩ := SliceR.slice hsp.2.1
        obtain ⟨na, nc, rfl, -⟩ := SliceR.slice hsp.2.2
        have hsp := hsp.1
        clear hspA
        generalize SX.1.moves.length = mn
        generalize SX.1.next.length = nn
        obtain ⟨la, lc, rfl, -⟩ := SliceR.slice hsp
        have hcp := hcp _ _ _ rfl
        rw [← HN.out] at hsp hcp ⊢
        have HCP := Lib.hid hcp
        clear hcp
        have HSP := Lib.hid hsp
        have hTx9 := Lib.hid (hTx7.out.call hb)
        clear hb hsp
        refine hK.out _ _ hTx9.out.below (fun _ => ?_)
        clear hK K
        refine wpAnyH_take (i := 4) (v := ?vx7) rfl (by kernel_rfl) (by kernel_rfl) (by kernel_rfl) (fun _ _ _ h => h) (Or.inl ⟨by rfl, ?hyx7⟩) (hTx9.out.below) ?_
        case hyx7 => (intro x' hxx; clear hxx; go_simp; try with_reducible rfl)
        change wpAnyH _ _ _ _ _ _ _ (Act.put _ (some 21) _) _
        simp only [Act.put, List.setIfInBounds_toArray]
        try simp only [List.set_cons_zero, List.set_cons_succ]
        refine wpAnyH_take (i := 5) (v := ?vx8) rfl (by kernel_rfl) (by kernel_rfl) (by kernel_rfl) (fun _ _ _ h => h) (Or.inl ⟨by rfl, ?hyx8⟩) (hTx9.out.below) ?_
        case hyx8 => (intro x' hxx; clear hxx; go_simp; try with_reducible rfl)
        change wpAnyH _ _ _ _ _ _ _ (Act.put _ (some 26) _) _
        simp only [Act.put, List.setIfInBounds_toArray]
        try simp only [List.set_cons_zero, List.set_cons_succ]
        refine wpAnyH_take (i := 6) (v := ?vx9) rfl (by kernel_rfl) (by kernel_rfl) (by kernel_rfl) (fun _ _ _ h => h) (Or.inl ⟨by rfl, ?hyx9⟩) (hTx9.out.below) ?_
        case hyx9 => (intro x' hxx; clear hxx; go_simp; try with_reducible rfl)
        change wpAnyH _ _ _ _ _ _ _ (Act.put _ (some 27) _) _
        simp only [Act.put, List.setIfInBounds_toArray]
        try simp only [List.set_cons_zero, List.set_cons_succ]
        refine wpAnyH_ready (rs := [8]) (by kernel_rfl) (by simp) ?_
        refine AllReadyH.cons rfl (fun K hK => ?_) AllReadyH.nil
        obtain ⟨hp, -⟩ := hTx9.out.box gs rfl
        have q0 : Xx10.cell? ⟨gs, 0, none⟩ = some (.slice none 0 0) := cell_of_block hp 0
        have f0 := free_of_block hp 0
        have q1 : Xx10.cell? ⟨gs, 1, none⟩ = some (.slice none 0 0) := cell_of_block hp 1
        have f1 := free_of_block hp 1
        have q2 : Xx10.cell? ⟨gs, 2, none⟩ = some (.slice none 0 0) := cell_of_block hp 2
        have f2 := free_of_block hp 2
        clear hp
        go_simp
        have hput := hTx9.out.put (.slice la n lc) (.slice ma mn mc) (.slice na nn nc)
        have HPUT := Lib.hid (And.intro hput.1 (And.intro hput.2.1 (hput.2.2 _ _ HSP.out)))
        refine hK.out _ _ hput.1 (fun _ => ?_)
        clear hput q0 q1 q2 f0 f1 f2
        clear hK K
        refine wpAnyH_take (i := 9) (v := ?vx10) rfl (by kernel_rfl) (by kernel_rfl) (by kernel_rfl) (fun _ _ _ h => h) (Or.inl ⟨by rfl, ?hyx10⟩) (HPUT.out.1) ?_
        case hyx10 => (intro x' hxx; clear hxx; go_simp; try with_reducible rfl)
        change wpAnyH _ _ _ _ _ _ _ (Act.put _ (some 10) _) _
        simp only [Act.put, List.setIfInBounds_toArray]
        try simp only [List.set_cons_zero, List.set_cons_succ]
        refine wpAnyH_done (by kernel_rfl) ?_ _
        refine NoPanic.normal ?_
        go_wp2_with fail
        go_meet
        case rel => exact ⟨gs, la, lc, _, _, rfl, HCP.out, HPUT.out.1, HPUT.out.2.1, HPUT.out.2.2⟩
    · skip
      go_simp
      have hTx11 := hT0.out.lay
      refine hK.out _ _ hTx11.below (fun _ => ?_)
      obtain ⟨gs, hgs⟩ : ∃ n, n = V1.heap.size := ⟨_, rfl⟩
      rw [← hgs] at hTx11 ⊢
      clear hgs
      generalize World.alloc V1 _ = Xx12 at hTx11 ⊢
      replace hTx11 := Lib.hid hTx11
      clear hK K
      refine wpAnyH_ready (rs := [2]) (by kernel_rfl) (by simp) ?_
      refine AllReadyH.cons rfl (fun K hK => ?_) AllReadyH.nil
      go_simp
      refine (HMACH.out Xx12).mono ?_
      rintro en Xx14 ⟨rfl, hb⟩
      have hTx13 := Lib.hid (hTx11.out.call hb)
      clear hb
      refine hK.out _ _ hTx13.out.below (fun _ => ?_)
      clear hK K
      refine wpAnyH_ready (rs := [3]) (by kernel_rfl) (by simp) ?_
      refine AllReadyH.cons rfl (fun K hK => ?_) AllReadyH.nil
      go_simp
      refine (HEXP.out Xx14 (SliceR.below (RowR.stays 3) HCV.out hTx13.out.below)).mono ?_
      rintro en Xx16 ⟨⟨lv, mv, nv, rfl, hsp, hspA, hcp⟩, hb⟩
      obtain ⟨ma, mc, rfl, -⟩ := SliceR.slice hsp.2.1
      obtain ⟨na, nc, rfl, -⟩ := SliceR.slice hsp.2.2
      have hsp := hsp.1
      clear hspA
      generalize SX.1.moves.length = mn
      generalize SX.1.next.length = nn
      obtain ⟨la, lc, rfl, -⟩ := SliceR.slice hsp
      have hcp := hcp _ _ _ rfl
      rw [← HN.out] at hsp hcp ⊢
      have HCP := Lib.hid hcp
      clear hcp
      have HSP := Lib.hid hsp
      have hTx15 := Lib.hid (hTx13.out.call hb)
      clear hb hsp
      refine hK.out _ _ hTx15.out.below (fun _ => ?_)
      clear hK K
      refine wpAnyH_take (i := 4) (v := ?vx11) rfl (by kernel_rfl) (by kernel_rfl) (by kernel_rfl) (fun _ _ _ h => h) (Or.inl ⟨by rfl, ?hyx11⟩) (hTx15.out.below) ?_
      case hyx11 => (intro x' hxx; clear hxx; go_simp; try with_reducible rfl)
      change wpAnyH _ _ _ _ _ _ _ (Act.put _ (some 21) _) _
      simp only [Act.put, List.setIfInBounds_toArray]
      try simp only [List.set_cons_zero, List.set_cons_succ]
      refine wpAnyH_take (i := 5) (v := ?vx12) rfl (by kernel_rfl) (by kernel_rfl) (by kernel_rfl) (fun _ _ _ h => h) (Or.inl ⟨by rfl, ?hyx12⟩) (hTx15.out.below) ?_
      case hyx12 => (intro x' hxx; clear hxx; go_simp; try with_reducible rfl)
      change wpAnyH _ _ _ _ _ _ _ (Act.put _ (some 26) _) _
      simp only [Act.put, List.setIfInBounds_toArray]
      try simp only [List.set_cons_zero, List.set_cons_succ]
      refine wpAnyH_take (i := 6) (v := ?vx13) rfl (by kernel_rfl) (by kernel_rfl) (by kernel_rfl) (fun _ _ _ h => h) (Or.inl ⟨by rfl, ?hyx13⟩) (hTx15.out.below) ?_
      case hyx13 => (intro x' hxx; clear hxx; go_simp; try with_reducible rfl)
      change wpAnyH _ _ _ _ _ _ _ (Act.put _ (some 27) _) _
      simp only [Act.put, List.setIfInBounds_toArray]
      try simp only [List.set_cons_zero, List.set_cons_succ]
      refine wpAnyH_ready (rs := [8]) (by kernel_rfl) (by simp) ?_
      refine AllReadyH.cons rfl (fun K hK => ?_) AllReadyH.nil
      obtain ⟨hp, -⟩ := hTx15.out.box gs rfl
      have q0 : Xx16.cell? ⟨gs, 0, none⟩ = some (.slice none 0 0) := cell_of_block hp 0
      have f0 := free_of_block hp 0
      have q1 : Xx16.cell? ⟨gs, 1, none⟩ = some (.slice none 0 0) := cell_of_block hp 1
      have f1 := free_of_block hp 1
      have q2 : Xx16.cell? ⟨gs, 2, none⟩ = some (.slice none 0 0) := cell_of_block hp 2
      have f2 := free_of_block hp 2
      clear hp
      go_simp
      have hput := hTx15.out.put (.slice la n lc) (.slice ma mn mc) (.slice na nn nc)
      have HPUT := Lib.hid (And.intro hput.1 (And.intro hput.2.1 (hput.2.2 _ _ HSP.out)))
      refine hK.out _ _ hput.1 (fun _ => ?_)
      clear hput q0 q1 q2 f0 f1 f2
      clear hK K
      refine wpAnyH_take (i := 9) (v := ?vx14) rfl (by kernel_rfl) (by kernel_rfl) (by kernel_rfl) (fun _ _ _ h => h) (Or.inl ⟨by rfl, ?hyx14⟩) (HPUT.out.1) ?_
      case hyx14 => (intro x' hxx; clear hxx; go_simp; try with_reducible rfl)
      change wpAnyH _ _ _ _ _ _ _ (Act.put _ (some 10) _) _
      simp only [Act.put, List.setIfInBounds_toArray]
      try simp only [List.set_cons_zero, List.set_cons_succ]
      refine wpAnyH_done (by kernel_rfl) ?_ _
      refine NoPanic.normal ?_
      go_wp2_with fail
      go_meet
      case rel => exact ⟨gs, la, lc, _, _, rfl, HCP.out, HPUT.out.1, HPUT.out.2.1, HPUT.out.2.2⟩
  case rest =>
  obtain ⟨gs, la, lc, mv, nv, rfl, hlc, HBW, HS, HLW⟩ := hcut
  obtain ⟨W, rfl⟩ : ∃ x : World, x = wc := ⟨_, rfl⟩
  have HCS := Lib.hid (SliceR.below (RowR.stays 3) HCV.out HBW.out)
  have HG1 := Lib.hid ((HBW.out.block _ (lt_of_block H1.out)).trans H1.out)
  have HOUT : Hid (∀ x, Below W.heap.size W x → Below w.heap.size w x) := fun x hx => HBV.out.trans ((below_then HBW.out hx).mono HBV.out.size)
  clear HCV H1 HBW HBV HEXP HMACH
  have s0 : W.cell? ⟨gs, 0, none⟩ = some (.slice la n lc) := cell_of_block HS.out 0
  have hn1I : (0 : Int) < (n : Int) + 1 := by omega
  obtain ⟨kk, hkk⟩ : ∃ kk : Nat, p % ((n : Int) + 1) = (kk : Int) := ⟨(p % ((n : Int) + 1)).toNat, by have := Int.emod_nonneg p (show (n : Int) + 1 ≠ 0 by omega); omega⟩
  have hkn : kk ≤ n := by have := Int.emod_lt_of_pos p hn1I; omega
  have HKK := Lib.hid hkk
  clear hkk
  go_upto_region 7 with fail
  rw [HKK.out]
  go_cut [12] (fun s12 w' => ∃ (ta : Option Addr) (tc : Nat), s12 = .slice ta n tc ∧ Hid (Below W.heap.size W w') ∧ Hid (StatesAt w' (.slice ta n tc) (SX.1.states.drop kk ++ SX.1.states.take kk)))
  case first =>
    obtain ⟨i0, hi0, -⟩ := info_parts state_info
    have hS1 : SX.1.states.length = n := HN.out.symm
    have CC7 : Hid (∀ x, Below W.heap.size W x → x.cell? ⟨gs, 0, none⟩ = some (.slice la n lc)) := fun x hx => cells_kept hx _ _ (cell_of_block HS.out 0)
    clear s0
    by_cases hk2 : kk = n
    · cases la with
      | none =>
        have hn0 : n = 0 := by
          rcases Nat.eq_zero_or_pos n with e | e
          · exact e
          · obtain ⟨b, off, cs, h, -⟩ := SliceR.part HLW.out 0 (by rw [hS1]; exact e)
            cases h
        have HNIL := Lib.hid (List.eq_nil_of_length_eq_zero (hS1.trans hn0))
        obtain rfl : kk = 0 := by omega
        subst hn0
        clear hk2 hS1
        have hlcI : (0 : Int) ≤ (lc : Int) := by omega
        refine wp_region_noPanic ?_
        refine wp_region_held_drew (S := fun x => Below W.heap.size W x) (by kernel_rfl) (Below.refl _ _).drew (fun _ => ?_)
        obtain ⟨V1, hV1⟩ : ∃ V1, V1 = W.drew := ⟨_, rfl⟩
        have hT0 : Hid (Below W.heap.size W V1) := by rw [hV1]; exact (Below.refl _ _).drew
        rw [← hV1]
        clear hV1
        refine wpAnyH_take (i := 0) (v := ?va24) rfl (by kernel_rfl) (by kernel_rfl) (by kernel_rfl) (fun _ _ _ h => h) (Or.inl ⟨by rfl, ?hya24⟩) (hT0.out) ?_
        case hya24 => (intro x' hxx; clear hxx; go_simp; try with_reducible rfl)
        change wpAnyH _ _ _ _ _ _ _ (Act.put _ (some 35) _) _
        simp only [Act.put, List.setIfInBounds_toArray]
        try simp only [List.set_cons_zero, List.set_cons_succ]
        refine wpAnyH_take (i := 1) (v := ?va25) rfl (by kernel_rfl) (by kernel_rfl) (by kernel_rfl) (fun _ _ _ h => h) (Or.inl ⟨by rfl, ?hya25⟩) (hT0.out) ?_
        case hya25 => (intro x' hxx; have e0 := CC7.out x' hxx; go_simp; try with_reducible rfl)
        change wpAnyH _ _ _ _ _ _ _ (Act.put _ (some 36) _) _
        simp only [Act.put, List.setIfInBounds_toArray]
        try simp only [List.set_cons_zero, List.set_cons_succ]
        refine wpAnyH_take (i := 2) (v := ?va26) rfl (by kernel_rfl) (by kernel_rfl) (by kernel_rfl) (fun _ _ _ h => h) (Or.inl ⟨by rfl, ?hya26⟩) (hT0.out) ?_
        case hya26 => (intro x' hxx; clear hxx; go_simp; try with_reducible rfl)
        change wpAnyH _ _ _ _ _ _ _ (Act.put _ (some 37) _) _
        simp only [Act.put, List.setIfInBounds_toArray]
        try simp only [List.set_cons_zero, List.set_cons_succ]
        refine wpAnyH_take (i := 3) (v := ?va27) rfl (by kernel_rfl) (by kernel_rfl) (by kernel_rfl) (fun _ _ _ h => h) (Or.inl ⟨by rfl, ?hya27⟩) (hT0.out) ?_
        case hya27 => (intro x' hxx; clear hxx; go_simp; try with_reducible rfl)
        change wpAnyH _ _ _ _ _ _ _ (Act.put _ (some 38) _) _
        simp only [Act.put, List.setIfInBounds_toArray]
        try simp only [List.set_cons_zero, List.set_cons_succ]
        refine wpAnyH_take (i := 5) (v := ?va28) rfl (by kernel_rfl) (by kernel_rfl) (by kernel_rfl) (fun _ _ _ h => h) (Or.inl ⟨by rfl, ?hya28⟩) (hT0.out) ?_
        case hya28 => (intro x' hxx; clear hxx; go_simp; try with_reducible rfl)
        change wpAnyH _ _ _ _ _ _ _ (Act.put _ (some 40) _) _
        simp only [Act.put, List.setIfInBounds_toArray]
        try simp only [List.set_cons_zero, List.set_cons_succ]
        refine wpAnyH_take (i := 6) (v := ?va29) rfl (by kernel_rfl) (by kernel_rfl) (by kernel_rfl) (fun _ _ _ h => h) (Or.inl ⟨by rfl, ?hya29⟩) (hT0.out) ?_
        case hya29 => (intro x' hxx; have e0 := CC7.out x' hxx; go_simp; try with_reducible rfl)
        change wpAnyH _ _ _ _ _ _ _ (Act.put _ (some 41) _) _
        simp only [Act.put, List.setIfInBounds_toArray]
        try simp only [List.set_cons_zero, List.set_cons_succ]
        refine wpAnyH_take (i := 7) (v := ?va30) rfl (by kernel_rfl) (by kernel_rfl) (by kernel_rfl) (fun _ _ _ h => h) (Or.inl ⟨by rfl, ?hya30⟩) (hT0.out) ?_
        case hya30 => (intro x' hxx; clear hxx; go_simp; try with_reducible rfl)
        change wpAnyH _ _ _ _ _ _ _ (Act.put _ (some 42) _) _
        simp only [Act.put, List.setIfInBounds_toArray]
        try simp only [List.set_cons_zero, List.set_cons_succ]
        refine wpAnyH_take (i := 8) (v := ?va31) rfl (by kernel_rfl) (by kernel_rfl) (by kernel_rfl) (fun _ _ _ h => h) (Or.inl ⟨by rfl, ?hya31⟩) (hT0.out) ?_
        case hya31 => (intro x' hxx; clear hxx; go_simp; try with_reducible rfl)
        change wpAnyH _ _ _ _ _ _ _ (Act.put _ (some 43) _) _
        simp only [Act.put, List.setIfInBounds_toArray]
        try simp only [List.set_cons_zero, List.set_cons_succ]
        refine wpAnyH_ready (rs := [4]) (by kernel_rfl) (by simp) ?_
        refine AllReadyH.cons rfl (fun K hK => ?_) AllReadyH.nil
        refine step_append_none V1 (by rfl) (.const (.slice none 0 0)) (.tmp 38) 25 rfl 31 i0 Try.underlying25 hi0 (by rfl) _ _ (by rfl) ?_
        refine hK.out _ _ (hT0.out) (fun _ => ?_)
        change wpAnyH _ _ _ _ _ _ _ (Act.put _ (some 39) _) _
        simp only [Act.put, List.setIfInBounds_toArray]
        try simp only [List.set_cons_zero, List.set_cons_succ]
        clear hK K
        refine wpAnyH_ready (rs := [9]) (by kernel_rfl) (by simp) ?_
        refine AllReadyH.cons rfl (fun K hK => ?_) AllReadyH.nil
        refine step_append_none V1 (by rfl) (.tmp 39) (.tmp 43) 25 rfl 31 i0 Try.underlying25 hi0 (by rfl) _ _ (by rfl) ?_
        refine hK.out _ _ (hT0.out) (fun _ => ?_)
        change wpAnyH _ _ _ _ _ _ _ (Act.put _ (some 44) _) _
        simp only [Act.put, List.setIfInBounds_toArray]
        try simp only [List.set_cons_zero, List.set_cons_succ]
        clear hK K
        refine wpAnyH_take (i := 10) (v := ?va32) rfl (by kernel_rfl) (by kernel_rfl) (by kernel_rfl) (fun _ _ _ h => h) (Or.inl ⟨by rfl, ?hya32⟩) (hT0.out) ?_
        case hya32 => (intro x' hxx; clear hxx; go_simp; try with_reducible rfl)
        change wpAnyH _ _ _ _ _ _ _ (Act.put _ (some 12) _) _
        simp only [Act.put, List.setIfInBounds_toArray]
        try simp only [List.set_cons_zero, List.set_cons_succ]
        refine wpAnyH_done (by kernel_rfl) ?_ _
        refine NoPanic.normal ?_
        go_wp2_with fail
        go_meet
        case rel => exact ⟨none, 0, rfl, hT0.out, by rw [Hid, HNIL.out, List.drop_nil, List.take_nil]; exact SliceR.nil _⟩
      | some A =>
        subst hk2
        clear hS1
        have hlcI : (kk : Int) ≤ (lc : Int) := by omega
        by_cases hlk : lc = kk
        · subst hlk
          refine wp_region_noPanic ?_
          refine wp_region_held_drew (S := fun x => Below W.heap.size W x) (by kernel_rfl) (Below.refl _ _).drew (fun _ => ?_)
          obtain ⟨V1, hV1⟩ : ∃ V1, V1 = W.drew := ⟨_, rfl⟩
          have hT0 : Hid (Below W.heap.size W V1) := by rw [hV1]; exact (Below.refl _ _).drew
          rw [← hV1]
          clear hV1
          refine wpAnyH_take (i := 0) (v := ?vb33) rfl (by kernel_rfl) (by kernel_rfl) (by kernel_rfl) (fun _ _ _ h => h) (Or.inl ⟨by rfl, ?hyb33⟩) (hT0.out) ?_
          case hyb33 => (intro x' hxx; clear hxx; go_simp; try with_reducible rfl)
          change wpAnyH _ _ _ _ _ _ _ (Act.put _ (some 35) _) _
          simp only [Act.put, List.setIfInBounds_toArray]
          try simp only [List.set_cons_zero, List.set_cons_succ]
          refine wpAnyH_take (i := 1) (v := ?vb34) rfl (by kernel_rfl) (by kernel_rfl) (by kernel_rfl) (fun _ _ _ h => h) (Or.inl ⟨by rfl, ?hyb34⟩) (hT0.out) ?_
          case hyb34 => (intro x' hxx; have e0 := CC7.out x' hxx; go_simp; try with_reducible rfl)
          change wpAnyH _ _ _ _ _ _ _ (Act.put _ (some 36) _) _
          simp only [Act.put, List.setIfInBounds_toArray]
          try simp only [List.set_cons_zero, List.set_cons_succ]
          refine wpAnyH_take (i := 2) (v := ?vb35) rfl (by kernel_rfl) (by kernel_rfl) (by kernel_rfl) (fun _ _ _ h => h) (Or.inl ⟨by rfl, ?hyb35⟩) (hT0.out) ?_
          case hyb35 => (intro x' hxx; clear hxx; go_simp; try with_reducible rfl)
          change wpAnyH _ _ _ _ _ _ _ (Act.put _ (some 37) _) _
          simp only [Act.put, List.setIfInBounds_toArray]
          try simp only [List.set_cons_zero, List.set_cons_succ]
          refine wpAnyH_take (i := 3) (v := ?vb36) rfl (by kernel_rfl) (by kernel_rfl) (by kernel_rfl) (fun _ _ _ h => h) (Or.inl ⟨by rfl, ?hyb36⟩) (hT0.out) ?_
          case hyb36 => (intro x' hxx; clear hxx; go_simp; try with_reducible rfl)
          change wpAnyH _ _ _ _ _ _ _ (Act.put _ (some 38) _) _
          simp only [Act.put, List.setIfInBounds_toArray]
          try simp only [List.set_cons_zero, List.set_cons_succ]
          refine wpAnyH_take (i := 5) (v := ?vb37) rfl (by kernel_rfl) (by kernel_rfl) (by kernel_rfl) (fun _ _ _ h => h) (Or.inl ⟨by rfl, ?hyb37⟩) (hT0.out) ?_
          case hyb37 => (intro x' hxx; clear hxx; go_simp; try with_reducible rfl)
          change wpAnyH _ _ _ _ _ _ _ (Act.put _ (some 40) _) _
          simp only [Act.put, List.setIfInBounds_toArray]
          try simp only [List.set_cons_zero, List.set_cons_succ]
          refine wpAnyH_take (i := 6) (v := ?vb38) rfl (by kernel_rfl) (by kernel_rfl) (by kernel_rfl) (fun _ _ _ h => h) (Or.inl ⟨by rfl, ?hyb38⟩) (hT0.out) ?_
          case hyb38 => (intro x' hxx; have e0 := CC7.out x' hxx; go_simp; try with_reducible rfl)
          change wpAnyH _ _ _ _ _ _ _ (Act.put _ (some 41) _) _
          simp only [Act.put, List.setIfInBounds_toArray]
          try simp only [List.set_cons_zero, List.set_cons_succ]
          refine wpAnyH_take (i := 7) (v := ?vb39) rfl (by kernel_rfl) (by kernel_rfl) (by kernel_rfl) (fun _ _ _ h => h) (Or.inl ⟨by rfl, ?hyb39⟩) (hT0.out) ?_
          case hyb39 => (intro x' hxx; clear hxx; go_simp; try with_reducible rfl)
          change wpAnyH _ _ _ _ _ _ _ (Act.put _ (some 42) _) _
          simp only [Act.put, List.setIfInBounds_toArray]
          try simp only [List.set_cons_zero, List.set_cons_succ]
          refine wpAnyH_take (i := 8) (v := ?vb40) rfl (by kernel_rfl) (by kernel_rfl) (by kernel_rfl) (fun _ _ _ h => h) (Or.inl ⟨by rfl, ?hyb40⟩) (hT0.out) ?_
          case hyb40 => (intro x' hxx; clear hxx; go_simp; try with_reducible rfl)
          change wpAnyH _ _ _ _ _ _ _ (Act.put _ (some 43) _) _
          simp only [Act.put, List.setIfInBounds_toArray]
          try simp only [List.set_cons_zero, List.set_cons_succ]
          refine wpAnyH_ready (rs := [4]) (by kernel_rfl) (by simp) ?_
          refine AllReadyH.cons rfl (fun K hK => ?_) AllReadyH.nil
          refine step_append_none V1 (by rfl) (.const (.slice none 0 0)) (.tmp 38) 25 rfl 31 i0 Try.underlying25 hi0 (by rfl) _ _ (by rfl) ?_
          refine hK.out _ _ (hT0.out) (fun _ => ?_)
          change wpAnyH _ _ _ _ _ _ _ (Act.put _ (some 39) _) _
          simp only [Act.put, List.setIfInBounds_toArray]
          try simp only [List.set_cons_zero, List.set_cons_succ]
          clear hK K
          refine wpAnyH_ready (rs := [9]) (by kernel_rfl) (by simp) ?_
          refine AllReadyH.cons rfl (fun K hK => ?_) AllReadyH.nil
          obtain ⟨cs2, k1, k2, k3, k4, k5, k6⟩ := ((SliceR.below StateR.stays HLW.out hT0.out)).rows (by decide) (fun _ _ h => state_one h)
          refine step_append_where_ V1 (by rfl) (.tmp 39) (.tmp 43) 25 rfl 31 (.agg #[.slice none 0 0, .slice none 0 0, .bool false]) 3 56 Try.underlying25 state_info rfl (by decide) V1.heap.size (.slice none 0 0) 0 [] (by rfl) (World.ownsRow_nil _ _ _ _) A lc lc cs2.flatten (by rfl) k5 k4 k6 (by unfold maxLen; omega) (by omega) (Nat.le_refl _) ?_
          intro ka kc X3 f1 f2 f3 f4 f5
          have hb2 := f4.below (Nat.le_refl _) (fun k hk => by simp [Value.ownBlock] at hk)
          simp only [Nat.zero_add, List.nil_append] at f1 ⊢
          have hr2 := (RowV.nil V1 V1.heap.size V1 StateR 3 31).app (v' := .slice ka lc kc) (X' := X3) (r := SX.1.states) (cs2 := cs2) (by rw [k1, k2]) k3 (by rw [k2]; simpa using f1)
          have hrs := RowV.slice hr2 StateR.stays hb2
          have hda : SX.1.states.drop lc ++ SX.1.states.take lc = [] ++ SX.1.states := by rw [← k2, List.drop_length, List.take_length]
          rw [← hda] at hrs
          have HRS := Lib.hid hrs
          have HBF := Lib.hid (below_then hT0.out hb2)
          clear hr2 hrs hda f1 f2 f3 f4 f5 k1 k2 k3 k4 k5 k6 hb2
          refine hK.out _ _ HBF.out (fun _ => ?_)
          change wpAnyH _ _ _ _ _ _ _ (Act.put _ (some 44) _) _
          simp only [Act.put, List.setIfInBounds_toArray]
          try simp only [List.set_cons_zero, List.set_cons_succ]
          clear hK K
          refine wpAnyH_take (i := 10) (v := ?vb41) rfl (by kernel_rfl) (by kernel_rfl) (by kernel_rfl) (fun _ _ _ h => h) (Or.inl ⟨by rfl, ?hyb41⟩) (HBF.out) ?_
          case hyb41 => (intro x' hxx; clear hxx; go_simp; try with_reducible rfl)
          change wpAnyH _ _ _ _ _ _ _ (Act.put _ (some 12) _) _
          simp only [Act.put, List.setIfInBounds_toArray]
          try simp only [List.set_cons_zero, List.set_cons_succ]
          refine wpAnyH_done (by kernel_rfl) ?_ _
          refine NoPanic.normal ?_
          go_wp2_with fail
          go_meet
          case rel => exact ⟨ka, kc, rfl, HBF.out, HRS.out⟩
        · have hkcI : ¬ (lc : Int) = (kk : Int) := by omega
          refine wp_region_noPanic ?_
          refine wp_region_held_drew (S := fun x => Below W.heap.size W x) (by kernel_rfl) (Below.refl _ _).drew (fun _ => ?_)
          obtain ⟨V1, hV1⟩ : ∃ V1, V1 = W.drew := ⟨_, rfl⟩
          have hT0 : Hid (Below W.heap.size W V1) := by rw [hV1]; exact (Below.refl _ _).drew
          rw [← hV1]
          clear hV1
          refine wpAnyH_take (i := 0) (v := ?vd42) rfl (by kernel_rfl) (by kernel_rfl) (by kernel_rfl) (fun _ _ _ h => h) (Or.inl ⟨by rfl, ?hyd42⟩) (hT0.out) ?_
          case hyd42 => (intro x' hxx; clear hxx; go_simp; try with_reducible rfl)
          change wpAnyH _ _ _ _ _ _ _ (Act.put _ (some 35) _) _
          simp only [Act.put, List.setIfInBounds_toArray]
          try simp only [List.set_cons_zero, List.set_cons_succ]
          refine wpAnyH_take (i := 1) (v := ?vd43) rfl (by kernel_rfl) (by kernel_rfl) (by kernel_rfl) (fun _ _ _ h => h) (Or.inl ⟨by rfl, ?hyd43⟩) (hT0.out) ?_
          case hyd43 => (intro x' hxx; have e0 := CC7.out x' hxx; go_simp; try with_reducible rfl)
          change wpAnyH _ _ _ _ _ _ _ (Act.put _ (some 36) _) _
          simp only [Act.put, List.setIfInBounds_toArray]
          try simp only [List.set_cons_zero, List.set_cons_succ]
          refine wpAnyH_take (i := 2) (v := ?vd44) rfl (by kernel_rfl) (by kernel_rfl) (by kernel_rfl) (fun _ _ _ h => h) (Or.inl ⟨by rfl, ?hyd44⟩) (hT0.out) ?_
          case hyd44 => (intro x' hxx; clear hxx; go_simp; try with_reducible rfl)
          change wpAnyH _ _ _ _ _ _ _ (Act.put _ (some 37) _) _
          simp only [Act.put, List.setIfInBounds_toArray]
          try simp only [List.set_cons_zero, List.set_cons_succ]
          refine wpAnyH_take (i := 3) (v := ?vd45) rfl (by kernel_rfl) (by kernel_rfl) (by kernel_rfl) (fun _ _ _ h => h) (Or.inl ⟨by rfl, ?hyd45⟩) (hT0.out) ?_
          case hyd45 => (intro x' hxx; clear hxx; go_simp; try with_reducible rfl)
          change wpAnyH _ _ _ _ _ _ _ (Act.put _ (some 38) _) _
          simp only [Act.put, List.setIfInBounds_toArray]
          try simp only [List.set_cons_zero, List.set_cons_succ]
          refine wpAnyH_take (i := 5) (v := ?vd46) rfl (by kernel_rfl) (by kernel_rfl) (by kernel_rfl) (fun _ _ _ h => h) (Or.inl ⟨by rfl, ?hyd46⟩) (hT0.out) ?_
          case hyd46 => (intro x' hxx; clear hxx; go_simp; try with_reducible rfl)
          change wpAnyH _ _ _ _ _ _ _ (Act.put _ (some 40) _) _
          simp only [Act.put, List.setIfInBounds_toArray]
          try simp only [List.set_cons_zero, List.set_cons_succ]
          refine wpAnyH_take (i := 6) (v := ?vd47) rfl (by kernel_rfl) (by kernel_rfl) (by kernel_rfl) (fun _ _ _ h => h) (Or.inl ⟨by rfl, ?hyd47⟩) (hT0.out) ?_
          case hyd47 => (intro x' hxx; have e0 := CC7.out x' hxx; go_simp; try with_reducible rfl)
          change wpAnyH _ _ _ _ _ _ _ (Act.put _ (some 41) _) _
          simp only [Act.put, List.setIfInBounds_toArray]
          try simp only [List.set_cons_zero, List.set_cons_succ]
          refine wpAnyH_take (i := 7) (v := ?vd48) rfl (by kernel_rfl) (by kernel_rfl) (by kernel_rfl) (fun _ _ _ h => h) (Or.inl ⟨by rfl, ?hyd48⟩) (hT0.out) ?_
          case hyd48 => (intro x' hxx; clear hxx; go_simp; try with_reducible rfl)
          change wpAnyH _ _ _ _ _ _ _ (Act.put _ (some 42) _) _
          simp only [Act.put, List.setIfInBounds_toArray]
          try simp only [List.set_cons_zero, List.set_cons_succ]
          refine wpAnyH_take (i := 8) (v := ?vd49) rfl (by kernel_rfl) (by kernel_rfl) (by kernel_rfl) (fun _ _ _ h => h) (Or.inl ⟨by rfl, ?hyd49⟩) (hT0.out) ?_
          case hyd49 => (intro x' hxx; clear hxx; go_simp; try with_reducible rfl)
          change wpAnyH _ _ _ _ _ _ _ (Act.put _ (some 43) _) _
          simp only [Act.put, List.setIfInBounds_toArray]
          try simp only [List.set_cons_zero, List.set_cons_succ]
          refine wpAnyH_ready (rs := [4]) (by kernel_rfl) (by simp) ?_
          refine AllReadyH.cons rfl (fun K hK => ?_) AllReadyH.nil
          refine step_append_none V1 (by rfl) (.const (.slice none 0 0)) (.tmp 38) 25 rfl 31 i0 Try.underlying25 hi0 (by rfl) _ _ (by rfl) ?_
          refine hK.out _ _ (hT0.out) (fun _ => ?_)
          change wpAnyH _ _ _ _ _ _ _ (Act.put _ (some 39) _) _
          simp only [Act.put, List.setIfInBounds_toArray]
          try simp only [List.set_cons_zero, List.set_cons_succ]
          clear hK K
          refine wpAnyH_ready (rs := [9]) (by kernel_rfl) (by simp) ?_
          refine AllReadyH.cons rfl (fun K hK => ?_) AllReadyH.nil
          obtain ⟨cs2, k1, k2, k3, k4, k5, k6⟩ := ((SliceR.below StateR.stays HLW.out hT0.out)).rows (by decide) (fun _ _ h => state_one h)
          refine step_append_where_ V1 (by rfl) (.tmp 39) (.tmp 43) 25 rfl 31 (.agg #[.slice none 0 0, .slice none 0 0, .bool false]) 3 56 Try.underlying25 state_info rfl (by decide) V1.heap.size (.slice none 0 0) 0 [] (by rfl) (World.ownsRow_nil _ _ _ _) A kk lc cs2.flatten (by rfl) k5 k4 k6 (by unfold maxLen; omega) (by omega) (Nat.le_refl _) ?_
          intro ka kc X3 f1 f2 f3 f4 f5
          have hb2 := f4.below (Nat.le_refl _) (fun k hk => by simp [Value.ownBlock] at hk)
          simp only [Nat.zero_add, List.nil_append] at f1 ⊢
          have hr2 := (RowV.nil V1 V1.heap.size V1 StateR 3 31).app (v' := .slice ka kk kc) (X' := X3) (r := SX.1.states) (cs2 := cs2) (by rw [k1, k2]) k3 (by rw [k2]; simpa using f1)
          have hrs := RowV.slice hr2 StateR.stays hb2
          have hda : SX.1.states.drop kk ++ SX.1.states.take kk = [] ++ SX.1.states := by rw [← k2, List.drop_length, List.take_length]
          rw [← hda] at hrs
          have HRS := Lib.hid hrs
          have HBF := Lib.hid (below_then hT0.out hb2)
          clear hr2 hrs hda f1 f2 f3 f4 f5 k1 k2 k3 k4 k5 k6 hb2
          refine hK.out _ _ HBF.out (fun _ => ?_)
          change wpAnyH _ _ _ _ _ _ _ (Act.put _ (some 44) _) _
          simp only [Act.put, List.setIfInBounds_toArray]
          try simp only [List.set_cons_zero, List.set_cons_succ]
          clear hK K
          refine wpAnyH_take (i := 10) (v := ?vd50) rfl (by kernel_rfl) (by kernel_rfl) (by kernel_rfl) (fun _ _ _ h => h) (Or.inl ⟨by rfl, ?hyd50⟩) (HBF.out) ?_
          case hyd50 => (intro x' hxx; clear hxx; go_simp; try with_reducible rfl)
          change wpAnyH _ _ _ _ _ _ _ (Act.put _ (some 12) _) _
          simp only [Act.put, List.setIfInBounds_toArray]
          try simp only [List.set_cons_zero, List.set_cons_succ]
          refine wpAnyH_done (by kernel_rfl) ?_ _
          refine NoPanic.normal ?_
          go_wp2_with fail
          go_meet
          case rel => exact ⟨ka, kc, rfl, HBF.out, HRS.out⟩
    · have hkl : kk < n := by omega
      obtain ⟨b, off, -, hla, -⟩ := SliceR.part HLW.out 0 (by rw [hS1]; omega)
      subst hla
      have hkcI : ¬ (lc : Int) = (kk : Int) := by omega
      have hkc : ¬ lc = kk := by omega
      have hkkI : (kk : Int) ≤ (n : Int) := by omega
      have hkkJ : (kk : Int) ≤ (lc : Int) := by omega
      clear hk2 hS1
      refine wp_region_noPanic ?_
      refine wp_region_held_drew (S := fun x => Below W.heap.size W x) (by kernel_rfl) (Below.refl _ _).drew (fun _ => ?_)
      obtain ⟨V1, hV1⟩ : ∃ V1, V1 = W.drew := ⟨_, rfl⟩
      have hT0 : Hid (Below W.heap.size W V1) := by rw [hV1]; exact (Below.refl _ _).drew
      rw [← hV1]
      clear hV1
      refine wpAnyH_take (i := 0) (v := ?vc15) rfl (by kernel_rfl) (by kernel_rfl) (by kernel_rfl) (fun _ _ _ h => h) (Or.inl ⟨by rfl, ?hyc15⟩) (hT0.out) ?_
      case hyc15 => (intro x' hxx; clear hxx; go_simp; try with_reducible rfl)
      change wpAnyH _ _ _ _ _ _ _ (Act.put _ (some 35) _) _
      simp only [Act.put, List.setIfInBounds_toArray]
      try simp only [List.set_cons_zero, List.set_cons_succ]
      refine wpAnyH_take (i := 1) (v := ?vc16) rfl (by kernel_rfl) (by kernel_rfl) (by kernel_rfl) (fun _ _ _ h => h) (Or.inl ⟨by rfl, ?hyc16⟩) (hT0.out) ?_
      case hyc16 => (intro x' hxx; have e0 := CC7.out x' hxx; go_simp; try with_reducible rfl)
      change wpAnyH _ _ _ _ _ _ _ (Act.put _ (some 36) _) _
      simp only [Act.put, List.setIfInBounds_toArray]
      try simp only [List.set_cons_zero, List.set_cons_succ]
      refine wpAnyH_take (i := 2) (v := ?vc17) rfl (by kernel_rfl) (by kernel_rfl) (by kernel_rfl) (fun _ _ _ h => h) (Or.inl ⟨by rfl, ?hyc17⟩) (hT0.out) ?_
      case hyc17 => (intro x' hxx; clear hxx; go_simp; try with_reducible rfl)
      change wpAnyH _ _ _ _ _ _ _ (Act.put _ (some 37) _) _
      simp only [Act.put, List.setIfInBounds_toArray]
      try simp only [List.set_cons_zero, List.set_cons_succ]
      refine wpAnyH_take (i := 3) (v := ?vc18) rfl (by kernel_rfl) (by kernel_rfl) (by kernel_rfl) (fun _ _ _ h => h) (Or.inl ⟨by rfl, ?hyc18⟩) (hT0.out) ?_
      case hyc18 => (intro x' hxx; clear hxx; go_simp; try with_reducible rfl)
      change wpAnyH _ _ _ _ _ _ _ (Act.put _ (some 38) _) _
      simp only [Act.put, List.setIfInBounds_toArray]
      try simp only [List.set_cons_zero, List.set_cons_succ]
      refine wpAnyH_take (i := 5) (v := ?vc19) rfl (by kernel_rfl) (by kernel_rfl) (by kernel_rfl) (fun _ _ _ h => h) (Or.inl ⟨by rfl, ?hyc19⟩) (hT0.out) ?_
      case hyc19 => (intro x' hxx; clear hxx; go_simp; try with_reducible rfl)
      change wpAnyH _ _ _ _ _ _ _ (Act.put _ (some 40) _) _
      simp only [Act.put, List.setIfInBounds_toArray]
      try simp only [List.set_cons_zero, List.set_cons_succ]
      refine wpAnyH_take (i := 6) (v := ?vc20) rfl (by kernel_rfl) (by kernel_rfl) (by kernel_rfl) (fun _ _ _ h => h) (Or.inl ⟨by rfl, ?hyc20⟩) (hT0.out) ?_
      case hyc20 => (intro x' hxx; have e0 := CC7.out x' hxx; go_simp; try with_reducible rfl)
      change wpAnyH _ _ _ _ _ _ _ (Act.put _ (some 41) _) _
      simp only [Act.put, List.setIfInBounds_toArray]
      try simp only [List.set_cons_zero, List.set_cons_succ]
      refine wpAnyH_take (i := 7) (v := ?vc21) rfl (by kernel_rfl) (by kernel_rfl) (by kernel_rfl) (fun _ _ _ h => h) (Or.inl ⟨by rfl, ?hyc21⟩) (hT0.out) ?_
      case hyc21 => (intro x' hxx; clear hxx; go_simp; try with_reducible rfl)
      change wpAnyH _ _ _ _ _ _ _ (Act.put _ (some 42) _) _
      simp only [Act.put, List.setIfInBounds_toArray]
      try simp only [List.set_cons_zero, List.set_cons_succ]
      refine wpAnyH_take (i := 8) (v := ?vc22) rfl (by kernel_rfl) (by kernel_rfl) (by kernel_rfl) (fun _ _ _ h => h) (Or.inl ⟨by rfl, ?hyc22⟩) (hT0.out) ?_
      case hyc22 => (intro x' hxx; clear hxx; go_simp; try with_reducible rfl)
      change wpAnyH _ _ _ _ _ _ _ (Act.put _ (some 43) _) _
      simp only [Act.put, List.setIfInBounds_toArray]
      try simp only [List.set_cons_zero, List.set_cons_succ]
      refine wpAnyH_ready (rs := [4]) (by kernel_rfl) (by simp) ?_
      refine AllReadyH.cons rfl (fun K hK => ?_) AllReadyH.nil
      obtain ⟨cs1, k1, k2, k3, k4, k5, k6⟩ := ((SliceR.below StateR.stays HLW.out hT0.out).from_ kk (by omega) (lc - kk)).rows (by decide) (fun _ _ h => state_one h)
      refine step_append_where_ V1 (by rfl) (.const (.slice none 0 0)) (.tmp 38) 25 rfl 31 (.agg #[.slice none 0 0, .slice none 0 0, .bool false]) 3 56 Try.underlying25 state_info rfl (by decide) V1.heap.size (.slice none 0 0) 0 [] (by rfl) (World.ownsRow_nil _ _ _ _) ⟨b, off + kk * 3, none⟩ (n - kk) (lc - kk) cs1.flatten (by rfl) k5 k4 k6 (by unfold maxLen; omega) (by omega) (Nat.le_refl _) ?_
      intro ja jc X2 e1 e2 e3 e4 e5
      have hb1 := e4.below (Nat.le_refl _) (fun k hk => by simp [Value.ownBlock] at hk)
      simp only [Nat.zero_add, List.nil_append] at e1 ⊢
      have hr1 := (RowV.nil V1 V1.heap.size V1 StateR 3 31).app (v' := .slice ja (n - kk) jc) (X' := X2) (r := SX.1.states.drop kk) (cs2 := cs1) (by rw [k1, k2]) k3 (by rw [k2]; simpa using e1)
      have HR1 := Lib.hid hr1
      have HO1 := Lib.hid e1
      have HK2 := Lib.hid k2
      have HB1 := Lib.hid hb1
      have hT1 := Lib.hid (below_then hT0.out hb1)
      clear hr1 e1 e2 e3 e4 e5 k1 k2 k3 k4 k5 k6 hb1
      refine hK.out _ _ hT1.out (fun _ => ?_)
      change wpAnyH _ _ _ _ _ _ _ (Act.put _ (some 39) _) _
      simp only [Act.put, List.setIfInBounds_toArray]
      try simp only [List.set_cons_zero, List.set_cons_succ]
      clear hK K
      refine wpAnyH_ready (rs := [9]) (by kernel_rfl) (by simp) ?_
      refine AllReadyH.cons rfl (fun K hK => ?_) AllReadyH.nil
      obtain ⟨cs2, k1, k2, k3, k4, k5, k6⟩ := ((SliceR.below StateR.stays HLW.out hT0.out).upto kk (by omega) lc).rows (by decide) (fun _ _ h => state_one h)
      refine step_append_where_ X2 (by rfl) (.tmp 39) (.tmp 43) 25 rfl 31 (.agg #[.slice none 0 0, .slice none 0 0, .bool false]) 3 56 Try.underlying25 state_info rfl (by decide) V1.heap.size (.slice ja (n - kk) jc) (n - kk) cs1.flatten (by rfl) HO1.out ⟨b, off, none⟩ kk lc cs2.flatten (by rfl) k5 (fun j u hu => cells_kept HB1.out _ _ (k4 j u hu)) k6 (by unfold maxLen; omega) (by omega) HB1.out.size ?_
      intro ka kc X3 f1 f2 f3 f4 f5
      have hb2 := HB1.out.trans (f4.below HB1.out.size (fun k hk => (HO1.out.lt k hk).1))
      have hnn : n - kk + kk = n := by omega
      simp only [hnn] at f1 ⊢
      have hr2 := HR1.out.app (v' := .slice ka n kc) (X' := X3) (r := SX.1.states.take kk) (cs2 := cs2) (by rw [k1, k2]) k3 (by rw [List.nil_append, HK2.out, k2, hnn]; simpa using f1)
      have HRS := Lib.hid (RowV.slice hr2 StateR.stays hb2)
      have HBF := Lib.hid (below_then hT0.out hb2)
      clear hr2 f1 f2 f3 f4 f5 k1 k2 k3 k4 k5 k6 hb2 hnn HR1 HO1 HK2
      refine hK.out _ _ HBF.out (fun _ => ?_)
      change wpAnyH _ _ _ _ _ _ _ (Act.put _ (some 44) _) _
      simp only [Act.put, List.setIfInBounds_toArray]
      try simp only [List.set_cons_zero, List.set_cons_succ]
      clear hK K
      refine wpAnyH_take (i := 10) (v := ?vc23) rfl (by kernel_rfl) (by kernel_rfl) (by kernel_rfl) (fun _ _ _ h => h) (Or.inl ⟨by rfl, ?hyc23⟩) (HBF.out) ?_
      case hyc23 => (intro x' hxx; clear hxx; go_simp; try with_reducible rfl)
      change wpAnyH _ _ _ _ _ _ _ (Act.put _ (some 12) _) _
      simp only [Act.put, List.setIfInBounds_toArray]
      try simp only [List.set_cons_zero, List.set_cons_succ]
      refine wpAnyH_done (by kernel_rfl) ?_ _
      refine NoPanic.normal ?_
      go_wp2_with fail
      go_meet
      case rel => exact ⟨ka, kc, rfl, HBF.out, HRS.out⟩
  case rest =>
  obtain ⟨ta, tc, rfl, HBT, HTS⟩ := hcut
  obtain ⟨X, rfl⟩ : ∃ x : World, x = wc := ⟨_, rfl⟩
  have hHX1 := fun y (hy : Below X.heap.size X y) => HFI.out la lc y (SliceR.below (RowR.stays 3) HCS.out (below_then HBT.out hy)) (SliceR.below StateR.stays HLW.out (below_then HBT.out hy))
  have hHX2 := fun y (hy : Below X.heap.size X y) => HTURN.out kk ta tc y (SliceR.below (RowR.stays 3) HCS.out (below_then HBT.out hy)) ⟨_, SliceR.below StateR.stays HLW.out (below_then HBT.out hy)⟩ (SliceR.below StateR.stays HTS.out hy)
  have HX1 := Lib.hid hHX1
  have HX2 := Lib.hid hHX2
  have C8 : Hid (∀ y, Below X.heap.size X y → y.cell? ⟨gx, 0, none⟩ = some (.int .i64 vars) ∧ y.cell? ⟨gx, 1, none⟩ = some (.int .i64 dom) ∧ y.cell? ⟨gx, 2, none⟩ = some (.slice ca cn cc) ∧ y.cell? ⟨gs, 0, none⟩ = some (.slice la n lc)) := fun y hy => by
    have hw := below_then HBT.out hy
    exact ⟨cells_kept hw _ _ (cell_of_block HG1.out 0), cells_kept hw _ _ (cell_of_block HG1.out 1), cells_kept hw _ _ (cell_of_block HG1.out 2), cells_kept hw _ _ (cell_of_block HS.out 0)⟩
  clear hHX1 hHX2 s0
  go_upto_region 8 with fail
  refine wp_region_noPanic ?_
  refine wp_region_held_drew (S := fun x => Below X.heap.size X x) (by kernel_rfl) (Below.refl _ _).drew (fun hH => ?_)
  refine wpAnyH_take (i := 0) (v := ?vr1) rfl (by kernel_rfl) (by kernel_rfl) (by kernel_rfl) (fun _ _ _ h => h) (Or.inl ⟨by rfl, ?hyr1⟩) (by assumption) ?_
  case hyr1 => (intro x' hxx; obtain ⟨e0, e1, e2, e3⟩ := C8.out x' hxx; go_simp; try with_reducible rfl)
  change wpAnyH _ _ _ _ _ _ _ (Act.put _ (some 45) _) _
  simp only [Act.put, List.setIfInBounds_toArray, List.set_cons_zero, List.set_cons_succ]
  refine wpAnyH_take (i := 1) (v := ?vr2) rfl (by kernel_rfl) (by kernel_rfl) (by kernel_rfl) (fun _ _ _ h => h) (Or.inl ⟨by rfl, ?hyr2⟩) (by assumption) ?_
  case hyr2 => (intro x' hxx; obtain ⟨e0, e1, e2, e3⟩ := C8.out x' hxx; go_simp; try with_reducible rfl)
  change wpAnyH _ _ _ _ _ _ _ (Act.put _ (some 46) _) _
  simp only [Act.put, List.setIfInBounds_toArray, List.set_cons_zero, List.set_cons_succ]
  refine wpAnyH_take (i := 2) (v := ?vr3) rfl (by kernel_rfl) (by kernel_rfl) (by kernel_rfl) (fun _ _ _ h => h) (Or.inl ⟨by rfl, ?hyr3⟩) (by assumption) ?_
  case hyr3 => (intro x' hxx; obtain ⟨e0, e1, e2, e3⟩ := C8.out x' hxx; go_simp; try with_reducible rfl)
  change wpAnyH _ _ _ _ _ _ _ (Act.put _ (some 47) _) _
  simp only [Act.put, List.setIfInBounds_toArray, List.set_cons_zero, List.set_cons_succ]
  refine wpAnyH_take (i := 4) (v := ?vr4) rfl (by kernel_rfl) (by kernel_rfl) (by kernel_rfl) (fun _ _ _ h => h) (Or.inl ⟨by rfl, ?hyr4⟩) (by assumption) ?_
  case hyr4 => (intro x' hxx; obtain ⟨e0, e1, e2, e3⟩ := C8.out x' hxx; go_simp; try with_reducible rfl)
  change wpAnyH _ _ _ _ _ _ _ (Act.put _ (some 49) _) _
  simp only [Act.put, List.setIfInBounds_toArray, List.set_cons_zero, List.set_cons_succ]
  refine wpAnyH_take (i := 5) (v := ?vr5) rfl (by kernel_rfl) (by kernel_rfl) (by kernel_rfl) (fun _ _ _ h => h) (Or.inl ⟨by rfl, ?hyr5⟩) (by assumption) ?_
  case hyr5 => (intro x' hxx; obtain ⟨e0, e1, e2, e3⟩ := C8.out x' hxx; go_simp; try with_reducible rfl)
  change wpAnyH _ _ _ _ _ _ _ (Act.put _ (some 50) _) _
  simp only [Act.put, List.setIfInBounds_toArray, List.set_cons_zero, List.set_cons_succ]
  refine wpAnyH_ready (rs := [3]) (by kernel_rfl) (by simp) ?_
  refine AllReadyH.cons rfl (fun K hK => ?_) AllReadyH.nil
  go_simp
  refine (HX1.out X.drew hH).mono ?_
  rintro e rw3 ⟨⟨xa, xc, rfl, hx⟩, hb⟩
  have HXA := Lib.hid hx
  clear hx
  have hHr3 : Below X.heap.size X rw3 := below_then hH hb
  refine hK.out _ _ hHr3 (fun _ => ?_)
  clear hK K hb hH
  refine wpAnyH_ready (rs := [6]) (by kernel_rfl) (by simp) ?_
  refine AllReadyH.cons rfl (fun K hK => ?_) AllReadyH.nil
  go_simp
  refine (HX2.out rw3 hHr3).mono ?_
  rintro e rw6 ⟨⟨ya, yc, rfl, hy⟩, hb⟩
  have HYA := Lib.hid hy
  have HXA2 := Lib.hid (SliceR.below FinalR.stays HXA.out hb)
  clear hy
  have hHr6 : Below X.heap.size X rw6 := below_then hHr3 hb
  refine hK.out _ _ hHr6 (fun _ => ?_)
  clear hK K hb hHr3
  refine wpAnyH_take (i := 7) (v := ?vr6) rfl (by kernel_rfl) (by kernel_rfl) (by kernel_rfl) (fun _ _ _ h => h) (Or.inl ⟨by rfl, ?hyr6⟩) (by assumption) ?_
  case hyr6 => (intro x' hxx; obtain ⟨e0, e1, e2, e3⟩ := C8.out x' hxx; go_simp; try with_reducible rfl)
  change wpAnyH _ _ _ _ _ _ _ (Act.put _ (some 13) _) _
  simp only [Act.put, List.setIfInBounds_toArray, List.set_cons_zero, List.set_cons_succ]
  refine wpAnyH_take (i := 8) (v := ?vr7) rfl (by kernel_rfl) (by kernel_rfl) (by kernel_rfl) (fun _ _ _ h => h) (Or.inl ⟨by rfl, ?hyr7⟩) (by assumption) ?_
  case hyr7 => (intro x' hxx; obtain ⟨e0, e1, e2, e3⟩ := C8.out x' hxx; go_simp; try with_reducible rfl)
  change wpAnyH _ _ _ _ _ _ _ (Act.put _ (some 14) _) _
  simp only [Act.put, List.setIfInBounds_toArray, List.set_cons_zero, List.set_cons_succ]
  refine wpAnyH_done (by kernel_rfl) ?_ _
  refine NoPanic.normal ?_
  have HEY := Lib.hid hHr6
  clear hHr6
  obtain ⟨rn, hrn⟩ : ∃ n, n = R.length := ⟨_, rfl⟩
  have hxa := HXA2.out
  rw [← hrn] at hxa ⊢
  have hrn1 : rn ≤ 9223372036854775807 := by obtain ⟨_, _, e, h⟩ := SliceR.slice hxa; omega
  have HRN := Lib.hid hrn
  have HXC := Lib.hid hxa
  have hya := HYA.out
  rw [← hrn] at hya
  have HYC := Lib.hid hya
  obtain ⟨Y, hY⟩ : ∃ Y, Y = rw6 := ⟨_, rfl⟩
  rw [← hY] at HXC HYC HEY ⊢
  clear hrn hxa hya HXA2 HYA HXA hY HX1 HX2 C8
  go_wp2_with fail
  go_loopg [15] rn (fun gg s15 wr => ∃ j : Nat, j ≤ rn ∧ Hid (gg = rn - j) ∧ s15 = .int .i64 ((j : Int) + 1) ∧ Hid (Below Y.heap.size Y wr))
  case atStart => exact ⟨0, Nat.zero_le _, rfl, rfl, Below.refl _ _⟩
  case round =>
    obtain ⟨j, hj, HG, rfl, HBR⟩ := hrel
    by_cases hlt : j + 1 < rn
    · have hltI : (j : Int) + 1 < (rn : Int) := by omega
      obtain ⟨b, off, ma, mc, ra, rc, hea, -, x0, x1, hfa⟩ := FinalsAt.part HXC.out j (by rw [← HRN.out]; omega)
      obtain ⟨b', off', ma', mc', ra', rc', hea', -, y0, y1, hfb⟩ := FinalsAt.part HXC.out (j + 1) (by rw [← HRN.out]; omega)
      subst hea
      obtain ⟨rfl, rfl⟩ : b = b' ∧ off = off' := by simpa using hea'
      have hbel := fun y (hy : Below Y.heap.size Y y) => refBelow_any y (R.getD j default) (R.getD (j + 1) default) _ _ _ _ (hfa.below hy) (hfb.below hy) (HFR.out j (by rw [← HRN.out]; omega)) (HFR.out (j + 1) (by rw [← HRN.out]; exact hlt))
      rw [rises_next HRIS.out (by rw [← HRN.out]; exact hlt)] at hbel
      unfold finalV at hbel
      generalize (R.getD j default).mem.length = m1 at x0 hbel
      generalize (R.getD j default).regs.length = r1 at x1 hbel
      generalize (R.getD (j + 1) default).mem.length = m2 at y0 hbel
      generalize (R.getD (j + 1) default).regs.length = r2 at y1 hbel
      have HBEL := Lib.hid hbel
      have C12 : Hid (∀ y, Below wr.heap.size wr y → y.cell? ⟨b, off + j * 2, none⟩ = some (.slice ma m1 mc) ∧ y.cell? ⟨b, off + j * 2 + 1, none⟩ = some (.slice ra r1 rc) ∧ y.cell? ⟨b, off + (j + 1) * 2, none⟩ = some (.slice ma' m2 mc') ∧ y.cell? ⟨b, off + (j + 1) * 2 + 1, none⟩ = some (.slice ra' r2 rc')) := fun y hy => by
        have hw := below_then HBR.out hy
        exact ⟨cells_kept hw _ _ x0, cells_kept hw _ _ x1, cells_kept hw _ _ y0, cells_kept hw _ _ y1⟩
      have hwj : IntKind.i64.wrap (j : Int) = (j : Int) := wrap_big j (by omega)
      have hjI : (0 : Int) ≤ (j : Int) := by omega
      have hjJ : (j : Int) < (rn : Int) := by omega
      have hjK : (0 : Int) ≤ (j : Int) + 1 := by omega
      have htj : ((j : Int) + 1).toNat = j + 1 := by omega
      clear hbel hfa hfb x0 x1 y0 y1
      go_upto_region 12 with fail
      refine wp_region_noPanic ?_
      refine wp_region_held_drew (S := fun x => Below wr.heap.size wr x) (by kernel_rfl) (Below.refl _ _).drew (fun hH => ?_)
      refine wpAnyH_take (i := 0) (v := ?vs1) rfl (by kernel_rfl) (by kernel_rfl) (by kernel_rfl) (fun _ _ _ h => h) (Or.inl ⟨by rfl, ?hys1⟩) (by assumption) ?_
      case hys1 => (intro x' hxx; obtain ⟨e0, e1, e2, e3⟩ := C12.out x' hxx; go_simp; try with_reducible rfl)
      change wpAnyH _ _ _ _ _ _ _ (Act.put _ (some 58) _) _
      simp only [Act.put, List.setIfInBounds_toArray, List.set_cons_zero, List.set_cons_succ]
      refine wpAnyH_take (i := 1) (v := ?vs2) rfl (by kernel_rfl) (by kernel_rfl) (by kernel_rfl) (fun _ _ _ h => h) (Or.inl ⟨by rfl, ?hys2⟩) (by assumption) ?_
      case hys2 => (intro x' hxx; obtain ⟨e0, e1, e2, e3⟩ := C12.out x' hxx; go_simp; try with_reducible rfl)
      change wpAnyH _ _ _ _ _ _ _ (Act.put _ (some 59) _) _
      simp only [Act.put, List.setIfInBounds_toArray, List.set_cons_zero, List.set_cons_succ]
      refine wpAnyH_take (i := 2) (v := ?vs3) rfl (by kernel_rfl) (by kernel_rfl) (by kernel_rfl) (fun _ _ _ h => h) (Or.inl ⟨by rfl, ?hys3⟩) (by assumption) ?_
      case hys3 => (intro x' hxx; obtain ⟨e0, e1, e2, e3⟩ := C12.out x' hxx; go_simp; try with_reducible rfl)
      change wpAnyH _ _ _ _ _ _ _ (Act.put _ (some 60) _) _
      simp only [Act.put, List.setIfInBounds_toArray, List.set_cons_zero, List.set_cons_succ]
      refine wpAnyH_take (i := 3) (v := ?vs4) rfl (by kernel_rfl) (by kernel_rfl) (by kernel_rfl) (fun _ _ _ h => h) (Or.inl ⟨by rfl, ?hys4⟩) (by assumption) ?_
      case hys4 => (intro x' hxx; obtain ⟨e0, e1, e2, e3⟩ := C12.out x' hxx; go_simp; try with_reducible rfl)
      change wpAnyH _ _ _ _ _ _ _ (Act.put _ (some 61) _) _
      simp only [Act.put, List.setIfInBounds_toArray, List.set_cons_zero, List.set_cons_succ]
      refine wpAnyH_take (i := 4) (v := ?vs5) rfl (by kernel_rfl) (by kernel_rfl) (by kernel_rfl) (fun _ _ _ h => h) (Or.inl ⟨by rfl, ?hys5⟩) (by assumption) ?_
      case hys5 => (intro x' hxx; obtain ⟨e0, e1, e2, e3⟩ := C12.out x' hxx; go_simp; try with_reducible rfl)
      change wpAnyH _ _ _ _ _ _ _ (Act.put _ (some 62) _) _
      simp only [Act.put, List.setIfInBounds_toArray, List.set_cons_zero, List.set_cons_succ]
      refine wpAnyH_take (i := 5) (v := ?vs6) rfl (by kernel_rfl) (by kernel_rfl) (by kernel_rfl) (fun _ _ _ h => h) (Or.inl ⟨by rfl, ?hys6⟩) (by assumption) ?_
      case hys6 => (intro x' hxx; obtain ⟨e0, e1, e2, e3⟩ := C12.out x' hxx; go_simp; try with_reducible rfl)
      change wpAnyH _ _ _ _ _ _ _ (Act.put _ (some 63) _) _
      simp only [Act.put, List.setIfInBounds_toArray, List.set_cons_zero, List.set_cons_succ]
      refine wpAnyH_take (i := 6) (v := ?vs7) rfl (by kernel_rfl) (by kernel_rfl) (by kernel_rfl) (fun _ _ _ h => h) (Or.inl ⟨by rfl, ?hys7⟩) (by assumption) ?_
      case hys7 => (intro x' hxx; obtain ⟨e0, e1, e2, e3⟩ := C12.out x' hxx; go_simp; try with_reducible rfl)
      change wpAnyH _ _ _ _ _ _ _ (Act.put _ (some 64) _) _
      simp only [Act.put, List.setIfInBounds_toArray, List.set_cons_zero, List.set_cons_succ]
      refine wpAnyH_take (i := 7) (v := ?vs8) rfl (by kernel_rfl) (by kernel_rfl) (by kernel_rfl) (fun _ _ _ h => h) (Or.inl ⟨by rfl, ?hys8⟩) (by assumption) ?_
      case hys8 => (intro x' hxx; obtain ⟨e0, e1, e2, e3⟩ := C12.out x' hxx; go_simp; try with_reducible rfl)
      change wpAnyH _ _ _ _ _ _ _ (Act.put _ (some 65) _) _
      simp only [Act.put, List.setIfInBounds_toArray, List.set_cons_zero, List.set_cons_succ]
      refine wpAnyH_take (i := 8) (v := ?vs9) rfl (by kernel_rfl) (by kernel_rfl) (by kernel_rfl) (fun _ _ _ h => h) (Or.inl ⟨by rfl, ?hys9⟩) (by assumption) ?_
      case hys9 => (intro x' hxx; obtain ⟨e0, e1, e2, e3⟩ := C12.out x' hxx; go_simp; try with_reducible rfl)
      change wpAnyH _ _ _ _ _ _ _ (Act.put _ (some 66) _) _
      simp only [Act.put, List.setIfInBounds_toArray, List.set_cons_zero, List.set_cons_succ]
      refine wpAnyH_ready (rs := [9]) (by kernel_rfl) (by simp) ?_
      refine AllReadyH.cons rfl (fun K hK => ?_) AllReadyH.nil
      go_simp
      refine (HBEL.out wr.drew (below_then HBR.out hH)).mono ?_
      rintro e sw9 ⟨rfl, hb⟩
      have hHs9 : Below wr.heap.size wr sw9 := below_then hH hb
      refine hK.out _ _ hHs9 (fun _ => ?_)
      clear hK K hb hH
      refine wpAnyH_take (i := 10) (v := ?vs10) rfl (by kernel_rfl) (by kernel_rfl) (by kernel_rfl) (fun _ _ _ h => h) (Or.inl ⟨by rfl, ?hys10⟩) (by assumption) ?_
      case hys10 => (intro x' hxx; obtain ⟨e0, e1, e2, e3⟩ := C12.out x' hxx; go_simp; try with_reducible rfl)
      change wpAnyH _ _ _ _ _ _ _ (Act.put _ (some 68) _) _
      simp only [Act.put, List.setIfInBounds_toArray, List.set_cons_zero, List.set_cons_succ]
      refine wpAnyH_done (by kernel_rfl) ?_ _
      refine NoPanic.normal ?_
      have HE12 := Lib.hid hHs9
      clear hHs9
      clear hwj htj
      go_wp2_with fail
      go_roundg (rn - (j + 1))
      case measure => rw [HG.out]; omega
      case rel => exact ⟨j + 1, by omega, rfl, by simp, below_then HBR.out HE12.out⟩
    · have hltI : decide ((j : Int) + 1 < (rn : Int)) = false := by rw [decide_eq_false_iff_not]; omega
      have hsm := refSame_any wr R R _ _ (by have := SliceR.below FinalR.stays HXC.out HBR.out; exact this) (SliceR.below FinalR.stays HYC.out HBR.out) HFR.out HFR.out
      rw [sameF_self] at hsm
      have HSM := Lib.hid hsm
      clear hsm
      go_wp2_with (go_at_call 13; go_must (refine HSM.out.mono ?_); rintro en Z ⟨rfl, hb⟩; (have HBZ := Lib.hid (below_then HBR.out hb)); clear hb)
      go_ret
      exact ⟨rfl, HOUT.out _ (below_then HBT.out (below_then HEY.out HBZ.out))⟩
theorem u8_bounds {x : Int} (h : (Lit.int .u8 x).wf = true) : 0 ≤ x ∧ x ≤ 255 := by
  constructor
  · simp [Lit.wf, IntKind.min, IntKind.max, IntKind.signed] at h; omega
  · simp [Lit.wf, IntKind.min, IntKind.max, IntKind.signed, IntKind.bits] at h; omega
theorem u16_bounds {x : Int} (h : (Lit.int .u16 x).wf = true) : 0 ≤ x ∧ x ≤ 65535 := by
  constructor
  · simp [Lit.wf, IntKind.min, IntKind.max, IntKind.signed] at h; omega
  · simp [Lit.wf, IntKind.min, IntKind.max, IntKind.signed, IntKind.bits] at h; omega
theorem finalOrder_top (w : World) (sv : Value) (l0 : List Int) (hn : NumsAt w .u8 sv l0) (hcap : ∀ a n c, sv = .slice a n c → n ≤ c) (q : Int) (hq : (Lit.int .u8 q).wf = true) (p : Int) (hp : (Lit.int .u16 p).wf = true) :
    Calls Try.prog 6 #[sv, .int .u8 q, .int .u16 p] w fun e w' => e = .returned (.bool true) ∧ Below w.heap.size w w' := finalOrder_any w sv l0 hn hcap q (u8_bounds hq).1 (u8_bounds hq).2 p (u16_bounds hp).1 (u16_bounds hp).2
end Go.Proofs.Ytnlkbboghcdpnaa
