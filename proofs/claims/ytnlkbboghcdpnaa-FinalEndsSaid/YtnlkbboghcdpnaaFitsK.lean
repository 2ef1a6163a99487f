/- A move that may be keeps what fits: plain Lean. -/
import Derived.Test.YtnlkbboghcdpnaaFinMadeP
namespace Go.Proofs.Ytnlkbboghcdpnaa
open Go.RowKit

theorem u8_in {x : Int} (h : (Lit.int .u8 x).wf = true) : 0 ≤ x ∧ x ≤ 255 := by
  constructor
  · simp [Lit.wf, IntKind.min, IntKind.max, IntKind.signed] at h; omega
  · simp [Lit.wf, IntKind.min, IntKind.max, IntKind.signed, IntKind.bits] at h; omega
theorem wrap_u8 {x : Int} (h0 : 0 ≤ x) (h1 : x ≤ 255) : IntKind.i64.wrap x = x := IntWalk.i64_in _ (by omega)
theorem inDom_iff {dom n : Int} : inDom dom n = true ↔ 0 ≤ n ∧ n < dom := by unfold inDom; simp
/-- A thread that fits, by itself. -/
def thOk (c : CodeD) (m : MachD) (row : List InstrD) (t : ThreadD) : Prop := 0 ≤ t.pc ∧ t.pc ≤ (row.length : Int) ∧ (∀ k, k < 4 → inDom c.domain (t.regs.getD k 0) = true) ∧ ∀ k, k < t.buf.length → waitOk c m t.buf k = true
theorem fits_iff {c : CodeD} {m : MachD} {s : StateD} : fitsOk c m s = true ↔ mayOk c m = true ∧ s.threads.length = c.threads.length ∧ (s.mem.length : Int) = c.vars ∧ (∀ k, k < s.mem.length → inDom c.domain (s.mem.getD k 0) = true) ∧ ∀ i, i < s.threads.length → thOk c m (c.threads.getD i []) (s.threads.getD i default) := by
  unfold fitsOk threadOk thOk
  simp only [Bool.and_eq_true, decide_eq_true_eq, List.all_eq_true, List.mem_range]
  constructor
  · rintro ⟨⟨⟨⟨h1, h2⟩, h3⟩, h4⟩, h5⟩
    exact ⟨h1, h2, h3, h4, fun i hi => ⟨(h5 i hi).1.1.1, (h5 i hi).1.1.2, (h5 i hi).1.2, (h5 i hi).2⟩⟩
  · rintro ⟨h1, h2, h3, h4, h5⟩
    exact ⟨⟨⟨⟨h1, h2⟩, h3⟩, h4⟩, fun i hi => ⟨⟨⟨(h5 i hi).1, (h5 i hi).2.1⟩, (h5 i hi).2.2.1⟩, (h5 i hi).2.2.2⟩⟩
theorem may_facts {c : CodeD} {m : MachD} (h : mayOk c m = true) : codeOk c = true ∧ 2 ≤ c.domain := by
  unfold mayOk at h
  simp only [Bool.and_eq_true, decide_eq_true_eq] at h
  exact ⟨h.1.1.1.1, (codeOk_bounds h.1.1.1.1).2.2.1⟩
theorem eval_in {regs : List Int} {dom : Int} (hd : 1 ≤ dom) (hr : ∀ k, k < 4 → inDom dom (regs.getD k 0) = true) {x : ExprT} {e : Nat} (hx : exprOk dom e x = true) (d : Nat) : inDom dom (evalN regs dom d x) = true := by
  cases d with
  | zero => rw [inDom_iff]; unfold evalN; omega
  | succ d =>
    unfold evalN
    cases e with
    | zero => cases hx
    | succ e =>
      unfold exprOk at hx
      split
      · rename_i h1
        rw [if_pos h1] at hx
        simp only [Bool.and_eq_true, decide_eq_true_eq] at hx
        rw [inDom_iff]; exact hx.1.1
      · split
        · split
          · rename_i h; exact hr _ (by omega)
          · rw [inDom_iff]; omega
        · split
          · rw [inDom_iff]; exact ⟨Int.emod_nonneg _ (by omega), Int.emod_lt_of_pos _ (by omega)⟩
          · rw [inDom_iff]; omega
theorem set_in {dom : Int} {l : List Int} (hl : ∀ k, k < l.length → inDom dom (l.getD k 0) = true) (v : Nat) {n : Int} (hn : inDom dom n = true) : ∀ k, k < (l.set v n).length → inDom dom ((l.set v n).getD k 0) = true := fun k hk => by
  rw [List.length_set] at hk
  by_cases e : k = v
  · subst e
    rw [List.getD_eq_getElem?_getD, List.getElem?_set_self hk]; exact hn
  · rw [List.getD_eq_getElem?_getD, List.getElem?_set_ne (Ne.symm e), ← List.getD_eq_getElem?_getD]; exact hl k hk
theorem set4_in {dom : Int} {l : List Int} (hl : ∀ k, k < 4 → inDom dom (l.getD k 0) = true) (v : Nat) {n : Int} (hn : inDom dom n = true) : ∀ k, k < 4 → inDom dom ((l.set v n).getD k 0) = true := fun k hk => by
  by_cases e : k = v
  · subst e
    by_cases hk2 : k < l.length
    · rw [List.getD_eq_getElem?_getD, List.getElem?_set_self hk2]; exact hn
    · rw [List.set_eq_of_length_le (by omega)]; exact hl k hk
  · rw [List.getD_eq_getElem?_getD, List.getElem?_set_ne (Ne.symm e), ← List.getD_eq_getElem?_getD]; exact hl k hk
theorem wait_facts {c : CodeD} {m : MachD} {l : List EntryD} {k : Nat} (h : waitOk c m l k = true) : putOk (l.take k) m (l.getD k default) = true ∧ 0 ≤ (l.getD k default).var ∧ (l.getD k default).var < c.vars ∧ inDom c.domain (l.getD k default).n = true := by
  unfold waitOk at h
  simp only [Bool.and_eq_true, decide_eq_true_eq] at h
  exact ⟨h.1.1.1.1, h.1.1.1.2, h.1.1.2, inDom_iff.2 ⟨h.1.2, h.2⟩⟩
theorem wait_of {c : CodeD} {m : MachD} {l : List EntryD} {k : Nat} (h1 : putOk (l.take k) m (l.getD k default) = true) (h2 : 0 ≤ (l.getD k default).var) (h3 : (l.getD k default).var < c.vars) (h4 : inDom c.domain (l.getD k default).n = true) : waitOk c m l k = true := by
  unfold waitOk
  simp only [Bool.and_eq_true, decide_eq_true_eq]
  exact ⟨⟨⟨⟨h1, h2⟩, h3⟩, (inDom_iff.1 h4).1⟩, (inDom_iff.1 h4).2⟩
theorem scanB_in {c : CodeD} {m : MachD} {l : List EntryD} (h : ∀ k, k < l.length → waitOk c m l k = true) (v : Int) : ∀ i n, i ≤ l.length → scanB l v i = some n → inDom c.domain n = true := by
  intro i
  induction i with
  | zero => intro n _ h2; unfold scanB at h2; cases h2
  | succ i ih =>
    intro n hi h2
    unfold scanB at h2
    split at h2
    · cases h2; exact (wait_facts (h i (by omega))).2.2.2
    · exact ih n (by omega) h2
/-- A store more that waits. -/
theorem wait_app {c : CodeD} {m : MachD} {l : List EntryD} (h : ∀ k, k < l.length → waitOk c m l k = true) {x : EntryD} (hp : putOk l m x = true) (h2 : 0 ≤ x.var) (h3 : x.var < c.vars) (h4 : inDom c.domain x.n = true) : ∀ k, k < (l ++ [x]).length → waitOk c m (l ++ [x]) k = true := fun k hk => by
  rw [List.length_append, List.length_singleton] at hk
  by_cases e : k = l.length
  · subst e
    have hg : (l ++ [x]).getD l.length default = x := getD_snoc_eq
    exact wait_of (by rw [hg, List.take_left]; exact hp) (by rw [hg]; exact h2) (by rw [hg]; exact h3) (by rw [hg]; exact h4)
  · have hk2 : k < l.length := by omega
    have hg : (l ++ [x]).getD k default = l.getD k default := getD_snoc_lt hk2
    obtain ⟨a1, a2, a3, a4⟩ := wait_facts (h k hk2)
    exact wait_of (by rw [hg, List.take_append_of_le_length (by omega)]; exact a1) (by rw [hg]; exact a2) (by rw [hg]; exact a3) (by rw [hg]; exact a4)
theorem put_less {l r : List EntryD} {m : MachD} {x : EntryD} (h : putOk l m x = true) (hs : r.Sublist l) : putOk r m x = true := by
  unfold putOk putCount at h ⊢
  simp only [Bool.and_eq_true, decide_eq_true_eq] at h ⊢
  have := hs.countP_le (p := fun y => decide (m.model = 1) || decide (y.var = x.var))
  exact ⟨h.1, by omega⟩
/-- A store less that waits. -/
theorem wait_erase {c : CodeD} {m : MachD} {l : List EntryD} (h : ∀ k, k < l.length → waitOk c m l k = true) (p : Nat) : ∀ k, k < (l.eraseIdx p).length → waitOk c m (l.eraseIdx p) k = true := fun k hk => by
  by_cases hp : p < l.length
  · have hl : (l.eraseIdx p).length = l.length - 1 := List.length_eraseIdx_of_lt hp
    rw [hl] at hk
    by_cases e : k < p
    · have hg : (l.eraseIdx p).getD k default = l.getD k default := by
        simp only [List.getD_eq_getElem?_getD, List.getElem?_eraseIdx, if_pos e]
      obtain ⟨a1, a2, a3, a4⟩ := wait_facts (h k (by omega))
      have ht : ((l.eraseIdx p).take k).Sublist (l.take k) := by
        rw [List.eraseIdx_eq_take_drop_succ, List.take_append_of_le_length (by rw [List.length_take]; omega), List.take_take, Nat.min_eq_left (by omega)]
        exact List.Sublist.refl _
      exact wait_of (by rw [hg]; exact put_less a1 ht) (by rw [hg]; exact a2) (by rw [hg]; exact a3) (by rw [hg]; exact a4)
    · have hg : (l.eraseIdx p).getD k default = l.getD (k + 1) default := by
        simp only [List.getD_eq_getElem?_getD, List.getElem?_eraseIdx, if_neg e]
      obtain ⟨a1, a2, a3, a4⟩ := wait_facts (h (k + 1) (by omega))
      have ht : ((l.eraseIdx p).take k).Sublist (l.take (k + 1)) := by
        rw [List.eraseIdx_eq_take_drop_succ, List.take_append, List.length_take, Nat.min_eq_left (by omega), List.take_take, Nat.min_eq_right (by omega)]
        have : l.take (k + 1) = l.take p ++ (l.drop p).take (k + 1 - p) := by
          rw [← List.take_append_drop p l, List.take_append, List.length_take, Nat.min_eq_left (by omega), List.take_take, Nat.min_eq_right (by omega), List.take_append_drop]
        rw [this]
        refine List.Sublist.append_left ?_ _
        rw [show k + 1 - p = (k - p) + 1 by omega, List.drop_eq_getElem_cons hp, List.take_succ_cons]
        exact List.sublist_cons_self _ _
      exact wait_of (by rw [hg]; exact put_less a1 ht) (by rw [hg]; exact a2) (by rw [hg]; exact a3) (by rw [hg]; exact a4)
  · rw [List.eraseIdx_of_length_le (by omega)] at hk ⊢
    exact h k hk
theorem takeTo_erase (l : List EntryD) (v : Int) : ∀ i, i ≤ l.length → ((takeTo l v i).1 = none → (takeTo l v i).2 = l.take i) ∧ ∀ e, (takeTo l v i).1 = some e → ∃ p, p < i ∧ l.getD p default = e ∧ (takeTo l v i).2 = (l.take i).eraseIdx p := by
  intro i
  induction i with
  | zero => intro _; exact ⟨fun _ => rfl, fun e h => by cases h⟩
  | succ i ih =>
    intro hi
    obtain ⟨h1, h2⟩ := ih (by omega)
    have htk : l.take (i + 1) = l.take i ++ [l.getD i default] := by rw [List.take_succ_eq_append_getElem (by omega), List.getD_eq_getElem?_getD, List.getElem?_eq_getElem (by omega)]; rfl
    unfold takeTo
    split
    · rename_i h
      simp only [Bool.and_eq_true, decide_eq_true_eq, Option.isNone_iff_eq_none] at h
      refine ⟨(fun e => by cases e), fun e he => ?_⟩
      cases he
      refine ⟨i, by omega, rfl, ?_⟩
      rw [htk, List.eraseIdx_append_of_length_le (by rw [List.length_take]; omega), List.length_take, Nat.min_eq_left (by omega), Nat.sub_self]
      simp [h1 h.1]
    · refine ⟨fun e => by rw [htk, ← h1 e], fun e he => ?_⟩
      obtain ⟨p, hp, hpe, h3⟩ := h2 e he
      refine ⟨p, by omega, hpe, ?_⟩
      rw [htk, List.eraseIdx_append_of_lt_length (by rw [List.length_take]; omega)]
      show (takeTo l v i).2 ++ [l.getD i default] = _
      rw [h3]
/-- What is so of an instruction that may be. -/
theorem instr_facts {vars dom : Int} {many : Nat} {x : InstrD} (h : instrOk vars dom many x = true) : (x.op = 12 → exprOk dom 20 x.a = true ∧ 0 ≤ x.dest ∧ x.dest ≤ many) ∧ (x.op = 13 → 0 ≤ x.dest ∧ x.dest ≤ many) ∧ (¬ x.op = 12 → ¬ x.op = 13 → partOk x.op x.reg x.var x.a x.b vars dom = true) := by
  unfold instrOk at h
  refine ⟨fun e => ?_, fun e => ?_, fun e1 e2 => ?_⟩
  · rw [if_pos e] at h
    unfold fitsI partOk at h
    simp only [Bool.and_eq_true, decide_eq_true_eq] at h
    have := h.2.1.2
    unfold partA at this
    rw [if_pos (by decide)] at this
    exact ⟨this, h.1.1.2, h.1.2⟩
  · rw [if_neg (by omega), if_pos e] at h
    unfold fitsI at h
    simp only [Bool.and_eq_true, decide_eq_true_eq] at h
    exact ⟨h.1.1.2, h.1.2⟩
  · rw [if_neg e1, if_neg e2] at h
    split at h
    · cases h
    · unfold fitsI at h
      simp only [Bool.and_eq_true] at h
      exact h.2
theorem part_facts {k reg v : Int} {a b : ExprT} {vars dom : Int} (h : partOk k reg v a b vars dom = true) : (hasV k = true → 0 ≤ v ∧ v < vars) ∧ (hasA k = true → exprOk dom 20 a = true) ∧ (hasB k = true → exprOk dom 20 b = true) := by
  unfold partOk at h
  simp only [Bool.and_eq_true] at h
  obtain ⟨⟨⟨-, h2⟩, h3⟩, h4⟩ := h
  refine ⟨fun e => ?_, fun e => ?_, fun e => ?_⟩
  · unfold partV at h2; rw [if_pos e] at h2; simpa using h2
  · unfold partA at h3; rw [if_pos e] at h3; exact h3
  · unfold partB at h4; rw [if_pos e] at h4; exact h4
/-- What an instruction does to a thread that fits fits. -/
theorem stepT_fits {c : CodeD} {m : MachD} {s : StateD} {t : ThreadD} {x : InstrD} {d : Nat} {row : List InstrD} {r : ThreadD × List Int × Bool} (hm : mayOk c m = true) (ht : thOk c m row t) (hpc : t.pc < (row.length : Int)) (hx : instrOk c.vars c.domain row.length x = true)
    (hv : (s.mem.length : Int) = c.vars) (hmem : ∀ k, k < s.mem.length → inDom c.domain (s.mem.getD k 0) = true) (h : stepT c m s t x d = some r) : thOk c m row r.1 ∧ ∀ k, k < r.2.1.length → inDom c.domain (r.2.1.getD k 0) = true := by
  obtain ⟨hcode, hdom⟩ := may_facts hm
  obtain ⟨t1, t2, t3, t4⟩ := ht
  obtain ⟨f12, f13, fp⟩ := instr_facts hx
  have hnext : thOk c m row ⟨t.pc + 1, t.regs, t.buf⟩ := ⟨by show 0 ≤ t.pc + 1; omega, by show t.pc + 1 ≤ _; omega, t3, t4⟩
  have hset : ∀ (rg : Nat) (n : Int), inDom c.domain n = true → thOk c m row ⟨t.pc + 1, t.regs.set rg n, t.buf⟩ := fun rg n hn => ⟨by show 0 ≤ t.pc + 1; omega, by show t.pc + 1 ≤ _; omega, set4_in t3 rg hn, t4⟩
  have h0 : inDom c.domain 0 = true := by rw [inDom_iff]; omega
  have h1 : inDom c.domain 1 = true := by rw [inDom_iff]; omega
  have hev : ∀ y, exprOk c.domain 20 y = true → inDom c.domain (evalN t.regs c.domain d y) = true := fun y hy => eval_in (by omega) t3 hy d
  by_cases e1 : x.op = 1
  · obtain ⟨p1, -, -⟩ := part_facts (fp (by omega) (by omega))
    have hvr := p1 (by rw [e1]; rfl)
    rw [stepT_load e1] at h; cases h
    refine ⟨hset _ _ ?_, hmem⟩
    cases hl : lookB t.buf x.var with
    | none => exact hmem _ (by omega)
    | some n => exact scanB_in t4 x.var _ n (Nat.le_refl _) hl
  by_cases e2 : x.op = 2
  · obtain ⟨p1, p2, -⟩ := part_facts (fp (by omega) (by omega))
    have hvr := p1 (by rw [e2]; rfl)
    have ha := hev _ (p2 (by rw [e2]; rfl))
    by_cases hmo : m.model = 0
    · rw [stepT_store0 e2 hmo] at h; cases h; exact ⟨hnext, set_in hmem _ ha⟩
    · cases hp : putOk t.buf m ⟨x.var, evalN t.regs c.domain d x.a⟩ with
      | true =>
        rw [stepT_storeY e2 hmo hp] at h; cases h
        refine ⟨⟨by show 0 ≤ t.pc + 1; omega, by show t.pc + 1 ≤ _; omega, t3, ?_⟩, hmem⟩
        show ∀ k, k < (putB t.buf m ⟨x.var, evalN t.regs c.domain d x.a⟩).length → waitOk c m (putB t.buf m ⟨x.var, evalN t.regs c.domain d x.a⟩) k = true
        unfold putB
        rw [if_pos hp]
        exact wait_app t4 hp hvr.1 hvr.2 ha
      | false => rw [stepT_storeN e2 hmo hp] at h; cases h
  by_cases e3 : x.op = 3
  · obtain ⟨-, p2, -⟩ := part_facts (fp (by omega) (by omega))
    rw [stepT_set e3] at h; cases h; exact ⟨hset _ _ (hev _ (p2 (by rw [e3]; rfl))), hmem⟩
  by_cases e4 : x.op = 4
  · rw [stepT_fence e4] at h; split at h <;> cases h; exact ⟨hnext, hmem⟩
  by_cases e5 : x.op = 5
  · rw [stepT_weak e5] at h; split at h <;> cases h; exact ⟨hnext, hmem⟩
  by_cases e6 : x.op = 6
  · obtain ⟨-, -, p3⟩ := part_facts (fp (by omega) (by omega))
    have hb := hev _ (p3 (by rw [e6]; rfl))
    by_cases hv2 : s.mem.getD x.var.toNat 0 = evalN t.regs c.domain d x.a
    · rw [stepT_casY e6 hv2] at h; split at h <;> cases h; exact ⟨hset _ _ h1, set_in hmem _ hb⟩
    · rw [stepT_casN e6 hv2] at h; split at h <;> cases h; exact ⟨hset _ _ h0, hmem⟩
  by_cases e7 : x.op = 7
  · rw [stepT_lock e7] at h; split at h <;> cases h; exact ⟨hnext, set_in hmem _ h1⟩
  by_cases e8 : x.op = 8
  · rw [stepT_unlock e8] at h; split at h <;> cases h; exact ⟨hnext, set_in hmem _ h0⟩
  by_cases e9 : x.op = 9
  · rw [stepT_assert e9] at h; cases h; exact ⟨hnext, hmem⟩
  by_cases e12 : x.op = 12
  · have hd := f12 e12
    rw [stepT_branch e12] at h; cases h
    refine ⟨?_, hmem⟩
    show thOk c m row (if _ then _ else _)
    split
    · exact ⟨hd.2.1, hd.2.2, t3, t4⟩
    · exact hnext
  by_cases e13 : x.op = 13
  · have hd := f13 e13
    rw [stepT_jump e13] at h; cases h; exact ⟨⟨hd.1, hd.2, t3, t4⟩, hmem⟩
  · rw [stepT_other e1 e2 e3 e4 e5 e6 e7 e8 e9 e12 e13] at h; cases h; exact ⟨hnext, hmem⟩
theorem fits_set {c : CodeD} {m : MachD} {s : StateD} (h : fitsOk c m s = true) {i : Nat} {t : ThreadD} {mem : List Int} {bad : Bool} (hi : i < s.threads.length) (ht : thOk c m (c.threads.getD i []) t) (hl : mem.length = s.mem.length) (hmem : ∀ k, k < mem.length → inDom c.domain (mem.getD k 0) = true) : fitsOk c m ⟨s.threads.set i t, mem, bad⟩ = true := by
  obtain ⟨h1, h2, h3, -, h5⟩ := fits_iff.1 h
  refine fits_iff.2 ⟨h1, by simpa using h2, by show (mem.length : Int) = _; rw [hl]; exact h3, hmem, fun j hj => ?_⟩
  have hj2 : j < s.threads.length := by simpa using hj
  show thOk c m _ ((s.threads.set i t).getD j default)
  by_cases e : j = i
  · subst e
    have hg : (s.threads.set j t).getD j default = t := by rw [List.getD_eq_getElem?_getD, List.getElem?_set_self hj2]; rfl
    rw [hg]; exact ht
  · have hg : (s.threads.set i t).getD j default = s.threads.getD j default := by rw [List.getD_eq_getElem?_getD, List.getElem?_set_ne (Ne.symm e), ← List.getD_eq_getElem?_getD]
    rw [hg]; exact h5 j hj2
theorem row_instr {c : CodeD} (h : codeOk c = true) {i k : Nat} (hi : i < c.threads.length) (hk : k < (c.threads.getD i []).length) : instrOk c.vars c.domain (c.threads.getD i []).length ((c.threads.getD i []).getD k default) = true := by
  unfold codeOk at h
  simp only [Bool.and_eq_true] at h
  have h1 := h.2
  rw [List.all_eq_true] at h1
  have h2 := h1 _ (getD_mem (x := []) hi)
  unfold rowOk at h2
  simp only [Bool.and_eq_true] at h2
  have h4 := h2.2
  rw [List.all_eq_true] at h4
  exact h4 _ (getD_mem hk)
/-- A move that may be keeps what fits. -/
theorem do_fits {c : CodeD} {m : MachD} {s : StateD} {d : Nat} {x : MoveD} (h : x ∈ movesS c m s d) : fitsOk c m (doS c m s x d).1 = true := by
  obtain ⟨hf, -⟩ := moves_mem h
  obtain ⟨h1, h2, h3, h4, h5⟩ := fits_iff.1 hf
  obtain ⟨hcode, -⟩ := may_facts h1
  obtain ⟨i, hi, hx⟩ := do_moves h
  have hti := h5 i hi
  rcases hx with ⟨rfl, t, ht, he⟩ | ⟨v, rfl, hv, he⟩
  · rw [he]
    unfold stepS at ht
    split at ht
    · rename_i hpc
      obtain ⟨r, hr, rfl⟩ := Option.map_eq_some_iff.1 ht
      have hk : (s.threads.getD i default).pc.toNat < (c.threads.getD i []).length := by have := hti.1; omega
      obtain ⟨g1, g2⟩ := stepT_fits h1 hti hpc (row_instr hcode (by omega) hk) h3 h4 hr
      exact fits_set hf hi g1 (stepT_mem hr) g2
    · cases ht
  · rw [he]
    obtain ⟨v0, v1, n, hn⟩ := fits_heads hf hi hv
    obtain ⟨-, k2⟩ := takeTo_erase (s.threads.getD i default).buf v _ (Nat.le_refl _)
    have hn1 : (takeB (s.threads.getD i default).buf v).1 = some ⟨v, n⟩ := by rw [hn]
    obtain ⟨p, hp, hpe, hp2⟩ := k2 _ hn1
    rw [List.take_length] at hp2
    have hw := wait_facts (hti.2.2.2 p hp)
    rw [hpe] at hw
    unfold flushS
    rw [hn1]
    refine fits_set hf hi ⟨hti.1, hti.2.1, hti.2.2.1, ?_⟩ (by simp) (set_in h4 _ hw.2.2.2)
    show ∀ k, k < (takeB (s.threads.getD i default).buf v).2.length → waitOk c m (takeB (s.threads.getD i default).buf v).2 k = true
    rw [show (takeB (s.threads.getD i default).buf v).2 = (s.threads.getD i default).buf.eraseIdx p from hp2]
    exact wait_erase hti.2.2.2 p
/-- The first state fits. -/
theorem start_fits {c : CodeD} {m : MachD} (h : mayOk c m = true) : fitsOk c m (startS c) = true := by
  obtain ⟨hc, hd⟩ := may_facts h
  have hb := codeOk_bounds hc
  unfold startS
  rw [if_pos hc]
  refine fits_iff.2 ⟨h, by simp, by simp; omega, fun k hk => ?_, fun i hi => ?_⟩
  · rw [inDom_iff]
    simp only [List.length_replicate] at hk
    simp [List.getD_eq_getElem?_getD, hk]; omega
  · simp only [List.length_replicate] at hi
    have hg : (List.replicate c.threads.length (default : ThreadD)).getD i default = default := by simp [List.getD_eq_getElem?_getD, hi]
    show thOk c m _ ((List.replicate c.threads.length (default : ThreadD)).getD i default)
    rw [hg]
    refine ⟨Int.le_refl _, by show (0 : Int) ≤ _; omega, fun k hk => ?_, fun k hk => by simp [default] at hk⟩
    rw [inDom_iff]
    rcases (by omega : k = 0 ∨ k = 1 ∨ k = 2 ∨ k = 3) with rfl | rfl | rfl | rfl <;> (constructor <;> (show _; simp [default]; try omega))
end Go.Proofs.Ytnlkbboghcdpnaa
