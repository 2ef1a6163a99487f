/- The groups of a graph's nodes: the walk. -/
import Derived.Test.YtoojalcfojflhaaRepeatI
import Derived.Test.YtoojalcfojflhaaTail
namespace Go.Proofs.Ytoojalcfojflhaa
open Go.RowKit

/-- A list of its own of n numbers that are alike. -/
structure Alike (W w : World) (n : Nat) (c : Int) (v : Value) (b : Nat) : Prop where
  val : v = .slice (some ⟨b, 0, none⟩) n n
  block : w.heap[b]? = some (.cells (intsA n fun _ => c) 3 (0, 0))
  base : W.heap.size ≤ b
theorem Alike.below {W w w' : World} {n : Nat} {c : Int} {v : Value} {b : Nat} (h : Alike W w n c v b) (hb : Below w.heap.size w w') : Alike W w' n c v b := ⟨h.val, (hb.block b (lt_of_block h.block)).trans h.block, h.base⟩
theorem Alike.lt {W w : World} {n : Nat} {c : Int} {v : Value} {b : Nat} (h : Alike W w n c v b) : b < w.heap.size := lt_of_block h.block
/-- What is so while the walker's parts are made, in whatever order. -/
structure Parts (W w : World) (n : Nat) (x2 x4 x5 x7 x9 : Bool) (v12 v14 v15 v17 v19 : Value) (b12 b14 b15 b17 b19 : Nat) : Prop where
  below : Below W.heap.size W w
  f12 : x2 = true → Alike W w n 0 v12 b12
  f14 : x4 = true → Alike W w n 0 v14 b14
  f15 : x5 = true → v15 = .slice (some ⟨b15, 0, none⟩) 1 1 ∧ w.cell? ⟨b15, 0, none⟩ = some (.int .i64 (-1))
  f17 : x7 = true → Alike W w n (-1) v17 b17
  f19 : x9 = true → Alike W w n 0 v19 b19
  d1 : x2 = true → x4 = true → b12 ≠ b14
  d2 : x2 = true → x7 = true → b12 ≠ b17
  d3 : x2 = true → x9 = true → b12 ≠ b19
  d4 : x4 = true → x7 = true → b14 ≠ b17
  d5 : x4 = true → x9 = true → b14 ≠ b19
  d6 : x7 = true → x9 = true → b17 ≠ b19
section
variable {W w w' : World} {n : Nat} {x2 x4 x5 x7 x9 : Bool} {v12 v14 v15 v17 v19 : Value} {b12 b14 b15 b17 b19 : Nat}
theorem Parts.s2 (h : Parts W w n x2 x4 x5 x7 x9 v12 v14 v15 v17 v19 b12 b14 b15 b17 b19) (hb : Below w.heap.size w w') {v : Value} {b : Nat} (hv : Alike W w' n 0 v b) (hn : w.heap.size ≤ b) : Parts W w' n true x4 x5 x7 x9 v v14 v15 v17 v19 b b14 b15 b17 b19 :=
  ⟨below_then h.below hb, fun _ => hv, fun e => (h.f14 e).below hb, fun e => ⟨(h.f15 e).1, cells_kept hb _ _ (h.f15 e).2⟩, fun e => (h.f17 e).below hb, fun e => (h.f19 e).below hb,
    fun _ e => by have := (h.f14 e).lt; omega, fun _ e => by have := (h.f17 e).lt; omega, fun _ e => by have := (h.f19 e).lt; omega, h.d4, h.d5, h.d6⟩
theorem Parts.s4 (h : Parts W w n x2 x4 x5 x7 x9 v12 v14 v15 v17 v19 b12 b14 b15 b17 b19) (hb : Below w.heap.size w w') {v : Value} {b : Nat} (hv : Alike W w' n 0 v b) (hn : w.heap.size ≤ b) : Parts W w' n x2 true x5 x7 x9 v12 v v15 v17 v19 b12 b b15 b17 b19 :=
  ⟨below_then h.below hb, fun e => (h.f12 e).below hb, fun _ => hv, fun e => ⟨(h.f15 e).1, cells_kept hb _ _ (h.f15 e).2⟩, fun e => (h.f17 e).below hb, fun e => (h.f19 e).below hb,
    fun e _ => by have := (h.f12 e).lt; omega, h.d2, h.d3, fun _ e => by have := (h.f17 e).lt; omega, fun _ e => by have := (h.f19 e).lt; omega, h.d6⟩
theorem Parts.s5 (h : Parts W w n x2 x4 x5 x7 x9 v12 v14 v15 v17 v19 b12 b14 b15 b17 b19) (hb : Below w.heap.size w w') {b : Nat} (hv : w'.cell? ⟨b, 0, none⟩ = some (.int .i64 (-1))) : Parts W w' n x2 x4 true x7 x9 v12 v14 (.slice (some ⟨b, 0, none⟩) 1 1) v17 v19 b12 b14 b b17 b19 :=
  ⟨below_then h.below hb, fun e => (h.f12 e).below hb, fun e => (h.f14 e).below hb, fun _ => ⟨rfl, hv⟩, fun e => (h.f17 e).below hb, fun e => (h.f19 e).below hb, h.d1, h.d2, h.d3, h.d4, h.d5, h.d6⟩
theorem Parts.s7 (h : Parts W w n x2 x4 x5 x7 x9 v12 v14 v15 v17 v19 b12 b14 b15 b17 b19) (hb : Below w.heap.size w w') {v : Value} {b : Nat} (hv : Alike W w' n (-1) v b) (hn : w.heap.size ≤ b) : Parts W w' n x2 x4 x5 true x9 v12 v14 v15 v v19 b12 b14 b15 b b19 :=
  ⟨below_then h.below hb, fun e => (h.f12 e).below hb, fun e => (h.f14 e).below hb, fun e => ⟨(h.f15 e).1, cells_kept hb _ _ (h.f15 e).2⟩, fun _ => hv, fun e => (h.f19 e).below hb,
    h.d1, fun e _ => by have := (h.f12 e).lt; omega, h.d3, fun e _ => by have := (h.f14 e).lt; omega, h.d5, fun _ e => by have := (h.f19 e).lt; omega⟩
theorem Parts.s9 (h : Parts W w n x2 x4 x5 x7 x9 v12 v14 v15 v17 v19 b12 b14 b15 b17 b19) (hb : Below w.heap.size w w') {v : Value} {b : Nat} (hv : Alike W w' n 0 v b) (hn : w.heap.size ≤ b) : Parts W w' n x2 x4 x5 x7 true v12 v14 v15 v17 v b12 b14 b15 b17 b :=
  ⟨below_then h.below hb, fun e => (h.f12 e).below hb, fun e => (h.f14 e).below hb, fun e => ⟨(h.f15 e).1, cells_kept hb _ _ (h.f15 e).2⟩, fun e => (h.f17 e).below hb, fun _ => hv,
    h.d1, h.d2, fun e _ => by have := (h.f12 e).lt; omega, h.d4, fun e _ => by have := (h.f14 e).lt; omega, fun e _ => by have := (h.f17 e).lt; omega⟩
end
/-- make([]T, n), inside a drawn region. -/
theorem step_make_full {P : Program} (w : World) {ops : Array Oper} {o : Oper} {a : Act} {K : Act → World → Prop} {Q : Exit → Act → World → Prop} {E : Prop} (hw : Region.wanted o (yielded ops a.tmps) = true) (l c : Operand) (t : TypeId) (hop : o.op = Op.makeSlice t l c)
    (base : Nat) (e : TypeId) (i : TypeInfo) (z : Value) (size : Nat) (h1 : P.underlying t = some (.slice e)) (h2 : P.info? e = some i) (h3 : i.zero = some z) (h4 : i.size = size)
    (kl kc : IntKind) (n : Nat) (hl : a.eval l = .int kl (n : Int)) (hc : a.eval c = .int kc (n : Int)) (b2 : i.bytes * n ≤ 281474976710656) (b3 : n ≤ maxLen) (b4 : base ≤ w.heap.size)
    (hK : ∀ w', w'.ownsRow base e size (.slice (some ⟨w.heap.size, 0, none⟩) n n) n (madeCells z.cells (n * size)).toList → w.grownBy w' none → K (a.put o.dst (.slice (some ⟨w.heap.size, 0, none⟩) n n)) w') :
    if Region.wanted o (yielded ops a.tmps) = true then Oper.wp P o a w K Q else E := by
  rw [if_pos hw]
  obtain ⟨w', hrun, r1, r2⟩ := run_make_full (P := P) w base t e i z size h1 h2 h3 h4 kl kc n b2 b3 b4
  unfold Oper.wp
  simp [execOp, hop, hl, hc, hrun, Result.andThen]
  exact hK w' r1 r2
/-- What is made is alike. -/
theorem made_alike {W w w' : World} {B n : Nat} (hW : W.heap.size ≤ w.heap.size) (ho : w'.ownsRow B 3 1 (.slice (some ⟨w.heap.size, 0, none⟩) n n) n (madeCells (Value.int .i64 0).cells (n * 1)).toList) : Alike W w' n 0 (.slice (some ⟨w.heap.size, 0, none⟩) n n) w.heap.size := by
  refine ⟨rfl, ?_, hW⟩
  have h1 := row_whole ho
  rw [h1]
  congr 2
  unfold intsA
  apply Array.ext_getElem?
  intro i
  simp only [madeCells, Nat.mul_one]
  by_cases h : i < n <;> simp [h, Value.cells, Nat.mod_one]
set_option maxRecDepth 100000 in
set_option maxHeartbeats 4000000 in
theorem groups_any (w : World) (g : GraphD) (ev iv : Value) (h : GraphAt w g ev iv) (hright : g.right = true) :
    Calls Try.prog 19 #[graphV g ev iv] w fun e w' => ∃ (gb : Nat) (s : TS), e = .returned (.slice (some ⟨gb, 0, none⟩) g.edges.length g.edges.length) ∧ w'.heap[gb]? = some (.cells (intsA g.edges.length s.group) 3 (0, 0)) ∧ w.heap.size ≤ gb ∧ Below w.heap.size w w' ∧
      TInv g.edges.length g.succ (fun a => (a : Int) ∈ g.initial) s ∧ s.path = [] ∧ ∀ a : Nat, (a : Int) ∈ g.initial → 0 < s.order a := by
  obtain ⟨ea, ec, rfl, hel⟩ := h.edges.slice
  obtain ⟨ia, ic, rfl, hil⟩ := h.initial.slice
  obtain ⟨n, hn⟩ : ∃ n, n = g.edges.length := ⟨_, rfl⟩
  obtain ⟨q, hq⟩ : ∃ q, q = g.initial.length := ⟨_, rfl⟩
  obtain ⟨m, hm⟩ : ∃ m, m = g.marks := ⟨_, rfl⟩
  have HG := Lib.hid h
  unfold graphV
  rw [← hn] at hel HG ⊢
  rw [← hq] at hil HG ⊢
  rw [← hm]
  have HRIGHT := Lib.hid hright
  have HN := Lib.hid hn
  have HQ := Lib.hid hq
  have HM := Lib.hid hm
  have hn1 : n ≤ 1000000 := by
    unfold GraphD.right at hright
    simp only [Bool.and_eq_true, decide_eq_true_eq] at hright
    omega
  have HB := Lib.hid ((Below.refl w.heap.size w).alloc (Nat.le_refl _) (.cells #[.slice ea n ec, .slice ia q ic, .int .i64 m] 25))
  have H1 := Lib.hid (heap_alloc_new w (.cells #[.slice ea n ec, .slice ia q ic, .int .i64 m] 25))
  clear h hright hn hq hm
  go_enter Try.func19, Try.ntmps19
  go_upto_region 1 with fail
  generalize World.alloc _ _ = W at HB H1 ⊢
  obtain ⟨b, hb⟩ : ∃ b, b = w.heap.size := ⟨_, rfl⟩
  rw [← hb] at H1 ⊢
  have HBW := Lib.hid hb
  clear hb
  have c0 := cell_of_block H1.out 0
  have c1 := cell_of_block H1.out 1
  have c2 := cell_of_block H1.out 2
  simp only [List.getElem?_toArray, List.getElem?_cons_zero, List.getElem?_cons_succ] at c0 c1 c2
  go_upto_region 2 with fail
  have hcc : ∀ x, Below W.heap.size W x → x.cell? ⟨b, 0, none⟩ = some (.slice ea n ec) ∧ x.cell? ⟨b, 1, none⟩ = some (.slice ia q ic) ∧ x.cell? ⟨b, 2, none⟩ = some (.int .i64 m) := fun x hx => ⟨cells_kept hx _ _ c0, cells_kept hx _ _ c1, cells_kept hx _ _ c2⟩
  have CC := Lib.hid hcc
  clear hcc
  obtain ⟨i0, hi, hz0, hz1, hz2⟩ := info_parts int_info
  have hb2 : i0.bytes * n ≤ 281474976710656 := by rw [hz2]; omega
  have hrep := fun (X : World) (a : Addr) (hc : X.cell? a = some (.int .i64 (-1))) (hp : a.spot = none) => repeat_all (-1) n (by omega) X a hc (World.block_lt_of_cell? X _ hc) hp
  have HREP := Lib.hid hrep
  clear hrep hz2
  refine wp_region_noPanic ?_
  refine wp_region_held_drew (S := fun x => Below W.heap.size W x) (by kernel_rfl) (Below.refl _ _).drew (fun hH => ?_)
  refine wpAnyH_take (i := 0) (v := ?v1) rfl (by kernel_rfl) (by kernel_rfl) (by kernel_rfl) (fun _ _ _ h => h) (Or.inl ⟨by rfl, ?hy1⟩) (by assumption) ?_
  case hy1 => (intro x' hxx; obtain ⟨e0, e1, e2⟩ := CC.out x' hxx; go_simp; try with_reducible rfl)
  change wpAnyH _ _ _ _ _ _ _ (Act.put _ (some 10) _) _
  simp only [Act.put, List.setIfInBounds_toArray, List.set_cons_zero, List.set_cons_succ]
  refine wpAnyH_take (i := 1) (v := ?v2) rfl (by kernel_rfl) (by kernel_rfl) (by kernel_rfl) (fun _ _ _ h => h) (Or.inl ⟨by rfl, ?hy2⟩) (by assumption) ?_
  case hy2 => (intro x' hxx; obtain ⟨e0, e1, e2⟩ := CC.out x' hxx; go_simp; try with_reducible rfl)
  change wpAnyH _ _ _ _ _ _ _ (Act.put _ (some 11) _) _
  simp only [Act.put, List.setIfInBounds_toArray, List.set_cons_zero, List.set_cons_succ]
  refine wpAnyH_take (i := 3) (v := ?v3) rfl (by kernel_rfl) (by kernel_rfl) (by kernel_rfl) (fun _ _ _ h => h) (Or.inl ⟨by rfl, ?hy3⟩) (by assumption) ?_
  case hy3 => (intro x' hxx; obtain ⟨e0, e1, e2⟩ := CC.out x' hxx; go_simp; try with_reducible rfl)
  change wpAnyH _ _ _ _ _ _ _ (Act.put _ (some 13) _) _
  simp only [Act.put, List.setIfInBounds_toArray, List.set_cons_zero, List.set_cons_succ]
  refine wpAnyH_take (i := 6) (v := ?v4) rfl (by kernel_rfl) (by kernel_rfl) (by kernel_rfl) (fun _ _ _ h => h) (Or.inl ⟨by rfl, ?hy4⟩) (by assumption) ?_
  case hy4 => (intro x' hxx; obtain ⟨e0, e1, e2⟩ := CC.out x' hxx; go_simp; try with_reducible rfl)
  change wpAnyH _ _ _ _ _ _ _ (Act.put _ (some 16) _) _
  simp only [Act.put, List.setIfInBounds_toArray, List.set_cons_zero, List.set_cons_succ]
  refine wpAnyH_take (i := 8) (v := ?v5) rfl (by kernel_rfl) (by kernel_rfl) (by kernel_rfl) (fun _ _ _ h => h) (Or.inl ⟨by rfl, ?hy5⟩) (by assumption) ?_
  case hy5 => (intro x' hxx; obtain ⟨e0, e1, e2⟩ := CC.out x' hxx; go_simp; try with_reducible rfl)
  change wpAnyH _ _ _ _ _ _ _ (Act.put _ (some 18) _) _
  simp only [Act.put, List.setIfInBounds_toArray, List.set_cons_zero, List.set_cons_succ]
  change wpAnyH _ _ ?gops ?gQ ?gS _ _ _ _
  have hready : ∀ x2 x4 x5 x7 x9 : Bool, (x7 = true → x5 = true) → ∀ i ∈ Region.ready .any ?gops #[true, true, x2, true, x4, x5, true, x7, true, x9, false, false, false], (i = 2 ∧ x2 = false) ∨ (i = 4 ∧ x4 = false) ∨ (i = 5 ∧ x5 = false) ∨ (i = 7 ∧ x7 = false ∧ x5 = true) ∨ (i = 9 ∧ x9 = false) ∨ (i = 10 ∧ (x2 && x4 && x5 && x7 && x9) = true) := by decide +kernel
  have hne : ∀ x2 x4 x5 x7 x9 : Bool, (x2 && x4 && x5 && x7 && x9) = false → (x7 = true → x5 = true) → Region.ready .any ?gops #[true, true, x2, true, x4, x5, true, x7, true, x9, false, false, false] ≠ [] := by decide +kernel
  have key : ∀ (c : Nat) (x2 x4 x5 x7 x9 : Bool) (v12 v14 v15 v17 v19 : Value) (b12 b14 b15 b17 b19 : Nat) (X : World), c = (if x2 then 0 else 1) + (if x4 then 0 else 1) + (if x5 then 0 else 1) + (if x7 then 0 else 1) + (if x9 then 0 else 1) → (x7 = true → x5 = true) → Parts W X n x2 x4 x5 x7 x9 v12 v14 v15 v17 v19 b12 b14 b15 b17 b19 →
      wpAnyH Try.prog .any ?gops ?gQ ?gS (c + 3) #[true, true, x2, true, x4, x5, true, x7, true, x9, false, false, false] { tmps := #[.agg #[.slice ea n ec, .slice ia q ic, .int .i64 m], .pointer (some ⟨b, 0, none⟩), .slice none 0 0, .int .i64 n, undef, undef, undef, .pointer (some ⟨b, 0, none⟩), .slice ea n ec, .int .i64 n, .agg #[.slice ea n ec, .slice ia q ic, .int .i64 m], .int .i64 n, v12, .int .i64 n, v14, v15, .int .i64 n, v17, .int .i64 n, v19, undef, undef, undef, undef, undef, undef, undef, undef, undef, undef, undef, undef, undef, undef, undef, undef, undef], defers := [] } X := by
    intro c
    induction c with
    | zero =>
      intro x2 x4 x5 x7 x9 v12 v14 v15 v17 v19 b12 b14 b15 b17 b19 X hc h57 hP
      obtain ⟨rfl, rfl, rfl, rfl, rfl⟩ : x2 = true ∧ x4 = true ∧ x5 = true ∧ x7 = true ∧ x9 = true := by
        revert hc; cases x2 <;> cases x4 <;> cases x5 <;> cases x7 <;> cases x9 <;> simp
      have h12 := hP.f12 rfl
      have h14 := hP.f14 rfl
      have h17 := hP.f17 rfl
      have h19 := hP.f19 rfl
      have e12 := h12.val
      have e14 := h14.val
      have e17 := h17.val
      have e19 := h19.val
      subst e12 e14 e17 e19
      have H12 := Lib.hid h12
      have H14 := Lib.hid h14
      have H17 := Lib.hid h17
      have H19 := Lib.hid h19
      have HPP := Lib.hid hP
      have hBX := hP.below
      clear h12 h14 h17 h19 hP hc h57
      refine wpAnyH_take (i := 10) (v := ?v90) rfl (by kernel_rfl) (by kernel_rfl) (by kernel_rfl) (fun _ _ _ h => h) (Or.inl ⟨by rfl, ?hy90⟩) (by assumption) ?_
      case hy90 => (intro x' hxx; go_simp; try with_reducible rfl)
      change wpAnyH _ _ _ _ _ _ _ (Act.put _ (some 20) _) _
      simp only [Act.put, List.setIfInBounds_toArray, List.set_cons_zero, List.set_cons_succ]
      refine wpAnyH_ready (rs := [11]) (by kernel_rfl) (by simp) ?_
      refine AllReadyH.cons rfl (fun K hK => ?_) AllReadyH.nil
      go_simp
      refine hK.out _ _ (below_then hBX ((Below.refl _ _).alloc (Nat.le_refl _) _)) (fun hBV => ?_)
      clear hK K
      refine wpAnyH_take (i := 12) (v := ?v91) rfl (by kernel_rfl) (by kernel_rfl) (by kernel_rfl) (fun _ _ _ h => h) (Or.inl ⟨by rfl, ?hy91⟩) (by assumption) ?_
      case hy91 => (intro x' hxx; go_simp; try with_reducible rfl)
      change wpAnyH _ _ _ _ _ _ _ (Act.put _ (some 4) _) _
      simp only [Act.put, List.setIfInBounds_toArray, List.set_cons_zero, List.set_cons_succ]
      refine wpAnyH_done (by kernel_rfl) ?_ _
      refine NoPanic.normal ?_
      obtain ⟨k, hk⟩ : ∃ k : Wk, k = ⟨X.heap.size, b12, b14, b17, b19, n, ea, ec, .slice ia q ic, m⟩ := ⟨_, rfl⟩
      obtain ⟨s0, hs0⟩ : ∃ s0 : TS, s0 = ⟨fun _ => 0, fun _ => 0, fun _ => -1, [], [], fun _ => 0, 0⟩ := ⟨_, rfl⟩
      have hal : ∀ o, Below X.heap.size X (X.alloc o) := fun o => (Below.refl _ _).alloc (Nat.le_refl _) o
      have hWX : W.heap.size ≤ X.heap.size := HPP.out.below.size
      have hV : WalkV (X.alloc (.cells #[.slice ea n ec, .slice ia q ic, .int .i64 m, .slice (some ⟨b12, 0, none⟩) n n, .slice (some ⟨b14, 0, none⟩) n n, .slice (some ⟨b17, 0, none⟩) n n, .slice none 0 0, .slice none 0 0, .slice (some ⟨b19, 0, none⟩) n n, .int .i64 0] 73)) W.heap.size k none 0 none 0 s0 := by
        subst hk hs0
        refine ⟨heap_alloc_new X _, (H12.out.below (hal _)).block, (H14.out.below (hal _)).block, (H17.out.below (hal _)).block, (H19.out.below (hal _)).block, World.ownsRow_nil _ _ _ _, World.ownsRow_nil _ _ _ _, ?_, ?_, by simp [Value.ownBlock], by simp [Value.ownBlock], by simp [Value.ownBlock]⟩
        · have g1 := H12.out.lt
          have g2 := H14.out.lt
          have g3 := H17.out.lt
          have g4 := H19.out.lt
          have d1 := HPP.out.d1 rfl rfl
          have d2 := HPP.out.d2 rfl rfl
          have d3 := HPP.out.d3 rfl rfl
          have d4 := HPP.out.d4 rfl rfl
          have d5 := HPP.out.d5 rfl rfl
          have d6 := HPP.out.d6 rfl rfl
          unfold Wk.own
          simp only [List.nodup_cons, List.mem_cons, List.not_mem_nil, not_or, or_false, List.nodup_nil, and_true, not_false_eq_true]
          exact ⟨⟨by omega, by omega, by omega, by omega⟩, ⟨d1, d2, d3⟩, ⟨d4, d5⟩, d6⟩
        · intro x hx
          unfold Wk.own at hx
          simp only [List.mem_cons, List.not_mem_nil, or_false] at hx
          have g1 := H12.out.base
          have g2 := H14.out.base
          have g3 := H17.out.base
          have g4 := H19.out.base
          rcases hx with rfl | rfl | rfl | rfl | rfl <;> assumption
      have hWI : WInv n g.succ (fun a => (a : Int) ∈ g.initial) (fun _ => 0) s0 := by
        subst hs0
        refine ⟨TInv.start n g.succ _ _, ?_, fun v hv => absurd hv (Nat.lt_irrefl 0)⟩
        have : ∀ r, cnt (fun _ => 0) r = 0 := fun r => by
          induction r with
          | zero => rfl
          | succ r ih => simp only [cnt]; rw [ih]; rfl
        exact (this n).symm
      have hs0p : s0.path = [] := by rw [hs0]
      have hkb : k.b = X.heap.size := by rw [hk]
      have hkN : k.N = n := by rw [hk]
      have hkgb : k.gb = b17 := by rw [hk]
      have hkea : k.ea = ea ∧ k.ec = ec := by rw [hk]; exact ⟨rfl, rfl⟩
      rw [← hkb]
      have HV := Lib.hid (show WalkAt _ W.heap.size k s0 from ⟨_, _, _, _, hV⟩)
      have HWI := Lib.hid hWI
      have HSP := Lib.hid hs0p
      have HKN := Lib.hid hkN
      have HKE := Lib.hid hkea
      have HGB := Lib.hid hkgb
      have HBV : Hid (Below W.heap.size W _) := hBV
      clear hV hWI hs0p hkN hkea hkgb hs0 hk hal hWX hBX hBV H12 H14 H17 H19 HPP HREP hready hne hi hz0 hz1 hb2
      generalize World.alloc X _ = V at HV HBV ⊢
      obtain ⟨kb, hkb2⟩ : ∃ kb, kb = k.b := ⟨_, rfl⟩
      rw [← hkb2]
      have HKB := Lib.hid hkb2
      clear hkb hkb2
      obtain ⟨c0', c1', -⟩ := CC.out V HBV.out
      clear c0 c1 c2
      go_wp2_with fail
      as_aux_lemma =>
        go_loopg [25] q (fun gg s25 wr => ∃ i : Nat, i ≤ q ∧ Hid (gg = q - i) ∧ s25 = .int .i64 i ∧ ∃ s : TS, Hid (WalkAt wr W.heap.size k s) ∧ Hid (TInv n g.succ (fun a => (a : Int) ∈ g.initial) s ∧ s.many = cnt s.order n) ∧ Hid (s.path = []) ∧ Hid (∀ j, j < i → ∀ a : Nat, g.initial.getD j 0 = (a : Int) → 0 < s.order a) ∧ Hid (Below W.heap.size W wr))
        case atStart => exact ⟨0, Nat.zero_le _, rfl, rfl, s0, HV.out, ⟨HWI.out.inv, HWI.out.many⟩, HSP.out, fun j hj => by omega, HBV.out⟩
        case round =>
          obtain ⟨i, hi, HGG, rfl, s, HW, HI, HP, HJ, HBR⟩ := hrel
          by_cases hlt : i < q
          · have hltI : (i : Int) < (q : Int) := by omega
            have hgb := (HG.out.initial.below HB.out).below HBR.out
            obtain ⟨-, ib, io, rfl, -, hc, -⟩ := hgb.part i (by rw [← HQ.out]; exact hlt)
            obtain ⟨x, hx1, hx2⟩ := GraphD.right_init HRIGHT.out (j := i) (by rw [← HQ.out]; exact hlt)
            rw [hx1] at hc
            have hmem : (x : Int) ∈ g.initial := by
              rw [← hx1, List.getD_eq_getElem?_getD, List.getElem?_eq_getElem (by rw [← HQ.out]; exact hlt)]; exact List.getElem_mem _
            have hwalk := walk_any wr W.heap.size k g (fun a => (a : Int) ∈ g.initial) s.order s HW.out (by rw [HKN.out]; exact ⟨HI.out.1, HI.out.2, fun v h => h⟩) HP.out x (by rw [HKN.out, HN.out]; exact hx2) hmem (by rw [HKN.out, HN.out]) (by rw [HKN.out]; exact hn1) HRIGHT.out
              (fun X hX => by rw [HKE.out.1, HKE.out.2, HKN.out]; exact (HG.out.edges.below HB.out).below (HBR.out.trans hX)) HBR.out.size
            rw [← HKB.out] at hwalk
            have HWALK := Lib.hid hwalk
            have HX1 := Lib.hid hx1
            clear hwalk hx1 hx2 hmem hgb
            go_wp2_with fail
            refine HWALK.out.mono ?_
            rintro e w2 ⟨rfl, ⟨s2, hs2⟩, hb2⟩
            have HS2 := Lib.hid hs2
            have HB2 : Hid (Below W.heap.size W w2) := HBR.out.trans hb2
            clear hs2 hb2 HWALK hc
            go_wp2_with fail
            go_roundg (q - (i + 1))
            case measure => rw [HGG.out]; omega
            case rel =>
              refine ⟨i + 1, by omega, rfl, by simp, s2, HS2.out.at_, ⟨by have := HS2.out.inv.inv; rwa [HKN.out] at this, by have := HS2.out.inv.many; rwa [HKN.out] at this⟩, HS2.out.path, fun j hj a ha => ?_, HB2.out⟩
              by_cases he : j = i
              · subst he
                have : a = x := by have := HX1.out; omega
                subst this; exact HS2.out.come
              · exact HS2.out.inv.mono a (HJ.out j (by omega) a ha)
          · obtain rfl : i = q := by omega
            obtain ⟨oa, oc, pa, pc, hv⟩ := HW.out
            have c5 := hv.cells.2.2.2.1
            rw [← HKB.out, HKN.out, HGB.out] at c5
            have hg1 := hv.group
            have hg2 := hv.base k.gb (by simp [Wk.own])
            rw [HKN.out, HGB.out] at hg1
            rw [HGB.out] at hg2
            have HG1 := Lib.hid hg1
            have HG2 := Lib.hid hg2
            clear hv hg1 hg2
            go_wp2_with fail
            go_ret
            refine ⟨b17, s, rfl, HG1.out, Nat.le_trans HB.out.size HG2.out, below_then HB.out HBR.out, HI.out.1, HP.out, fun a ha => ?_⟩
            obtain ⟨j, hj, hja⟩ := List.getElem_of_mem ha
            exact HJ.out j (by rw [HQ.out]; exact hj) a (by rw [List.getD_eq_getElem?_getD, List.getElem?_eq_getElem hj]; exact hja)
    | succ c ih =>
      intro x2 x4 x5 x7 x9 v12 v14 v15 v17 v19 b12 b14 b15 b17 b19 X hc h57 hP
      have hall : (x2 && x4 && x5 && x7 && x9) = false := by revert hc; cases x2 <;> cases x4 <;> cases x5 <;> cases x7 <;> cases x9 <;> simp
      refine ⟨fun h => absurd h (hne x2 x4 x5 x7 x9 hall h57), fun i hi' => ?_⟩
      rcases hready x2 x4 x5 x7 x9 h57 i hi' with ⟨rfl, rfl⟩ | ⟨rfl, rfl⟩ | ⟨rfl, rfl⟩ | ⟨rfl, rfl, rfl⟩ | ⟨rfl, rfl⟩ | ⟨rfl, h⟩
      · refine wpOp_step rfl (fun K hK => ?_)
        refine step_make_full X (by rfl) (.tmp 11) (.tmp 11) 23 rfl W.heap.size 3 i0 (.int .i64 0) 1 Try.underlying23 hi hz0 hz1 .i64 .i64 n (by rfl) (by rfl) hb2 (by unfold maxLen; omega) hP.below.size ?_
        intro w' ho hg
        have hb : Below X.heap.size X w' := ((Since.refl (fun _ => False) X).grown hg (by simp)).below (Nat.le_refl _) (fun k h => h.elim)
        refine hK _ _ ⟨below_then hP.below hb, ?_⟩
        exact ih true x4 x5 x7 x9 _ v14 v15 v17 v19 _ b14 b15 b17 b19 w' (by simp at hc ⊢; omega) h57 (hP.s2 hb (made_alike hP.below.size ho) (Nat.le_refl _))
      · refine wpOp_step rfl (fun K hK => ?_)
        refine step_make_full X (by rfl) (.tmp 13) (.tmp 13) 23 rfl W.heap.size 3 i0 (.int .i64 0) 1 Try.underlying23 hi hz0 hz1 .i64 .i64 n (by rfl) (by rfl) hb2 (by unfold maxLen; omega) hP.below.size ?_
        intro w' ho hg
        have hb : Below X.heap.size X w' := ((Since.refl (fun _ => False) X).grown hg (by simp)).below (Nat.le_refl _) (fun k h => h.elim)
        refine hK _ _ ⟨below_then hP.below hb, ?_⟩
        exact ih x2 true x5 x7 x9 v12 _ v15 v17 v19 b12 _ b15 b17 b19 w' (by simp at hc ⊢; omega) h57 (hP.s4 hb (made_alike hP.below.size ho) (Nat.le_refl _))
      · refine wpOp_step rfl (fun K hK => ?_)
        have hb : Below X.heap.size X (X.alloc (.cells #[.int .i64 (-1)] 3)) := (Below.refl _ _).alloc (Nat.le_refl _) _
        have hp5 := hP.s5 hb (b := X.heap.size) (cell_of_block (heap_alloc_new X _) 0)
        have hk := hK _ (X.alloc (.cells #[.int .i64 (-1)] 3)) ⟨below_then hP.below hb, ih x2 x4 true x7 x9 v12 v14 _ v17 v19 b12 b14 _ b17 b19 _ (by simp at hc ⊢; omega) (fun _ => rfl) hp5⟩
        have HK := Lib.hid hk
        clear hk hK
        go_simp
        exact HK.out
      · refine wpOp_step rfl (fun K hK => ?_)
        obtain ⟨h1, h2⟩ := hP.f15 rfl
        subst h1
        have hk := fun (w' : World) (gb : Nat) (hb : Below X.heap.size X w') (hv : Alike W w' n (-1) (.slice (some ⟨gb, 0, none⟩) n n) gb) (hn : X.heap.size ≤ gb) => hK _ w' ⟨below_then hP.below hb, ih x2 x4 true true x9 v12 v14 _ (.slice (some ⟨gb, 0, none⟩) n n) v19 b12 b14 _ gb b19 _ (by simp at hc ⊢; omega) (fun _ => rfl) (hP.s7 hb hv hn)⟩
        have HK := Lib.hid hk
        clear hk hK
        go_simp
        refine (HREP.out X ⟨b15, 0, none⟩ h2 rfl).mono ?_
        rintro e w' ⟨gb, rfl, hg1, hg2, hg3⟩
        exact HK.out w' gb hg3 ⟨rfl, hg1, Nat.le_trans hP.below.size hg2⟩ hg2
      · refine wpOp_step rfl (fun K hK => ?_)
        refine step_make_full X (by rfl) (.tmp 18) (.tmp 18) 23 rfl W.heap.size 3 i0 (.int .i64 0) 1 Try.underlying23 hi hz0 hz1 .i64 .i64 n (by rfl) (by rfl) hb2 (by unfold maxLen; omega) hP.below.size ?_
        intro w' ho hg
        have hb : Below X.heap.size X w' := ((Since.refl (fun _ => False) X).grown hg (by simp)).below (Nat.le_refl _) (fun k h => h.elim)
        refine hK _ _ ⟨below_then hP.below hb, ?_⟩
        exact ih x2 x4 x5 x7 true v12 v14 v15 v17 _ b12 b14 b15 b17 _ w' (by simp at hc ⊢; omega) h57 (hP.s9 hb (made_alike hP.below.size ho) (Nat.le_refl _))
      · rw [hall] at h; cases h
  exact key 5 false false false false false undef undef undef undef undef 0 0 0 0 0 _ rfl nofun ⟨hH, nofun, nofun, nofun, nofun, nofun, nofun, nofun, nofun, nofun, nofun, nofun⟩
end Go.Proofs.Ytoojalcfojflhaa
