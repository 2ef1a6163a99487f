/- May a graph be: package lasso's answer. -/
import Derived.Test.YtoojalcfojflhaaFuncs
import Derived.Deep.DeepCutAuto
import Derived.Deep.RegionHeld3
import Derived.Deep.RegionWith
import Derived.Laws.EntriesVeiled
namespace Go.Proofs.Ytoojalcfojflhaa
open Go.RowKit

theorem range_any {α : Type} [Inhabited α] (l : List α) (d : α) (p : α → Bool) : (List.range l.length).any (fun j => p (l.getD j d)) = l.any p := by
  rw [Bool.eq_iff_iff, List.any_eq_true, List.any_eq_true]
  constructor
  · rintro ⟨j, hj, h⟩
    have hj' : j < l.length := by simpa using hj
    rw [List.getD_eq_getElem?_getD, List.getElem?_eq_getElem hj'] at h
    exact ⟨_, List.getElem_mem hj', h⟩
  · rintro ⟨x, hx, h⟩
    obtain ⟨j, hj, rfl⟩ := List.getElem_of_mem hx
    exact ⟨j, by simpa using hj, by rw [List.getD_eq_getElem?_getD, List.getElem?_eq_getElem hj]; exact h⟩
theorem boxes_below (w : World) (o1 o2 : Obj) : Below w.heap.size w ((w.alloc o1).alloc o2) := ((Below.refl _ _).alloc (Nat.le_refl _) _).alloc (by simp) _
theorem boxes_first (w : World) (o1 o2 : Obj) : ((w.alloc o1).alloc o2).heap[w.heap.size]? = some o1 := (Below.heap_alloc _ _ _ (by simp)).trans (heap_alloc_new w _)
theorem boxes_second (w : World) (o1 o2 : Obj) : ((w.alloc o1).alloc o2).heap[w.heap.size + 1]? = some o2 := by
  have := heap_alloc_new (w.alloc o1) o2
  simp only [World.size_alloc] at this; exact this
theorem below_then {a b c : World} (h : Below a.heap.size a b) (k : Below b.heap.size b c) : Below a.heap.size a c := h.trans (k.mono h.size)
theorem cells_kept {w w' : World} (h : Below w.heap.size w w') : ∀ a v, w.cell? a = some v → w'.cell? a = some v := fun _ _ hc => (h.cell (World.block_lt_of_cell? w _ hc)).trans hc
/-- Where a graph's two lists are told by a variable. -/
structure HeldAt (w : World) (b n : Nat) (ev : Option Addr) (ec : Nat) (iv : Value) (m : Int) : Prop where
  block : w.heap[b]? = some (.cells #[.slice ev n ec, iv, .int .i64 m] 25 (0, 0))
theorem HeldAt.below {w w' : World} {b n : Nat} {ev : Option Addr} {ec : Nat} {iv : Value} {m : Int} (h : HeldAt w b n ev ec iv m) (hb : Below w.heap.size w w') : HeldAt w' b n ev ec iv m := ⟨(hb.block b (lt_of_block h.block)).trans h.block⟩

set_option maxHeartbeats 1000000 in
/-- Is it no node? -/
theorem odd_any (w : World) (i : Int) (b n : Nat) (ev : Option Addr) (ec : Nat) (iv : Value) (m : Int) (h : HeldAt w b n ev ec iv m) (_ : n ≤ 9223372036854775807) :
    Calls Try.prog 25 #[.int .i64 i, .pointer (some ⟨b, 0, none⟩)] w fun e w' => e = .returned (.bool (!decide (0 ≤ i ∧ i < (n : Int)))) ∧ Below w.heap.size w w' := by
  have c0 := cell_of_block h.block 0
  simp only [List.getElem?_toArray, List.getElem?_cons_zero] at c0
  clear h
  obtain ⟨r, hr⟩ : ∃ r, r = !decide (0 ≤ i ∧ i < (n : Int)) := ⟨_, rfl⟩
  rw [← hr]
  by_cases h0 : i < 0
  · obtain rfl : r = true := by rw [hr]; simp; omega
    clear hr
    go_enter Try.func25, Try.ntmps25
    go_wp2
    go_ret
    exact ⟨rfl, Below.refl _ _⟩
  · by_cases h1 : (n : Int) ≤ i
    · obtain rfl : r = true := by rw [hr]; simp; omega
      clear hr
      go_enter Try.func25, Try.ntmps25
      go_wp2
      go_ret
      exact ⟨by first | rfl | simp, Below.refl _ _⟩
    · obtain rfl : r = false := by rw [hr]; simp; omega
      have h2 : i < (n : Int) := by omega
      clear hr
      go_enter Try.func25, Try.ntmps25
      go_wp2
      go_ret
      exact ⟨by first | rfl | simp, Below.refl _ _⟩
/-- An edge: does it lead to no node? -/
theorem oddEdge_any (w : World) (e : EdgeD) (f b n : Nat) (ev : Option Addr) (ec : Nat) (iv : Value) (m : Int) (hf : w.heap[f]? = some (.cells #[.func (.func 25) #[] #[.pointer (some ⟨b, 0, none⟩)]] 52 (0, 0))) (h : HeldAt w b n ev ec iv m) (hn : n ≤ 9223372036854775807) :
    Calls Try.prog 30 #[e.val, .pointer (some ⟨f, 0, none⟩)] w fun e' w' => e' = .returned (.bool (!decide (0 ≤ e.to ∧ e.to < (n : Int)))) ∧ Below w.heap.size w w' := by
  have ho := fun W (hW : Below w.heap.size w W) => odd_any W e.to b n ev ec iv m (h.below hW) hn
  obtain ⟨r, hr⟩ : ∃ r, r = !decide (0 ≤ e.to ∧ e.to < (n : Int)) := ⟨_, rfl⟩
  rw [← hr]
  simp only [← hr] at ho
  clear hr
  have HO := Lib.hid ho
  have c0 := cell_of_block ((Below.heap_alloc w (.cells #[.int .i64 e.to, .int .i64 e.marks] 37) _ (lt_of_block hf)).trans hf) 0
  simp only [List.getElem?_toArray, List.getElem?_cons_zero] at c0
  clear ho h hf
  obtain ⟨x, y⟩ := e
  unfold EdgeD.val
  simp only [] at c0 HO ⊢
  go_enter Try.func30, Try.ntmps30
  go_wp2_with fail
  refine (HO.out _ ((Below.refl _ _).alloc (Nat.le_refl _) _)).mono ?_
  rintro e' w2 ⟨rfl, hb⟩
  have HB : Hid (Below w.heap.size w w2) := below_then ((Below.refl _ _).alloc (Nat.le_refl _) _) hb
  clear hb HO c0
  go_wp2_with fail
  go_ret
  exact ⟨rfl, HB.out⟩
/-- Of a node's edges, does one lead to no node? -/
theorem oddEdges_any (w : World) (sv : Value) (l : List EdgeD) (hl : EdgeLAt w sv l) (f b n : Nat) (ev : Option Addr) (ec : Nat) (iv : Value) (m : Int) (hf : w.heap[f]? = some (.cells #[.func (.func 25) #[] #[.pointer (some ⟨b, 0, none⟩)]] 52 (0, 0))) (h : HeldAt w b n ev ec iv m) (hn : n ≤ 9223372036854775807) :
    Calls Try.prog 28 #[sv, .pointer (some ⟨f, 0, none⟩)] w fun e' w' => e' = .returned (.bool (l.any (fun e => !decide (0 ≤ e.to ∧ e.to < (n : Int))))) ∧ Below w.heap.size w w' := by
  obtain ⟨a, cap, rfl, -⟩ := hl.slice
  have hc := containsEdge_any w _ l hl 30 #[] #[.pointer (some ⟨f, 0, none⟩)] (fun j => !decide (0 ≤ (l.getD j default).to ∧ (l.getD j default).to < (n : Int))) (fun _ _ => rfl)
    (fun j _ W hW => oddEdge_any W (l.getD j default) f b n ev ec iv m ((hW.block f (lt_of_block hf)).trans hf) (h.below hW) hn)
  rw [range_any l default (fun e => !decide (0 ≤ e.to ∧ e.to < (n : Int)))] at hc
  obtain ⟨r, hr⟩ : ∃ r, r = l.any (fun e => !decide (0 ≤ e.to ∧ e.to < (n : Int))) := ⟨_, rfl⟩
  rw [← hr] at hc ⊢
  clear hr
  have HC := Lib.hid hc
  clear hc h hf hl
  go_enter Try.func28, Try.ntmps28
  go_wp2_with fail
  refine HC.out.mono ?_
  rintro e' w2 ⟨rfl, hb⟩
  have HB := Lib.hid hb
  clear hb HC
  go_wp2_with fail
  go_ret
  exact ⟨rfl, HB.out⟩
theorem all_not {α : Type} (l : List α) (p : α → Bool) : l.any (fun x => !p x) = !l.all p := by
  induction l with
  | nil => rfl
  | cons x l ih => simp only [List.any_cons, List.all_cons, ih, Bool.not_and]
set_option maxRecDepth 100000 in
set_option maxHeartbeats 2000000 in
theorem lassoRight_any (w : World) (g : GraphD) (ev iv : Value) (h : GraphAt w g ev iv) : Calls Try.prog 14 #[graphV g ev iv] w fun e w' => e = .returned (.bool g.right) ∧ Below w.heap.size w w' := by
  obtain ⟨ea, ec, rfl, hel⟩ := h.edges.slice
  obtain ⟨ia, ic, rfl, hil⟩ := h.initial.slice
  obtain ⟨es, is, m⟩ := g
  simp only [] at hel hil h ⊢
  have h1 := h.edges
  have h2 := h.initial
  simp only [] at h1 h2
  obtain ⟨n, hn⟩ : ∃ n, n = es.length := ⟨_, rfl⟩
  obtain ⟨k, hk⟩ : ∃ k, k = is.length := ⟨_, rfl⟩
  obtain ⟨r1, hr1⟩ : ∃ r1, r1 = is.any (fun i => !decide (0 ≤ i ∧ i < (n : Int))) := ⟨_, rfl⟩
  obtain ⟨r2, hr2⟩ : ∃ r2, r2 = es.any (fun l => l.any (fun e => !decide (0 ≤ e.to ∧ e.to < (n : Int)))) := ⟨_, rfl⟩
  -- what is asked
  have hq1 : ∀ W b, Below w.heap.size w W → HeldAt W b n ea ec (.slice ia k ic) m → Calls Try.prog 26 #[.slice ia k ic, .func (.func 25) #[] #[.pointer (some ⟨b, 0, none⟩)]] W fun e w' => e = .returned (.bool r1) ∧ Below W.heap.size W w' := fun W b hW hH => by
    have := containsInt_any W _ is (h2.below hW) 25 #[] #[.pointer (some ⟨b, 0, none⟩)] (fun j => !decide (0 ≤ is.getD j 0 ∧ is.getD j 0 < (n : Int))) (fun _ _ => rfl) (fun j _ V hV => odd_any V (is.getD j 0) b n ea ec _ m (hH.below hV) (by omega))
    rw [range_any is 0 (fun i => !decide (0 ≤ i ∧ i < (n : Int))), ← hr1, ← hk] at this
    exact this
  have hq2 : ∀ W b f, Below w.heap.size w W → HeldAt W b n ea ec (.slice ia k ic) m → W.heap[f]? = some (.cells #[.func (.func 25) #[] #[.pointer (some ⟨b, 0, none⟩)]] 52 (0, 0)) →
      Calls Try.prog 27 #[.slice ea n ec, .func (.func 28) #[] #[.pointer (some ⟨f, 0, none⟩)]] W fun e w' => e = .returned (.bool r2) ∧ Below W.heap.size W w' := fun W b f hW hH hf => by
    have := containsEdgeL_any W _ es (h1.below hW) 28 #[] #[.pointer (some ⟨f, 0, none⟩)] (fun j => (es.getD j []).any (fun e => !decide (0 ≤ e.to ∧ e.to < (n : Int)))) (fun _ _ => rfl)
      (fun j _ V kv hkv hV => oddEdges_any V kv _ hkv f b n ea ec _ m ((hV.block f (lt_of_block hf)).trans hf) (hH.below hV) (by omega))
    rw [range_any es [] (fun l => l.any (fun e => !decide (0 ≤ e.to ∧ e.to < (n : Int)))), ← hr2, ← hn] at this
    exact this
  have hres : GraphD.right ⟨es, is, m⟩ = (decide (n ≤ 1000000) && decide (0 ≤ m) && decide (m ≤ 40) && (!r2) && (!r1)) := by
    unfold GraphD.right GraphD.node
    simp only []
    rw [hr1, hr2, all_not is (fun i => decide (0 ≤ i ∧ i < (n : Int)))]
    have : (fun l : List EdgeD => l.any (fun e => !decide (0 ≤ e.to ∧ e.to < (n : Int)))) = fun l => !l.all (fun e => decide (0 ≤ e.to ∧ e.to < (n : Int))) := by
      funext l; exact all_not l (fun e => decide (0 ≤ e.to ∧ e.to < (n : Int)))
    rw [this, all_not es (fun l => l.all (fun e => decide (0 ≤ e.to ∧ e.to < (n : Int)))), ← hn]
    simp
  rw [hres]
  obtain ⟨r, hr⟩ : ∃ r, r = (decide (n ≤ 1000000) && decide (0 ≤ m) && decide (m ≤ 40) && (!r2) && (!r1)) := ⟨_, rfl⟩
  rw [← hr]
  have HR := Lib.hid hr
  clear hr
  unfold graphV
  simp only []
  rw [← hn] at hel ⊢
  rw [← hk] at hil ⊢
  have HQ1 := Lib.hid hq1
  have HQ2 := Lib.hid hq2
  clear hq1 hq2 hr1 hr2 hn hk hres h h1 h2
  have hB := boxes_below w (.cells #[.slice ea n ec, .slice ia k ic, .int .i64 m] 25) (.cells #[.func (.func 25) #[] #[.pointer (some ⟨w.heap.size, 0, none⟩)]] 52)
  have hx1 := boxes_first w (.cells #[.slice ea n ec, .slice ia k ic, .int .i64 m] 25) (.cells #[.func (.func 25) #[] #[.pointer (some ⟨w.heap.size, 0, none⟩)]] 52)
  have hx2 := boxes_second w (.cells #[.slice ea n ec, .slice ia k ic, .int .i64 m] 25) (.cells #[.func (.func 25) #[] #[.pointer (some ⟨w.heap.size, 0, none⟩)]] 52)
  have HB := Lib.hid hB
  have H1 := Lib.hid hx1
  have H2 := Lib.hid hx2
  clear hB hx1 hx2
  go_enter Try.func14, Try.ntmps14
  go_upto_region 2 with fail
  generalize World.alloc _ _ = W at HB H1 H2 ⊢
  obtain ⟨b, hb⟩ : ∃ b, b = w.heap.size := ⟨_, rfl⟩
  rw [← hb] at H1 H2 ⊢
  clear hb
  have c0 := cell_of_block H1.out 0
  have c1 := cell_of_block H1.out 1
  have c2 := cell_of_block H1.out 2
  have d0 := cell_of_block H2.out 0
  simp only [List.getElem?_toArray, List.getElem?_cons_zero, List.getElem?_cons_succ] at c0 c1 c2 d0
  by_cases a1 : 1000000 < (n : Int)
  · obtain rfl : r = false := by rw [HR.out, show decide (n ≤ 1000000) = false from by simp; omega]; simp
    clear HR
    go_wp2_with fail
    go_ret
    exact ⟨by first | rfl | simp, HB.out⟩
  · have e1 : decide (n ≤ 1000000) = true := by simp; omega
    by_cases a2 : m < 0
    · obtain rfl : r = false := by rw [HR.out, show decide (0 ≤ m) = false from by simp; omega]; simp
      clear HR
      go_wp2_with fail
      go_ret
      exact ⟨by first | rfl | simp, HB.out⟩
    · have e2 : decide (0 ≤ m) = true := by simp; omega
      by_cases a3 : 40 < m
      · obtain rfl : r = false := by rw [HR.out, show decide (m ≤ 40) = false from by simp; omega]; simp
        clear HR
        go_wp2_with fail
        go_ret
        exact ⟨by first | rfl | simp, HB.out⟩
      · have e3 : decide (m ≤ 40) = true := by simp; omega
        have hr3 : r = ((!r2) && (!r1)) := by rw [HR.out, e1, e2, e3]; simp
        have HR3 := Lib.hid hr3
        clear hr3 HR e1 e2 e3
        go_wp2_with fail
        refine (HQ1.out W b HB.out ⟨H1.out⟩).mono ?_
        rintro e W2 ⟨rfl, hb2⟩
        have HB2 : Hid (Below w.heap.size w W2) := below_then HB.out hb2
        have HH2 : Hid (HeldAt W2 b n ea ec (.slice ia k ic) m) := (HeldAt.mk H1.out).below hb2
        have HF2 : Hid (W2.heap[b + 1]? = _) := (hb2.block _ (lt_of_block H2.out)).trans H2.out
        replace c0 := cells_kept hb2 _ _ c0
        clear hb2 H1 H2 HB c1 c2 d0
        cases r1
        · go_wp2_with fail
          refine (HQ2.out W2 b (b + 1) HB2.out HH2.out HF2.out).mono ?_
          rintro e W3 ⟨rfl, hb3⟩
          have HB3 : Hid (Below w.heap.size w W3) := below_then HB2.out hb3
          clear hb3 HB2 HH2 HF2
          cases r2
          · obtain rfl : r = true := HR3.out
            clear HR3
            go_wp2_with fail
            go_ret
            exact ⟨by first | rfl | simp, HB3.out⟩
          · obtain rfl : r = false := HR3.out
            clear HR3
            go_wp2_with fail
            go_ret
            exact ⟨by first | rfl | simp, HB3.out⟩
        · obtain rfl : r = false := by rw [HR3.out]; simp
          clear HR3
          go_wp2_with fail
          go_ret
          exact ⟨by first | rfl | simp, HB2.out⟩
end Go.Proofs.Ytoojalcfojflhaa
