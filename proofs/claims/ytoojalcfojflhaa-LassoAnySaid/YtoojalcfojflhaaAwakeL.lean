/- Awake: of two nodes that lead to one another a lasso is told, by one mark, by two none. -/
import Derived.Test.YtoojalcfojflhaaFind
import Derived.Test.YtoojalcfojflhaaRAccept
namespace Go.Proofs.Ytoojalcfojflhaa
open Go.RowKit

def gA (m : Int) : GraphD := ⟨[[⟨1, 0⟩], [⟨0, 1⟩]], [0], m⟩
def gB : GraphD := ⟨[], [0], 0⟩
theorem gA_right (m : Int) (h : m = 1 ∨ m = 2) : (gA m).right = true := by rcases h with rfl | rfl <;> decide
theorem gB_right : gB.right = false := by decide
theorem gA_has {m : Int} {a k : Nat} (h : (gA m).has a k) : (a = 0 ∨ a = 1) ∧ k = 0 := by
  unfold GraphD.has gA at h
  match a with
  | 0 => simp at h; exact ⟨.inl rfl, h⟩
  | 1 => simp at h; exact ⟨.inr rfl, h⟩
  | a + 2 => simp at h
theorem gA_fits (m : Int) : (gA m).fits := by
  intro a k h
  obtain ⟨rfl | rfl, rfl⟩ := gA_has h
  · show (-9223372036854775808 : Int) ≤ 0 ∧ (0 : Int) ≤ 9223372036854775807; decide
  · show (-9223372036854775808 : Int) ≤ 1 ∧ (1 : Int) ≤ 9223372036854775807; decide
theorem gA_01 (m : Int) : Reach (gA m).succ 0 1 := .edge (by show (1 : Nat) ∈ [1]; simp)
theorem gA_10 (m : Int) : Reach (gA m).succ 1 0 := .edge (by show (0 : Nat) ∈ [0]; simp)
theorem gA_circ (m : Int) : Circ (gA m) 0 1 0 := ⟨by show 0 < 1; omega, gA_01 m, gA_10 m, .refl 0, .refl 0⟩
theorem gA_one : HasL (gA 1) := by
  refine ⟨0, 0, by show ((0 : Nat) : Int) ∈ [0]; simp, .refl 0, ⟨1, 0, gA_circ 1⟩, fun b hb => ⟨1, 0, gA_circ 1, ?_⟩⟩
  have : b = 0 := by have h : b < 1 := hb; omega
  subst this; decide
theorem gA_two : ¬ HasL (gA 2) := by
  rintro ⟨i, x0, -, -, -, hm⟩
  obtain ⟨a, k, hc, hb⟩ := hm 1 (by decide)
  obtain ⟨rfl | rfl, rfl⟩ := gA_has hc.1 <;> exact absurd hb (by decide)
theorem gB_fits : gB.fits := by
  intro a k h
  unfold GraphD.has gB at h; simp at h
theorem four_blocks (w : World) (A B C D : Obj) : ((((w.alloc A).alloc B).alloc C).alloc D).heap[w.heap.size]? = some A ∧ ((((w.alloc A).alloc B).alloc C).alloc D).heap[w.heap.size + 1]? = some B ∧ ((((w.alloc A).alloc B).alloc C).alloc D).heap[w.heap.size + 1 + 1]? = some C ∧
    ((((w.alloc A).alloc B).alloc C).alloc D).heap[w.heap.size + 1 + 1 + 1]? = some D ∧ ((((w.alloc A).alloc B).alloc C).alloc D).heap.size = w.heap.size + 1 + 1 + 1 + 1 := by
  have s1 : (w.alloc A).heap.size = w.heap.size + 1 := by simp
  have s2 : ((w.alloc A).alloc B).heap.size = w.heap.size + 1 + 1 := by simp
  have s3 : (((w.alloc A).alloc B).alloc C).heap.size = w.heap.size + 1 + 1 + 1 := by simp
  have n1 := heap_alloc_new w A
  have n2 := heap_alloc_new (w.alloc A) B
  have n3 := heap_alloc_new ((w.alloc A).alloc B) C
  have n4 := heap_alloc_new (((w.alloc A).alloc B).alloc C) D
  rw [s1] at n2
  rw [s2] at n3
  rw [s3] at n4
  exact ⟨(Below.heap_alloc _ _ _ (by omega)).trans ((Below.heap_alloc _ _ _ (by omega)).trans ((Below.heap_alloc _ _ _ (by omega)).trans n1)), (Below.heap_alloc _ _ _ (by omega)).trans ((Below.heap_alloc _ _ _ (by omega)).trans n2), (Below.heap_alloc _ _ _ (by omega)).trans n3, n4, by simp⟩
/-- The graph of awake, in memory. -/
theorem gA_at (w : World) (m : Int) : ∃ W0, W0 = (((w.alloc (.cells #[.int .i64 1, .int .i64 0] 37)).alloc (.cells #[.int .i64 0, .int .i64 1] 37)).alloc (.cells #[.slice (some ⟨w.heap.size, 0, none⟩) 1 1, .slice (some ⟨w.heap.size + 1, 0, none⟩) 1 1] 29)).alloc (.cells #[.int .i64 0] 3) ∧
    GraphAt W0 (gA m) (.slice (some ⟨w.heap.size + 1 + 1, 0, none⟩) 2 2) (.slice (some ⟨w.heap.size + 1 + 1 + 1, 0, none⟩) 1 1) ∧ Below w.heap.size w W0 ∧ W0.heap.size = w.heap.size + 1 + 1 + 1 + 1 := by
  obtain ⟨k1, k2, k3, k4, k5⟩ := four_blocks w (.cells #[.int .i64 1, .int .i64 0] 37) (.cells #[.int .i64 0, .int .i64 1] 37) (.cells #[.slice (some ⟨w.heap.size, 0, none⟩) 1 1, .slice (some ⟨w.heap.size + 1, 0, none⟩) 1 1] 29) (.cells #[.int .i64 0] 3)
  have hb : Below w.heap.size w ((((w.alloc (.cells #[.int .i64 1, .int .i64 0] 37)).alloc (.cells #[.int .i64 0, .int .i64 1] 37)).alloc (.cells #[.slice (some ⟨w.heap.size, 0, none⟩) 1 1, .slice (some ⟨w.heap.size + 1, 0, none⟩) 1 1] 29)).alloc (.cells #[.int .i64 0] 3)) := ((((Below.refl _ _).alloc (Nat.le_refl _) _).alloc (by simp) _).alloc (by simp; omega) _).alloc (by simp; omega) _
  generalize hW0 : World.alloc _ _ = W0 at k1 k2 k3 k4 k5 hb ⊢
  refine ⟨W0, rfl, ⟨⟨_, _, rfl, by show 2 ≤ 9223372036854775807; decide, fun j hj => ?_⟩, ⟨_, _, rfl, by show 1 ≤ 9223372036854775807; decide, fun x hx => ?_, fun j hj => ?_⟩⟩, hb, k5⟩
  · match j with
    | 0 =>
      refine ⟨w.heap.size + 1 + 1, 0, .slice (some ⟨w.heap.size, 0, none⟩) 1 1, rfl, by omega, cell_of_block k3 0, ⟨_, _, rfl, by show 1 ≤ 9223372036854775807; decide, fun j hj => ?_⟩⟩
      have hj0 : j = 0 := by have h : j < 1 := hj; omega
      subst hj0
      refine ⟨w.heap.size, 0, rfl, by omega, fun i hi => ?_⟩
      have := cell_of_block k1 i
      rw [show 0 + 0 * 2 + i = i by omega, this]
      match i, hi with
      | 0, _ => rfl
      | 1, _ => rfl
      | i + 2, h => exact absurd h (by omega)
    | 1 =>
      refine ⟨w.heap.size + 1 + 1, 0, .slice (some ⟨w.heap.size + 1, 0, none⟩) 1 1, rfl, by omega, cell_of_block k3 1, ⟨_, _, rfl, by show 1 ≤ 9223372036854775807; decide, fun j hj => ?_⟩⟩
      have hj0 : j = 0 := by have h : j < 1 := hj; omega
      subst hj0
      refine ⟨w.heap.size + 1, 0, rfl, by omega, fun i hi => ?_⟩
      have := cell_of_block k2 i
      rw [show 0 + 0 * 2 + i = i by omega, this]
      match i, hi with
      | 0, _ => rfl
      | 1, _ => rfl
      | i + 2, h => exact absurd h (by omega)
    | j + 2 => have h : j + 2 < 2 := hj; omega
  · have h : x ∈ [(0 : Int)] := hx
    simp at h; subst h; decide
  · have hj0 : j = 0 := by have h : j < 1 := hj; omega
    subst hj0
    exact ⟨w.heap.size + 1 + 1 + 1, 0, rfl, by omega, cell_of_block k4 0⟩
set_option maxRecDepth 100000 in
set_option maxHeartbeats 4000000 in
theorem awakeL_any (w : World) : Calls Try.prog 8 #[] w fun e w' => e = .returned (.bool true) ∧ Below w.heap.size w w' := by
  obtain ⟨W0, hW0, hg0, hb0, hz0⟩ := gA_at w 1
  have hg2 : GraphAt W0 (gA 2) (.slice (some ⟨w.heap.size + 1 + 1, 0, none⟩) 2 2) (.slice (some ⟨w.heap.size + 1 + 1 + 1, 0, none⟩) 1 1) := ⟨hg0.edges, hg0.initial⟩
  go_enter Try.func8, Try.ntmps8
  go_upto_region 2 with fail
  rw [← hW0, ← hz0]
  have HB0 := Lib.hid hb0
  obtain ⟨ev, hev⟩ : ∃ ev, ev = some (⟨w.heap.size + 1 + 1, 0, none⟩ : Addr) := ⟨_, rfl⟩
  obtain ⟨iv, hiv⟩ : ∃ iv, iv = some (⟨w.heap.size + 1 + 1 + 1, 0, none⟩ : Addr) := ⟨_, rfl⟩
  rw [← hev, ← hiv] at hg0 hg2 ⊢
  have HG1 := Lib.hid hg0
  have HG2 := Lib.hid hg2
  clear hW0 hg0 hg2 hz0 hb0 hev hiv
  have f1 := fun X (hX : Below W0.heap.size W0 X) => find_any X (gA 1) _ _ (HG1.out.below hX) (gA_fits 1) (.inl (by show 1 ≤ 2; omega))
  have f2 := fun X (hX : Below W0.heap.size W0 X) => find_any X (gA 2) _ _ (HG2.out.below hX) (gA_fits 2) (.inl (by show 1 ≤ 2; omega))
  have f4 := fun X (hX : Below W0.heap.size W0 X) => lassoRight_any X (gA 1) _ _ (HG1.out.below hX)
  have F1 := Lib.hid f1
  have F2 := Lib.hid f2
  have F4 := Lib.hid f4
  clear f1 f2 f4
  have HA := Lib.hid ((Below.refl W0.heap.size W0).alloc (Nat.le_refl _) (.cells #[.slice ev 2 2, .slice iv 1 1, .int .i64 1] 25))
  have HC := Lib.hid (heap_alloc_new W0 (.cells #[.slice ev 2 2, .slice iv 1 1, .int .i64 1] 25))
  generalize World.alloc W0 _ = W1 at HA HC ⊢
  obtain ⟨c, hc⟩ : ∃ c, c = W0.heap.size := ⟨_, rfl⟩
  rw [← hc] at HC ⊢
  have HCC := Lib.hid hc
  clear hc
  have c0 := cell_of_block HC.out 0
  have c1 := cell_of_block HC.out 1
  have c2 := cell_of_block HC.out 2
  simp only [List.getElem?_toArray, List.getElem?_cons_zero, List.getElem?_cons_succ] at c0 c1 c2
  go_wp2_with fail
  refine (F1.out W1 HA.out).mono ?_
  clear c0 c1 c2
  rintro e w2 ⟨hb2, ⟨h1, -⟩ | ⟨-, h1, -⟩ | ⟨-, -, L, nv, fv, rfl, hL, hacc, hpos, hn1, hn2⟩⟩
  · rw [gA_right 1 (.inl rfl)] at h1; cases h1
  · exact absurd gA_one h1
  obtain ⟨na, nc, rfl, hnl⟩ := hL.nodes.slice
  obtain ⟨fa, fc, rfl, hfl⟩ := hL.edges.slice
  obtain ⟨nn, hnn⟩ : ∃ nn, nn = L.nodes.length := ⟨_, rfl⟩
  obtain ⟨fn, hfn⟩ : ∃ fn, fn = L.edges.length := ⟨_, rfl⟩
  obtain ⟨bk, hbk⟩ : ∃ bk, bk = L.back := ⟨_, rfl⟩
  rw [← hnn] at hL hn1 hnl
  rw [← hfn] at hL hn2 hfl
  unfold lassoV
  rw [← hnn, ← hfn, ← hbk]
  have hal := (Below.refl w2.heap.size w2).alloc (Nat.le_refl _) (.cells #[.slice na nn nc, .slice fa fn fc, .int .i64 bk] 27)
  have HL := Lib.hid (hL.below hal)
  have HLB := Lib.hid (heap_alloc_new w2 (.cells #[.slice na nn nc, .slice fa fn fc, .int .i64 bk] 27))
  have HB3 := Lib.hid (below_then (below_then HA.out hb2) hal)
  have HC3 := Lib.hid ((hal.block _ (lt_of_block ((hb2.block _ (lt_of_block HC.out)).trans HC.out))).trans ((hb2.block _ (lt_of_block HC.out)).trans HC.out))
  have hlc : c < w2.heap.size := lt_of_block ((hb2.block _ (lt_of_block HC.out)).trans HC.out)
  have hc1 : c < W1.heap.size := lt_of_block HC.out
  have HLC := Lib.hid hlc
  have HACC := Lib.hid hacc
  have HN1 : Hid (∀ y, (Value.slice na nn nc).ownBlock = some y → c < y) := fun y hy => Nat.lt_of_lt_of_le hc1 (hn1 y hy)
  have HN2 : Hid (∀ y, (Value.slice fa fn fc).ownBlock = some y → c < y) := fun y hy => Nat.lt_of_lt_of_le hc1 (hn2 y hy)
  have HNN := Lib.hid hnn
  have HFN := Lib.hid hfn
  have HBK := Lib.hid hbk
  clear hL hacc hpos hn1 hn2 hnn hfn hbk hal hb2 hlc hc1 HA HC F1
  go_upto_region 3 with fail
  generalize World.alloc w2 _ = W3 at HL HLB HB3 HC3 ⊢
  obtain ⟨lb, hlb⟩ : ∃ lb, lb = w2.heap.size := ⟨_, rfl⟩
  rw [← hlb] at HLB HLC ⊢
  clear hlb
  have c2 := cell_of_block HC3.out 2
  have k2 : W3.frozen? ⟨c, 2, none⟩ = false := free_of_block HC3.out 2
  simp only [List.getElem?_toArray, List.getElem?_cons_zero, List.getElem?_cons_succ] at c2
  go_upto_region 4 with fail
  clear c2 k2
  have hs4 := set_of_block HC3.out 2 (.int .i64 2)
  simp only [List.setIfInBounds_toArray, List.set_cons_zero, List.set_cons_succ] at hs4
  have hS4 : Since (fun y => y = c) W3 (W3.setCell ⟨c, 2, none⟩ (.int .i64 2)) := Since.setCell (F := fun y => y = c) (p := ⟨c, 2, none⟩) (Since.refl _ W3) (.inl rfl) _
  have hB4 : Below W0.heap.size W0 (W3.setCell ⟨c, 2, none⟩ (.int .i64 2)) := HB3.out.trans (hS4.below HB3.out.size (fun y hy => by rw [hy, HCC.out]; exact Nat.le_refl _))
  have hL4 : LassoAt (W3.setCell ⟨c, 2, none⟩ (.int .i64 2)) L (.slice na nn nc) (.slice fa fn fc) := ⟨HL.out.nodes.since hS4 (fun y hy e => by have := HN1.out y hy; omega), HL.out.edges.since hS4 (fun y hy e => by have := HN2.out y hy; omega)⟩
  have hLB4 := (hS4.block lb (lt_of_block HLB.out) (by have := HLC.out; omega)).trans HLB.out
  generalize World.setCell W3 _ _ = W4 at hs4 hB4 hL4 hLB4 ⊢
  have HC4 := Lib.hid hs4
  have HB4 := Lib.hid hB4
  have HL4 := Lib.hid hL4
  have HLB4 := Lib.hid hLB4
  clear hs4 hS4 hB4 hL4 hLB4 HL HLB HB3 HC3
  have c0 := cell_of_block HC4.out 0
  have c1 := cell_of_block HC4.out 1
  have c2 := cell_of_block HC4.out 2
  simp only [List.getElem?_toArray, List.getElem?_cons_zero, List.getElem?_cons_succ] at c0 c1 c2
  go_wp2_with fail
  refine (F2.out W4 HB4.out).mono ?_
  clear c0 c1 c2
  rintro e w5 ⟨hb5, ⟨h1, -⟩ | ⟨-, -, rfl⟩ | ⟨-, h1, -⟩⟩
  · rw [gA_right 2 (.inr rfl)] at h1; cases h1
  rotate_left
  · exact absurd h1 gA_two
  have hal := (Below.refl w5.heap.size w5).alloc (Nat.le_refl _) (.cells #[.slice none 0 0, .slice none 0 0, .int .i64 0] 27)
  have hb6 := below_then hb5 hal
  have HL6 := Lib.hid (HL4.out.below hb6)
  have HLB6 := Lib.hid ((hb6.block _ (lt_of_block HLB4.out)).trans HLB4.out)
  have HC6 := Lib.hid ((hb6.block _ (lt_of_block HC4.out)).trans HC4.out)
  have HB6 := Lib.hid (below_then HB4.out hb6)
  clear hb5 hal hb6 HL4 HLB4 HC4 HB4 F2
  go_upto_region 5 with fail
  generalize World.alloc w5 _ = W6 at HL6 HLB6 HC6 HB6 ⊢
  have hal := (Below.refl W6.heap.size W6).alloc (Nat.le_refl _) (.cells #[.int .i64 0] 3)
  have hnw := heap_alloc_new W6 (.cells #[.int .i64 0] 3)
  have hgB : GraphAt (W6.alloc (.cells #[.int .i64 0] 3)) gB (.slice none 0 0) (.slice (some ⟨W6.heap.size, 0, none⟩) 1 1) := by
    refine ⟨⟨_, _, rfl, by show 0 ≤ 9223372036854775807; decide, fun j hj => absurd hj (Nat.not_lt_zero j)⟩, ⟨_, _, rfl, by show 1 ≤ 9223372036854775807; decide, fun x hx => ?_, fun j hj => ?_⟩⟩
    · have h : x ∈ [(0 : Int)] := hx
      simp at h; subst h; decide
    · have hj0 : j = 0 := by have h : j < 1 := hj; omega
      subst hj0
      exact ⟨W6.heap.size, 0, rfl, lt_of_block hnw, cell_of_block hnw 0⟩
  have F3 := Lib.hid (find_any _ gB _ _ hgB gB_fits (.inr gB_right))
  have HL7 := Lib.hid (HL6.out.below hal)
  have HLB7 := Lib.hid ((hal.block _ (lt_of_block HLB6.out)).trans HLB6.out)
  have HC7 := Lib.hid ((hal.block _ (lt_of_block HC6.out)).trans HC6.out)
  have HB7 := Lib.hid (below_then HB6.out hal)
  clear hal hnw hgB HL6 HLB6 HC6 HB6
  go_wp2_with fail
  refine F3.out.mono ?_
  rintro e w8 ⟨hb8, ⟨-, rfl⟩ | ⟨h1, -⟩ | ⟨h1, -⟩⟩
  rotate_left
  · rw [gB_right] at h1; cases h1
  · rw [gB_right] at h1; cases h1
  have hal := (Below.refl w8.heap.size w8).alloc (Nat.le_refl _) (.cells #[.slice none 0 0, .slice none 0 0, .int .i64 0] 27)
  have hb9 := below_then hb8 hal
  have HL9 := Lib.hid (HL7.out.below hb9)
  have HLB9 := Lib.hid ((hb9.block _ (lt_of_block HLB7.out)).trans HLB7.out)
  have HC9 := Lib.hid ((hb9.block _ (lt_of_block HC7.out)).trans HC7.out)
  have HB9 := Lib.hid (below_then HB7.out hb9)
  clear hb8 hal hb9 HL7 HLB7 HC7 HB7 F3
  go_upto_region 6 with fail
  generalize World.alloc w8 _ = W9 at HL9 HLB9 HC9 HB9 ⊢
  have c2 := cell_of_block HC9.out 2
  have k2 : W9.frozen? ⟨c, 2, none⟩ = false := free_of_block HC9.out 2
  simp only [List.getElem?_toArray, List.getElem?_cons_zero, List.getElem?_cons_succ] at c2
  go_upto_region 7 with fail
  clear c2 k2
  have hs4 := set_of_block HC9.out 2 (.int .i64 1)
  simp only [List.setIfInBounds_toArray, List.set_cons_zero, List.set_cons_succ] at hs4
  have hS4 : Since (fun y => y = c) W9 (W9.setCell ⟨c, 2, none⟩ (.int .i64 1)) := Since.setCell (F := fun y => y = c) (p := ⟨c, 2, none⟩) (Since.refl _ W9) (.inl rfl) _
  have hB4 : Below W0.heap.size W0 (W9.setCell ⟨c, 2, none⟩ (.int .i64 1)) := HB9.out.trans (hS4.below HB9.out.size (fun y hy => by rw [hy, HCC.out]; exact Nat.le_refl _))
  have hL4 : LassoAt (W9.setCell ⟨c, 2, none⟩ (.int .i64 1)) L (.slice na nn nc) (.slice fa fn fc) := ⟨HL9.out.nodes.since hS4 (fun y hy e => by have := HN1.out y hy; omega), HL9.out.edges.since hS4 (fun y hy e => by have := HN2.out y hy; omega)⟩
  have hLB4 := (hS4.block lb (lt_of_block HLB9.out) (by have := HLC.out; omega)).trans HLB9.out
  generalize World.setCell W9 _ _ = W4 at hs4 hB4 hL4 hLB4 ⊢
  have HC4 := Lib.hid hs4
  have HB4 := Lib.hid hB4
  have HL4 := Lib.hid hL4
  have HLB4 := Lib.hid hLB4
  clear hs4 hS4 hB4 hL4 hLB4 HL9 HLB9 HC9 HB9
  have hra := fun X (hX : Below W4.heap.size W4 X) => refAccept_any X (gA 1) _ _ (HG1.out.below (HB4.out.trans (hX.mono HB4.out.size))) L _ _ (HL4.out.below hX)
  have hla := fun X (hX : Below W4.heap.size W4 X) => lassoAccept_any X (gA 1) _ _ (HG1.out.below (HB4.out.trans (hX.mono HB4.out.size))) L _ _ (HL4.out.below hX)
  have hle := fun X (hX : Below W4.heap.size W4 X) => lassoAccept_any X (gA 1) _ _ (HG1.out.below (HB4.out.trans (hX.mono HB4.out.size))) ⟨[], [], 0⟩ (.slice none 0 0) (.slice none 0 0) ⟨⟨_, _, rfl, Nat.zero_le _, by simp, fun j hj => absurd hj (Nat.not_lt_zero j)⟩, ⟨_, _, rfl, Nat.zero_le _, by simp, fun j hj => absurd hj (Nat.not_lt_zero j)⟩⟩
  have hrg := fun X (hX : Below W4.heap.size W4 X) => F4.out X (HB4.out.trans (hX.mono HB4.out.size))
  rw [HACC.out] at hra hla
  rw [gA_right 1 (.inl rfl)] at hrg
  have hno : acceptOk (gA 1) ⟨[], [], 0⟩ = false := by decide
  rw [hno] at hle
  unfold lassoV at hra hla hle
  rw [← HBK.out] at hra hla
  have HRA := Lib.hid hra
  have HLA := Lib.hid hla
  have HLE := Lib.hid hle
  have HRG := Lib.hid hrg
  have c0 := cell_of_block HC4.out 0
  have c1 := cell_of_block HC4.out 1
  have c2 := cell_of_block HC4.out 2
  have d0 := cell_of_block HLB4.out 0
  have d1 := cell_of_block HLB4.out 1
  have d2 := cell_of_block HLB4.out 2
  simp only [List.getElem?_toArray, List.getElem?_cons_zero, List.getElem?_cons_succ] at c0 c1 c2 d0 d1 d2
  have HB5 : Hid (Below W4.heap.size W4 W4) := Below.refl _ _
  clear hra hla hle hrg hno F4 HL4 HG1 HG2 HACC HN1 HN2 HLC HCC
  go_wp2_with fail
  refine (HRA.out W4 (Below.refl _ _)).mono ?_
  rintro e w5 ⟨rfl, hb5⟩
  have HX5 := Lib.hid hb5
  replace c0 := cells_kept hb5 _ _ c0
  replace c1 := cells_kept hb5 _ _ c1
  replace c2 := cells_kept hb5 _ _ c2
  replace d0 := cells_kept hb5 _ _ d0
  replace d1 := cells_kept hb5 _ _ d1
  replace d2 := cells_kept hb5 _ _ d2
  clear hb5 HRA
  go_wp2_with fail
  refine (HLA.out w5 HX5.out).mono ?_
  rintro e w6 ⟨rfl, hb6⟩
  have HX6 := Lib.hid (below_then HX5.out hb6)
  replace c0 := cells_kept hb6 _ _ c0
  replace c1 := cells_kept hb6 _ _ c1
  replace c2 := cells_kept hb6 _ _ c2
  clear hb6 HLA d0 d1 d2
  go_wp2_with fail
  refine (HLE.out w6 HX6.out).mono ?_
  rintro e w7 ⟨rfl, hb7⟩
  have HX7 := Lib.hid (below_then HX6.out hb7)
  replace c0 := cells_kept hb7 _ _ c0
  replace c1 := cells_kept hb7 _ _ c1
  replace c2 := cells_kept hb7 _ _ c2
  clear hb7 HLE
  go_wp2_with fail
  refine (HRG.out w7 HX7.out).mono ?_
  rintro e w8 ⟨rfl, hb8⟩
  have HX8 := Lib.hid (below_then HX7.out hb8)
  clear hb8 HRG c0 c1 c2
  go_wp2_with fail
  go_ret
  exact ⟨rfl, (HB0.out.trans (HB4.out.mono HB0.out.size)).trans (HX8.out.mono (Nat.le_trans HB0.out.size HB4.out.size))⟩
end Go.Proofs.Ytoojalcfojflhaa
