/- The seeker's small functions: the walks. -/
import Derived.Test.YtoojalcfojflhaaWay
namespace Go.Proofs.Ytoojalcfojflhaa
open Go.RowKit

set_option maxHeartbeats 2000000 in
theorem to_any (w : World) (g : GraphD) (hright : g.right = true) (sb : Nat) (ea : Option Addr) (ec : Nat) (iv fv : Value) (hs : SeekAt w sb g ea ec iv fv) (B : Nat) (v : Value) (l : List (Nat × Nat)) (hv : StepsRow w B v l) (a k : Nat) (r : List (Nat × Nat)) (hl : l = r ++ [(a, k)]) (hk : g.has a k) :
    Calls Try.prog 38 #[.pointer (some ⟨sb, 0, none⟩), v] w fun e w' => e = .returned (.int .i64 (g.toOf a k : Int)) ∧ Below w.heap.size w w' := by
  obtain ⟨oa, oc, rfl, ho1, ho2⟩ := hv.slice
  have hlen : l.length = r.length + 1 := by rw [hl]; simp
  obtain ⟨gg, rfl, -, -, hg, q1, q2⟩ := hv.cell (j := r.length) (by omega)
  have hget : l.getD r.length (0, 0) = (a, k) := by rw [hl]; simp
  rw [hget] at q1 q2
  obtain ⟨n, hn⟩ : ∃ n, n = r.length := ⟨_, rfl⟩
  rw [← hn] at q1 q2
  rw [hlen, ← hn] at ho1 ⊢
  obtain ⟨N, hN⟩ : ∃ N, N = g.edges.length := ⟨_, rfl⟩
  have haN : a < N := by rw [hN]; exact g.has_lt hk
  obtain ⟨-, eb, eo, ka, kc, rfl, heb, he0, he2⟩ := hs.edges.part a (by rw [← hN]; exact haN)
  obtain ⟨ln, hln⟩ : ∃ ln, ln = (g.edges.getD a []).length := ⟨_, rfl⟩
  have hkl : k < ln := by rw [hln]; exact hk
  obtain ⟨-, qb, qo, rfl, -, s1, -⟩ := he2.part k hk
  have hto := GraphD.right_to hright hk
  obtain ⟨y, hy⟩ : ∃ y, y = g.toOf a k := ⟨_, rfl⟩
  rw [hto.2, ← hy] at s1
  rw [← hln] at he0
  have hlb : ln ≤ 9223372036854775807 := by obtain ⟨_, _, _, h⟩ := he2.slice; omega
  have d0 := cell_of_block hs.block 0
  simp only [List.getElem?_toArray, List.getElem?_cons_zero, ← hN] at d0
  rw [← hy]
  have hNb : N ≤ 9223372036854775807 := by obtain ⟨_, _, _, h⟩ := hs.edges.slice; omega
  have hal := (Below.refl w.heap.size w).alloc (Nat.le_refl _) (.cells #[.int .i64 a, .int .i64 k] 60)
  have d0' := cells_kept hal _ _ d0
  have he0' := cells_kept hal _ _ he0
  have s1' := cells_kept hal _ _ s1
  have haI : (a : Int) < (N : Int) := by omega
  have hkI : (k : Int) < (ln : Int) := by omega
  have HAL := Lib.hid hal
  clear hs hv hl hlen hget hn hN hk he2 hln hto hy heb d0 he0 s1 hal hg
  go_enter Try.func38, Try.ntmps38
  go_wp2_with fail
  go_region
  go_wp2_with fail
  go_ret
  exact ⟨rfl, HAL.out.drew⟩
set_option maxHeartbeats 1000000 in
theorem find1_any (w : World) (y : Nat) : Calls Try.prog 21 #[.int .i64 (y : Int)] w fun e w' => e = .returned (.bool true) ∧ Below w.heap.size w w' := by
  go_enter Try.func21, Try.ntmps21
  go_wp2_with fail
  go_ret
  exact ⟨rfl, Below.refl _ _⟩
/-- A list of groups, and a group, by the variables that hold them. -/
structure GroupAt (w : World) (N : Nat) (grp : Nat → Int) (gx tx gb : Nat) (t : Nat) : Prop where
  box : w.heap[gx]? = some (.cells #[.slice (some ⟨gb, 0, none⟩) N N] 23 (0, 0))
  list : w.heap[gb]? = some (.cells (intsA N grp) 3 (0, 0))
  it : w.heap[tx]? = some (.cells #[.int .i64 (t : Int)] 3 (0, 0))
theorem GroupAt.below {w w' : World} {N : Nat} {grp : Nat → Int} {gx tx gb t : Nat} (h : GroupAt w N grp gx tx gb t) (hb : Below w.heap.size w w') : GroupAt w' N grp gx tx gb t :=
  ⟨(hb.block _ (lt_of_block h.box)).trans h.box, (hb.block _ (lt_of_block h.list)).trans h.list, (hb.block _ (lt_of_block h.it)).trans h.it⟩
set_option maxHeartbeats 1000000 in
theorem find2_any (w : World) (N : Nat) (grp : Nat → Int) (gx tx gb t : Nat) (h : GroupAt w N grp gx tx gb t) (y : Nat) (hy : y < N) :
    Calls Try.prog 23 #[.int .i64 (y : Int), .pointer (some ⟨gx, 0, none⟩), .pointer (some ⟨tx, 0, none⟩)] w fun e w' => e = .returned (.bool (decide (grp y = (t : Int)))) ∧ Below w.heap.size w w' := by
  have c1 := cell_of_block h.box 0
  have c2 := cell_of_block h.it 0
  have c3 : w.cell? ⟨gb, y, none⟩ = some (.int .i64 (grp y)) := by rw [cell_of_block h.list, intsA_get hy]
  simp only [List.getElem?_toArray, List.getElem?_cons_zero] at c1 c2
  obtain ⟨gy, hgy⟩ : ∃ gy, gy = grp y := ⟨_, rfl⟩
  rw [← hgy] at c3 ⊢
  have hyI : (y : Int) < (N : Int) := by omega
  clear h hgy
  by_cases he : gy = (t : Int)
  · have hb : ((gy : Int) == (t : Int)) = true := by simp [he]
    rw [show decide (gy = (t : Int)) = true by simp [he]]
    clear he
    go_enter Try.func23, Try.ntmps23
    go_wp2_with fail
    go_region
    go_wp2_with fail
    go_ret
    exact ⟨rfl, (Below.refl _ _).drew⟩
  · have hb : ((gy : Int) == (t : Int)) = false := by simp [he]
    rw [show decide (gy = (t : Int)) = false by simp [he]]
    clear he
    go_enter Try.func23, Try.ntmps23
    go_wp2_with fail
    go_region
    go_wp2_with fail
    go_ret
    exact ⟨rfl, (Below.refl _ _).drew⟩
set_option maxHeartbeats 1000000 in
theorem begin1_any (w : World) (N : Nat) (grp : Nat → Int) (gx tx gb t : Nat) (h : GroupAt w N grp gx tx gb t) (i : Int) (y : Nat) (mk : Int) (hy : y < N) :
    Calls Try.prog 37 #[.int .i64 i, .agg #[.int .i64 (y : Int), .int .i64 mk], .pointer (some ⟨gx, 0, none⟩), .pointer (some ⟨tx, 0, none⟩)] w fun e w' => e = .returned (.bool (decide (grp y = (t : Int)))) ∧ Below w.heap.size w w' := by
  have hal := (Below.refl w.heap.size w).alloc (Nat.le_refl _) (.cells #[.int .i64 (y : Int), .int .i64 mk] 37)
  have h2 := h.below hal
  have c1 := cell_of_block h2.box 0
  have c2 := cell_of_block h2.it 0
  have c3 : (w.alloc (.cells #[.int .i64 (y : Int), .int .i64 mk] 37)).cell? ⟨gb, y, none⟩ = some (.int .i64 (grp y)) := by rw [cell_of_block h2.list, intsA_get hy]
  simp only [List.getElem?_toArray, List.getElem?_cons_zero] at c1 c2
  obtain ⟨gy, hgy⟩ : ∃ gy, gy = grp y := ⟨_, rfl⟩
  rw [← hgy] at c3 ⊢
  have hyI : (y : Int) < (N : Int) := by omega
  have HAL := Lib.hid hal
  clear h h2 hgy hal
  by_cases he : gy = (t : Int)
  · have hb : ((gy : Int) == (t : Int)) = true := by simp [he]
    rw [show decide (gy = (t : Int)) = true by simp [he]]
    clear he
    go_enter Try.func37, Try.ntmps37
    go_wp2_with fail
    go_region
    go_wp2_with fail
    go_ret
    exact ⟨rfl, HAL.out.drew⟩
  · have hb : ((gy : Int) == (t : Int)) = false := by simp [he]
    rw [show decide (gy = (t : Int)) = false by simp [he]]
    clear he
    go_enter Try.func37, Try.ntmps37
    go_wp2_with fail
    go_region
    go_wp2_with fail
    go_ret
    exact ⟨rfl, HAL.out.drew⟩
set_option maxHeartbeats 1000000 in
theorem round2_any (w : World) (fx x : Nat) (h : w.heap[fx]? = some (.cells #[.int .i64 (x : Int)] 3 (0, 0))) (i : Int) (y : Nat) (mk : Int) :
    Calls Try.prog 40 #[.int .i64 i, .agg #[.int .i64 (y : Int), .int .i64 mk], .pointer (some ⟨fx, 0, none⟩)] w fun e w' => e = .returned (.bool (decide (y = x))) ∧ Below w.heap.size w w' := by
  have hal := (Below.refl w.heap.size w).alloc (Nat.le_refl _) (.cells #[.int .i64 (y : Int), .int .i64 mk] 37)
  have c1 := cells_kept hal _ _ (cell_of_block h 0)
  have HAL := Lib.hid hal
  clear h hal
  by_cases he : y = x
  · have hb : ((y : Int) == (x : Int)) = true := by simp [he]
    rw [show decide (y = x) = true by simp [he]]
    clear he
    go_enter Try.func40, Try.ntmps40
    go_wp2_with fail
    go_ret
    exact ⟨by first | rfl | simp, HAL.out⟩
  · have hb : ((y : Int) == (x : Int)) = false := by rw [beq_eq_false_iff_ne]; omega
    rw [show decide (y = x) = false by simp [he]]
    clear he
    go_enter Try.func40, Try.ntmps40
    go_wp2_with fail
    go_ret
    exact ⟨by first | rfl | simp, HAL.out⟩
set_option maxHeartbeats 1000000 in
theorem round1_any (w : World) (bx b : Nat) (h : w.heap[bx]? = some (.cells #[.int .i64 (b : Int)] 3 (0, 0))) (hb : b < 64) (i : Int) (y : Nat) (mk : Int) (hmk : -9223372036854775808 ≤ mk ∧ mk ≤ 9223372036854775807) :
    Calls Try.prog 39 #[.int .i64 i, .agg #[.int .i64 (y : Int), .int .i64 mk], .pointer (some ⟨bx, 0, none⟩)] w fun e w' => e = .returned (.bool (bitI mk b)) ∧ Below w.heap.size w w' := by
  have hal := (Below.refl w.heap.size w).alloc (Nat.le_refl _) (.cells #[.int .i64 (y : Int), .int .i64 mk] 37)
  have c1 := cells_kept hal _ _ (cell_of_block h 0)
  have HAL := Lib.hid hal
  have HMK := Lib.hid (mark_met mk hmk b hb)
  clear h hal hmk
  go_enter Try.func39, Try.ntmps39
  go_wp2_with fail
  go_ret
  refine ⟨?_, HAL.out⟩
  simp only [Array.getD_eq_getD_getElem?, List.getElem?_toArray, List.getElem?_cons_succ, List.getElem?_cons_zero, Option.getD_some]
  have hfin : (bits BinOp.and IntKind.i64 (mk / 2 ^ b) 1 == 1) = bitI mk b := by rw [Bool.eq_iff_iff, beq_iff_eq]; exact HMK.out
  rw [hfin]
end Go.Proofs.Ytoojalcfojflhaa
