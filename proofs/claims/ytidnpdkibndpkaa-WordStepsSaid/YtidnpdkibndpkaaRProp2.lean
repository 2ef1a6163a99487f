/- The atom of a kind with numbers; may an atom be: the document's way: the walks. -/
import Derived.Test.YtidnpdkibndpkaaRProp
namespace Go.Proofs.Ytidnpdkibndpkaa
open Go.RowKit

/-- The atom of a kind with numbers. -/
def ofNums (k : Int) (zs : List Int) : PropD :=
  if k = 1 then ⟨k, 0, zs.getD 0 0, zs.getD 1 0⟩ else if k = 2 then ⟨k, zs.getD 0 0, zs.getD 1 0, zs.getD 2 0⟩ else if k = 3 then ⟨k, zs.getD 0 0, 0, zs.getD 1 0⟩ else if k = 4 ∨ k = 6 then ⟨k, zs.getD 0 0, 0, 0⟩ else ⟨k, 0, 0, 0⟩
/-- Four numbers as an atom that is handed back. -/
def TellsProp (q : PropD) (w : World) (e : Ending) (w' : World) : Prop := e = .returned q.val ∧ Below w.heap.size w w'
set_option maxRecDepth 100000 in
set_option maxHeartbeats 4000000 in
theorem of_any (k : Int) (w : World) (g : Nat) (n cap : Nat) (zs : List Int) (hn : 3 ≤ n) (hn2 : n ≤ 100) (hz : ∀ j, j < 3 → w.cell? ⟨g, j, none⟩ = some (.int .i64 (zs.getD j 0))) :
    Calls Try.prog 61 #[.int .i64 k, .slice (some ⟨g, 0, none⟩) n cap] w (TellsProp (ofNums k zs) w) := by
  have hal : ∀ o j, j < 3 → (w.alloc o).cell? ⟨g, j, none⟩ = some (.int .i64 (zs.getD j 0)) := fun o j hj => (Below.cell ((Below.refl _ _).alloc (Nat.le_refl _) o) (World.block_lt_of_cell? _ _ (hz j hj))).trans (hz j hj)
  obtain ⟨x, hx⟩ : ∃ x, x = zs.getD 0 0 := ⟨_, rfl⟩
  obtain ⟨y, hy⟩ : ∃ y, y = zs.getD 1 0 := ⟨_, rfl⟩
  obtain ⟨z, hz'⟩ : ∃ z, z = zs.getD 2 0 := ⟨_, rfl⟩
  have h0 := fun o => hal o 0 (by omega)
  have h1 := fun o => hal o 1 (by omega)
  have h2 := fun o => hal o 2 (by omega)
  rw [← hx] at h0
  rw [← hy] at h1
  rw [← hz'] at h2
  have n0 : (0 : Int) < n := by omega
  have n1 : (1 : Int) < n := by omega
  have n2 : (2 : Int) < n := by omega
  have hof : ofNums k zs = if k = 1 then ⟨k, 0, x, y⟩ else if k = 2 then ⟨k, x, y, z⟩ else if k = 3 then ⟨k, x, 0, y⟩ else if k = 4 ∨ k = 6 then ⟨k, x, 0, 0⟩ else ⟨k, 0, 0, 0⟩ := by rw [hx, hy, hz']; rfl
  rw [hof]
  clear hof hx hy hz' hal hz
  by_cases h : (1 ≤ k ∧ k ≤ 4) ∨ k = 6
  · have : k = 1 ∨ k = 2 ∨ k = 3 ∨ k = 4 ∨ k = 6 := by omega
    clear h
    rcases this with rfl | rfl | rfl | rfl | rfl
    · go_enter Try.func61, Try.ntmps61
      go_wp2
      have hb := heap_alloc_new w (.cells #[.int .i64 0, .int .i64 0, .int .i64 0, .int .i64 0] 23)
      have g0 := h0 (.cells #[.int .i64 0, .int .i64 0, .int .i64 0, .int .i64 0] 23)
      have g1 := h1 (.cells #[.int .i64 0, .int .i64 0, .int .i64 0, .int .i64 0] 23)
      have g2 := h2 (.cells #[.int .i64 0, .int .i64 0, .int .i64 0, .int .i64 0] 23)
      have hBW : Below w.heap.size w (w.alloc (.cells #[.int .i64 0, .int .i64 0, .int .i64 0, .int .i64 0] 23)) := (Below.refl _ _).alloc (Nat.le_refl _) _
      generalize World.alloc w _ = W at hb g0 g1 g2 hBW ⊢
      have b0 : W.cell? ⟨w.heap.size, 0, none⟩ = some (.int .i64 0) := cell_of_block hb 0
      have b1 : W.cell? ⟨w.heap.size, 1, none⟩ = some (.int .i64 0) := cell_of_block hb 1
      have b2 : W.cell? ⟨w.heap.size, 2, none⟩ = some (.int .i64 0) := cell_of_block hb 2
      have b3 : W.cell? ⟨w.heap.size, 3, none⟩ = some (.int .i64 0) := cell_of_block hb 3
      have bf : ∀ j, W.frozen? ⟨w.heap.size, j, none⟩ = false := fun j => free_of_block hb j
      have HBW := Lib.hid hBW
      have HB := Lib.hid hb
      clear h0 h1 h2 hb hBW
      go_region
      go_wp2
      have hfin := set_of_block (set_of_block (set_of_block (set_of_block HB.out 0 (.int .i64 1)) 1 (.int .i64 0)) 2 (.int .i64 x)) 3 (.int .i64 y)
      have hBf : Below w.heap.size w (World.drew ((((W.setCell ⟨w.heap.size, 0, none⟩ (.int .i64 1)).setCell ⟨w.heap.size, 1, none⟩ (.int .i64 0)).setCell ⟨w.heap.size, 2, none⟩ (.int .i64 x)).setCell ⟨w.heap.size, 3, none⟩ (.int .i64 y))) := ((((HBW.out.setCell (by simp) _).setCell (by simp) _).setCell (by simp) _).setCell (by simp) _).drew
      generalize hV : World.drew (World.setCell _ _ _) = V at hBf ⊢
      have hfv : V.heap[w.heap.size]? = some (.cells #[.int .i64 1, .int .i64 0, .int .i64 x, .int .i64 y] 23 (0, 0)) := by rw [← hV]; show (World.setCell _ _ _).heap[w.heap.size]? = _; simpa using hfin
      have c0 := cell_of_block hfv 0
      have c1 := cell_of_block hfv 1
      have c2 := cell_of_block hfv 2
      have c3 := cell_of_block hfv 3
      simp only [List.getElem?_toArray, List.getElem?_cons_zero, List.getElem?_cons_succ] at c0 c1 c2 c3
      exact bodyPost_ret (v := .agg #[.int .i64 1, .int .i64 0, .int .i64 x, .int .i64 y]) (by simp [results, Try.results61, go_sem, c0, c1, c2, c3]) rfl ⟨rfl, hBf⟩
    · go_enter Try.func61, Try.ntmps61
      go_wp2
      have hb := heap_alloc_new w (.cells #[.int .i64 0, .int .i64 0, .int .i64 0, .int .i64 0] 23)
      have g0 := h0 (.cells #[.int .i64 0, .int .i64 0, .int .i64 0, .int .i64 0] 23)
      have g1 := h1 (.cells #[.int .i64 0, .int .i64 0, .int .i64 0, .int .i64 0] 23)
      have g2 := h2 (.cells #[.int .i64 0, .int .i64 0, .int .i64 0, .int .i64 0] 23)
      have hBW : Below w.heap.size w (w.alloc (.cells #[.int .i64 0, .int .i64 0, .int .i64 0, .int .i64 0] 23)) := (Below.refl _ _).alloc (Nat.le_refl _) _
      generalize World.alloc w _ = W at hb g0 g1 g2 hBW ⊢
      have b0 : W.cell? ⟨w.heap.size, 0, none⟩ = some (.int .i64 0) := cell_of_block hb 0
      have b1 : W.cell? ⟨w.heap.size, 1, none⟩ = some (.int .i64 0) := cell_of_block hb 1
      have b2 : W.cell? ⟨w.heap.size, 2, none⟩ = some (.int .i64 0) := cell_of_block hb 2
      have b3 : W.cell? ⟨w.heap.size, 3, none⟩ = some (.int .i64 0) := cell_of_block hb 3
      have bf : ∀ j, W.frozen? ⟨w.heap.size, j, none⟩ = false := fun j => free_of_block hb j
      have HBW := Lib.hid hBW
      have HB := Lib.hid hb
      clear h0 h1 h2 hb hBW
      go_region
      go_wp2
      have hfin := set_of_block (set_of_block (set_of_block (set_of_block HB.out 0 (.int .i64 2)) 1 (.int .i64 x)) 2 (.int .i64 y)) 3 (.int .i64 z)
      have hBf : Below w.heap.size w (World.drew ((((W.setCell ⟨w.heap.size, 0, none⟩ (.int .i64 2)).setCell ⟨w.heap.size, 1, none⟩ (.int .i64 x)).setCell ⟨w.heap.size, 2, none⟩ (.int .i64 y)).setCell ⟨w.heap.size, 3, none⟩ (.int .i64 z))) := ((((HBW.out.setCell (by simp) _).setCell (by simp) _).setCell (by simp) _).setCell (by simp) _).drew
      generalize hV : World.drew (World.setCell _ _ _) = V at hBf ⊢
      have hfv : V.heap[w.heap.size]? = some (.cells #[.int .i64 2, .int .i64 x, .int .i64 y, .int .i64 z] 23 (0, 0)) := by rw [← hV]; show (World.setCell _ _ _).heap[w.heap.size]? = _; simpa using hfin
      have c0 := cell_of_block hfv 0
      have c1 := cell_of_block hfv 1
      have c2 := cell_of_block hfv 2
      have c3 := cell_of_block hfv 3
      simp only [List.getElem?_toArray, List.getElem?_cons_zero, List.getElem?_cons_succ] at c0 c1 c2 c3
      exact bodyPost_ret (v := .agg #[.int .i64 2, .int .i64 x, .int .i64 y, .int .i64 z]) (by simp [results, Try.results61, go_sem, c0, c1, c2, c3]) rfl ⟨rfl, hBf⟩
    · go_enter Try.func61, Try.ntmps61
      go_wp2
      have hb := heap_alloc_new w (.cells #[.int .i64 0, .int .i64 0, .int .i64 0, .int .i64 0] 23)
      have g0 := h0 (.cells #[.int .i64 0, .int .i64 0, .int .i64 0, .int .i64 0] 23)
      have g1 := h1 (.cells #[.int .i64 0, .int .i64 0, .int .i64 0, .int .i64 0] 23)
      have g2 := h2 (.cells #[.int .i64 0, .int .i64 0, .int .i64 0, .int .i64 0] 23)
      have hBW : Below w.heap.size w (w.alloc (.cells #[.int .i64 0, .int .i64 0, .int .i64 0, .int .i64 0] 23)) := (Below.refl _ _).alloc (Nat.le_refl _) _
      generalize World.alloc w _ = W at hb g0 g1 g2 hBW ⊢
      have b0 : W.cell? ⟨w.heap.size, 0, none⟩ = some (.int .i64 0) := cell_of_block hb 0
      have b1 : W.cell? ⟨w.heap.size, 1, none⟩ = some (.int .i64 0) := cell_of_block hb 1
      have b2 : W.cell? ⟨w.heap.size, 2, none⟩ = some (.int .i64 0) := cell_of_block hb 2
      have b3 : W.cell? ⟨w.heap.size, 3, none⟩ = some (.int .i64 0) := cell_of_block hb 3
      have bf : ∀ j, W.frozen? ⟨w.heap.size, j, none⟩ = false := fun j => free_of_block hb j
      have HBW := Lib.hid hBW
      have HB := Lib.hid hb
      clear h0 h1 h2 hb hBW
      go_region
      go_wp2
      have hfin := set_of_block (set_of_block (set_of_block (set_of_block HB.out 0 (.int .i64 3)) 1 (.int .i64 x)) 2 (.int .i64 0)) 3 (.int .i64 y)
      have hBf : Below w.heap.size w (World.drew ((((W.setCell ⟨w.heap.size, 0, none⟩ (.int .i64 3)).setCell ⟨w.heap.size, 1, none⟩ (.int .i64 x)).setCell ⟨w.heap.size, 2, none⟩ (.int .i64 0)).setCell ⟨w.heap.size, 3, none⟩ (.int .i64 y))) := ((((HBW.out.setCell (by simp) _).setCell (by simp) _).setCell (by simp) _).setCell (by simp) _).drew
      generalize hV : World.drew (World.setCell _ _ _) = V at hBf ⊢
      have hfv : V.heap[w.heap.size]? = some (.cells #[.int .i64 3, .int .i64 x, .int .i64 0, .int .i64 y] 23 (0, 0)) := by rw [← hV]; show (World.setCell _ _ _).heap[w.heap.size]? = _; simpa using hfin
      have c0 := cell_of_block hfv 0
      have c1 := cell_of_block hfv 1
      have c2 := cell_of_block hfv 2
      have c3 := cell_of_block hfv 3
      simp only [List.getElem?_toArray, List.getElem?_cons_zero, List.getElem?_cons_succ] at c0 c1 c2 c3
      exact bodyPost_ret (v := .agg #[.int .i64 3, .int .i64 x, .int .i64 0, .int .i64 y]) (by simp [results, Try.results61, go_sem, c0, c1, c2, c3]) rfl ⟨rfl, hBf⟩
    · go_enter Try.func61, Try.ntmps61
      go_wp2
      exact bodyPost_ret (v := .agg #[.int .i64 4, .int .i64 x, .int .i64 0, .int .i64 0]) (by simp [results, Try.results61, go_sem]) rfl ⟨rfl, (Below.refl _ _).alloc (Nat.le_refl _) _⟩
    · go_enter Try.func61, Try.ntmps61
      go_wp2
      exact bodyPost_ret (v := .agg #[.int .i64 6, .int .i64 x, .int .i64 0, .int .i64 0]) (by simp [results, Try.results61, go_sem]) rfl ⟨rfl, (Below.refl _ _).alloc (Nat.le_refl _) _⟩
  · have e : ∀ j : Int, (1 ≤ j ∧ j ≤ 4) ∨ j = 6 → (k == j) = false := fun j h1 => by rw [beq_eq_false_iff_ne]; omega
    have e1 := e 1 (by omega)
    have e2 := e 2 (by omega)
    have e3 := e 3 (by omega)
    have e4 := e 4 (by omega)
    have e6 := e 6 (by omega)
    rw [if_neg (by omega), if_neg (by omega), if_neg (by omega), if_neg (by omega)]
    clear e h
    go_enter Try.func61, Try.ntmps61
    go_wp2
    exact bodyPost_ret (v := .agg #[.int .i64 k, .int .i64 0, .int .i64 0, .int .i64 0]) (by simp [results, Try.results61, go_sem]) rfl ⟨rfl, (Below.refl _ _).alloc (Nat.le_refl _) _⟩
end Go.Proofs.Ytidnpdkibndpkaa
