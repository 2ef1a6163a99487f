/- Formulas by numbers: what is made. -/
import Derived.Test.YtidnpdkibndpkaaMadeC
namespace Go.Proofs.Ytidnpdkibndpkaa
open Go.RowKit

theorem maker_any (w0 : World) (sv : Value) (l : List Int) (hn : NumsAt w0 .u8 sv l) (deep : Nat) (hd : deep ≤ 5) : MakerAt w0 sv deep := by
  induction deep with
  | zero => exact maker_step w0 sv l hn 0 (by omega) (fun h => by omega)
  | succ d ih => exact maker_step w0 sv l hn (d + 1) hd (fun _ => by rw [show d + 1 - 1 = d by omega]; exact ih (by omega))
theorem get_new {w : World} {o : Obj} {k : Nat} (h : k = w.heap.size) : (w.alloc o).heap[k]? = some o := by subst h; exact heap_alloc_new w o
theorem get_old {w : World} {o : Obj} {k : Nat} (h : k < w.heap.size) : (w.alloc o).heap[k]? = w.heap[k]? := Below.heap_alloc _ _ _ h
theorem six_get (w : World) (o0 o1 o2 o3 o4 o5 : Obj) : Below w.heap.size w ((((((w.alloc o0).alloc o1).alloc o2).alloc o3).alloc o4).alloc o5) ∧ ((((((w.alloc o0).alloc o1).alloc o2).alloc o3).alloc o4).alloc o5).heap[w.heap.size]? = some o0 ∧ ((((((w.alloc o0).alloc o1).alloc o2).alloc o3).alloc o4).alloc o5).heap[w.heap.size + 1]? = some o1 ∧
    ((((((w.alloc o0).alloc o1).alloc o2).alloc o3).alloc o4).alloc o5).heap[w.heap.size + 2]? = some o2 ∧ ((((((w.alloc o0).alloc o1).alloc o2).alloc o3).alloc o4).alloc o5).heap[w.heap.size + 3]? = some o3 ∧ ((((((w.alloc o0).alloc o1).alloc o2).alloc o3).alloc o4).alloc o5).heap[w.heap.size + 4]? = some o4 ∧
    ((((((w.alloc o0).alloc o1).alloc o2).alloc o3).alloc o4).alloc o5).heap[w.heap.size + 5]? = some o5 := by
  have b1 : w.heap.size ≤ (w.alloc o0).heap.size := by rw [World.size_alloc]; omega
  have b2 : w.heap.size ≤ ((w.alloc o0).alloc o1).heap.size := by simp only [World.size_alloc]; omega
  have b3 : w.heap.size ≤ (((w.alloc o0).alloc o1).alloc o2).heap.size := by simp only [World.size_alloc]; omega
  have b4 : w.heap.size ≤ ((((w.alloc o0).alloc o1).alloc o2).alloc o3).heap.size := by simp only [World.size_alloc]; omega
  have b5 : w.heap.size ≤ (((((w.alloc o0).alloc o1).alloc o2).alloc o3).alloc o4).heap.size := by simp only [World.size_alloc]; omega
  refine ⟨((((((Below.refl _ _).alloc (Nat.le_refl _) _).alloc b1 _).alloc b2 _).alloc b3 _).alloc b4 _).alloc b5 _, ?_, ?_, ?_, ?_, ?_, ?_⟩
  · rw [get_old (by simp only [World.size_alloc]; omega), get_old (by simp only [World.size_alloc]; omega), get_old (by simp only [World.size_alloc]; omega), get_old (by simp only [World.size_alloc]; omega), get_old (by simp only [World.size_alloc]; omega), get_new rfl]
  · rw [get_old (by simp only [World.size_alloc]; omega), get_old (by simp only [World.size_alloc]; omega), get_old (by simp only [World.size_alloc]; omega), get_old (by simp only [World.size_alloc]; omega), get_new (by simp only [World.size_alloc])]
  · rw [get_old (by simp only [World.size_alloc]; omega), get_old (by simp only [World.size_alloc]; omega), get_old (by simp only [World.size_alloc]; omega), get_new (by simp only [World.size_alloc])]
  · rw [get_old (by simp only [World.size_alloc]; omega), get_old (by simp only [World.size_alloc]; omega), get_new (by simp only [World.size_alloc])]
  · rw [get_old (by simp only [World.size_alloc]; omega), get_new (by simp only [World.size_alloc])]
  · rw [get_new (by simp only [World.size_alloc])]
/-- What a formula by numbers is told as. -/
def TellsMadeF (w : World) (e : Ending) (w' : World) : Prop := ∃ (f : Form) (ka : Option Addr) (kn kc : Nat), e = .returned (formV f (.slice ka kn kc)) ∧ FormAt w' 6 f (.slice ka kn kc) ∧ f.okD 6 = true ∧ f.size ≤ 41 ∧ Below w.heap.size w w'
set_option maxRecDepth 100000 in
set_option maxHeartbeats 2000000 in
theorem made_any (w : World) (sv : Value) (l : List Int) (hn : NumsAt w .u8 sv l) : Calls Try.prog 11 #[sv, .int .i64 20] w (TellsMadeF w) := by
  have hm := fun W (h : MadeSt w W sv 0 20) => maker_any w sv l hn 5 (by omega) W 0 20 h (by omega) (by omega)
  obtain ⟨la, lc, rfl, -⟩ := hn
  have HM := Lib.hid hm
  clear hm
  go_enter Try.func11, Try.ntmps11
  go_upto_region 5 with fail
  rw [show w.heap.size + 1 + 1 + 1 + 1 + 1 = w.heap.size + 5 from rfl, show w.heap.size + 1 + 1 + 1 + 1 = w.heap.size + 4 from rfl, show w.heap.size + 1 + 1 + 1 = w.heap.size + 3 from rfl]
  have hsix := six_get w (.cells #[.slice la l.length lc] 33) (.cells #[.int .i64 20] 3) (.cells #[.int .i64 0, .int .i64 0, .int .i64 0, .int .i64 0, .int .i64 0, .slice none 0 0] 26) (.cells #[.int .i64 0] 3) (.cells #[.func (.func 21) #[] #[.pointer (some ⟨w.heap.size + 3, 0, none⟩), .pointer (some ⟨w.heap.size, 0, none⟩)]] 51) (.cells #[.func (.func 22) #[] #[.pointer (some ⟨w.heap.size + 4, 0, none⟩), .pointer (some ⟨w.heap.size + 3, 0, none⟩), .pointer (some ⟨w.heap.size, 0, none⟩), .pointer (some ⟨w.heap.size + 1, 0, none⟩), .pointer (some ⟨w.heap.size + 5, 0, none⟩)]] 52)
  obtain ⟨hb, g0, g1, g2, g3, g4, g5⟩ := hsix
  have hst : MadeSt w ((((((w.alloc (.cells #[.slice la l.length lc] 33)).alloc (.cells #[.int .i64 20] 3)).alloc (.cells #[.int .i64 0, .int .i64 0, .int .i64 0, .int .i64 0, .int .i64 0, .slice none 0 0] 26)).alloc (.cells #[.int .i64 0] 3)).alloc (.cells #[.func (.func 21) #[] #[.pointer (some ⟨w.heap.size + 3, 0, none⟩), .pointer (some ⟨w.heap.size, 0, none⟩)]] 51)).alloc (.cells #[.func (.func 22) #[] #[.pointer (some ⟨w.heap.size + 4, 0, none⟩), .pointer (some ⟨w.heap.size + 3, 0, none⟩), .pointer (some ⟨w.heap.size, 0, none⟩), .pointer (some ⟨w.heap.size + 1, 0, none⟩), .pointer (some ⟨w.heap.size + 5, 0, none⟩)]] 52)) (.slice la l.length lc) 0 20 := ⟨hb, g0, g1, g3, g4, g5⟩
  have HST := Lib.hid hst
  have HR := Lib.hid g2
  clear hb g0 g1 g2 g3 g4 g5 hst
  generalize World.alloc _ _ = W at HST HR ⊢
  have vm : W.cell? ⟨w.heap.size + 5, 0, none⟩ = some (.func (.func 22) #[] #[.pointer (some ⟨w.heap.size + 4, 0, none⟩), .pointer (some ⟨w.heap.size + 3, 0, none⟩), .pointer (some ⟨w.heap.size, 0, none⟩), .pointer (some ⟨w.heap.size + 1, 0, none⟩), .pointer (some ⟨w.heap.size + 5, 0, none⟩)]) := cell_of_block HST.out.maker 0
  go_wp2_with fail
  refine (HM.out W HST.out).mono ?_
  rintro e V ⟨k, p1, p2, p3, p4, kids, ka, kc, a', t', rfl, hfm, hok, hst2, hsi, hcnt, -⟩
  have hR2 := (hsi.block _ (lt_of_block HR.out) (by unfold Turns; omega)).trans HR.out
  have hsize : (Form.mk k ⟨p1, p2, p3, p4⟩ kids).size ≤ 41 := by obtain ⟨N, h1, h2, -⟩ := hcnt; omega
  have HFM := Lib.hid hfm
  have HOK := Lib.hid hok
  have HSZ := Lib.hid hsize
  have HB2 := Lib.hid hst2.below
  have HR2 := Lib.hid hR2
  have hWV := hst2.size
  have hkl : kids.length ≤ 9223372036854775807 := by
    obtain ⟨a, c, h1, h2, -⟩ := hfm
    exact h2
  have z0 : V.cell? ⟨w.heap.size + 2, 0, none⟩ = some (.int .i64 0) := cell_of_block hR2 0
  have z1 : V.cell? ⟨w.heap.size + 2, 1, none⟩ = some (.int .i64 0) := cell_of_block hR2 1
  have z2 : V.cell? ⟨w.heap.size + 2, 2, none⟩ = some (.int .i64 0) := cell_of_block hR2 2
  have z3 : V.cell? ⟨w.heap.size + 2, 3, none⟩ = some (.int .i64 0) := cell_of_block hR2 3
  have z4 : V.cell? ⟨w.heap.size + 2, 4, none⟩ = some (.int .i64 0) := cell_of_block hR2 4
  have z5 : V.cell? ⟨w.heap.size + 2, 5, none⟩ = some (.slice none 0 0) := cell_of_block hR2 5
  have zf : ∀ j, V.frozen? ⟨w.heap.size + 2, j, none⟩ = false := fun j => free_of_block hR2 j
  have hzW : w.heap.size + 6 ≤ W.heap.size := HST.out.size
  clear hR2 hfm hok hsize hsi hcnt hst2 vm
  have hset : ((((((V.setCell ⟨w.heap.size + 2, 0, none⟩ (.int .i64 k)).setCell ⟨w.heap.size + 2, 1, none⟩ (.int .i64 p1)).setCell ⟨w.heap.size + 2, 2, none⟩ (.int .i64 p2)).setCell ⟨w.heap.size + 2, 3, none⟩ (.int .i64 p3)).setCell ⟨w.heap.size + 2, 4, none⟩ (.int .i64 p4)).setCell ⟨w.heap.size + 2, 5, none⟩ (.slice ka kids.length kc)).heap[w.heap.size + 2]? = some (.cells #[.int .i64 k, .int .i64 p1, .int .i64 p2, .int .i64 p3, .int .i64 p4, .slice ka kids.length kc] 26 (0, 0)) := by
    have := (set_of_block (set_of_block (set_of_block (set_of_block (set_of_block (set_of_block HR2.out 0 (.int .i64 k)) 1 (.int .i64 p1)) 2 (.int .i64 p2)) 3 (.int .i64 p3)) 4 (.int .i64 p4)) 5 (.slice ka kids.length kc))
    simpa using this
  have hSv : Since (fun b => b = w.heap.size + 2) V ((((((V.setCell ⟨w.heap.size + 2, 0, none⟩ (.int .i64 k)).setCell ⟨w.heap.size + 2, 1, none⟩ (.int .i64 p1)).setCell ⟨w.heap.size + 2, 2, none⟩ (.int .i64 p2)).setCell ⟨w.heap.size + 2, 3, none⟩ (.int .i64 p3)).setCell ⟨w.heap.size + 2, 4, none⟩ (.int .i64 p4)).setCell ⟨w.heap.size + 2, 5, none⟩ (.slice ka kids.length kc)) := Since.setCell (F := fun b => b = w.heap.size + 2) (p := ⟨w.heap.size + 2, 5, none⟩) (Since.setCell (F := fun b => b = w.heap.size + 2) (p := ⟨w.heap.size + 2, 4, none⟩) (Since.setCell (F := fun b => b = w.heap.size + 2) (p := ⟨w.heap.size + 2, 3, none⟩) (Since.setCell (F := fun b => b = w.heap.size + 2) (p := ⟨w.heap.size + 2, 2, none⟩) (Since.setCell (F := fun b => b = w.heap.size + 2) (p := ⟨w.heap.size + 2, 1, none⟩) (Since.setCell (F := fun b => b = w.heap.size + 2) (p := ⟨w.heap.size + 2, 0, none⟩) (Since.refl (fun b => b = w.heap.size + 2) V) (.inl rfl) (.int .i64 k)) (.inl rfl) (.int .i64 p1)) (.inl rfl) (.int .i64 p2)) (.inl rfl) (.int .i64 p3)) (.inl rfl) (.int .i64 p4)) (.inl rfl) (.slice ka kids.length kc)
  have HSET := Lib.hid hset
  have HSV := Lib.hid hSv
  clear hset hSv
  go_wp2
  generalize ((((((V.setCell ⟨w.heap.size + 2, 0, none⟩ (.int .i64 k)).setCell ⟨w.heap.size + 2, 1, none⟩ (.int .i64 p1)).setCell ⟨w.heap.size + 2, 2, none⟩ (.int .i64 p2)).setCell ⟨w.heap.size + 2, 3, none⟩ (.int .i64 p3)).setCell ⟨w.heap.size + 2, 4, none⟩ (.int .i64 p4)).setCell ⟨w.heap.size + 2, 5, none⟩ (.slice ka kids.length kc)) = X at HSET HSV ⊢
  have y0 : X.cell? ⟨w.heap.size + 2, 0, none⟩ = some (.int .i64 k) := cell_of_block HSET.out 0
  have y1 : X.cell? ⟨w.heap.size + 2, 1, none⟩ = some (.int .i64 p1) := cell_of_block HSET.out 1
  have y2 : X.cell? ⟨w.heap.size + 2, 2, none⟩ = some (.int .i64 p2) := cell_of_block HSET.out 2
  have y3 : X.cell? ⟨w.heap.size + 2, 3, none⟩ = some (.int .i64 p3) := cell_of_block HSET.out 3
  have y4 : X.cell? ⟨w.heap.size + 2, 4, none⟩ = some (.int .i64 p4) := cell_of_block HSET.out 4
  have y5 : X.cell? ⟨w.heap.size + 2, 5, none⟩ = some (.slice ka kids.length kc) := cell_of_block HSET.out 5
  exact bodyPost_ret (v := .agg #[.int .i64 k, .int .i64 p1, .int .i64 p2, .int .i64 p3, .int .i64 p4, .slice ka kids.length kc]) (by simp [results, Try.results11, go_sem, y0, y1, y2, y3, y4, y5]) rfl ⟨.mk k ⟨p1, p2, p3, p4⟩ kids, ka, _, kc, rfl, (HFM.out.since HSV.out (fun b hb h => by omega)).at_, HOK.out, HSZ.out, HB2.out.trans (HSV.out.below HB2.out.size (fun b hb => by omega))⟩
end Go.Proofs.Ytidnpdkibndpkaa
