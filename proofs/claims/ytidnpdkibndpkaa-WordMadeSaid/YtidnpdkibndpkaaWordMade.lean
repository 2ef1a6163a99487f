/- WordMade: whatever numbers: where the formula that they make is so, of the word that they make, is what the document says; no condition. -/
import Derived.Test.YtidnpdkibndpkaaMadeW
import Derived.Test.YtidnpdkibndpkaaAwake
namespace Go.Proofs.Ytidnpdkibndpkaa
open Go.RowKit

/-- Some word is told. -/
def TellsSomeWord (w : World) (e : Ending) (w' : World) : Prop := ∃ (la : Option Addr) (n lc : Nat) (ls : List (List Bool)) (bk : Int), e = .returned (.agg #[.slice la n lc, .int .i64 bk]) ∧ LettersAt w' (.slice la n lc) ls ∧ Below w.heap.size w w'
theorem TellsWord.some {l : List Int} {m : Nat} {back : Int} {w w' : World} {e : Ending} (h : TellsWord l m back w e w') : TellsSomeWord w e w' := by
  obtain ⟨sv, rfl, hl, hb⟩ := h
  obtain ⟨la, lc, rfl, -⟩ := hl.slice
  exact ⟨la, _, lc, _, _, rfl, hl, hb⟩
set_option maxRecDepth 100000 in
set_option maxHeartbeats 8000000 in
theorem wordMade_walk (w : World) (v0 : Value) (l0 : List Int) (h0 : NumsAt w .u8 v0 l0) (v1 : Value) (l1 : List Int) (h1 : NumsAt w .u8 v1 l1) (back : Int) (hw : (Lit.int .u8 back).wf = true) :
    Calls Try.prog 4 #[v0, v1, .int .u8 back] w (fun e w' => e = .returned (.bool true) ∧ Below w.heap.size w w') := by
  have hb0 : 0 ≤ back ∧ back ≤ 255 := by simp [Lit.wf, IntKind.min, IntKind.max, IntKind.signed, IntKind.bits] at hw; omega
  obtain ⟨hb0, hb1⟩ := hb0
  have hm := made_any w v0 l0 h0
  have hmw := fun W (hW : Below w.heap.size w W) (d : Nat) (f : Form) (kv : Value) (h : FormAt W d f kv) (hs : f.size ≤ 41) => madeW_any W d f kv v1 l1 back hb0 hb1 h (by omega) (h1.below hW)
  obtain ⟨a0, c0, rfl, -⟩ := h0
  obtain ⟨a1, c1, rfl, -⟩ := h1
  have HM := Lib.hid hm
  have HMW := Lib.hid hmw
  clear hm hmw hw
  go_enter Try.func4, Try.ntmps4
  go_wp2_with fail
  refine HM.out.mono ?_
  rintro e w1 ⟨f, ka, kn, kc, rfl, hf, hok, hsz, hb⟩
  obtain ⟨ka', kc', he, hkl⟩ := hf.slice
  cases he
  have HSAME := Lib.hid (fun W (hW : Below w1.heap.size w1 W) (lv : Value) (ls : List (List Bool)) (bk : Int) (hl : LettersAt W lv ls) => sameW_any W 6 f _ lv ls bk (hf.below hW) hl)
  have HMADE := Lib.hid (fun W (hW : Below w1.heap.size w1 W) => (HMW.out W (below_then hb hW) 6 f _ (hf.below hW) hsz).mono (fun _ _ h => h.some))
  have HB1 := Lib.hid hb
  clear hf hok hsz hb HM HMW
  obtain ⟨k, ⟨p1, p2, p3, p4⟩, kids⟩ := f
  simp only [Form.kids] at hkl HSAME HMADE ⊢
  unfold formV at *
  simp only [Form.kind, Form.prop] at HSAME HMADE ⊢
  have hB := (Below.refl w1.heap.size w1).alloc (Nat.le_refl _) (.cells #[.int .i64 k, .int .i64 p1, .int .i64 p2, .int .i64 p3, .int .i64 p4, .slice ka kids.length kc] 26)
  have hF := heap_alloc_new w1 (.cells #[.int .i64 k, .int .i64 p1, .int .i64 p2, .int .i64 p3, .int .i64 p4, .slice ka kids.length kc] 26)
  have HB := Lib.hid hB
  have HF := Lib.hid hF
  clear hB hF
  go_wp2_with fail
  generalize hW : World.alloc _ _ = W at HB HF ⊢
  clear hW
  have c0 := cell_of_block HF.out 0
  have c1 := cell_of_block HF.out 1
  have c2 := cell_of_block HF.out 2
  have c3 := cell_of_block HF.out 3
  have c4 := cell_of_block HF.out 4
  have c5 := cell_of_block HF.out 5
  simp only [List.getElem?_toArray, List.getElem?_cons_zero, List.getElem?_cons_succ] at c0 c1 c2 c3 c4 c5
  go_region_held3 (fun w' => w'.cell? ⟨w1.heap.size, 0, none⟩ = some (.int .i64 k) ∧ w'.cell? ⟨w1.heap.size, 1, none⟩ = some (.int .i64 p1) ∧ w'.cell? ⟨w1.heap.size, 2, none⟩ = some (.int .i64 p2) ∧ w'.cell? ⟨w1.heap.size, 3, none⟩ = some (.int .i64 p3) ∧ w'.cell? ⟨w1.heap.size, 4, none⟩ = some (.int .i64 p4) ∧ w'.cell? ⟨w1.heap.size, 5, none⟩ = some (.slice ka kids.length kc)) (first | exact ⟨hx3 _ _ c0, hx3 _ _ c1, hx3 _ _ c2, hx3 _ _ c3, hx3 _ _ c4, hx3 _ _ c5⟩ | exact ⟨hx2 _ _ c0, hx2 _ _ c1, hx2 _ _ c2, hx2 _ _ c3, hx2 _ _ c4, hx2 _ _ c5⟩ | exact ⟨hx1 _ _ c0, hx1 _ _ c1, hx1 _ _ c2, hx1 _ _ c3, hx1 _ _ c4, hx1 _ _ c5⟩ | go_keep) (first | (go_at_call 8; refine (awake_any _).mono ?_; rintro e x1 ⟨rfl, hb1⟩; have hx1 : ∀ a v, W.cell? a = some v → x1.cell? a = some v := (fun a v h => (hb1.cell (World.block_lt_of_cell? W _ h)).trans h); have hB1 : Below w1.heap.size w1 x1 := (HB.out.drew.trans (hb1.mono HB.out.size))) | (go_at_call 12; refine (HMADE.out x1 hB1).mono ?_; rintro e x2 ⟨la, ln, lc, ls, bk, rfl, hls, hb2⟩; have hx2 : ∀ a v, W.cell? a = some v → x2.cell? a = some v := (fun a v h => (hb2.cell (World.block_lt_of_cell? x1 _ (hx1 a v h))).trans (hx1 a v h)); have hB2 : Below w1.heap.size w1 x2 := below_then hB1 hb2) | (go_at_call 10; refine (HSAME.out x2 hB2 _ _ _ hls).mono ?_; rintro e x3 ⟨rfl, hb3⟩; have hx3 : ∀ a v, W.cell? a = some v → x3.cell? a = some v := (fun a v h => (hb3.cell (World.block_lt_of_cell? x2 _ (hx2 a v h))).trans (hx2 a v h))))
  all_goals
    have HB3 : Hid (Below w.heap.size w x3) := below_then HB1.out (below_then hB2 hb3)
    clear hb3 hB2 hls hb2 hB1 hb1 c0 c1 c2 c3 c4 c5
    go_wp2_with fail
    go_ret
    exact ⟨by first | rfl | simp, HB3.out⟩
end Go.Proofs.Ytidnpdkibndpkaa
