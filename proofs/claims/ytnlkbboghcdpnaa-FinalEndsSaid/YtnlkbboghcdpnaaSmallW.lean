/- Code by numbers: the walks. Code by numbers, of few statements: the walk. Code by numbers, of few statements: the walk. -/
import Derived.Test.YtnlkbboghcdpnaaMade2
import Derived.Test.YtnlkbboghcdpnaaCompile
namespace Go.Proofs.Ytnlkbboghcdpnaa
open Go.RowKit

/-- A block of three cells holds no expressions and no instructions: what they are does not hang on it. -/
theorem slice_thin {α : Type} [Inhabited α] {R : World → α → List Value → Prop} {size g : Nat} {X Z : World} {v : Value} {l : List α} (hsz : 4 ≤ size) (hs : Since (fun k => k = g) X Z) (ht : ∀ j, 3 ≤ j → X.cell? ⟨g, j, none⟩ = none) (hR : ∀ x cs, R X x cs → R Z x cs) (h : SliceR R size X v l) : SliceR R size Z v l := by
  obtain ⟨a, cap, h1, h2, h4⟩ := h
  refine ⟨a, cap, h1, h2, fun j hj => ?_⟩
  obtain ⟨b, off, cs, h5, h6, h7, h8, h9⟩ := h4 j hj
  have hne : b ≠ g := fun e => by
    subst e
    have h := h8 (size - 1) (by omega)
    rw [ht _ (by omega), List.getElem?_eq_getElem (by omega)] at h
    cases h
  exact ⟨b, off, cs, h5, Nat.lt_of_lt_of_le h6 hs.size, h7, fun i hi => (hs.cell (p := ⟨b, off + j * size + i, none⟩) h6 hne).trans (h8 i hi), hR _ _ h9⟩
theorem expr_thin {d g : Nat} {X Z : World} (hs : Since (fun k => k = g) X Z) (ht : ∀ j, 3 ≤ j → X.cell? ⟨g, j, none⟩ = none) {x : ExprT} {kv : Value} (h : ExprAt d X x kv) : ExprAt d Z x kv := by
  induction d generalizing x kv with
  | zero => exact h.elim
  | succ d ih => exact slice_thin (by omega) hs ht (fun y cs ⟨kv', e, h'⟩ => ⟨kv', e, ih h'⟩) h
theorem row_thin {d g : Nat} {X Z : World} (hs : Since (fun k => k = g) X Z) (ht : ∀ j, 3 ≤ j → X.cell? ⟨g, j, none⟩ = none) {l : List InstrD} {cs : List Value} (h : RowR d X l cs) : RowR d Z l cs := by
  obtain ⟨v, rfl, h⟩ := h
  exact ⟨v, rfl, slice_thin (by omega) hs ht (fun y cs ⟨ka, kb, e, h1, h2⟩ => ⟨ka, kb, e, expr_thin hs ht h1, expr_thin hs ht h2⟩) h⟩
theorem thin_of {X : World} {g : Nat} {a b c : Value} {t : TypeId} {f : Nat × Nat} (h : X.heap[g]? = some (.cells #[a, b, c] t f)) : ∀ j, 3 ≤ j → X.cell? ⟨g, j, none⟩ = none := fun j hj => by
  rw [cell_of_block h]; exact Array.getElem?_eq_none (by simpa using hj)
/-- What is so whatever happens to some blocks is so when a block of three cells is written, too. -/
theorem away_thin {F : Nat → Prop} {X Z : World} {g d : Nat} {a b c : Value} {t : TypeId} {f : Nat × Nat} {l : List InstrD} {cs : List Value} (h : Away F X (fun y => RowR d y l cs)) (hg : X.heap[g]? = some (.cells #[a, b, c] t f)) (hF : ¬ F g) (hs : Since (fun k => k = g) X Z) : Away F Z (fun y => RowR d y l cs) := fun y hy => by
  have hgl := lt_of_block hg
  have hz := hs.size
  have hyz := hy.size
  have hy0 : ({y with heap := y.heap.setIfInBounds g (.cells #[a, b, c] t f)} : World).heap[g]? = some (.cells #[a, b, c] t f) := by
    simp [Array.getElem?_setIfInBounds_self_of_lt (show g < y.heap.size by omega)]
  have hk : ∀ k, k ≠ g → ({y with heap := y.heap.setIfInBounds g (.cells #[a, b, c] t f)} : World).heap[k]? = y.heap[k]? := fun k hne => by
    simp [Array.getElem?_setIfInBounds_ne (Ne.symm hne)]
  have h0 : Since F X ({y with heap := y.heap.setIfInBounds g (.cells #[a, b, c] t f)} : World) :=
    ⟨hy.os.trans hs.os, hy.tape.trans hs.tape, hy.output.trans hs.output, by simp; omega, fun k hkl hkF => by
      by_cases e : k = g
      · subst e; rw [hy0]; exact hg.symm
      · rw [hk k e, hy.block k (by omega) hkF, hs.block k hkl e]⟩
  have h1 : Since (fun k => k = g) ({y with heap := y.heap.setIfInBounds g (.cells #[a, b, c] t f)} : World) y := ⟨rfl, rfl, rfl, by simp, fun k _ hne => (hk k hne).symm⟩
  exact row_thin h1 (thin_of hy0) (h _ h0)
/-- What is so of code by numbers; its threads lie in a block of the call's own. -/
def CodeEnd (w : World) (en : Ending) (w' : World) : Prop := (∃ c ta tc css, en = .returned (codeV c (.slice ta c.threads.length tc)) ∧ codeOk c = true ∧ ThingsC (fun k => (Value.slice ta c.threads.length tc).ownBlock = some k) w' (RowR 3) 1 w.heap.size 59 (.slice ta c.threads.length tc) c.threads css) ∧ Below w.heap.size w w'
theorem kinds_ok : ∀ k ∈ kindsL, 1 ≤ k ∧ k ≤ 11 := by decide
set_option maxRecDepth 100000 in
set_option maxHeartbeats 4000000 in
theorem made4_any (w : World) (sv : Value) (l : List Int) (hn : NumsAt w .u8 sv l) (kv : Value) (ks : List Int) (hks : IntsAt w kv ks) (hk1 : 1 ≤ ks.length) (hk2 : ks.length ≤ 100) (hk3 : ∀ k ∈ ks, 1 ≤ k ∧ k ≤ 11) :
    Calls Try.prog 19 #[sv, kv] w (CodeEnd w) := by
  have hb1 := (Below.refl w.heap.size w).alloc (Nat.le_refl _) (.cells #[.int .i64 0, .int .i64 0, .slice none 0 0] 24)
  have hg1 := heap_alloc_new w (.cells #[.int .i64 0, .int .i64 0, .slice none 0 0] 24)
  have hmade := made2_any _ sv l (hn.below hb1) kv ks (SliceR.below IntR.stays hks hb1) hk1 hk2 hk3
  obtain ⟨sa, sc, rfl, -⟩ : ∃ a c, sv = .slice a l.length c ∧ True := by obtain ⟨a, c, h, -⟩ := hn; exact ⟨a, c, h, trivial⟩
  obtain ⟨ka, kc, rfl, -⟩ := SliceR.slice hks
  generalize l.length = ln at hmade ⊢
  generalize ks.length = kn at hmade ⊢
  have HB1 := Lib.hid hb1
  have HG1 := Lib.hid hg1
  have HMADE := Lib.hid hmade
  clear hb1 hg1 hmade hn hks hk1 hk2 hk3
  go_enter Try.func19, Try.ntmps19
  go_upto_region 1 with fail
  generalize World.alloc w _ = W at HB1 HG1 HMADE ⊢
  obtain ⟨gr, hgr⟩ : ∃ gr, gr = w.heap.size := ⟨_, rfl⟩
  rw [← hgr] at HG1 ⊢
  have HGR := Lib.hid hgr
  clear hgr
  go_upto_region 2 with (first | (go_at_call 38; go_must (refine (HCOMP.out).mono ?_); rintro en W3 ⟨⟨ta, tc, css, rfl, hrow⟩, hb⟩; (have HROW := Lib.hid hrow); (have HB3 := Lib.hid (below_then HB2.out hb)); (have HG3 := Lib.hid ((hb.block _ (lt_of_block HG2.out)).trans HG2.out)); (have HW3 := Lib.hid hb.size); clear hrow hb; unfold codeV) | (go_at_call 39; go_must (refine (HMADE.out).mono ?_); rintro en W2 ⟨⟨p, vv, tv, rfl, hp, hpa⟩, hb⟩; (have HCOMP := Lib.hid (compile_any 3 4 W2 p hp vv tv hpa)); (have HOK := Lib.hid (compile_ok hp)); (have HB2 := Lib.hid (HB1.out.trans (hb.mono HB1.out.size))); (have HG2 := Lib.hid ((hb.block _ (lt_of_block HG1.out)).trans HG1.out)); clear hb hp hpa; generalize compileS p = c at HCOMP HOK; unfold progV at HCOMP ⊢))
  generalize hcv : c.vars = vars
  generalize hcd : c.domain = dom
  generalize hcl : c.threads.length = cn
  have HCV := Lib.hid hcv
  have HCD := Lib.hid hcd
  have HCL := Lib.hid hcl
  clear hcv hcd hcl
  have hb4 := HB3.out.alloc HB3.out.size (.cells #[.int .i64 vars, .int .i64 dom, .slice ta cn tc] 24)
  have hg4 := (Below.heap_alloc W3 (.cells #[.int .i64 vars, .int .i64 dom, .slice ta cn tc] 24) _ (lt_of_block HG3.out)).trans HG3.out
  have hn4 := heap_alloc_new W3 (.cells #[.int .i64 vars, .int .i64 dom, .slice ta cn tc] 24)
  have hs4 := (Since.refl (fun _ => False) W3).alloc (.cells #[.int .i64 vars, .int .i64 dom, .slice ta cn tc] 24)
  generalize World.alloc W3 _ = X at hb4 hg4 hn4 hs4 ⊢
  generalize W3.heap.size = gc at hn4 ⊢
  have s := setAll_since (g := gr) [.int .i64 vars, .int .i64 dom, .slice ta cn tc] X 0
  have hset : (setAll X gr 0 [.int .i64 vars, .int .i64 dom, .slice ta cn tc]).heap[gr]? = _ := setAll_new (cs := [.int .i64 0, .int .i64 0, .slice none 0 0]) _ rfl hg4
  have hend : CodeEnd w (.returned (.agg #[.int .i64 vars, .int .i64 dom, .slice ta cn tc])) (setAll X gr 0 [.int .i64 vars, .int .i64 dom, .slice ta cn tc]) := by
    have h1 := HROW.out
    rw [HCL.out] at h1
    have hlt := HW3.out
    have hge := HB2.out.size
    refine ⟨⟨c, ta, tc, css, by unfold codeV; rw [HCV.out, HCD.out, HCL.out], HOK.out, ?_⟩, (hb4.trans (s.below hb4.size (fun k hk => by have := HGR.out; omega)))⟩
    rw [HCL.out]
    have h2 : ThingsC (fun k => (Value.slice ta cn tc).ownBlock = some k) W3 (RowR 3) 1 w.heap.size 59 (.slice ta cn tc) c.threads css := ⟨h1.len, h1.part, row_mono h1.row hge⟩
    have hown : ∀ k, (Value.slice ta cn tc).ownBlock = some k → k ≠ gr := fun k hk e => by have := (h1.row.lt k hk).1; have := lt_of_block HG2.out; omega
    have hgr : ¬ (Value.slice ta cn tc).ownBlock = some gr := fun e => hown gr e rfl
    exact ⟨h2.len, fun j hj => ⟨(h2.part j hj).1, away_thin ((h2.part j hj).2.step hs4 (fun _ h => h.elim) (fun k hk => .inl hk)) hg4 hgr s⟩, s.row (hs4.row h2.row (fun _ _ h => h)) hown⟩
  have HEND := Lib.hid hend
  have HSET := Lib.hid hset
  have c0 := cell_of_block hn4 0
  have c1 := cell_of_block hn4 1
  have c2 := cell_of_block hn4 2
  have z0 := cell_of_block hg4 0
  have z1 := cell_of_block hg4 1
  have z2 := cell_of_block hg4 2
  have f0 := free_of_block hg4 0
  have f1 := free_of_block hg4 1
  have f2 := free_of_block hg4 2
  clear hend hset s hg4 hn4 hs4 hb4
  go_wp2_with fail
  refine bodyPost_ret (results_cell rfl _ _ gr 24 _ (0, 0) _ rfl HSET.out Try.underlying24 rfl code_size3) rfl ?_
  exact HEND.out
end Go.Proofs.Ytnlkbboghcdpnaa
namespace Go.Proofs.Ytnlkbboghcdpnaa
open Go.RowKit

theorem nums_take {w : World} {k : IntKind} {a : Option Addr} {n cap m : Nat} {l : List Int} (h : NumsAt w k (.slice a n cap) l) (hm : m ≤ n) : NumsAt w k (.slice a m cap) (l.take m) := by
  obtain ⟨a', cap', he, h2, h3, h4⟩ := h
  cases he
  have hl : (l.take m).length = m := by rw [List.length_take]; omega
  refine ⟨a, cap, by rw [hl], by omega, fun x hx => h3 x (List.mem_of_mem_take hx), fun j hj => ?_⟩
  rw [hl] at hj
  obtain ⟨b, off, h5, h6, h7⟩ := h4 j (by omega)
  refine ⟨b, off, h5, h6, ?_⟩
  rw [h7]
  simp only [List.getD_eq_getElem?_getD, List.getElem?_take_of_lt hj]
/-- Three instructions in the place of more than five. -/
def specI (vars : Int) : List InstrD := [⟨2, 0, 0, .mk 1 1 0 [], default, 0⟩, ⟨1, 0, vars - 1, default, default, 0⟩, ⟨9, 0, 0, .mk 2 0 0 [], default, 0⟩]
def specC (vars : Int) : List Value := [.int .i64 2, .int .i64 0, .int .i64 0, .int .i64 1, .int .i64 1, .int .u8 0, .slice none 0 0, .int .i64 0, .int .i64 0, .int .u8 0, .slice none 0 0, .int .i64 0,
  .int .i64 1, .int .i64 0, .int .i64 (vars - 1), .int .i64 0, .int .i64 0, .int .u8 0, .slice none 0 0, .int .i64 0, .int .i64 0, .int .u8 0, .slice none 0 0, .int .i64 0,
  .int .i64 9, .int .i64 0, .int .i64 0, .int .i64 2, .int .i64 0, .int .u8 0, .slice none 0 0, .int .i64 0, .int .i64 0, .int .u8 0, .slice none 0 0, .int .i64 0]
theorem spec_ok {vars dom : Int} (h1 : 1 ≤ vars) (h2 : 2 ≤ dom) : rowOk vars dom (specI vars) = true := by
  have a1 : fitsI vars dom 2 0 ⟨2, 0, 0, .mk 1 1 0 [], default, 0⟩ = true := by
    have p1 : partV 2 0 vars = true := by simp [partV, hasV]; omega
    have p2 : partA 2 (.mk 1 1 0 []) dom = true := partA_yes (by decide) (num_ok (n := 1) (d := 1) (by omega))
    have p3 : partR 2 0 = true := by decide
    have p4 : partB 2 default dom = true := by rfl
    simp [fitsI, partOk, p1, p2, p3, p4]
  have a2 : fitsI vars dom 1 0 ⟨1, 0, vars - 1, default, default, 0⟩ = true := by
    have p1 : partV 1 (vars - 1) vars = true := by simp [partV, hasV]; omega
    have p2 : partA 1 default dom = true := by rfl
    have p3 : partR 1 0 = true := by decide
    have p4 : partB 1 default dom = true := by rfl
    simp [fitsI, partOk, p1, p2, p3, p4]
  have a3 : fitsI vars dom 9 0 ⟨9, 0, 0, .mk 2 0 0 [], default, 0⟩ = true := by
    have p1 : partV 9 0 vars = true := by simp [partV, hasV]
    have p2 : partA 9 (.mk 2 0 0 []) dom = true := partA_yes (by decide) (reg_ok (n := 0) (d := 1) (by omega))
    have p3 : partR 9 0 = true := by decide
    have p4 : partB 9 default dom = true := by rfl
    simp [fitsI, partOk, p1, p2, p3, p4]
  simp [rowOk, specI, instrOk, a1, a2, a3]
theorem spec_at {X : World} {g : Nat} {vars : Int} (h : X.heap[g]? = some (.cells (specC vars).toArray 64 (0, 0))) : RowR 3 X (specI vars) [.slice (some ⟨g, 0, none⟩) 3 3] := by
  have hn : ∀ k n o : Int, ExprAt 3 X (.mk k n o []) (.slice none 0 0) := fun k n o => ⟨none, 0, rfl, by simp [ExprT.kids], fun j hj => by simp [ExprT.kids] at hj⟩
  have hd : ExprAt 3 X default (.slice none 0 0) := hn 0 0 0
  refine ⟨_, rfl, _, 3, rfl, by simp [specI], fun j hj => ?_⟩
  have hj3 : j = 0 ∨ j = 1 ∨ j = 2 := by simp [specI] at hj; omega
  rcases hj3 with rfl | rfl | rfl
  · refine ⟨g, 0, (specC vars).take 12, rfl, lt_of_block h, rfl, fun i hi => ?_, .slice none 0 0, .slice none 0 0, rfl, hn _ _ _, hd⟩
    rw [cell_of_block h]
    simp only [Nat.zero_mul, Nat.zero_add, List.getElem?_toArray, List.getElem?_take_of_lt hi]
  · refine ⟨g, 0, ((specC vars).drop 12).take 12, rfl, lt_of_block h, rfl, fun i hi => ?_, .slice none 0 0, .slice none 0 0, rfl, hd, hd⟩
    rw [cell_of_block h]
    simp only [List.getElem?_toArray, List.getElem?_take_of_lt hi, List.getElem?_drop]
  · refine ⟨g, 0, ((specC vars).drop 24).take 12, rfl, lt_of_block h, rfl, fun i hi => ?_, .slice none 0 0, .slice none 0 0, rfl, hn _ _ _, hd⟩
    rw [cell_of_block h]
    simp only [List.getElem?_toArray, List.getElem?_take_of_lt hi, List.getElem?_drop]
/-- Code while its long threads are shortened. -/
structure SmallL (w X : World) (gc gr g : Nat) (vars dom : Int) (n cap : Nat) (cl : List (List InstrD)) : Prop where
  below : Below w.heap.size w X
  box : X.heap[gc]? = some (.cells #[.int .i64 vars, .int .i64 dom, .slice (some ⟨g, 0, none⟩) n cap] 24 (0, 0))
  res : X.heap[gr]? = some (.cells #[.int .i64 0, .int .i64 0, .slice none 0 0] 24 (0, 0))
  lo : w.heap.size ≤ gc ∧ w.heap.size ≤ gr ∧ w.heap.size ≤ g ∧ gc ≠ gr ∧ g ≠ gc ∧ g ≠ gr
  row : ∃ cur : Array Value, X.heap[g]? = some (.cells cur 59 (0, 0)) ∧ n ≤ cur.size ∧ ∀ j, j < n → ∃ a c, cur[j]? = some (.slice a (cl.getD j []).length c) ∧ Away (fun k => k = g) X (fun y => RowR 3 y (cl.getD j []) [.slice a (cl.getD j []).length c])
  len : cl.length = n
  ok : ∀ j, j < n → rowOk vars dom (cl.getD j []) = true
section
variable {w X : World} {gc gr g n cap : Nat} {vars dom : Int} {cl : List (List InstrD)}
theorem SmallL.first {Y : World} {tc : Nat} {ta : Option Addr} {css : List (List Value)} (hb : Below w.heap.size w Y) (hc : ThingsC (fun k => (Value.slice ta n tc).ownBlock = some k) Y (RowR 3) 1 w.heap.size 59 (.slice ta n tc) cl css) (hn : 1 ≤ n) (hl : cl.length = n) (hok : ∀ j, j < n → rowOk vars dom (cl.getD j []) = true)
    (hr : Y.heap[gr]? = some (.cells #[.int .i64 0, .int .i64 0, .slice none 0 0] 24 (0, 0))) (hgr : w.heap.size ≤ gr) :
    ∃ g, ta = some ⟨g, 0, none⟩ ∧ SmallL w (Y.alloc (.cells #[.int .i64 vars, .int .i64 dom, .slice ta n tc] 24)) Y.heap.size gr g vars dom n tc cl := by
  have hrow := hc.row.2
  rw [hl] at hrow
  rcases hrow with ⟨hv, h0⟩ | ⟨g, cap2, cur, hv, hg0, hg, h1, h2, h3, h4⟩
  · omega
  · cases hv
    have hgl := lt_of_block hg
    have hrl := lt_of_block hr
    have hgne : g ≠ gr := fun e => by subst e; rw [hg] at hr; cases hr
    have s := (Since.refl (fun _ => False) Y).alloc (.cells #[.int .i64 vars, .int .i64 dom, .slice (some ⟨g, 0, none⟩) n tc] 24)
    refine ⟨g, rfl, hb.alloc hb.size _, heap_alloc_new _ _, (Below.heap_alloc _ _ _ hrl).trans hr, ⟨hb.size, hgr, hg0, by omega, by omega, hgne⟩, ⟨cur, (Below.heap_alloc _ _ _ hgl).trans hg, by omega, fun j hj => ?_⟩, hl, hok⟩
    obtain ⟨hp1, hp2⟩ := hc.part j (by omega)
    obtain ⟨v, hv, hi⟩ := hp2.now
    obtain ⟨a, c, rfl, -⟩ := SliceR.slice hi
    have hcs : css.getD j [] = [.slice a (cl.getD j default).length c] := hv
    refine ⟨a, c, ?_, ?_⟩
    · have h5 := flatten_at (css := css) (size := 1) (j := j) (i := 0) (fun j hj => (hc.part j (by rw [← hc.len]; exact hj)).1) (by rw [hc.len]; omega) (by omega)
      rw [Nat.mul_one, Nat.add_zero, hcs, ← h4] at h5
      rw [List.getElem?_take_of_lt (by omega)] at h5
      have e : (default : List InstrD) = [] := rfl
      rw [e] at h5
      simpa using h5
    · have := hp2.step s (F' := fun k => k = g) (fun _ h => h.elim) (fun k hk => .inl (by subst hk; rfl))
      rw [hcs] at this
      exact this
theorem SmallL.reslice (h : SmallL w X gc gr g vars dom n cap cl) {m : Nat} (hm : m ≤ n) : SmallL w (X.setCell ⟨gc, 2, none⟩ (.slice (some ⟨g, 0, none⟩) m cap)) gc gr g vars dom m cap (cl.take m) := by
  have hlo := h.lo
  have s : Since (fun k => k = gc) X (X.setCell ⟨gc, 2, none⟩ (.slice (some ⟨g, 0, none⟩) m cap)) := Since.setCell (F := fun k => k = gc) (p := ⟨gc, 2, none⟩) (Since.refl _ _) (.inl rfl) _
  obtain ⟨cur, h1, h2, h3⟩ := h.row
  have hget : ∀ j, j < m → (cl.take m).getD j [] = cl.getD j [] := fun j hj => by simp only [List.getD_eq_getElem?_getD, List.getElem?_take_of_lt hj]
  refine ⟨h.below.trans (s.below h.below.size (fun k hk => by omega)), ?_, (s.block _ (lt_of_block h.res) (by omega)).trans h.res, hlo, ⟨cur, (s.block _ (lt_of_block h1) (by omega)).trans h1, by omega, fun j hj => ?_⟩, ?_, fun j hj => ?_⟩
  · have := set_of_block h.box 2 (.slice (some ⟨g, 0, none⟩) m cap); simpa using this
  · obtain ⟨a, c, h4, h5⟩ := h3 j (by omega)
    rw [hget j hj]
    exact ⟨a, c, h4, away_thin h5 h.box (by omega) s⟩
  · rw [List.length_take, h.len]; omega
  · rw [hget j hj]; exact h.ok j (by omega)
theorem SmallL.set (h : SmallL w X gc gr g vars dom n cap cl) {i : Nat} (hi : i < n) (h1 : 1 ≤ vars) (h2 : 2 ≤ dom) :
    SmallL w ((X.alloc (.cells (specC vars).toArray 64)).setCell ⟨g, i, none⟩ (.slice (some ⟨X.heap.size, 0, none⟩) 3 3)) gc gr g vars dom n cap (cl.set i (specI vars)) := by
  have hlo := h.lo
  obtain ⟨cur, c1, c2, c3⟩ := h.row
  have hgl := lt_of_block c1
  have s0 := (Since.refl (fun _ => False) X).alloc (.cells (specC vars).toArray 64)
  have hnew := heap_alloc_new X (.cells (specC vars).toArray 64)
  have hg1 := (Below.heap_alloc X (.cells (specC vars).toArray 64) _ hgl).trans c1
  generalize X.alloc (.cells (specC vars).toArray 64) = Y at s0 hnew hg1 ⊢
  have s1 : Since (fun k => k = g) Y (Y.setCell ⟨g, i, none⟩ (.slice (some ⟨X.heap.size, 0, none⟩) 3 3)) := Since.setCell (F := fun k => k = g) (p := ⟨g, i, none⟩) (Since.refl _ _) (.inl rfl) _
  have s : Since (fun k => k = g) X (Y.setCell ⟨g, i, none⟩ (.slice (some ⟨X.heap.size, 0, none⟩) 3 3)) := (s0.mono (fun _ _ h => h.elim)).trans s1 (fun k hk => .inl hk)
  refine ⟨h.below.trans (s.below h.below.size (fun k hk => by omega)), (s.block _ (lt_of_block h.box) (by omega)).trans h.box, (s.block _ (lt_of_block h.res) (by omega)).trans h.res, hlo, ⟨_, set_of_block hg1 i _, by simpa using c2, fun j hj => ?_⟩, by rw [List.length_set]; exact h.len, fun j hj => ?_⟩
  · by_cases e : j = i
    · subst e
      have hg : (cl.set j (specI vars)).getD j [] = specI vars := by
        rw [List.getD_eq_getElem?_getD, List.getElem?_set_self (by rw [h.len]; exact hj)]; rfl
      rw [hg]
      refine ⟨some ⟨X.heap.size, 0, none⟩, 3, ?_, fun y hy => ?_⟩
      · rw [Array.getElem?_setIfInBounds_self_of_lt (by omega)]; rfl
      · have hne : X.heap.size ≠ g := by omega
        exact spec_at ((hy.block _ (Nat.lt_of_lt_of_le (lt_of_block hnew) s1.size) hne).trans ((s1.block _ (lt_of_block hnew) hne).trans hnew))
    · have hg : (cl.set i (specI vars)).getD j [] = cl.getD j [] := by
        rw [List.getD_eq_getElem?_getD, List.getElem?_set_ne (Ne.symm e), ← List.getD_eq_getElem?_getD]
      rw [hg]
      obtain ⟨a, c, h4, h5⟩ := c3 j hj
      exact ⟨a, c, by rw [Array.getElem?_setIfInBounds_ne (Ne.symm e)]; exact h4, h5.step s (fun k hk => .inl hk) (fun k hk => .inl hk)⟩
  · by_cases e : j = i
    · subst e
      rw [List.getD_eq_getElem?_getD, List.getElem?_set_self (by rw [h.len]; exact hj)]
      exact spec_ok h1 h2
    · rw [List.getD_eq_getElem?_getD, List.getElem?_set_ne (Ne.symm e), ← List.getD_eq_getElem?_getD]
      exact h.ok j hj
end
def SmallEnd (w : World) (en : Ending) (w' : World) : Prop := (∃ c tv, en = .returned (codeV c tv) ∧ RowsAt 3 w' tv c.threads ∧ codeOk c = true ∧ c.threads.length ≤ 2) ∧ Below w.heap.size w w'
theorem smallEnd_of {w X : World} {gc gr g n cap : Nat} {vars dom : Int} {cl : List (List InstrD)} (h : SmallL w X gc gr g vars dom n cap cl) (hb : 1 ≤ vars ∧ vars ≤ 4 ∧ 2 ≤ dom ∧ dom ≤ 16) (hn1 : 1 ≤ n) (hn2 : n ≤ 2) :
    SmallEnd w (.returned (.agg #[.int .i64 vars, .int .i64 dom, .slice (some ⟨g, 0, none⟩) n cap])) (setAll X gr 0 [.int .i64 vars, .int .i64 dom, .slice (some ⟨g, 0, none⟩) n cap]) ∧
    (setAll X gr 0 [.int .i64 vars, .int .i64 dom, .slice (some ⟨g, 0, none⟩) n cap]).heap[gr]? = some (.cells #[.int .i64 vars, .int .i64 dom, .slice (some ⟨g, 0, none⟩) n cap] 24 (0, 0)) := by
  have hlo := h.lo
  have hl := h.len
  have s := setAll_since (g := gr) [.int .i64 vars, .int .i64 dom, .slice (some ⟨g, 0, none⟩) n cap] X 0
  obtain ⟨cur, c1, c2, c3⟩ := h.row
  have hg := (s.block _ (lt_of_block c1) (by omega)).trans c1
  refine ⟨⟨⟨⟨vars, dom, cl⟩, .slice (some ⟨g, 0, none⟩) n cap, rfl, ⟨_, cap, by rw [hl], by rw [hl]; omega, fun j hj => ?_⟩, ?_, by rw [hl]; exact hn2⟩, h.below.trans (s.below h.below.size (fun k hk => by omega))⟩, setAll_new (cs := [.int .i64 0, .int .i64 0, .slice none 0 0]) _ rfl h.res⟩
  · obtain ⟨a, c, h4, h5⟩ := c3 j (by rw [← hl]; exact hj)
    refine ⟨g, 0, [.slice a (cl.getD j []).length c], rfl, lt_of_block hg, rfl, fun i hi => ?_, row_thin s (thin_of h.res) h5.now⟩
    obtain rfl : i = 0 := by omega
    rw [cell_of_block hg]
    simpa using h4
  · unfold codeOk
    simp only [Bool.and_eq_true, decide_eq_true_eq, hl]
    exact ⟨⟨⟨⟨⟨⟨hb.1, hb.2.1⟩, hb.2.2.1⟩, hb.2.2.2⟩, hn1⟩, by omega⟩, all_yes_of _ [] _ (fun j hj => h.ok j (by rw [← hl]; exact hj))⟩
end Go.Proofs.Ytnlkbboghcdpnaa
namespace Go.Proofs.Ytnlkbboghcdpnaa
open Go.RowKit

set_option maxRecDepth 100000 in
set_option maxHeartbeats 8000000 in
theorem small10_any (w : World) (sv : Value) (l : List Int) (hn : NumsAt w .u8 sv l) (hcap : ∀ a n c, sv = .slice a n c → n ≤ c) : Calls Try.prog 16 #[sv] w (SmallEnd w) := by
  have hb1 := (Below.refl w.heap.size w).alloc (Nat.le_refl _) (.cells #[.int .i64 0, .int .i64 0, .slice none 0 0] 24)
  have hg1 := heap_alloc_new w (.cells #[.int .i64 0, .int .i64 0, .slice none 0 0] 24)
  obtain ⟨sa, sc, rfl, -⟩ : ∃ a c, sv = .slice a l.length c ∧ True := by obtain ⟨a, c, h, -⟩ := hn; exact ⟨a, c, h, trivial⟩
  replace hcap := hcap _ _ _ rfl
  obtain ⟨ln, hln⟩ : ∃ n, n = l.length := ⟨_, rfl⟩
  rw [← hln] at hn hcap ⊢
  have hn1 := hn.below hb1
  have HN := Lib.hid hn1
  have HB := Lib.hid hb1
  have HG := Lib.hid hg1
  clear hb1 hg1 hn1 hn hln
  go_enter Try.func16, Try.ntmps16
  go_upto_region 1 with fail
  generalize World.alloc w _ = W at HB HG HN ⊢
  obtain ⟨gr, hgr⟩ : ∃ gr, gr = w.heap.size := ⟨_, rfl⟩
  rw [← hgr] at HG ⊢
  have HGR := Lib.hid hgr
  clear hgr
  go_upto_if 7 with fail
  go_cut [0] (fun s0 w' => ∃ (n : Nat) (l' : List Int), s0 = .slice sa n sc ∧ w' = W ∧ Hid (NumsAt W .u8 (.slice sa n sc) l'))
  case first =>
    by_cases h30 : 30 < ln
    · have h30I : (30 : Int) < (ln : Int) := by omega
      have hs30 : (30 : Int) ≤ (sc : Int) := by omega
      have hn2 := nums_take HN.out (m := 30) (by omega)
      have HN2 := Lib.hid hn2
      clear hn2
      go_wp2_with fail
      go_meet
      case rel => exact ⟨30, _, rfl, rfl, HN2.out⟩
    · go_wp2_with fail
      go_meet
      case rel => exact ⟨ln, l, rfl, rfl, HN.out⟩
  case rest =>
    obtain ⟨n, l', rfl, hwv, HN2⟩ := hcut
    obtain rfl : W = wc := hwv.symm
    clear HN hcap
    go_upto_region 4 with (first | (go_at_call 19; go_must (refine (HM4.out).mono ?_); rintro en W3 ⟨⟨c, ta, tc, css, rfl, hok, hrow⟩, hb⟩; (have HROW := Lib.hid hrow); (have HOK := Lib.hid hok); (have HB3 := Lib.hid (below_then HB2.out hb)); (have HW2 := Lib.hid HB2.out.size); (have HG3 := Lib.hid ((hb.block _ (lt_of_block HG2.out)).trans HG2.out)); clear hrow hok hb HM4; unfold codeV) | (go_at_call 20; go_must (refine (kinds_any W).mono ?_); rintro en W2 ⟨⟨kv, rfl, hks⟩, hb⟩; (have HM4 := Lib.hid (made4_any W2 _ l' (HN2.out.below hb) kv kindsL hks (by decide) (by decide) kinds_ok)); (have HB2 := Lib.hid (below_then HB.out hb)); (have HG2 := Lib.hid ((hb.block _ (lt_of_block HG.out)).trans HG.out)); clear hks hb HN2))
    have hbd := codeOk_bounds HOK.out
    have hrow0 := HROW.out
    have hltc : c.threads.length ≤ tc := by
      obtain ⟨a, cap, he, h1, -⟩ := row_slice hrow0.row
      cases he; exact h1
    have hoks : ∀ j, j < c.threads.length → rowOk c.vars c.domain (c.threads.getD j []) = true := fun j hj => by
      have h := HOK.out
      unfold codeOk at h
      simp only [Bool.and_eq_true, List.all_eq_true] at h
      exact h.2 _ (getD_mem hj)
    obtain ⟨g, rfl, hL⟩ := SmallL.first HB3.out ⟨hrow0.len, hrow0.part, row_mono hrow0.row HW2.out⟩ hbd.2.2.2.2.1 rfl hoks HG3.out (by have := HGR.out; omega)
    generalize c.vars = vars at hL hbd ⊢
    generalize c.domain = dom at hL hbd ⊢
    generalize c.threads.length = tn at hL hbd hltc ⊢
    obtain ⟨v1, v4, d2, d16, t1, t4⟩ := hbd
    generalize World.alloc W3 _ = X at hL ⊢
    generalize W3.heap.size = gc at hL ⊢
    have HL := Lib.hid hL
    clear hL hrow0 hoks HROW HOK HG3 HB3 HW2 HB2 HG2 HB HG
    have c2 : X.cell? ⟨gc, 2, none⟩ = some (.slice (some ⟨g, 0, none⟩) tn tc) := cell_of_block HL.out.box 2
    have f2 := free_of_block HL.out.box 2
    go_upto_if 16 with fail
    go_cut [16] (fun _s16 w' => ∃ (m : Nat) (cl : List (List InstrD)), 1 ≤ m ∧ m ≤ 2 ∧ Hid (SmallL w w' gc gr g vars dom m tc cl))
    case first =>
      by_cases h2 : 2 < tn
      · have h2I : (2 : Int) < (tn : Int) := by omega
        have h2J : (2 : Int) ≤ (tc : Int) := by omega
        have hre := HL.out.reslice (m := 2) (by omega)
        have HRE := Lib.hid hre
        clear hre
        go_wp2_with fail
        go_meet
        case rel => exact ⟨2, _, by omega, by omega, HRE.out⟩
      · have h2I : decide ((2 : Int) < (tn : Int)) = false := by rw [decide_eq_false_iff_not]; omega
        go_wp2_with fail
        go_meet
        case rel => exact ⟨tn, _, by omega, by omega, HL.out⟩
    case rest =>
    obtain ⟨m, cl0, hm1, hm2, HL2⟩ := hcut
    clear c2 f2 HL
    go_wp2_with fail
    go_loopg [4] m (fun gg s4 wr => ∃ (i : Nat) (cl : List (List InstrD)), i ≤ m ∧ Hid (gg = m - i) ∧ s4 = .int .i64 i ∧ Hid (SmallL w wr gc gr g vars dom m tc cl))
    case atStart => exact ⟨0, cl0, Nat.zero_le _, rfl, rfl, HL2.out⟩
    case round =>
      obtain ⟨i, cl, hi, HGG, rfl, HL⟩ := hrel
      clear HL2
      have c0 : wr.cell? ⟨gc, 0, none⟩ = some (.int .i64 vars) := cell_of_block HL.out.box 0
      have c1 : wr.cell? ⟨gc, 1, none⟩ = some (.int .i64 dom) := cell_of_block HL.out.box 1
      have c2 : wr.cell? ⟨gc, 2, none⟩ = some (.slice (some ⟨g, 0, none⟩) m tc) := cell_of_block HL.out.box 2
      by_cases hlt : i < m
      · have hltI : (i : Int) < (m : Int) := by omega
        obtain ⟨cur, r1, r2, r3⟩ := HL.out.row
        obtain ⟨a, ac, r4, -⟩ := r3 i hlt
        have x0 : wr.cell? ⟨g, i, none⟩ = some (.slice a (cl.getD i []).length ac) := by rw [cell_of_block r1]; exact r4
        have fx := fun o => free_of_block ((Below.heap_alloc wr o _ (lt_of_block r1)).trans r1) i
        have x1 := fun o => (Below.cell ((Below.refl wr.heap.size wr).alloc (Nat.le_refl _) o) (World.block_lt_of_cell? wr _ x0)).trans x0
        generalize (cl.getD i []).length = ln at x0 x1
        have hset := HL.out.set hlt v1 d2
        have HSET := Lib.hid hset
        clear r1 r2 r3 r4 hset
        by_cases h5 : 5 < ln
        · have h5I : (5 : Int) < (ln : Int) := by omega
          go_wp2_with fail
          go_roundg (m - (i + 1))
          case measure => rw [HGG.out]; omega
          case rel => exact ⟨i + 1, _, by omega, rfl, by simp, HSET.out⟩
        · have h5I : decide ((5 : Int) < (ln : Int)) = false := by rw [decide_eq_false_iff_not]; omega
          go_wp2_with fail
          go_roundg (m - (i + 1))
          case measure => rw [HGG.out]; omega
          case rel => exact ⟨i + 1, _, by omega, rfl, by simp, HL.out⟩
      · obtain rfl : m = i := by omega
        obtain ⟨hend, hset⟩ := smallEnd_of HL.out ⟨v1, v4, d2, d16⟩ hm1 hm2
        have z0 := cell_of_block HL.out.res 0
        have z1 := cell_of_block HL.out.res 1
        have z2 := cell_of_block HL.out.res 2
        have f0 := free_of_block HL.out.res 0
        have f1 := free_of_block HL.out.res 1
        have f2 := free_of_block HL.out.res 2
        have HEND := Lib.hid hend
        have HSET := Lib.hid hset
        clear hend hset
        go_wp2_with fail
        refine bodyPost_ret (results_cell rfl _ _ gr 24 _ (0, 0) _ rfl HSET.out Try.underlying24 rfl code_size3) rfl ?_
        exact HEND.out
end Go.Proofs.Ytnlkbboghcdpnaa
