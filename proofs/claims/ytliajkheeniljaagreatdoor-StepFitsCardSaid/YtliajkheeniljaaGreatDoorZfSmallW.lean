/- Code by numbers: the walks. Code by numbers, of few statements: the walk. Code by numbers, of few statements: the walk. A machine by a number. What is so of all states that are come to: plain Lean. States that lie elsewhere than in a box of nothing. The numbers that came in: as many as there is room for. -/
import Derived.Test.YtliajkheeniljaaGreatDoorZfCompile
import Derived.Test.YtliajkheeniljaaGreatDoorZfData
import Derived.Test.YtliajkheeniljaaGreatDoorZfFinD
import Derived.Test.YtliajkheeniljaaGreatDoorZfMade2
import Derived.Test.YtliajkheeniljaaGreatDoorZfStep
import Derived.Test.YtliajkheeniljaaGreatDoorZfShort
set_option linter.all false
namespace Go.Proofs.YtliajkheeniljaaGreatDoor
open Go.RowKit
set_option maxRecDepth 100000
set_option maxHeartbeats 16000000
theorem slice_thin {α : Type} [Inhabited α] {R : World → α → List Value → Prop} {size g : Nat} {X Z : World} {v : Value} {l : List α} (hsz : 4 ≤ size) (hs : Since (fun k => k = g) X Z) (ht : ∀ j, 3 ≤ j → X.cell? ⟨g, j, none⟩ = none) (hR : ∀ x cs, R X x cs → R Z x cs) (h : SliceR R size X v l) : SliceR R size Z v l := by
 obtain ⟨a, cap, h1, h2, h4⟩ := h
 refine ⟨a, cap, h1, h2, fun j hj => ?_⟩
 obtain ⟨b, off, cs, h5, h6, h7, h8, h9⟩ := h4 j hj
 have hne : b ≠ g := fun e => by
  subst e
  have h := h8 (size - 1) (by omega)
  rw [ht _ (by omega), List.getElem?_eq_getElem (by omega)] at h
  cases h
 exact ⟨b, off, cs, h5, Nat.lt_of_lt_of_le h6 hs.size, h7, fun i hi => (hs.cell (p := ⟨b, off + j * size + i, none⟩) h6 hne).trans (h8 i hi), hR _ _ h9⟩
theorem expr_thin {d g : Nat} {X Z : World} (hs : Since (fun k => k = g) X Z) (ht : ∀ j, 3 ≤ j → X.cell? ⟨g, j, none⟩ = none) {x : ExprT} {kv : Value} (h : ExprAt d X x kv) : ExprAt d Z x kv := by
 induction d generalizing x kv with
 | zero => exact h.elim
 | succ d ih => exact slice_thin (by omega) hs ht (fun y cs ⟨kv', e, h'⟩ => ⟨kv', e, ih h'⟩) h
theorem row_thin {d g : Nat} {X Z : World} (hs : Since (fun k => k = g) X Z) (ht : ∀ j, 3 ≤ j → X.cell? ⟨g, j, none⟩ = none) {l : List InstrD} {cs : List Value} (h : RowR d X l cs) : RowR d Z l cs := by
 obtain ⟨v, rfl, h⟩ := h
 exact ⟨v, rfl, slice_thin (by omega) hs ht (fun y cs ⟨ka, kb, e, h1, h2⟩ => ⟨ka, kb, e, expr_thin hs ht h1, expr_thin hs ht h2⟩) h⟩
theorem thin_of {X : World} {g : Nat} {a b c : Value} {t : TypeId} {f : Nat × Nat} (h : X.heap[g]? = some (.cells #[a, b, c] t f)) : ∀ j, 3 ≤ j → X.cell? ⟨g, j, none⟩ = none := fun j hj => by
 rw [qcb h]; exact Array.getElem?_eq_none (by simpa using hj)
theorem away_thin {F : Nat → Prop} {X Z : World} {g d : Nat} {a b c : Value} {t : TypeId} {f : Nat × Nat} {l : List InstrD} {cs : List Value} (h : Away F X (fun y => RowR d y l cs)) (hg : X.heap[g]? = some (.cells #[a, b, c] t f)) (hF : ¬ F g) (hs : Since (fun k => k = g) X Z) : Away F Z (fun y => RowR d y l cs) := fun y hy => by
 have hgl := qlb hg
 have hz := hs.size
 have hyz := hy.size
 have hy0 : ({y with heap := y.heap.setIfInBounds g (.cells #[a, b, c] t f)} : World).heap[g]? = some (.cells #[a, b, c] t f) := by
  simp [Array.getElem?_setIfInBounds_self_of_lt (show g < y.heap.size by omega)]
 have hk : ∀ k, k ≠ g → ({y with heap := y.heap.setIfInBounds g (.cells #[a, b, c] t f)} : World).heap[k]? = y.heap[k]? := fun k hne => by
  simp [Array.getElem?_setIfInBounds_ne (Ne.symm hne)]
 have h0 : Since F X ({y with heap := y.heap.setIfInBounds g (.cells #[a, b, c] t f)} : World) :=
  ⟨hy.os.trans hs.os, hy.tape.trans hs.tape, hy.output.trans hs.output, by simp; omega, fun k hkl hkF => by
   by_cases e : k = g
   ·subst e; rw [hy0]; exact hg.symm
   ·rw [hk k e, hy.block k (by omega) hkF, hs.block k hkl e]⟩
 have h1 : Since (fun k => k = g) ({y with heap := y.heap.setIfInBounds g (.cells #[a, b, c] t f)} : World) y := ⟨rfl, rfl, rfl, by simp, fun k _ hne => (hk k hne).symm⟩
 exact row_thin h1 (thin_of hy0) (h _ h0)
def CodeEnd (w : World) (en : Ending) (w' : World) : Prop := (∃ c ta tc css, en = .returned (codeV c (.slice ta c.threads.length tc)) ∧ codeOk c = true ∧ ThingsC (fun k => (Value.slice ta c.threads.length tc).ownBlock = some k) w' (RowR 3) 1 w.heap.size 59 (.slice ta c.threads.length tc) c.threads css) ∧ Below w.heap.size w w'
theorem kinds_ok : ∀ k ∈ kindsL, 1 ≤ k ∧ k ≤ 11 := by decide
theorem made4_any (w : World) (sv : Value) (l : List Int) (hn : NumsAt w .u8 sv l) (kv : Value) (ks : List Int) (hks : IntsAt w kv ks) (hk1 : 1 ≤ ks.length) (hk2 : ks.length ≤ 100) (hk3 : ∀ k ∈ ks, 1 ≤ k ∧ k ≤ 11) :
  Calls Tryz.prog 20 #[sv, kv] w (CodeEnd w) := by
 have hb1 := (Below.refl w.heap.size w).alloc (Nat.le_refl _) (.cells #[.int .i64 0, .int .i64 0, .slice none 0 0] 24)
 have hg1 := qhn w (.cells #[.int .i64 0, .int .i64 0, .slice none 0 0] 24)
 have hmade := made2_any _ sv l (hn.below hb1) kv ks (SliceR.below IntR.stays hks hb1) hk1 hk2 hk3
 obtain ⟨sa, sc, rfl, -⟩ : ∃ a c, sv = .slice a l.length c ∧ True := by obtain ⟨a, c, h, -⟩ := hn; exact ⟨a, c, h, trivial⟩
 obtain ⟨ka, kc, rfl, -⟩ := SliceR.slice hks
 generalize l.length = ln at hmade ⊢
 generalize ks.length = kn at hmade ⊢
 have HB1 := qh hb1
 have HG1 := qh hg1
 have HMADE := qh hmade
 clear hb1 hg1 hmade hn hks hk1 hk2 hk3
 go_enter Tryz.func20, Tryz.ntmps20
 go_upto_region 1 with fail
 generalize World.alloc w _ = W at HB1 HG1 HMADE ⊢
 obtain ⟨gr, hgr⟩ : ∃ gr, gr = w.heap.size := ⟨_, rfl⟩
 rw [← hgr] at HG1 ⊢
 have HGR := qh hgr
 clear hgr
 go_upto_region 2 with (first | (go_at_call 47; go_must (refine (HCOMP.out).mono ?_); rintro en W3 ⟨⟨ta, tc, css, rfl, hrow⟩, hb⟩; (have HROW := qh hrow); (have HB3 := qh (qbt HB2.out hb)); (have HG3 := qh ((hb.block _ (qlb HG2.out)).trans HG2.out)); (have HW3 := qh hb.size); clear hrow hb; unfold codeV) | (go_at_call 48; go_must (refine (HMADE.out).mono ?_); rintro en W2 ⟨⟨p, vv, tv, rfl, hp, hpa⟩, hb⟩; (have HCOMP := qh (compile_any 3 4 W2 p hp vv tv hpa)); (have HOK := qh (compile_ok hp)); (have HB2 := qh (HB1.out.trans (hb.mono HB1.out.size))); (have HG2 := qh ((hb.block _ (qlb HG1.out)).trans HG1.out)); clear hb hp hpa; generalize compileS p = c at HCOMP HOK; unfold progV at HCOMP ⊢))
 generalize hcv : c.vars = vars
 generalize hcd : c.domain = dom
 generalize hcl : c.threads.length = cn
 have HCV := qh hcv
 have HCD := qh hcd
 have HCL := qh hcl
 clear hcv hcd hcl
 have hb4 := HB3.out.alloc HB3.out.size (.cells #[.int .i64 vars, .int .i64 dom, .slice ta cn tc] 24)
 have hg4 := (Below.heap_alloc W3 (.cells #[.int .i64 vars, .int .i64 dom, .slice ta cn tc] 24) _ (qlb HG3.out)).trans HG3.out
 have hn4 := qhn W3 (.cells #[.int .i64 vars, .int .i64 dom, .slice ta cn tc] 24)
 have hs4 := (Since.refl (fun _ => False) W3).alloc (.cells #[.int .i64 vars, .int .i64 dom, .slice ta cn tc] 24)
 generalize World.alloc W3 _ = X at hb4 hg4 hn4 hs4 ⊢
 generalize W3.heap.size = gc at hn4 ⊢
 have s := setAll_since (g := gr) [.int .i64 vars, .int .i64 dom, .slice ta cn tc] X 0
 have hset : (setAll X gr 0 [.int .i64 vars, .int .i64 dom, .slice ta cn tc]).heap[gr]? = _ := setAll_new (cs := [.int .i64 0, .int .i64 0, .slice none 0 0]) _ rfl hg4
 have hend : CodeEnd w (.returned (.agg #[.int .i64 vars, .int .i64 dom, .slice ta cn tc])) (setAll X gr 0 [.int .i64 vars, .int .i64 dom, .slice ta cn tc]) := by
  have h1 := HROW.out
  rw [HCL.out] at h1
  have hlt := HW3.out
  have hge := HB2.out.size
  refine ⟨⟨c, ta, tc, css, by unfold codeV; rw [HCV.out, HCD.out, HCL.out], HOK.out, ?_⟩, (hb4.trans (s.below hb4.size (fun k hk => by have := HGR.out; omega)))⟩
  rw [HCL.out]
  have h2 : ThingsC (fun k => (Value.slice ta cn tc).ownBlock = some k) W3 (RowR 3) 1 w.heap.size 59 (.slice ta cn tc) c.threads css := ⟨h1.len, h1.part, row_mono h1.row hge⟩
  have hown : ∀ k, (Value.slice ta cn tc).ownBlock = some k → k ≠ gr := fun k hk e => by have := (h1.row.lt k hk).1; have := qlb HG2.out; omega
  have hgr : ¬ (Value.slice ta cn tc).ownBlock = some gr := fun e => hown gr e rfl
  exact ⟨h2.len, fun j hj => ⟨(h2.part j hj).1, away_thin ((h2.part j hj).2.step hs4 (fun _ h => h.elim) (fun k hk => .inl hk)) hg4 hgr s⟩, s.row (hs4.row h2.row (fun _ _ h => h)) hown⟩
 have HEND := qh hend
 have HSET := qh hset
 have c0 := qcb hn4 0
 have c1 := qcb hn4 1
 have c2 := qcb hn4 2
 have z0 := qcb hg4 0
 have z1 := qcb hg4 1
 have z2 := qcb hg4 2
 have f0 := qfb hg4 0
 have f1 := qfb hg4 1
 have f2 := qfb hg4 2
 clear hend hset s hg4 hn4 hs4 hb4
 go_wp2_with fail
 refine bodyPost_ret (results_cell rfl _ _ gr 24 _ (0, 0) _ rfl HSET.out Tryz.underlying24 rfl code_size3) rfl ?_
 exact HEND.out
end Go.Proofs.YtliajkheeniljaaGreatDoor
namespace Go.Proofs.YtliajkheeniljaaGreatDoor
open Go.RowKit
set_option maxRecDepth 100000
set_option maxHeartbeats 16000000
def specI (vars : Int) : List InstrD := [⟨2, 0, 0, .mk 1 1 0 [], default, 0⟩, ⟨1, 0, vars - 1, default, default, 0⟩, ⟨9, 0, 0, .mk 2 0 0 [], default, 0⟩]
def specC (vars : Int) : List Value := [.int .i64 2, .int .i64 0, .int .i64 0, .int .i64 1, .int .i64 1, .int .u8 0, .slice none 0 0, .int .i64 0, .int .i64 0, .int .u8 0, .slice none 0 0, .int .i64 0,
 .int .i64 1, .int .i64 0, .int .i64 (vars - 1), .int .i64 0, .int .i64 0, .int .u8 0, .slice none 0 0, .int .i64 0, .int .i64 0, .int .u8 0, .slice none 0 0, .int .i64 0,
 .int .i64 9, .int .i64 0, .int .i64 0, .int .i64 2, .int .i64 0, .int .u8 0, .slice none 0 0, .int .i64 0, .int .i64 0, .int .u8 0, .slice none 0 0, .int .i64 0]
structure SmallL (w X : World) (gc gr g : Nat) (vars dom : Int) (n cap : Nat) (cl : List (List InstrD)) : Prop where
 below : Below w.heap.size w X
 box : X.heap[gc]? = some (.cells #[.int .i64 vars, .int .i64 dom, .slice (some ⟨g, 0, none⟩) n cap] 24 (0, 0))
 res : X.heap[gr]? = some (.cells #[.int .i64 0, .int .i64 0, .slice none 0 0] 24 (0, 0))
 lo : w.heap.size ≤ gc ∧ w.heap.size ≤ gr ∧ w.heap.size ≤ g ∧ gc ≠ gr ∧ g ≠ gc ∧ g ≠ gr
 row : ∃ cur : Array Value, X.heap[g]? = some (.cells cur 59 (0, 0)) ∧ n ≤ cur.size ∧ ∀ j, j < n → ∃ a c, cur[j]? = some (.slice a (cl.getD j []).length c) ∧ Away (fun k => k = g) X (fun y => RowR 3 y (cl.getD j []) [.slice a (cl.getD j []).length c])
 len : cl.length = n
 ok : ∀ j, j < n → rowOk vars dom (cl.getD j []) = true
 room : n ≤ cap ∧ cap ≤ 9223372036854775807
section
variable {w X : World} {gc gr g n cap : Nat} {vars dom : Int} {cl : List (List InstrD)}
end
end Go.Proofs.YtliajkheeniljaaGreatDoor
namespace Go.Proofs.YtliajkheeniljaaGreatDoor
open Go.RowKit
set_option maxRecDepth 100000
set_option maxHeartbeats 16000000
end Go.Proofs.YtliajkheeniljaaGreatDoor
namespace Go.Proofs.YtliajkheeniljaaGreatDoor
open Go.RowKit
set_option maxRecDepth 100000
set_option maxHeartbeats 16000000
def machS (n : Int) : MachD := ⟨n % 3, 1 + n / 3 % 3⟩
theorem machine_any (w : World) (n : Int) (h0 : 0 ≤ n) (h1 : n ≤ 255) : Calls Tryz.prog 22 #[.int .u8 n] w fun e w' => e = .returned (machV (machS n)) ∧ Below w.heap.size w w' := by
 unfold machV machS
 go_enter Tryz.func22, Tryz.ntmps22
 go_wp2
 exact bodyPost_ret (v := .agg #[.int .i64 (n % 3), .int .i64 (1 + n / 3 % 3)]) (by simp [results, Tryz.results22, go_sem]) rfl ⟨rfl, (Below.refl _ _).alloc (Nat.le_refl _) _⟩
end Go.Proofs.YtliajkheeniljaaGreatDoor
namespace Go.Proofs.YtliajkheeniljaaGreatDoor
open Go.RowKit
set_option maxRecDepth 100000
set_option maxHeartbeats 16000000
theorem moves_mem {c : CodeD} {m : MachD} {s : StateD} {d : Nat} {x : MoveD} (h : x ∈ movesS c m s d) : fitsOk c m s = true ∧ ∃ i, i < s.threads.length ∧ ((x = ⟨1, i, 0⟩ ∧ ∃ t, stepS c m s i d = some t) ∨ ∃ v, x = ⟨2, i, v⟩ ∧ v ∈ headsB (s.threads.getD i default).buf m.model) := by
 unfold movesS at h
 split at h
 ·rename_i hf
  refine ⟨hf, ?_⟩
  obtain ⟨i, hi, hx⟩ := List.mem_flatMap.1 h
  refine ⟨i, List.mem_range.1 hi, ?_⟩
  unfold movesT at hx
  rcases List.mem_append.1 hx with hx | hx
  ·split at hx
   ·rename_i hs
    rw [List.mem_singleton] at hx
    exact .inl ⟨hx, Option.isSome_iff_exists.1 hs⟩
   ·simp at hx
  ·obtain ⟨v, hv, rfl⟩ := List.mem_map.1 hx
   exact .inr ⟨v, rfl, hv⟩
 ·simp at h
theorem do_moves {c : CodeD} {m : MachD} {s : StateD} {d : Nat} {x : MoveD} (h : x ∈ movesS c m s d) : ∃ i, i < s.threads.length ∧ ((x = ⟨1, i, 0⟩ ∧ ∃ t, stepS c m s i d = some t ∧ doS c m s x d = (t, 0)) ∨ ∃ v, x = ⟨2, i, v⟩ ∧ v ∈ headsB (s.threads.getD i default).buf m.model ∧ doS c m s x d = (flushS s i v, 0)) := by
 obtain ⟨hf, i, hi, hx⟩ := moves_mem h
 refine ⟨i, hi, ?_⟩
 rcases hx with ⟨rfl, t, ht⟩ | ⟨v, rfl, hv⟩
 ·refine .inl ⟨rfl, t, ht, ?_⟩
  unfold doS
  rw [if_pos hf, if_pos ⟨by show (0 : Int) ≤ (i : Int); omega, by show (i : Int) < _; omega⟩, if_pos ⟨rfl, rfl⟩]
  rw [show (⟨1, (i : Int), 0⟩ : MoveD).thread.toNat = i from Int.toNat_natCast i, ht]
 ·refine .inr ⟨v, rfl, hv, ?_⟩
  unfold doS
  rw [if_pos hf, if_pos ⟨by show (0 : Int) ≤ (i : Int); omega, by show (i : Int) < _; omega⟩, if_neg (by rintro ⟨h, -⟩; exact absurd (show (2 : Int) = 1 from h) (by decide))]
  rw [show (⟨2, (i : Int), v⟩ : MoveD).thread.toNat = i from Int.toNat_natCast i, if_pos ⟨rfl, hv⟩]
section
variable {c : CodeD} {m : MachD} {d R : Nat} {P : StateD → Prop}
end
theorem stepT_mem {c : CodeD} {m : MachD} {s : StateD} {t : ThreadD} {x : InstrD} {d : Nat} {r : ThreadD × List Int × Bool} (h : stepT c m s t x d = some r) : r.2.1.length = s.mem.length := by
 by_cases h1 : x.op = 1
 ·rw [stepT_load h1] at h; cases h; rfl
 by_cases h2 : x.op = 2
 ·by_cases hm : m.model = 0
  ·rw [stepT_store0 h2 hm] at h; cases h; simp
  ·cases hp : putOk t.buf m ⟨x.var, evalN t.regs c.domain d x.a⟩ with
   | true => rw [stepT_storeY h2 hm hp] at h; cases h; rfl
   | false => rw [stepT_storeN h2 hm hp] at h; cases h
 by_cases h3 : x.op = 3
 ·rw [stepT_set h3] at h; cases h; rfl
 by_cases h4 : x.op = 4
 ·rw [stepT_fence h4] at h; split at h <;> cases h; rfl
 by_cases h5 : x.op = 5
 ·rw [stepT_weak h5] at h; split at h <;> cases h; rfl
 by_cases h6 : x.op = 6
 ·by_cases hv : s.mem.getD x.var.toNat 0 = evalN t.regs c.domain d x.a
  ·rw [stepT_casY h6 hv] at h; split at h <;> cases h; simp
  ·rw [stepT_casN h6 hv] at h; split at h <;> cases h; rfl
 by_cases h7 : x.op = 7
 ·rw [stepT_lock h7] at h; split at h <;> cases h; simp
 by_cases h8 : x.op = 8
 ·rw [stepT_unlock h8] at h; split at h <;> cases h; simp
 by_cases h9 : x.op = 9
 ·rw [stepT_assert h9] at h; cases h; rfl
 by_cases h12 : x.op = 12
 ·rw [stepT_branch h12] at h; cases h; rfl
 by_cases h13 : x.op = 13
 ·rw [stepT_jump h13] at h; cases h; rfl
 ·rw [stepT_other h1 h2 h3 h4 h5 h6 h7 h8 h9 h12 h13] at h; cases h; rfl
theorem stepS_len {c : CodeD} {m : MachD} {s t : StateD} {i d : Nat} (h : stepS c m s i d = some t) : t.mem.length = s.mem.length ∧ t.threads.length = s.threads.length := by
 unfold stepS at h
 split at h
 ·obtain ⟨r, hr, rfl⟩ := Option.map_eq_some_iff.1 h
  exact ⟨stepT_mem hr, by simp⟩
 ·cases h
theorem do_len {c : CodeD} {m : MachD} {s : StateD} {d : Nat} {x : MoveD} (h : x ∈ movesS c m s d) : (doS c m s x d).1.mem.length = s.mem.length ∧ (doS c m s x d).1.threads.length = s.threads.length := by
 obtain ⟨i, hi, hx⟩ := do_moves h
 rcases hx with ⟨rfl, t, ht, he⟩ | ⟨v, rfl, hv, he⟩
 ·rw [he]; exact stepS_len ht
 ·rw [he]; exact ⟨by simp [flushS], by simp [flushS]⟩
end Go.Proofs.YtliajkheeniljaaGreatDoor
namespace Go.Proofs.YtliajkheeniljaaGreatDoor
open Go.RowKit Go.ChangeShapes Go.WideShapes Go.ChangeAt
set_option maxRecDepth 100000
set_option maxHeartbeats 16000000
section
variable {X Z : World} {g : Nat}
end
structure Sp (V X : World) (mb : Option Nat) : Prop where
 below : Below V.heap.size V X
 box : ∀ b, mb = some b → X.heap[b]? = some (.cells #[.slice none 0 0, .slice none 0 0, .slice none 0 0] 71 (0, 0)) ∧ V.heap.size ≤ b
section
variable {V X Y : World} {mb : Option Nat}
end
end Go.Proofs.YtliajkheeniljaaGreatDoor
