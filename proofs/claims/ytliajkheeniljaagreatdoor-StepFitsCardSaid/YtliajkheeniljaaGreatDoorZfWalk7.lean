/- A state that is come to by moves, by numbers: the walk. What moves turn and what they leave: plain Lean. Two lists of moves that are the same: the walk. What moves do in states that are come to: the walk. -/
import Derived.Laws.StructEq
import Derived.Test.YtliajkheeniljaaGreatDoorZfAwake7
import Derived.Test.YtliajkheeniljaaGreatDoorZfFitsK
import Derived.Test.YtliajkheeniljaaGreatDoorZfMade2
import Derived.Test.YtliajkheeniljaaGreatDoorZfPDo
import Derived.Test.YtliajkheeniljaaGreatDoorZfPMoves
import Derived.Test.YtliajkheeniljaaGreatDoorZfStep
import Derived.Test.YtliajkheeniljaaGreatDoorZfStepQ
import Derived.Test.YtliajkheeniljaaGreatDoorZfShort
set_option linter.all false
namespace Go.Proofs.YtliajkheeniljaaGreatDoor
open Go.RowKit
set_option maxRecDepth 100000
set_option maxHeartbeats 16000000
inductive Come (c : CodeD) (m : MachD) (d : Nat) : StateD → Prop
 | start : Come c m d (startS c)
 | step {s : StateD} {x : MoveD} : Come c m d s → x ∈ movesS c m s d → Come c m d (doS c m s x d).1
theorem Come.bufs {c : CodeD} {m : MachD} {d : Nat} {s : StateD} (h : Come c m d s) : bufsLe 33 s := by
 cases h with
 | start => exact start_bufs c
 | step _ _ => exact do_bufs
def WalkEnd (w : World) (c : CodeD) (m : MachD) (d : Nat) (en : Ending) (w' : World) : Prop := (∃ s tv mv, en = .returned (stateV s tv mv) ∧ Come c m d s ∧ Away (fun k => k < w.heap.size) w' (fun y => StateAt y s tv mv)) ∧ Below w.heap.size w w'
def WF (w : World) (gs gr k : Nat) : Prop := k < w.heap.size ∨ k = gs ∨ k = gr
structure WalkL (w V X : World) (gs gr : Nat) (c : CodeD) (m : MachD) (d : Nat) (s : StateD) (tv mv : Value) : Prop where
 since : Since (fun k => k = gs) V X
 below : Below w.heap.size w V
 lo : w.heap.size ≤ gs ∧ w.heap.size ≤ gr ∧ gs ≠ gr
 box : X.heap[gs]? = some (.cells #[tv, mv, .bool s.bad] 30 (0, 0))
 res : V.heap[gr]? = some (.cells #[.slice none 0 0, .slice none 0 0, .bool false] 30 (0, 0))
 st : Away (WF w gs gr) X (fun y => StateAt y s tv mv)
 come : Come c m d s
section
variable {w V X Y : World} {gs gr d : Nat} {c : CodeD} {m : MachD} {s : StateD} {tv mv : Value}
end
end Go.Proofs.YtliajkheeniljaaGreatDoor
namespace Go.Proofs.YtliajkheeniljaaGreatDoor
open Go.RowKit
set_option maxRecDepth 100000
set_option maxHeartbeats 16000000
theorem moves_ok {c : CodeD} {m : MachD} {s : StateD} {d : Nat} {x : MoveD} (h : x ∈ movesS c m s d) : (doS c m s x d).2 = 0 := by
 obtain ⟨i, -, ⟨rfl, t, -, e⟩ | ⟨v, rfl, -, e⟩⟩ := do_moves h <;> rw [e]
theorem stepT_turns {c : CodeD} {m : MachD} {s : StateD} {t : ThreadD} {x : InstrD} {d : Nat} {r : ThreadD × List Int × Bool} (h : stepT c m s t x d = some r) :
  (s.bad = true → r.2.2 = true) ∧ (r.2.1 = s.mem ∨ (∃ v n, r.2.1 = s.mem.set v n) ∧ (x.op = 6 ∨ x.op = 7 ∨ x.op = 8 ∨ x.op = 2 ∧ m.model = 0)) ∧ (r.1.buf = t.buf ∨ x.op = 2 ∧ r.1.buf.length = t.buf.length + 1) := by
 by_cases e1 : x.op = 1
 ·rw [stepT_load e1] at h; cases h; exact ⟨id, .inl rfl, .inl rfl⟩
 by_cases e2 : x.op = 2
 ·by_cases hmo : m.model = 0
  ·rw [stepT_store0 e2 hmo] at h; cases h; exact ⟨id, .inr ⟨⟨_, _, rfl⟩, .inr (.inr (.inr ⟨e2, hmo⟩))⟩, .inl rfl⟩
  ·cases hp : putOk t.buf m ⟨x.var, evalN t.regs c.domain d x.a⟩ with
   | true =>
    rw [stepT_storeY e2 hmo hp] at h; cases h
    refine ⟨id, .inl rfl, .inr ⟨e2, ?_⟩⟩
    show (putB t.buf m _).length = _
    unfold putB
    rw [if_pos hp]; simp
   | false => rw [stepT_storeN e2 hmo hp] at h; cases h
 by_cases e3 : x.op = 3
 ·rw [stepT_set e3] at h; cases h; exact ⟨id, .inl rfl, .inl rfl⟩
 by_cases e4 : x.op = 4
 ·rw [stepT_fence e4] at h
  split at h
  ·cases h; exact ⟨id, .inl rfl, .inl rfl⟩
  ·cases h
 by_cases e5 : x.op = 5
 ·rw [stepT_weak e5] at h
  split at h
  ·cases h; exact ⟨id, .inl rfl, .inl rfl⟩
  ·cases h
 by_cases e6 : x.op = 6
 ·by_cases hv2 : s.mem.getD x.var.toNat 0 = evalN t.regs c.domain d x.a
  ·rw [stepT_casY e6 hv2] at h
   split at h
   ·cases h; exact ⟨id, .inr ⟨⟨_, _, rfl⟩, .inl e6⟩, .inl rfl⟩
   ·cases h
  ·rw [stepT_casN e6 hv2] at h
   split at h
   ·cases h; exact ⟨id, .inl rfl, .inl rfl⟩
   ·cases h
 by_cases e7 : x.op = 7
 ·rw [stepT_lock e7] at h
  split at h
  ·cases h; exact ⟨id, .inr ⟨⟨_, _, rfl⟩, .inr (.inl e7)⟩, .inl rfl⟩
  ·cases h
 by_cases e8 : x.op = 8
 ·rw [stepT_unlock e8] at h
  split at h
  ·cases h; exact ⟨id, .inr ⟨⟨_, _, rfl⟩, .inr (.inr (.inl e8))⟩, .inl rfl⟩
  ·cases h
 by_cases e9 : x.op = 9
 ·rw [stepT_assert e9] at h; cases h; exact ⟨fun hb => by simp [hb], .inl rfl, .inl rfl⟩
 by_cases e12 : x.op = 12
 ·rw [stepT_branch e12] at h; cases h
  refine ⟨id, .inl rfl, .inl ?_⟩
  show (if _ then _ else _ : ThreadD).buf = _
  split <;> rfl
 by_cases e13 : x.op = 13
 ·rw [stepT_jump e13] at h; cases h; exact ⟨id, .inl rfl, .inl rfl⟩
 ·rw [stepT_other e1 e2 e3 e4 e5 e6 e7 e8 e9 e12 e13] at h; cases h; exact ⟨id, .inl rfl, .inl rfl⟩
def diffTo (a b : List Int) : Nat → Nat
 | 0 => 0
 | i + 1 => diffTo a b i + if a.getD i 0 = b.getD i 0 then 0 else 1
theorem diff_self (a : List Int) (i : Nat) : diffTo a a i = 0 := by
 induction i with
 | zero => rfl
 | succ i ih => unfold diffTo; rw [ih, if_pos rfl]
theorem diff_set (a : List Int) (v : Nat) (n : Int) (i : Nat) : diffTo a (a.set v n) i ≤ if v < i then 1 else 0 := by
 induction i with
 | zero => exact Nat.zero_le _
 | succ i ih =>
  unfold diffTo
  by_cases e : i = v
  ·subst e
   rw [if_neg (by omega)] at ih
   have h1 : (if a.getD i 0 = (a.set i n).getD i 0 then 0 else 1) ≤ 1 := by split <;> omega
   have h2 : (if i < i + 1 then 1 else 0) = 1 := if_pos (by omega)
   rw [h2]; omega
  ·have hg : (a.set v n).getD i 0 = a.getD i 0 := by
    rw [List.getD_eq_getElem?_getD, List.getD_eq_getElem?_getD, List.getElem?_set_ne (by omega)]
   rw [hg, if_pos rfl, Nat.add_zero]
   refine Nat.le_trans ih ?_
   by_cases h : v < i
   ·rw [if_pos h, if_pos (by omega)]; omega
   ·rw [if_neg h]; omega
theorem diff_le_one (a : List Int) (v : Nat) (n : Int) (i : Nat) : diffTo a (a.set v n) i ≤ 1 := by
 have := diff_set a v n i
 split at this <;> omega
theorem getD_other {α : Type} {l : List α} {i j : Nat} {x d : α} (h : j ≠ i) : (l.set i x).getD j d = l.getD j d := by
 rw [List.getD_eq_getElem?_getD, List.getD_eq_getElem?_getD, List.getElem?_set_ne (by omega)]
theorem fits_sc {c : CodeD} {m : MachD} {s : StateD} (h : fitsOk c m s = true) (hm : m.model = 0) {i : Nat} (hi : i < s.threads.length) : (s.threads.getD i default).buf = [] := by
 obtain ⟨-, -, -, -, f5⟩ := fits_iff.1 h
 rcases Nat.eq_zero_or_pos (s.threads.getD i default).buf.length with e | e
 ·exact List.eq_nil_of_length_eq_zero e
 ·exfalso
  have hp := (wait_facts ((f5 i hi).2.2.2 0 e)).1
  unfold putOk at hp
  simp only [Bool.and_eq_true, Bool.or_eq_true, decide_eq_true_eq] at hp
  omega
theorem take_one {l : List EntryD} {v : Int} {n : Int} (h : takeB l v = (some ⟨v, n⟩, (takeB l v).2)) : (takeB l v).2.length + 1 = l.length := by
 obtain ⟨p, hp, -, hr⟩ := (takeTo_erase l v l.length (Nat.le_refl _)).2 ⟨v, n⟩ (by show (takeB l v).1 = _; rw [h])
 have hr2 : (takeB l v).2 = l.eraseIdx p := by
  show (takeTo l v l.length).2 = _
  rw [hr, List.take_length]
 rw [hr2, List.length_eraseIdx_of_lt hp]; omega
structure MoveLaw (c : CodeD) (m : MachD) (s : StateD) (d : Nat) (x : MoveD) (i : Nat) (t : StateD) : Prop where
 thread : x.thread = (i : Int)
 lt : i < s.threads.length
 len : t.threads.length = s.threads.length
 memLen : t.mem.length = s.mem.length
 fits : fitsOk c m t = true
 bad : s.bad = true → t.bad = true
 others : ∀ j, j ≠ i → t.threads.getD j default = s.threads.getD j default
 many : diffTo s.mem t.mem s.mem.length ≤ 1
 kind : x.kind = 1 ∨ x.kind = 2
 flush : x.kind = 2 → (t.threads.getD i default).buf.length + 1 = (s.threads.getD i default).buf.length ∧ (t.threads.getD i default).pc = (s.threads.getD i default).pc ∧ (t.threads.getD i default).regs = (s.threads.getD i default).regs ∧ t.bad = s.bad
 step : x.kind = 1 → 0 ≤ (s.threads.getD i default).pc ∧ (s.threads.getD i default).pc < ((c.threads.getD i []).length : Int) ∧
  (0 < diffTo s.mem t.mem s.mem.length → ((c.threads.getD i []).getD (s.threads.getD i default).pc.toNat default).op = 6 ∨ ((c.threads.getD i []).getD (s.threads.getD i default).pc.toNat default).op = 7 ∨ ((c.threads.getD i []).getD (s.threads.getD i default).pc.toNat default).op = 8 ∨
   ((c.threads.getD i []).getD (s.threads.getD i default).pc.toNat default).op = 2 ∧ m.model = 0) ∧
  (t.threads.getD i default).buf.length ≤ (s.threads.getD i default).buf.length + 1 ∧
  ((s.threads.getD i default).buf.length < (t.threads.getD i default).buf.length → ((c.threads.getD i []).getD (s.threads.getD i default).pc.toNat default).op = 2)
theorem move_law {c : CodeD} {m : MachD} {s : StateD} {d : Nat} {x : MoveD} (h : x ∈ movesS c m s d) : ∃ i, MoveLaw c m s d x i (doS c m s x d).1 := by
 have hf := (moves_mem h).1
 have hfit := do_fits h
 have hlen := do_len h
 obtain ⟨-, -, -, -, f5⟩ := fits_iff.1 hf
 obtain ⟨i, hi, ⟨rfl, t, hs, e⟩ | ⟨v, rfl, hv, e⟩⟩ := do_moves h
 ·rw [e] at hfit hlen ⊢
  simp only [] at hfit hlen ⊢
  unfold stepS at hs
  split at hs
  ·rename_i hpc
   rw [Option.map_eq_some_iff] at hs
   obtain ⟨r, hr, rfl⟩ := hs
   obtain ⟨t1, t2, t3⟩ := stepT_turns hr
   have hgi : (s.threads.set i r.1).getD i default = r.1 := by rw [getD_set hi, if_pos rfl]
   refine ⟨i, rfl, hi, hlen.2, hlen.1, hfit, t1, fun j hj => getD_other hj, ?_, .inl rfl, fun k => by simp at k, fun _ => ⟨(f5 i hi).1, hpc, ?_, ?_, ?_⟩⟩
   ·show diffTo s.mem r.2.1 _ ≤ 1
    rcases t2 with e2 | ⟨⟨v, n, e2⟩, -⟩
    ·rw [e2, diff_self]; omega
    ·rw [e2]; exact diff_le_one _ _ _ _
   ·intro hd
    rcases t2 with e2 | ⟨-, h2⟩
    ·have : diffTo s.mem r.2.1 s.mem.length = 0 := by rw [e2, diff_self]
     exact absurd hd (by show ¬ 0 < diffTo s.mem r.2.1 s.mem.length; omega)
    ·exact h2
   ·show ((s.threads.set i r.1).getD i default).buf.length ≤ _
    rw [hgi]
    rcases t3 with e3 | ⟨-, e3⟩
    ·rw [e3]; omega
    ·omega
   ·show _ < ((s.threads.set i r.1).getD i default).buf.length → _
    rw [hgi]
    intro hl
    rcases t3 with e3 | ⟨e3, -⟩
    ·rw [e3] at hl; omega
    ·exact e3
  ·cases hs
 ·rw [e] at hfit hlen ⊢
  simp only [] at hfit hlen ⊢
  obtain ⟨-, -, n, hn⟩ := fits_heads hf hi hv
  have hgi : ∀ y : ThreadD, (s.threads.set i y).getD i default = y := fun y => by rw [getD_set hi, if_pos rfl]
  refine ⟨i, rfl, hi, hlen.2, hlen.1, hfit, id, fun j hj => getD_other hj, diff_le_one _ _ _ _, .inr rfl, fun _ => ?_, fun k => by simp at k⟩
  show ((s.threads.set i _).getD i default).buf.length + 1 = _ ∧ ((s.threads.set i _).getD i default).pc = _ ∧ ((s.threads.set i _).getD i default).regs = _ ∧ _
  rw [hgi]
  exact ⟨take_one hn, rfl, rfl, rfl⟩
end Go.Proofs.YtliajkheeniljaaGreatDoor
namespace Go.Proofs.YtliajkheeniljaaGreatDoor
open Go.RowKit
set_option maxRecDepth 100000
set_option maxHeartbeats 16000000
theorem move_under : Tryz.prog.underlying 32 = some (.struct (Tryz.prog.fieldsOf 32)) := by kernel_rfl
theorem move_stood : Tryz.prog.stoodInHeld 32 = false := by kernel_rfl
@[go_sem] theorem move_guard : Tryz.prog.eqGuardType Tryz.prog.depth 32 = false := by kernel_rfl
theorem move_fields : (Tryz.prog.fieldsOf 32).toList.map (fun f => (f.name, f.type, f.offset)) = [("Kind", 3, 0), ("Thread", 3, 1), ("Var", 3, 2)] := by kernel_rfl
@[go_sem] theorem run_eq_move (w : World) (a b c x y z : Int) : (Op.equalIn 10000 32 (.agg #[.int .i64 a, .int .i64 b, .int .i64 c]) (.agg #[.int .i64 x, .int .i64 y, .int .i64 z])).run Tryz.prog w
  = .ok (a == x && b == y && c == z) w := by
 rw [run_equalIn_agg w 9999 _ _ _ move_under move_stood]
 obtain ⟨f0, f1, f2, hf, h0, h1, h2⟩ : ∃ f0 f1 f2, (Tryz.prog.fieldsOf 32).toList = [f0, f1, f2] ∧ (f0.name, f0.type, f0.offset) = ("Kind", 3, 0) ∧ (f1.name, f1.type, f1.offset) = ("Thread", 3, 1) ∧ (f2.name, f2.type, f2.offset) = ("Var", 3, 2) := by
  have h := move_fields
  generalize (Tryz.prog.fieldsOf 32).toList = l at h
  have hl : l.length = 3 := by have := congrArg List.length h; simpa using this
  match l, hl, h with
  | [f0, f1, f2], _, h =>
   simp only [List.map_cons, List.map_nil, List.cons.injEq, and_true] at h
   exact ⟨f0, f1, f2, rfl, h.1, h.2.1, h.2.2⟩
 simp only [Prod.mk.injEq] at h0 h1 h2
 rw [hf]
 have p0 := fun (w : World) (a b c : Int) => run_part_int w #[.int .i64 a, .int .i64 b, .int .i64 c] 0 a rfl
 have p1 := fun (w : World) (a b c : Int) => run_part_int w #[.int .i64 a, .int .i64 b, .int .i64 c] 1 b rfl
 have p2 := fun (w : World) (a b c : Int) => run_part_int w #[.int .i64 a, .int .i64 b, .int .i64 c] 2 c rfl
 have ge := run_eq_int_ 9998
 cases e0 : a == x <;> cases e1 : b == y <;> cases e2 : c == z <;> simp [Op.eqFields, h0, h1, h2, p0, p1, p2, ge, e0, e1, e2]
end Go.Proofs.YtliajkheeniljaaGreatDoor
namespace Go.Proofs.YtliajkheeniljaaGreatDoor
open Go.RowKit
set_option maxRecDepth 100000
set_option maxHeartbeats 16000000
theorem machS_ok {c : CodeD} (h : codeOk c = true) (q : Int) (_h0 : 0 ≤ q) : mayOk c (machS q) = true := by
 unfold mayOk machS
 simp only [Bool.and_eq_true, decide_eq_true_eq]
 have h1 := Int.emod_nonneg q (show (3 : Int) ≠ 0 by omega)
 have h2 := Int.emod_lt_of_pos q (show (0 : Int) < 3 by omega)
 have h3 := Int.emod_nonneg (q / 3) (show (3 : Int) ≠ 0 by omega)
 have h4 := Int.emod_lt_of_pos (q / 3) (show (0 : Int) < 3 by omega)
 exact ⟨⟨⟨⟨h, by omega⟩, by omega⟩, by omega⟩, by omega⟩
end Go.Proofs.YtliajkheeniljaaGreatDoor
