/- A thread's step: the document's answer: the walk. The moves that may be: the document's answer: the walk. Rows of things that lie elsewhere, while they grow. Explore: what it holds while it runs. Explore: what is so of the states that are come to: plain Lean. -/
import Derived.Deep.CutBlock
import Derived.Test.YtliajkheeniljaaGreatDoorZfCodeP
import Derived.Test.YtliajkheeniljaaGreatDoorZfStepQ
import Derived.Test.YtliajkheeniljaaGreatDoorZfShort
set_option linter.all false
namespace Go.Proofs.YtliajkheeniljaaGreatDoor
open Go.RowKit
set_option maxRecDepth 100000
set_option maxHeartbeats 16000000
structure RunAt (W X : World) (gb gi tb n tc mb mn mc : Nat) (bad : Bool) (ts : List ThreadD) (mem : List Int) (bs : List Value) (ics : List Value) : Prop where
 own : OwnL W X gb (.slice (some ⟨tb, 0, none⟩) n tc) (.slice (some ⟨mb, 0, none⟩) mn mc) bad ts mem bs
 instr : X.heap[gi]? = some (.cells ics.toArray 64 (0, 0))
 g1 : gi ≠ gb
 g2 : gi ≠ tb
 g3 : gi ≠ mb
end Go.Proofs.YtliajkheeniljaaGreatDoor
namespace Go.Proofs.YtliajkheeniljaaGreatDoor
open Go.RowKit
set_option maxRecDepth 100000
set_option maxHeartbeats 16000000
theorem boxes3_all (w : World) (o1 o2 o3 : Obj) : Below w.heap.size w (((w.alloc o1).alloc o2).alloc o3) ∧ (((w.alloc o1).alloc o2).alloc o3).heap[w.heap.size]? = some o1 ∧ (((w.alloc o1).alloc o2).alloc o3).heap[w.heap.size + 1]? = some o2 ∧ (((w.alloc o1).alloc o2).alloc o3).heap[w.heap.size + 2]? = some o3 :=
 ⟨boxes3_below w _ _ _, boxes3_first w _ _ _, boxes3_second w _ _ _, boxes3_third w _ _ _⟩
theorem move_len (x : MoveD) : (MoveD.cells x).length = 3 := rfl
theorem move_info : (Tryz.prog.info? 32).map (fun i => (i.zero, i.size, i.bytes)) = some (some (.agg #[.int .i64 0, .int .i64 0, .int .i64 0]), 3, 24) := by kernel_rfl
theorem headsB_len (l : List EntryD) (model : Int) : (headsB l model).length ≤ l.length := by
 unfold headsB
 split
 ·exact headsTo_len _ _
 ·split
  ·cases l <;> simp
  ·simp
theorem flat_snoc {α : Type} (f : α → List Value) (l : List α) (x : α) : flatC f (l ++ [x]) = flatC f l ++ f x := by simp [flatC]
theorem range_flat {α : Type} (f : Nat → List α) (i : Nat) : (List.range (i + 1)).flatMap f = (List.range i).flatMap f ++ f i := by rw [List.range_succ]; simp
theorem push_beside {B : Nat} {e : TypeId} {size n : Nat} {w X : World} {v v' hv : Value} {xs : List Value} {o : Obj} (h : w.ownsRow B e size hv n xs) (hne : ∀ k, v.ownBlock = some k → hv.ownBlock ≠ some k) (h4 : Since (fun k => v.ownBlock = some k) (w.alloc o) X)
  (h5 : ∀ k, v'.ownBlock = some k → v.ownBlock = some k ∨ k = (w.alloc o).heap.size) : X.ownsRow B e size hv n xs ∧ ∀ k, v'.ownBlock = some k → hv.ownBlock ≠ some k := by
 refine ⟨h4.row (h.alloc o) (fun k h1 h2 => hne k h2 h1), fun k h1 h2 => ?_⟩
 rcases h5 k h1 with h3 | h3
 ·exact hne k h3 h2
 ·have := (h.lt k h2).2; simp at h3; omega
def MovesEnd (w : World) (l : List MoveD) (e : Ending) (w' : World) : Prop := (∃ va vc, e = .returned (.slice va l.length vc) ∧ w'.ownsRow w.heap.size 32 3 (.slice va l.length vc) l.length (flatC MoveD.cells l)) ∧ Below w.heap.size w w'
theorem movesEnd_of {w w' : World} {l : List MoveD} {va : Option Addr} {vn vc : Nat} (h : l.length = vn) (ho : w'.ownsRow w.heap.size 32 3 (.slice va vn vc) vn (flatC MoveD.cells l)) (hb : Below w.heap.size w w') : MovesEnd w l (.returned (.slice va vn vc)) w' := by
 subst h; exact ⟨⟨va, vc, rfl, ho⟩, hb⟩
end Go.Proofs.YtliajkheeniljaaGreatDoor
namespace Go.Proofs.YtliajkheeniljaaGreatDoor
open Go.RowKit
set_option maxRecDepth 100000
set_option maxHeartbeats 16000000
theorem rows_apart {w : World} {B C : Nat} {e e' : TypeId} {size size' : Nat} {v v' : Value} {n n' : Nat} {xs xs' : List Value} (h : w.ownsRow B e size v n xs) (h' : w.ownsRow C e' size' v' n' xs') (hne : e ≠ e') : ∀ k, v.ownBlock = some k → v'.ownBlock ≠ some k := by
 intro k h1 h2
 rcases h'.2 with ⟨rfl, -⟩ | ⟨g, cap, cur, rfl, -, hg, -⟩
 ·simp [Value.ownBlock] at h2
 ·simp only [Value.ownBlock, Option.some.injEq] at h2
  subst h2
  exact row_type h h1 hg hne
structure ThingsC {α : Type} [Inhabited α] (F : Nat → Prop) (X : World) (R : World → α → List Value → Prop) (size B : Nat) (e : TypeId) (v : Value) (l : List α) (css : List (List Value)) : Prop where
 len : css.length = l.length
 part : ∀ j, j < l.length → (css.getD j []).length = size ∧ Away F X (fun y => R y (l.getD j default) (css.getD j []))
 row : X.ownsRow B e size v l.length css.flatten
section
variable {α : Type} [Inhabited α] {F F' G : Nat → Prop} {X X' : World} {R : World → α → List Value → Prop} {size B : Nat} {e : TypeId} {v v' : Value} {l : List α} {css : List (List Value)}
theorem ThingsC.nil (F : Nat → Prop) (X : World) (R : World → α → List Value → Prop) (size B : Nat) (e : TypeId) : ThingsC F X R size B e (.slice none 0 0) [] [] := ⟨rfl, fun j hj => by simp at hj, World.ownsRow_nil _ _ _ _⟩
theorem ThingsC.step (h : ThingsC F X R size B e v l css) (hs : Since G X X') (hv : ∀ k, v.ownBlock = some k → ¬ G k) (hG : ∀ k, G k → F k ∨ X.heap.size ≤ k) (hF : ∀ k, F' k → F k ∨ X.heap.size ≤ k) : ThingsC F' X' R size B e v l css :=
 ⟨h.len, fun j hj => ⟨(h.part j hj).1, (h.part j hj).2.step hs hG hF⟩, hs.row h.row hv⟩
theorem getD_snoc_lt {β : Type} {l : List β} {x d : β} {j : Nat} (hj : j < l.length) : (l ++ [x]).getD j d = l.getD j d := by
 simp only [List.getD_eq_getElem?_getD, List.getElem?_append_left hj]
theorem getD_snoc_eq {β : Type} {l : List β} {x d : β} : (l ++ [x]).getD l.length d = x := by
 simp [List.getD_eq_getElem?_getD]
theorem ThingsC.push (h : ThingsC F X R size B e v l css) (hs : Since G X X') (hG : ∀ k, G k → F k ∨ X.heap.size ≤ k) (hF : ∀ k, F' k → F k ∨ X.heap.size ≤ k) {x : α} {cs : List Value} (hx : Away F X (fun y => R y x cs)) (hc : cs.length = size)
  (h1 : X'.ownsRow B e size v' (l.length + 1) (css.flatten ++ cs)) : ThingsC F' X' R size B e v' (l ++ [x]) (css ++ [cs]) := by
 refine ⟨by simp [h.len], fun j hj => ?_, ?_⟩
 ·rw [List.length_append] at hj
  simp only [List.length_cons, List.length_nil] at hj
  by_cases e : j = l.length
  ·subst e
   rw [getD_snoc_eq, show l.length = css.length from h.len.symm, getD_snoc_eq]
   exact ⟨hc, hx.step hs hG hF⟩
  ·have hj' : j < l.length := by omega
   rw [getD_snoc_lt hj', getD_snoc_lt (by rw [h.len]; exact hj')]
   exact ⟨(h.part j hj').1, (h.part j hj').2.step hs hG hF⟩
 ·rw [List.length_append, List.flatten_append]
  simpa using h1
theorem flatten_at {css : List (List Value)} {size : Nat} : ∀ {j i : Nat}, (∀ j, j < css.length → (css.getD j []).length = size) → j < css.length → i < size → css.flatten[j * size + i]? = (css.getD j [])[i]? := by
 induction css with
 | nil => intro j i _ hj; simp at hj
 | cons c css ih =>
  intro j i h hj hi
  have h0 := h 0 (by simp)
  simp only [List.getD_cons_zero] at h0
  cases j with
  | zero => rw [List.flatten_cons, Nat.zero_mul, Nat.zero_add, List.getElem?_append_left (by rw [h0]; exact hi)]; rfl
  | succ j =>
   rw [List.flatten_cons, List.getElem?_append_right (by rw [h0, Nat.add_mul]; omega), h0, show (j + 1) * size + i - size = j * size + i by rw [Nat.add_mul]; omega]
   exact ih (fun j hj => by have := h (j + 1) (by simpa using hj); simpa using this) (by simpa using hj) hi
theorem ThingsC.slice (h : ThingsC F X R size B e v l css) : SliceR R size X v l :=
 SliceR.of_row h.row fun j hj => ⟨css.getD j [], (h.part j hj).1, fun i hi => flatten_at (fun j hj => (h.part j (by rw [← h.len]; exact hj)).1) (by rw [h.len]; exact hj) hi, (h.part j hj).2.now⟩
end
def MovesR (w : World) (l : List MoveD) (cs : List Value) : Prop := ∃ v, cs = [v] ∧ MovesAt w v l
def IntsR (w : World) (l : List Int) (cs : List Value) : Prop := ∃ v, cs = [v] ∧ IntsAt w v l
theorem moves_of {w : World} {B : Nat} {sv : Value} {l : List MoveD} (h : w.ownsRow B 32 3 sv l.length (flatC MoveD.cells l)) : MovesAt w sv l := SliceR.of_flat (R := MoveR) (f := MoveD.cells) move_len (fun _ _ => rfl) h
structure SpaceD where
 states : List StateD
 moves : List (List MoveD)
 next : List (List Int)
instance : Inhabited SpaceD := ⟨⟨[], [], []⟩⟩
def XF (g r : Nat) (sv mv nv xv : Value) (k : Nat) : Prop := (k = g ∨ k ≤ r) ∨ sv.ownBlock = some k ∨ mv.ownBlock = some k ∨ nv.ownBlock = some k ∨ xv.ownBlock = some k
structure XAt (W X : World) (g r : Nat) (sv mv nv xv : Value) (sl : List StateD) (ml : List (List MoveD)) (nl : List (List Int)) (xl : List Int) (sc mc nc : List (List Value)) : Prop where
 below : Below W.heap.size W X
 lo : W.heap.size ≤ g
 rlo : r < W.heap.size
 box : X.heap[g]? = some (.cells #[sv, mv, nv] 71 (0, 0))
 st : ThingsC (XF g r sv mv nv xv) X StateR 3 W.heap.size 30 sv sl sc
 mo : ThingsC (XF g r sv mv nv xv) X MovesR 1 W.heap.size 52 mv ml mc
 ne : ThingsC (XF g r sv mv nv xv) X IntsR 1 W.heap.size 28 nv nl nc
 xr : X.ownsRow W.heap.size 3 1 xv xl.length (flatC intC xl)
section
variable {W X X1 : World} {g r : Nat} {sv mv nv xv sv' : Value} {sl : List StateD} {ml : List (List MoveD)} {nl : List (List Int)} {xl : List Int} {sc mc nc : List (List Value)}
end
end Go.Proofs.YtliajkheeniljaaGreatDoor
namespace Go.Proofs.YtliajkheeniljaaGreatDoor
open Go.RowKit
set_option maxRecDepth 100000
set_option maxHeartbeats 16000000
def bufsLe (b : Nat) (s : StateD) : Prop := ∀ j, j < s.threads.length → (s.threads.getD j default).buf.length ≤ b
theorem countP_take_le {α : Type} {p : α → Bool} {l : List α} {b : Nat} [Inhabited α] (h : ∀ k, k < l.length → p (l.getD k default) = true → (l.take k).countP p < b) : l.countP p ≤ b := by
 have key : ∀ k, k ≤ l.length → (l.take k).countP p ≤ b := by
  intro k
  induction k with
  | zero => intro _; simp
  | succ k ih =>
   intro hk
   rw [List.take_succ_eq_append_getElem (by omega), List.countP_append]
   have h1 := ih (by omega)
   have h2 := h k (by omega)
   rw [List.getD_eq_getElem?_getD, List.getElem?_eq_getElem (by omega)] at h2
   simp only [Option.getD_some] at h2
   by_cases e : p l[k] = true
   ·have := h2 e
    simp only [List.countP_cons, List.countP_nil, e, if_true]; omega
   ·simp only [List.countP_cons, List.countP_nil, e]; simp; omega
 have := key l.length (Nat.le_refl _)
 rwa [List.take_length] at this
theorem four_counts {l : List EntryD} (h : ∀ x ∈ l, 0 ≤ x.var ∧ x.var < 4) : l.length = l.countP (fun x => decide (x.var = 0)) + l.countP (fun x => decide (x.var = 1)) + l.countP (fun x => decide (x.var = 2)) + l.countP (fun x => decide (x.var = 3)) := by
 induction l with
 | nil => rfl
 | cons x l ih =>
  have h1 := ih (fun y hy => h y (List.mem_cons_of_mem _ hy))
  have h2 := h x (List.mem_cons_self ..)
  simp only [List.length_cons, List.countP_cons, h1]
  have : x.var = 0 ∨ x.var = 1 ∨ x.var = 2 ∨ x.var = 3 := by omega
  rcases this with e | e | e | e <;> simp [e] <;> omega
theorem waits_le {c : CodeD} {m : MachD} {l : List EntryD} (hv : c.vars ≤ 4) (hm : m.bound ≤ 8) (h : ∀ k, k < l.length → waitOk c m l k = true) : l.length ≤ 32 := by
 have hf : ∀ k, k < l.length → putOk (l.take k) m (l.getD k default) = true ∧ 0 ≤ (l.getD k default).var ∧ (l.getD k default).var < 4 := fun k hk => by
  have := h k hk
  unfold waitOk at this
  simp only [Bool.and_eq_true, decide_eq_true_eq] at this
  exact ⟨this.1.1.1.1, this.1.1.1.2, by have := this.1.1.2; omega⟩
 have hx : ∀ x ∈ l, 0 ≤ x.var ∧ x.var < 4 := fun x hx => by
  obtain ⟨k, hk, e⟩ := List.getElem_of_mem hx
  have := hf k hk
  rw [List.getD_eq_getElem?_getD, List.getElem?_eq_getElem hk] at this
  rw [← e]; exact this.2
 have key : ∀ v : Int, l.countP (fun x => decide (x.var = v)) ≤ 8 := fun v => countP_take_le fun k hk hp => by
  have h1 := (hf k hk).1
  have hp : (l.getD k default).var = v := by simpa using hp
  unfold putOk at h1
  simp only [Bool.and_eq_true, Bool.or_eq_true, decide_eq_true_eq] at h1
  obtain ⟨-, h2⟩ := h1
  have h3 : (l.take k).countP (fun x => decide (x.var = v)) ≤ putCount (l.take k) m (l.getD k default).var := by
   unfold putCount
   refine List.countP_mono_left (fun x _ hx => ?_)
   rw [hp]
   simp only [Bool.or_eq_true]; exact .inr hx
  omega
 rw [four_counts hx]
 have := key 0; have := key 1; have := key 2; have := key 3
 omega
theorem fits_bufs {c : CodeD} {m : MachD} {s : StateD} (h : fitsOk c m s = true) : bufsLe 32 s := by
 intro j hj
 have h0 := h
 unfold fitsOk at h
 simp only [Bool.and_eq_true, decide_eq_true_eq] at h
 obtain ⟨⟨⟨⟨h1, -⟩, -⟩, -⟩, h5⟩ := h
 unfold mayOk at h1
 simp only [Bool.and_eq_true, decide_eq_true_eq] at h1
 have hb := codeOk_bounds h1.1.1.1.1
 rw [List.all_eq_true] at h5
 have h6 := h5 j (List.mem_range.2 hj)
 unfold threadOk at h6
 simp only [Bool.and_eq_true, decide_eq_true_eq] at h6
 have h7 := h6.2
 rw [List.all_eq_true] at h7
 exact waits_le hb.2.1 h1.2 (fun k hk => h7 k (List.mem_range.2 hk))
theorem stepT_buf {c : CodeD} {m : MachD} {s : StateD} {t : ThreadD} {x : InstrD} {d : Nat} {r : ThreadD × List Int × Bool} (h : stepT c m s t x d = some r) : r.1.buf.length ≤ t.buf.length + 1 := by
 have hp : ∀ b m e, (putB b m e).length ≤ b.length + 1 := fun b m e => by unfold putB; split <;> simp
 by_cases h1 : x.op = 1
 ·rw [stepT_load h1] at h; cases h; simp only []; omega
 by_cases h2 : x.op = 2
 ·by_cases hm : m.model = 0
  ·rw [stepT_store0 h2 hm] at h; cases h; simp only []; omega
  ·by_cases hq : putOk t.buf m ⟨x.var, evalN t.regs c.domain d x.a⟩ = true
   ·rw [stepT_storeY h2 hm hq] at h; cases h; exact hp _ _ _
   ·rw [stepT_storeN h2 hm (by simpa using hq)] at h; cases h
 by_cases h3 : x.op = 3
 ·rw [stepT_set h3] at h; cases h; simp only []; omega
 by_cases h4 : x.op = 4
 ·rw [stepT_fence h4] at h; split at h
  ·cases h; simp only []; omega
  ·cases h
 by_cases h5 : x.op = 5
 ·rw [stepT_weak h5] at h; split at h
  ·cases h; simp only []; omega
  ·cases h
 by_cases h6 : x.op = 6
 ·by_cases hv : s.mem.getD x.var.toNat 0 = evalN t.regs c.domain d x.a
  ·rw [stepT_casY h6 hv] at h; split at h
   ·cases h; simp only []; omega
   ·cases h
  ·rw [stepT_casN h6 hv] at h; split at h
   ·cases h; simp only []; omega
   ·cases h
 by_cases h7 : x.op = 7
 ·rw [stepT_lock h7] at h; split at h
  ·cases h; simp only []; omega
  ·cases h
 by_cases h8 : x.op = 8
 ·rw [stepT_unlock h8] at h; split at h
  ·cases h; simp only []; omega
  ·cases h
 by_cases h9 : x.op = 9
 ·rw [stepT_assert h9] at h; cases h; simp only []; omega
 by_cases h12 : x.op = 12
 ·rw [stepT_branch h12] at h; cases h; simp only []; split <;> simp only [] <;> omega
 by_cases h13 : x.op = 13
 ·rw [stepT_jump h13] at h; cases h; simp only []; omega
 rw [stepT_other h1 h2 h3 h4 h5 h6 h7 h8 h9 h12 h13] at h; cases h; simp only []; omega
theorem set_bufs {b : Nat} {ts : List ThreadD} {mem : List Int} {bad : Bool} {i : Nat} {t : ThreadD} (h : ∀ j, j < ts.length → (ts.getD j default).buf.length ≤ b) (ht : t.buf.length ≤ b) : bufsLe b ⟨ts.set i t, mem, bad⟩ := by
 intro j hj
 simp only [List.length_set] at hj ⊢
 rw [getD_set hj]
 split
 ·exact ht
 ·exact h j hj
theorem takeB_len (l : List EntryD) (v : Int) : (takeB l v).2.length ≤ l.length := takeTo_len l v l.length
theorem do_bufs {c : CodeD} {m : MachD} {s : StateD} {x : MoveD} {d : Nat} : bufsLe 33 (doS c m s x d).1 := by
 have hE : bufsLe 33 emptyS := fun j hj => by simp [emptyS] at hj
 unfold doS
 by_cases hf : fitsOk c m s = true
 rotate_left
 ·rw [if_neg hf]; exact hE
 have hb := fits_bufs hf
 rw [if_pos hf]
 split
 ·rename_i ht
  split
  ·cases hst : stepS c m s x.thread.toNat d with
   | none => exact hE
   | some t =>
    unfold stepS at hst
    split at hst
    ·rw [Option.map_eq_some_iff] at hst
     obtain ⟨r, h1, rfl⟩ := hst
     refine set_bufs (fun j hj => by have := hb j hj; omega) ?_
     have := stepT_buf h1
     have := hb x.thread.toNat (by omega)
     omega
    ·cases hst
  ·split
   ·refine set_bufs (fun j hj => by have := hb j hj; omega) ?_
    simp only []
    have := takeB_len (s.threads.getD x.thread.toNat default).buf x.var
    have := hb x.thread.toNat (by omega)
    omega
   ·exact hE
 ·exact hE
theorem start_bufs (c : CodeD) : bufsLe 33 (startS c) := by
 unfold startS
 split
 ·intro j hj
  simp only [List.length_replicate] at hj ⊢
  rw [List.getD_eq_getElem?_getD, List.getElem?_replicate, if_pos hj]; simp [show (default : ThreadD).buf = [] from rfl]
 ·intro j hj; simp at hj
end Go.Proofs.YtliajkheeniljaaGreatDoor
