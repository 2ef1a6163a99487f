/- Rows of things that lie elsewhere, while they grow. Explore: what it holds while it runs. Explore: what is so of the states that are come to: plain Lean. -/
import Derived.Test.YtnlkbboghcdpnaaFinP
import Derived.Test.YtnlkbboghcdpnaaMoves
import Derived.Test.YtnlkbboghcdpnaaFits
namespace Go.Proofs.Ytnlkbboghcdpnaa
open Go.RowKit

/-- Rows of other cells lie in other blocks. -/
theorem rows_apart {w : World} {B C : Nat} {e e' : TypeId} {size size' : Nat} {v v' : Value} {n n' : Nat} {xs xs' : List Value} (h : w.ownsRow B e size v n xs) (h' : w.ownsRow C e' size' v' n' xs') (hne : e ≠ e') : ∀ k, v.ownBlock = some k → v'.ownBlock ≠ some k := by
  intro k h1 h2
  rcases h'.2 with ⟨rfl, -⟩ | ⟨g, cap, cur, rfl, -, hg, -⟩
  · simp [Value.ownBlock] at h2
  · simp only [Value.ownBlock, Option.some.injEq] at h2
    subst h2
    exact row_type h h1 hg hne
/-- A row of the call's own of things; R: what is asked of each one's cells, whatever happens to the blocks F. -/
structure ThingsC {α : Type} [Inhabited α] (F : Nat → Prop) (X : World) (R : World → α → List Value → Prop) (size B : Nat) (e : TypeId) (v : Value) (l : List α) (css : List (List Value)) : Prop where
  len : css.length = l.length
  part : ∀ j, j < l.length → (css.getD j []).length = size ∧ Away F X (fun y => R y (l.getD j default) (css.getD j []))
  row : X.ownsRow B e size v l.length css.flatten
section
variable {α : Type} [Inhabited α] {F F' G : Nat → Prop} {X X' : World} {R : World → α → List Value → Prop} {size B : Nat} {e : TypeId} {v v' : Value} {l : List α} {css : List (List Value)}
theorem ThingsC.nil (F : Nat → Prop) (X : World) (R : World → α → List Value → Prop) (size B : Nat) (e : TypeId) : ThingsC F X R size B e (.slice none 0 0) [] [] := ⟨rfl, fun j hj => by simp at hj, World.ownsRow_nil _ _ _ _⟩
theorem ThingsC.step (h : ThingsC F X R size B e v l css) (hs : Since G X X') (hv : ∀ k, v.ownBlock = some k → ¬ G k) (hG : ∀ k, G k → F k ∨ X.heap.size ≤ k) (hF : ∀ k, F' k → F k ∨ X.heap.size ≤ k) : ThingsC F' X' R size B e v l css :=
  ⟨h.len, fun j hj => ⟨(h.part j hj).1, (h.part j hj).2.step hs hG hF⟩, hs.row h.row hv⟩
theorem getD_snoc_lt {β : Type} {l : List β} {x d : β} {j : Nat} (hj : j < l.length) : (l ++ [x]).getD j d = l.getD j d := by
  simp only [List.getD_eq_getElem?_getD, List.getElem?_append_left hj]
theorem getD_snoc_eq {β : Type} {l : List β} {x d : β} : (l ++ [x]).getD l.length d = x := by
  simp [List.getD_eq_getElem?_getD]
theorem ThingsC.push (h : ThingsC F X R size B e v l css) (hs : Since G X X') (hG : ∀ k, G k → F k ∨ X.heap.size ≤ k) (hF : ∀ k, F' k → F k ∨ X.heap.size ≤ k) {x : α} {cs : List Value} (hx : Away F X (fun y => R y x cs)) (hc : cs.length = size)
    (h1 : X'.ownsRow B e size v' (l.length + 1) (css.flatten ++ cs)) : ThingsC F' X' R size B e v' (l ++ [x]) (css ++ [cs]) := by
  refine ⟨by simp [h.len], fun j hj => ?_, ?_⟩
  · rw [List.length_append] at hj
    simp only [List.length_cons, List.length_nil] at hj
    by_cases e : j = l.length
    · subst e
      rw [getD_snoc_eq, show l.length = css.length from h.len.symm, getD_snoc_eq]
      exact ⟨hc, hx.step hs hG hF⟩
    · have hj' : j < l.length := by omega
      rw [getD_snoc_lt hj', getD_snoc_lt (by rw [h.len]; exact hj')]
      exact ⟨(h.part j hj').1, (h.part j hj').2.step hs hG hF⟩
  · rw [List.length_append, List.flatten_append]
    simpa using h1
theorem flatten_at {css : List (List Value)} {size : Nat} : ∀ {j i : Nat}, (∀ j, j < css.length → (css.getD j []).length = size) → j < css.length → i < size → css.flatten[j * size + i]? = (css.getD j [])[i]? := by
  induction css with
  | nil => intro j i _ hj; simp at hj
  | cons c css ih =>
    intro j i h hj hi
    have h0 := h 0 (by simp)
    simp only [List.getD_cons_zero] at h0
    cases j with
    | zero => rw [List.flatten_cons, Nat.zero_mul, Nat.zero_add, List.getElem?_append_left (by rw [h0]; exact hi)]; rfl
    | succ j =>
      rw [List.flatten_cons, List.getElem?_append_right (by rw [h0, Nat.add_mul]; omega), h0, show (j + 1) * size + i - size = j * size + i by rw [Nat.add_mul]; omega]
      exact ih (fun j hj => by have := h (j + 1) (by simpa using hj); simpa using this) (by simpa using hj) hi
theorem ThingsC.slice (h : ThingsC F X R size B e v l css) : SliceR R size X v l :=
  SliceR.of_row h.row fun j hj => ⟨css.getD j [], (h.part j hj).1, fun i hi => flatten_at (fun j hj => (h.part j (by rw [← h.len]; exact hj)).1) (by rw [h.len]; exact hj) hi, (h.part j hj).2.now⟩
end
def MovesR (w : World) (l : List MoveD) (cs : List Value) : Prop := ∃ v, cs = [v] ∧ MovesAt w v l
theorem MovesR.stays : Stays MovesR := fun _ _ _ _ ⟨v, h, h2⟩ hb => ⟨v, h, SliceR.below MoveR.stays h2 hb⟩
def IntsR (w : World) (l : List Int) (cs : List Value) : Prop := ∃ v, cs = [v] ∧ IntsAt w v l
theorem IntsR.stays : Stays IntsR := fun _ _ _ _ ⟨v, h, h2⟩ hb => ⟨v, h, SliceR.below IntR.stays h2 hb⟩
theorem moves_of {w : World} {B : Nat} {sv : Value} {l : List MoveD} (h : w.ownsRow B 85 3 sv l.length (flatC MoveD.cells l)) : MovesAt w sv l := SliceR.of_flat (R := MoveR) (f := MoveD.cells) move_len (fun _ _ => rfl) h
/-- All states that are come to. -/
structure SpaceD where
  states : List StateD
  moves : List (List MoveD)
  next : List (List Int)
instance : Inhabited SpaceD := ⟨⟨[], [], []⟩⟩
/-- The states behind moves, among those that are known. -/
def innerX (c : CodeD) (m : MachD) (d : Nat) (room : Int) (s : StateD) : List MoveD → List StateD → List Int → Option (List StateD × List Int)
  | [], l, nx => some (l, nx)
  | x :: ms, l, nx => if room ≤ ((putAt l (doS c m s x d).1).2 : Int) then none else innerX c m d room s ms (putAt l (doS c m s x d).1).1 (nx ++ [((putAt l (doS c m s x d).1).2 : Int)])
def outerX (c : CodeD) (m : MachD) (d : Nat) (room : Int) : Nat → Nat → List StateD → List (List MoveD) → List (List Int) → Option SpaceD
  | 0, _, _, _, _ => none
  | f + 1, i, l, ml, nl =>
    if i < l.length then
      match innerX c m d room (l.getD i default) (movesS c m (l.getD i default) d) l [] with
      | none => none
      | some r => outerX c m d room f (i + 1) r.1 (ml ++ [movesS c m (l.getD i default) d]) (nl ++ [r.2])
    else some ⟨l, ml, nl⟩
/-- Explore, and which error. -/
def exploreS (c : CodeD) (m : MachD) (room : Int) (d : Nat) : SpaceD × Int :=
  if mayOk c m = false ∨ room < 1 ∨ 100000 < room then (⟨[], [], []⟩, 1)
  else match outerX c m d room (room.toNat + 1) 0 [startS c] [] [] with
    | some s => (s, 0)
    | none => (⟨[], [], []⟩, 40)
/-- The blocks that are written. -/
def XF (g r : Nat) (sv mv nv xv : Value) (k : Nat) : Prop := (k = g ∨ k ≤ r) ∨ sv.ownBlock = some k ∨ mv.ownBlock = some k ∨ nv.ownBlock = some k ∨ xv.ownBlock = some k
/-- What Explore holds while it runs. -/
structure XAt (W X : World) (g r : Nat) (sv mv nv xv : Value) (sl : List StateD) (ml : List (List MoveD)) (nl : List (List Int)) (xl : List Int) (sc mc nc : List (List Value)) : Prop where
  below : Below W.heap.size W X
  lo : W.heap.size ≤ g
  rlo : r < W.heap.size
  box : X.heap[g]? = some (.cells #[sv, mv, nv] 42 (0, 0))
  st : ThingsC (XF g r sv mv nv xv) X StateR 3 W.heap.size 31 sv sl sc
  mo : ThingsC (XF g r sv mv nv xv) X MovesR 1 W.heap.size 53 mv ml mc
  ne : ThingsC (XF g r sv mv nv xv) X IntsR 1 W.heap.size 29 nv nl nc
  xr : X.ownsRow W.heap.size 3 1 xv xl.length (flatC intC xl)
section
variable {W X X1 : World} {g r : Nat} {sv mv nv xv sv' : Value} {sl : List StateD} {ml : List (List MoveD)} {nl : List (List Int)} {xl : List Int} {sc mc nc : List (List Value)}
theorem box_apart {B e size n g : Nat} {v : Value} {xs : List Value} {c : Array Value} {t : TypeId} {f : Nat × Nat} (h : X.ownsRow B e size v n xs) (hb : X.heap[g]? = some (.cells c t f)) (hne : e ≠ t) : ∀ k, v.ownBlock = some k → k ≠ g := fun k h1 e => by
  subst e; exact row_type h h1 hb hne
theorem XAt.call (h : XAt W X g r sv mv nv xv sl ml nl xl sc mc nc) (hb : Below X.heap.size X X1) : XAt W X1 g r sv mv nv xv sl ml nl xl sc mc nc := by
  have hs : Since (fun _ => False) X X1 := since_of _ hb
  exact ⟨below_then h.below hb, h.lo, h.rlo, (hb.block _ (lt_of_block h.box)).trans h.box, h.st.step hs (fun _ _ h => h) (fun _ h => h.elim) (fun _ h => .inl h), h.mo.step hs (fun _ _ h => h) (fun _ h => h.elim) (fun _ h => .inl h), h.ne.step hs (fun _ _ h => h) (fun _ h => h.elim) (fun _ h => .inl h), row_below h.xr hb⟩
/-- A state more. -/
theorem XAt.pushS (h : XAt W X g r sv mv nv xv sl ml nl xl sc mc nc) {o : Obj} {x : StateD} {cs : List Value} (hx : Away (XF g r sv mv nv xv) X (fun y => StateR y x cs)) (hc : cs.length = 3) (h1 : X1.ownsRow W.heap.size 31 3 sv' (sl.length + 1) (sc.flatten ++ cs))
    (h4 : Since (fun k => sv.ownBlock = some k) (X.alloc o) X1) (h5 : ∀ k, sv'.ownBlock = some k → sv.ownBlock = some k ∨ k = (X.alloc o).heap.size) : XAt W (X1.setCell ⟨g, 0, none⟩ sv') g r sv' mv nv xv (sl ++ [x]) ml nl xl (sc ++ [cs]) mc nc := by
  have hg := lt_of_block h.box
  have s1 : Since (fun k => sv.ownBlock = some k) X X1 := ((Since.refl _ X).alloc o).trans h4 (fun k hk => .inl hk)
  have b1 : X1.heap[g]? = some (.cells #[sv, mv, nv] 42 (0, 0)) := (s1.block _ hg (fun e => box_apart h.st.row h.box (by decide) _ e rfl)).trans h.box
  have s2 : Since (fun k => k = g ∨ sv.ownBlock = some k) X (X1.setCell ⟨g, 0, none⟩ sv') := (s1.mono (G := fun k => k = g ∨ sv.ownBlock = some k) (fun _ _ h => .inr h)).setCell (p := ⟨g, 0, none⟩) (.inl (.inl rfl)) _
  have hG : ∀ k, (k = g ∨ sv.ownBlock = some k) → XF g r sv mv nv xv k ∨ X.heap.size ≤ k := fun k hk => .inl (hk.elim (fun h => .inl (.inl h)) (fun h => .inr (.inl h)))
  have hF : ∀ k, XF g r sv' mv nv xv k → XF g r sv mv nv xv k ∨ X.heap.size ≤ k := fun k hk => by
    rcases hk with hk | hk | hk
    · exact .inl (.inl hk)
    · rcases h5 k hk with h6 | h6
      · exact .inl (.inr (.inl h6))
      · refine .inr ?_; simp at h6; omega
    · exact .inl (.inr (.inr hk))
  have row1 : (X1.setCell ⟨g, 0, none⟩ sv').ownsRow W.heap.size 31 3 sv' (sl.length + 1) (sc.flatten ++ cs) := (Since.setCell (F := fun k => k = g) (p := ⟨g, 0, none⟩) (Since.refl _ X1) (.inl rfl) _).row h1 (fun k hk e => box_apart h1 b1 (by decide) k hk e)
  refine ⟨h.below.trans (s2.below h.below.size (fun k hk => hk.elim (fun e => by rw [e]; exact h.lo) (fun e => (h.st.row.lt k e).1))), h.lo, h.rlo, ?_, h.st.push s2 hG hF hx hc row1, h.mo.step s2 ?_ hG hF, h.ne.step s2 ?_ hG hF, s2.row h.xr ?_⟩
  · have := set_of_block b1 0 sv'; simpa using this
  · exact fun k hk e => e.elim (fun e => box_apart h.mo.row h.box (by decide) k hk e) (fun e => rows_apart h.mo.row h.st.row (by decide) k hk e)
  · exact fun k hk e => e.elim (fun e => box_apart h.ne.row h.box (by decide) k hk e) (fun e => rows_apart h.ne.row h.st.row (by decide) k hk e)
  · exact fun k hk e => e.elim (fun e => box_apart h.xr h.box (by decide) k hk e) (fun e => rows_apart h.xr h.st.row (by decide) k hk e)
/-- A place more. -/
theorem XAt.pushX (h : XAt W X g r sv mv nv xv sl ml nl xl sc mc nc) {o : Obj} {x : Int} {xv' : Value} (h1 : X1.ownsRow W.heap.size 3 1 xv' (xl.length + 1) (flatC intC xl ++ [.int .i64 x]))
    (h4 : Since (fun k => xv.ownBlock = some k) (X.alloc o) X1) (h5 : ∀ k, xv'.ownBlock = some k → xv.ownBlock = some k ∨ k = (X.alloc o).heap.size) : XAt W X1 g r sv mv nv xv' sl ml nl (xl ++ [x]) sc mc nc := by
  have hg := lt_of_block h.box
  have s1 : Since (fun k => xv.ownBlock = some k) X X1 := ((Since.refl _ X).alloc o).trans h4 (fun k hk => .inl hk)
  have hG : ∀ k, xv.ownBlock = some k → XF g r sv mv nv xv k ∨ X.heap.size ≤ k := fun k hk => .inl (.inr (.inr (.inr (.inr hk))))
  have hF : ∀ k, XF g r sv mv nv xv' k → XF g r sv mv nv xv k ∨ X.heap.size ≤ k := fun k hk => by
    rcases hk with hk | hk | hk | hk | hk
    · exact .inl (.inl hk)
    · exact .inl (.inr (.inl hk))
    · exact .inl (.inr (.inr (.inl hk)))
    · exact .inl (.inr (.inr (.inr (.inl hk))))
    · rcases h5 k hk with h6 | h6
      · exact .inl (.inr (.inr (.inr (.inr h6))))
      · refine .inr ?_; simp at h6; omega
  refine ⟨h.below.trans (s1.below h.below.size (fun k hk => (h.xr.lt k hk).1)), h.lo, h.rlo, (s1.block _ hg (fun e => box_apart h.xr h.box (by decide) _ e rfl)).trans h.box, h.st.step s1 ?_ hG hF, h.mo.step s1 ?_ hG hF, h.ne.step s1 ?_ hG hF, ?_⟩
  · exact fun k hk e => rows_apart h.st.row h.xr (by decide) k hk e
  · exact fun k hk e => rows_apart h.mo.row h.xr (by decide) k hk e
  · exact fun k hk e => rows_apart h.ne.row h.xr (by decide) k hk e
  · rw [List.length_append, flat_snoc]; exact h1
/-- A state's moves more. -/
theorem XAt.pushM (h : XAt W X g r sv mv nv xv sl ml nl xl sc mc nc) {o : Obj} {x : List MoveD} {cs : List Value} {mv' : Value} (hx : Away (XF g r sv mv nv xv) X (fun y => MovesR y x cs)) (hc : cs.length = 1) (h1 : X1.ownsRow W.heap.size 53 1 mv' (ml.length + 1) (mc.flatten ++ cs))
    (h4 : Since (fun k => mv.ownBlock = some k) (X.alloc o) X1) (h5 : ∀ k, mv'.ownBlock = some k → mv.ownBlock = some k ∨ k = (X.alloc o).heap.size) : XAt W (X1.setCell ⟨g, 1, none⟩ mv') g r sv mv' nv xv sl (ml ++ [x]) nl xl sc (mc ++ [cs]) nc := by
  have hg := lt_of_block h.box
  have s1 : Since (fun k => mv.ownBlock = some k) X X1 := ((Since.refl _ X).alloc o).trans h4 (fun k hk => .inl hk)
  have b1 : X1.heap[g]? = some (.cells #[sv, mv, nv] 42 (0, 0)) := (s1.block _ hg (fun e => box_apart h.mo.row h.box (by decide) _ e rfl)).trans h.box
  have s2 : Since (fun k => k = g ∨ mv.ownBlock = some k) X (X1.setCell ⟨g, 1, none⟩ mv') := (s1.mono (G := fun k => k = g ∨ mv.ownBlock = some k) (fun _ _ h => .inr h)).setCell (p := ⟨g, 1, none⟩) (.inl (.inl rfl)) _
  have hG : ∀ k, (k = g ∨ mv.ownBlock = some k) → XF g r sv mv nv xv k ∨ X.heap.size ≤ k := fun k hk => .inl (hk.elim (fun h => .inl (.inl h)) (fun h => .inr (.inr (.inl h))))
  have hF : ∀ k, XF g r sv mv' nv xv k → XF g r sv mv nv xv k ∨ X.heap.size ≤ k := fun k hk => by
    rcases hk with hk | hk | hk | hk
    · exact .inl (.inl hk)
    · exact .inl (.inr (.inl hk))
    · rcases h5 k hk with h6 | h6
      · exact .inl (.inr (.inr (.inl h6)))
      · refine .inr ?_; simp at h6; omega
    · exact .inl (.inr (.inr (.inr hk)))
  have row1 : (X1.setCell ⟨g, 1, none⟩ mv').ownsRow W.heap.size 53 1 mv' (ml.length + 1) (mc.flatten ++ cs) := (Since.setCell (F := fun k => k = g) (p := ⟨g, 1, none⟩) (Since.refl _ X1) (.inl rfl) _).row h1 (fun k hk e => box_apart h1 b1 (by decide) k hk e)
  refine ⟨h.below.trans (s2.below h.below.size (fun k hk => hk.elim (fun e => by rw [e]; exact h.lo) (fun e => (h.mo.row.lt k e).1))), h.lo, h.rlo, ?_, h.st.step s2 ?_ hG hF, h.mo.push s2 hG hF hx hc row1, h.ne.step s2 ?_ hG hF, s2.row h.xr ?_⟩
  · have := set_of_block b1 1 mv'; simpa using this
  · exact fun k hk e => e.elim (fun e => box_apart h.st.row h.box (by decide) k hk e) (fun e => rows_apart h.st.row h.mo.row (by decide) k hk e)
  · exact fun k hk e => e.elim (fun e => box_apart h.ne.row h.box (by decide) k hk e) (fun e => rows_apart h.ne.row h.mo.row (by decide) k hk e)
  · exact fun k hk e => e.elim (fun e => box_apart h.xr h.box (by decide) k hk e) (fun e => rows_apart h.xr h.mo.row (by decide) k hk e)
/-- A state's places more: those that were gathered. -/
theorem XAt.pushN (h : XAt W X g r sv mv nv xv sl ml nl xl sc mc nc) {o : Obj} {nv' : Value} (h1 : X1.ownsRow W.heap.size 29 1 nv' (nl.length + 1) (nc.flatten ++ [xv]))
    (h4 : Since (fun k => nv.ownBlock = some k) (X.alloc o) X1) (h5 : ∀ k, nv'.ownBlock = some k → nv.ownBlock = some k ∨ k = (X.alloc o).heap.size) : XAt W (X1.setCell ⟨g, 2, none⟩ nv') g r sv mv nv' (.slice none 0 0) sl ml (nl ++ [xl]) [] sc mc (nc ++ [[xv]]) := by
  have hg := lt_of_block h.box
  have s1 : Since (fun k => nv.ownBlock = some k) X X1 := ((Since.refl _ X).alloc o).trans h4 (fun k hk => .inl hk)
  have b1 : X1.heap[g]? = some (.cells #[sv, mv, nv] 42 (0, 0)) := (s1.block _ hg (fun e => box_apart h.ne.row h.box (by decide) _ e rfl)).trans h.box
  have s2 : Since (fun k => k = g ∨ nv.ownBlock = some k) X (X1.setCell ⟨g, 2, none⟩ nv') := (s1.mono (G := fun k => k = g ∨ nv.ownBlock = some k) (fun _ _ h => .inr h)).setCell (p := ⟨g, 2, none⟩) (.inl (.inl rfl)) _
  have hG : ∀ k, (k = g ∨ nv.ownBlock = some k) → XF g r sv mv nv xv k ∨ X.heap.size ≤ k := fun k hk => .inl (hk.elim (fun h => .inl (.inl h)) (fun h => .inr (.inr (.inr (.inl h)))))
  have hF : ∀ k, XF g r sv mv nv' (.slice none 0 0) k → XF g r sv mv nv xv k ∨ X.heap.size ≤ k := fun k hk => by
    rcases hk with hk | hk | hk | hk | hk
    · exact .inl (.inl hk)
    · exact .inl (.inr (.inl hk))
    · exact .inl (.inr (.inr (.inl hk)))
    · rcases h5 k hk with h6 | h6
      · exact .inl (.inr (.inr (.inr (.inl h6))))
      · refine .inr ?_; simp at h6; omega
    · simp [Value.ownBlock] at hk
  have row1 : (X1.setCell ⟨g, 2, none⟩ nv').ownsRow W.heap.size 29 1 nv' (nl.length + 1) (nc.flatten ++ [xv]) := (Since.setCell (F := fun k => k = g) (p := ⟨g, 2, none⟩) (Since.refl _ X1) (.inl rfl) _).row h1 (fun k hk e => box_apart h1 b1 (by decide) k hk e)
  have hxx : ∀ k, xv.ownBlock = some k → ¬ (k = g ∨ nv.ownBlock = some k) := fun k hk e => e.elim (fun e => box_apart h.xr h.box (by decide) k hk e) (fun e => rows_apart h.xr h.ne.row (by decide) k hk e)
  have hxF : ∀ k, xv.ownBlock = some k → ¬ XF g r sv mv nv' (.slice none 0 0) k := fun k hk e => by
    rcases e with (e | e) | e | e | e | e
    · exact box_apart h.xr h.box (by decide) k hk e
    · have := (h.xr.lt k hk).1; have := h.rlo; omega
    · exact rows_apart h.xr h.st.row (by decide) k hk e
    · exact rows_apart h.xr h.mo.row (by decide) k hk e
    · have hr := s2.row h.xr hxx
      exact rows_apart hr row1 (by decide) k hk e
    · simp [Value.ownBlock] at e
  have hnew : Away (XF g r sv mv nv' (.slice none 0 0)) (X1.setCell ⟨g, 2, none⟩ nv') (fun y => IntsR y xl [xv]) := fun y hy => ⟨xv, rfl, ints_of (hy.row (s2.row h.xr hxx) hxF)⟩
  refine ⟨h.below.trans (s2.below h.below.size (fun k hk => hk.elim (fun e => by rw [e]; exact h.lo) (fun e => (h.ne.row.lt k e).1))), h.lo, h.rlo, ?_, h.st.step s2 ?_ hG hF, h.mo.step s2 ?_ hG hF, ?_, World.ownsRow_nil _ _ _ _⟩
  · have := set_of_block b1 2 nv'; simpa using this
  · exact fun k hk e => e.elim (fun e => box_apart h.st.row h.box (by decide) k hk e) (fun e => rows_apart h.st.row h.ne.row (by decide) k hk e)
  · exact fun k hk e => e.elim (fun e => box_apart h.mo.row h.box (by decide) k hk e) (fun e => rows_apart h.mo.row h.ne.row (by decide) k hk e)
  · have h0 := h.ne.step (F' := XF g r sv mv nv' (.slice none 0 0)) (Since.refl (fun _ => False) X) (fun _ _ h => h) (fun _ h => h.elim) hF
    refine ⟨by simp [h.ne.len], fun j hj => ?_, ?_⟩
    · rw [List.length_append] at hj
      simp only [List.length_cons, List.length_nil] at hj
      by_cases e : j = nl.length
      · subst e
        rw [getD_snoc_eq, show nl.length = nc.length from h.ne.len.symm, getD_snoc_eq]
        exact ⟨rfl, hnew⟩
      · have hj' : j < nl.length := by omega
        rw [getD_snoc_lt hj', getD_snoc_lt (by rw [h.ne.len]; exact hj')]
        exact ⟨(h.ne.part j hj').1, (h.ne.part j hj').2.step s2 hG hF⟩
    · rw [List.length_append, List.flatten_append]
      simpa using row1
theorem own_away {F : Nat → Prop} {B : Nat} {s : StateD} {tv mv : Value} {bs : List Value} (h : OwnAt B X tv mv s.threads s.mem bs) (hF : ∀ k, F k → k < B) : Away F X (fun y => StateR y s [tv, mv, .bool s.bad]) := fun y hy =>
  ⟨tv, mv, rfl, (h.since hy (fun k hk e => by have := (h.row.lt k hk).1; have := hF k e; omega) (fun k hk e => by have := (h.mem.lt k hk).1; have := hF k e; omega) (fun j hj k hk e => by have := ((h.buf j hj).lt k hk).1; have := hF k e; omega)).state s.bad⟩
theorem XAt.blocks (h : XAt W X g r sv mv nv xv sl ml nl xl sc mc nc) : ∀ k, XF g r sv mv nv xv k → k < X.heap.size := fun k hk => by
  rcases hk with (hk | hk) | hk | hk | hk | hk
  · rw [hk]; exact lt_of_block h.box
  · exact Nat.lt_of_le_of_lt hk (Nat.lt_of_lt_of_le h.rlo h.below.size)
  · exact (h.st.row.lt k hk).2
  · exact (h.mo.row.lt k hk).2
  · exact (h.ne.row.lt k hk).2
  · exact (h.xr.lt k hk).2
end
end Go.Proofs.Ytnlkbboghcdpnaa
namespace Go.Proofs.Ytnlkbboghcdpnaa
open Go.RowKit

/-- Are all buffers of a state at most so long? -/
def bufsLe (b : Nat) (s : StateD) : Prop := ∀ j, j < s.threads.length → (s.threads.getD j default).buf.length ≤ b
theorem countP_take_le {α : Type} {p : α → Bool} {l : List α} {b : Nat} [Inhabited α] (h : ∀ k, k < l.length → p (l.getD k default) = true → (l.take k).countP p < b) : l.countP p ≤ b := by
  have key : ∀ k, k ≤ l.length → (l.take k).countP p ≤ b := by
    intro k
    induction k with
    | zero => intro _; simp
    | succ k ih =>
      intro hk
      rw [List.take_succ_eq_append_getElem (by omega), List.countP_append]
      have h1 := ih (by omega)
      have h2 := h k (by omega)
      rw [List.getD_eq_getElem?_getD, List.getElem?_eq_getElem (by omega)] at h2
      simp only [Option.getD_some] at h2
      by_cases e : p l[k] = true
      · have := h2 e
        simp only [List.countP_cons, List.countP_nil, e, if_true]; omega
      · simp only [List.countP_cons, List.countP_nil, e]; simp; omega
  have := key l.length (Nat.le_refl _)
  rwa [List.take_length] at this
theorem four_counts {l : List EntryD} (h : ∀ x ∈ l, 0 ≤ x.var ∧ x.var < 4) : l.length = l.countP (fun x => decide (x.var = 0)) + l.countP (fun x => decide (x.var = 1)) + l.countP (fun x => decide (x.var = 2)) + l.countP (fun x => decide (x.var = 3)) := by
  induction l with
  | nil => rfl
  | cons x l ih =>
    have h1 := ih (fun y hy => h y (List.mem_cons_of_mem _ hy))
    have h2 := h x (List.mem_cons_self ..)
    simp only [List.length_cons, List.countP_cons, h1]
    have : x.var = 0 ∨ x.var = 1 ∨ x.var = 2 ∨ x.var = 3 := by omega
    rcases this with e | e | e | e <;> simp [e] <;> omega
theorem waits_le {c : CodeD} {m : MachD} {l : List EntryD} (hv : c.vars ≤ 4) (hm : m.bound ≤ 8) (h : ∀ k, k < l.length → waitOk c m l k = true) : l.length ≤ 32 := by
  have hf : ∀ k, k < l.length → putOk (l.take k) m (l.getD k default) = true ∧ 0 ≤ (l.getD k default).var ∧ (l.getD k default).var < 4 := fun k hk => by
    have := h k hk
    unfold waitOk at this
    simp only [Bool.and_eq_true, decide_eq_true_eq] at this
    exact ⟨this.1.1.1.1, this.1.1.1.2, by have := this.1.1.2; omega⟩
  have hx : ∀ x ∈ l, 0 ≤ x.var ∧ x.var < 4 := fun x hx => by
    obtain ⟨k, hk, e⟩ := List.getElem_of_mem hx
    have := hf k hk
    rw [List.getD_eq_getElem?_getD, List.getElem?_eq_getElem hk] at this
    rw [← e]; exact this.2
  have key : ∀ v : Int, l.countP (fun x => decide (x.var = v)) ≤ 8 := fun v => countP_take_le fun k hk hp => by
    have h1 := (hf k hk).1
    have hp : (l.getD k default).var = v := by simpa using hp
    unfold putOk at h1
    simp only [Bool.and_eq_true, Bool.or_eq_true, decide_eq_true_eq] at h1
    obtain ⟨-, h2⟩ := h1
    have h3 : (l.take k).countP (fun x => decide (x.var = v)) ≤ putCount (l.take k) m (l.getD k default).var := by
      unfold putCount
      refine List.countP_mono_left (fun x _ hx => ?_)
      rw [hp]
      simp only [Bool.or_eq_true]; exact .inr hx
    omega
  rw [four_counts hx]
  have := key 0; have := key 1; have := key 2; have := key 3
  omega
theorem fits_bufs {c : CodeD} {m : MachD} {s : StateD} (h : fitsOk c m s = true) : bufsLe 32 s := by
  intro j hj
  have h0 := h
  unfold fitsOk at h
  simp only [Bool.and_eq_true, decide_eq_true_eq] at h
  obtain ⟨⟨⟨⟨h1, -⟩, -⟩, -⟩, h5⟩ := h
  unfold mayOk at h1
  simp only [Bool.and_eq_true, decide_eq_true_eq] at h1
  have hb := codeOk_bounds h1.1.1.1.1
  rw [List.all_eq_true] at h5
  have h6 := h5 j (List.mem_range.2 hj)
  unfold threadOk at h6
  simp only [Bool.and_eq_true, decide_eq_true_eq] at h6
  have h7 := h6.2
  rw [List.all_eq_true] at h7
  exact waits_le hb.2.1 h1.2 (fun k hk => h7 k (List.mem_range.2 hk))
theorem stepT_buf {c : CodeD} {m : MachD} {s : StateD} {t : ThreadD} {x : InstrD} {d : Nat} {r : ThreadD × List Int × Bool} (h : stepT c m s t x d = some r) : r.1.buf.length ≤ t.buf.length + 1 := by
  have hp : ∀ b m e, (putB b m e).length ≤ b.length + 1 := fun b m e => by unfold putB; split <;> simp
  by_cases h1 : x.op = 1
  · rw [stepT_load h1] at h; cases h; simp only []; omega
  by_cases h2 : x.op = 2
  · by_cases hm : m.model = 0
    · rw [stepT_store0 h2 hm] at h; cases h; simp only []; omega
    · by_cases hq : putOk t.buf m ⟨x.var, evalN t.regs c.domain d x.a⟩ = true
      · rw [stepT_storeY h2 hm hq] at h; cases h; exact hp _ _ _
      · rw [stepT_storeN h2 hm (by simpa using hq)] at h; cases h
  by_cases h3 : x.op = 3
  · rw [stepT_set h3] at h; cases h; simp only []; omega
  by_cases h4 : x.op = 4
  · rw [stepT_fence h4] at h; split at h
    · cases h; simp only []; omega
    · cases h
  by_cases h5 : x.op = 5
  · rw [stepT_weak h5] at h; split at h
    · cases h; simp only []; omega
    · cases h
  by_cases h6 : x.op = 6
  · by_cases hv : s.mem.getD x.var.toNat 0 = evalN t.regs c.domain d x.a
    · rw [stepT_casY h6 hv] at h; split at h
      · cases h; simp only []; omega
      · cases h
    · rw [stepT_casN h6 hv] at h; split at h
      · cases h; simp only []; omega
      · cases h
  by_cases h7 : x.op = 7
  · rw [stepT_lock h7] at h; split at h
    · cases h; simp only []; omega
    · cases h
  by_cases h8 : x.op = 8
  · rw [stepT_unlock h8] at h; split at h
    · cases h; simp only []; omega
    · cases h
  by_cases h9 : x.op = 9
  · rw [stepT_assert h9] at h; cases h; simp only []; omega
  by_cases h12 : x.op = 12
  · rw [stepT_branch h12] at h; cases h; simp only []; split <;> simp only [] <;> omega
  by_cases h13 : x.op = 13
  · rw [stepT_jump h13] at h; cases h; simp only []; omega
  rw [stepT_other h1 h2 h3 h4 h5 h6 h7 h8 h9 h12 h13] at h; cases h; simp only []; omega
theorem set_bufs {b : Nat} {ts : List ThreadD} {mem : List Int} {bad : Bool} {i : Nat} {t : ThreadD} (h : ∀ j, j < ts.length → (ts.getD j default).buf.length ≤ b) (ht : t.buf.length ≤ b) : bufsLe b ⟨ts.set i t, mem, bad⟩ := by
  intro j hj
  simp only [List.length_set] at hj ⊢
  rw [getD_set hj]
  split
  · exact ht
  · exact h j hj
theorem takeB_len (l : List EntryD) (v : Int) : (takeB l v).2.length ≤ l.length := takeTo_len l v l.length
theorem do_bufs {c : CodeD} {m : MachD} {s : StateD} {x : MoveD} {d : Nat} : bufsLe 33 (doS c m s x d).1 := by
  have hE : bufsLe 33 emptyS := fun j hj => by simp [emptyS] at hj
  unfold doS
  by_cases hf : fitsOk c m s = true
  · have hb := fits_bufs hf
    rw [if_pos hf]
    split
    · rename_i ht
      split
      · cases hst : stepS c m s x.thread.toNat d with
        | none => exact hE
        | some t =>
          unfold stepS at hst
          split at hst
          · rw [Option.map_eq_some_iff] at hst
            obtain ⟨r, h1, rfl⟩ := hst
            refine set_bufs (fun j hj => by have := hb j hj; omega) ?_
            have := stepT_buf h1
            have := hb x.thread.toNat (by omega)
            omega
          · cases hst
      · split
        · refine set_bufs (fun j hj => by have := hb j hj; omega) ?_
          simp only []
          have := takeB_len (s.threads.getD x.thread.toNat default).buf x.var
          have := hb x.thread.toNat (by omega)
          omega
        · exact hE
    · exact hE
  · rw [if_neg hf]; exact hE
theorem start_bufs (c : CodeD) : bufsLe 33 (startS c) := by
  unfold startS
  split
  · intro j hj
    simp only [List.length_replicate] at hj ⊢
    rw [List.getD_eq_getElem?_getD, List.getElem?_replicate, if_pos hj]; simp [show (default : ThreadD).buf = [] from rfl]
  · intro j hj; simp at hj
theorem movesS_len {c : CodeD} {m : MachD} {s : StateD} {d : Nat} : (movesS c m s d).length ≤ 132 := by
  unfold movesS
  split
  · rename_i hf
    have hb := fits_bufs hf
    obtain ⟨h1, -, h2, -, -⟩ := fits_facts hf
    have h4 := (codeOk_bounds h1).2.2.2.2.2
    have key : ∀ k, k ≤ s.threads.length → ((List.range k).flatMap (movesT c m s d)).length ≤ 33 * k := by
      intro k
      induction k with
      | zero => intro _; simp
      | succ k ih =>
        intro hk
        rw [range_flat, List.length_append]
        have := ih (by omega)
        have h5 : (movesT c m s d k).length ≤ 33 := by
          unfold movesT
          have h6 := headsB_len (s.threads.getD k default).buf m.model
          have h7 := hb k (by omega)
          rw [List.length_append, List.length_map]
          split <;> simp only [List.length_cons, List.length_nil] <;> omega
        omega
    have := key _ (Nat.le_refl _)
    omega
  · simp
theorem putAt_len (l : List StateD) (t : StateD) : (putAt l t).1.length ≤ l.length + 1 ∧ l.length ≤ (putAt l t).1.length ∧ (putAt l t).2 ≤ l.length ∧ ((putAt l t).1.length ≤ (putAt l t).2 + 1 ∨ (putAt l t).1.length = l.length) := by
  unfold putAt
  split
  · rename_i h
    have := List.idxOf_le_length (a := t) (l := l)
    simp; omega
  · simp
end Go.Proofs.Ytnlkbboghcdpnaa
