/- Rows that grow by appends, in whatever order a statement takes its parts: laws. -/
import Derived.Test.YtnlkbboghcdpnaaData
import Derived.Deep.AppendLies
import Derived.OwnWalk
namespace Go.Proofs.Ytnlkbboghcdpnaa
open Go.RowKit

/-- Append to a row of the call's own, inside a drawn region: where it lies behind it is told, too. -/
theorem step_append_where_ {P : Program} (w : World) {ops : Array Oper} {o : Oper} {a : Act} {K : Act → World → Prop} {Q : Exit → Act → World → Prop} {E : Prop} (hw : Region.wanted o (yielded ops a.tmps) = true) (s x : Operand) (t : TypeId)
    (ho : o.op = .call { callee := .builtin .append, args := #[s, x], argTypes := #[t, t] })
    (e : TypeId) (z : Value) (size bytes : Nat) (ht : P.underlying t = some (.slice e)) (hinfo : (P.info? e).map (fun i => (i.zero, i.size, i.bytes)) = some (some z, size, bytes)) (hzs : z.cells.size = size) (hsz : 0 < size)
    (base : Nat) (v : Value) (n : Nat) (xs : List Value) (hs : a.eval s = v) (hown : w.ownsRow base e size v n xs)
    (ad : Addr) (m c : Nat) (news : List Value) (hx : a.eval x = .slice (some ad) m c) (hl : news.length = m * size) (hnews : ∀ j u, news[j]? = some u → w.cell? (ad.add j) = some u) (h1 : ∀ u ∈ news, u.oneCell' = true)
    (h63 : n + m ≤ maxLen) (hbytes : (n + m) * bytes ≤ 140737488355328) (hbase : base ≤ w.heap.size)
    (h : ∀ a' cap' w', w'.ownsRow base e size (.slice a' (n + m) cap') (n + m) (xs ++ news) → cap' ≤ 9223372036854775807 → n + m ≤ cap' → Since (fun k => v.ownBlock = some k) w w' →
      (∀ k, (Value.slice a' (n + m) cap').ownBlock = some k → v.ownBlock = some k ∨ k = w.heap.size) →
      K (a.put o.dst (.slice a' (n + m) cap')) w') : if Region.wanted o (yielded ops a.tmps) = true then Oper.wp P o a w K Q else E := by
  rw [if_pos hw]
  obtain ⟨i, hi, hz, hsize, hby⟩ := info_parts hinfo
  obtain ⟨v', w', hr, h2, h3, h4⟩ := run_append_own (P := P) w base t o.type e i z size bytes ht hi hz hsize hby hzs hsz v n xs hown ad m c news hl hnews h1 h63 hbytes hbase
  have hwh := append_where ht hi hz hsize hby hown hl hnews h1 h63 hbytes hr
  obtain ⟨a', cap', rfl, hc1, hc2⟩ := row_slice h2
  unfold Oper.wp execOp
  simp only [ho, resolve, invoke, builtin, Sem.run_bind, Sem.run_pure, Result.andThen_ok, List.map_toArray, List.map_cons, List.map_nil, hs, hx, hr]
  refine h a' cap' w' h2 (by unfold maxLen at hc2; omega) hc1 ((Since.refl _ _).grown h3 (fun k hk => .inl hk)) (fun k hk => ?_)
  rw [hk] at hwh
  rcases hwh with hwh | hwh
  · exact .inl hwh.symm
  · exact .inr (by simpa using hwh)

/-- Append nothing to nothing. -/
theorem run_append_none {P : Program} (w : World) (t ty e : TypeId) (i : TypeInfo) (ht : P.underlying t = some (.slice e)) (hi : P.info? e = some i) (a : Option Addr) (c : Nat) :
    (Builtin.append_ #[t, t] ty #[.slice none 0 0, .slice a 0 c]).run P w = .ok (.slice none 0 0) w := by
  cases a <;> simp [Builtin.append_, run_underlying ht, sizeOf, typeInfo, hi, Builtin.lenOf, Builtin.firstCells, loadCells, loadCellsFrom]
theorem wpList_append_none {P : Program} (w : World) {ops : Array Oper} {rest : List Oper} {o : Oper} {a : Act} {Q : Exit → Act → World → Prop} (hgd : o.guard = none) (s x : Operand) (t : TypeId)
    (ho : o.op = .call { callee := .builtin .append, args := #[s, x], argTypes := #[t, t] }) (e : TypeId) (i : TypeInfo) (ht : P.underlying t = some (.slice e)) (hi : P.info? e = some i)
    (hs : a.eval s = .slice none 0 0) (ad : Option Addr) (c : Nat) (hx : a.eval x = .slice ad 0 c) (h : wpList P ops Q rest (a.put o.dst (.slice none 0 0)) w) : wpList P ops Q (o :: rest) a w := by
  refine wpList_plain hgd fun _ hK => ?_
  unfold Oper.wp execOp
  simp only [ho, resolve, invoke, builtin, Sem.run_bind, Sem.run_pure, Result.andThen_ok, List.map_toArray, List.map_cons, List.map_nil, hs, hx, run_append_none w t o.type e i ht hi ad c]
  exact hK _ _ h
theorem step_append_none {P : Program} (w : World) {ops : Array Oper} {o : Oper} {a : Act} {K : Act → World → Prop} {Q : Exit → Act → World → Prop} {E : Prop} (hw : Region.wanted o (yielded ops a.tmps) = true) (s x : Operand) (t : TypeId)
    (ho : o.op = .call { callee := .builtin .append, args := #[s, x], argTypes := #[t, t] }) (e : TypeId) (i : TypeInfo) (ht : P.underlying t = some (.slice e)) (hi : P.info? e = some i)
    (hs : a.eval s = .slice none 0 0) (ad : Option Addr) (c : Nat) (hx : a.eval x = .slice ad 0 c) (h : K (a.put o.dst (.slice none 0 0)) w) : if Region.wanted o (yielded ops a.tmps) = true then Oper.wp P o a w K Q else E := by
  rw [if_pos hw]
  unfold Oper.wp execOp
  simp only [ho, resolve, invoke, builtin, Sem.run_bind, Sem.run_pure, Result.andThen_ok, List.map_toArray, List.map_cons, List.map_nil, hs, hx, run_append_none w t o.type e i ht hi ad c]
  exact h
/-- The cells of things whose cells are told by themselves. -/
theorem SliceR.news {α : Type} [Inhabited α] {R : World → α → List Value → Prop} {size : Nat} {f : α → List Value} (hs : 0 < size) (hf : ∀ x, (f x).length = size) (hR : ∀ w x cs, R w x cs → cs = f x) {w : World} {b o n c : Nat} {l : List α} (h : SliceR R size w (.slice (some ⟨b, o, none⟩) n c) l) :
    ∀ j u, (flatC f l)[j]? = some u → w.cell? ((⟨b, o, none⟩ : Addr).add j) = some u := by
  intro j u hu
  have hj : j < l.length * size := by
    rcases Nat.lt_or_ge j (l.length * size) with e | e
    · exact e
    · rw [List.getElem?_eq_none (by rw [flatC_len hf]; exact e)] at hu; cases hu
  obtain ⟨q, r, hq, hr, rfl⟩ : ∃ q r, q < l.length ∧ r < size ∧ j = q * size + r :=
    ⟨j / size, j % size, Nat.div_lt_of_lt_mul (by rw [Nat.mul_comm]; exact hj), Nat.mod_lt _ hs, by rw [Nat.mul_comm]; exact (Nat.div_add_mod j size).symm⟩
  rw [flatC_at hf hq hr] at hu
  obtain ⟨b', o', cs, he, -, -, h4, h5⟩ := h.part q hq
  cases he
  have h6 := h4 r hr
  rw [hR _ _ _ h5, hu] at h6
  rw [show (⟨b, o, none⟩ : Addr).add (q * size + r) = ⟨b, o + q * size + r, none⟩ by
    simp only [Addr.add]
    split
    · rename_i h; rw [show o + q * size + r = o by omega]
    · rw [Nat.add_assoc]]
  exact h6
theorem SliceR.of_flat {α : Type} [Inhabited α] {R : World → α → List Value → Prop} {size : Nat} {f : α → List Value} (hf : ∀ x, (f x).length = size) (hR : ∀ w x, R w x (f x)) {w : World} {B : Nat} {e : TypeId} {sv : Value} {l : List α} (h : w.ownsRow B e size sv l.length (flatC f l)) : SliceR R size w sv l :=
  SliceR.of_row h fun j hj => ⟨f (l.getD j default), hf _, fun _ hi => flatC_at hf hj hi, hR _ _⟩
theorem SliceR.nil {α : Type} [Inhabited α] {R : World → α → List Value → Prop} {size : Nat} (w : World) : SliceR R size w (.slice none 0 0) ([] : List α) := ⟨none, 0, rfl, by simp, fun j hj => by simp at hj⟩
theorem own_lower {X : World} {B C : Nat} {e : TypeId} {size : Nat} {v : Value} {n : Nat} {xs : List Value} (h : X.ownsRow B e size v n xs) (hC : C ≤ B) : X.ownsRow C e size v n xs := by
  refine ⟨h.1, ?_⟩
  rcases h.2 with hn | ⟨g, cap, cur, rfl, hb, rest⟩
  · exact .inl hn
  · exact .inr ⟨g, cap, cur, rfl, Nat.le_trans hC hb, rest⟩
/-- A row of the statement's own that grows, and new things beside it. -/
structure App (e : TypeId) (size : Nat) (V X : World) (v : Value) (n : Nat) (xs : List Value) (bs : List (Nat × List Value)) : Prop where
  below : Below V.heap.size V X
  row : X.ownsRow V.heap.size e size v n xs
  news : ∀ p ∈ bs, X.heap[p.1]? = some (.cells p.2.toArray e (0, 0)) ∧ v.ownBlock ≠ some p.1 ∧ V.heap.size ≤ p.1
section
variable {e : TypeId} {size : Nat} {V X : World} {v : Value} {n : Nat} {xs : List Value} {bs : List (Nat × List Value)}
theorem App.start (e : TypeId) (size : Nat) (V : World) : App e size V V (.slice none 0 0) 0 [] [] := ⟨Below.refl _ _, World.ownsRow_nil _ _ _ _, by simp⟩
theorem App.drew (h : App e size V X v n xs bs) : App e size V X.drew v n xs bs := ⟨h.below.drew, (Since.refl (fun _ => False) X).drew.row h.row (fun _ _ h => h), h.news⟩
theorem App.alloc (h : App e size V X v n xs bs) (cs : List Value) : App e size V (X.alloc (.cells cs.toArray e)) v n xs ((X.heap.size, cs) :: bs) := by
  refine ⟨h.below.alloc h.below.size _, h.row.alloc _, ?_⟩
  intro p hp
  rcases List.mem_cons.1 hp with rfl | hp
  · exact ⟨heap_alloc_new X _, fun e => by have := (h.row.lt _ e).2; simp at this, h.below.size⟩
  · obtain ⟨a, b, c⟩ := h.news p hp
    exact ⟨(Below.heap_alloc _ _ _ (lt_of_block a)).trans a, b, c⟩
theorem App.app (h : App e size V X v n xs bs) {X' : World} {v' : Value} {m : Nat} {xs' : List Value} (ho : X'.ownsRow V.heap.size e size v' m xs') (hs : Since (fun k => v.ownBlock = some k) X X') (hl : ∀ k, v'.ownBlock = some k → v.ownBlock = some k ∨ k = X.heap.size) : App e size V X' v' m xs' bs := by
  refine ⟨h.below.trans (hs.below h.below.size (fun k hk => (h.row.lt k hk).1)), ho, fun p hp => ?_⟩
  obtain ⟨a, b, c⟩ := h.news p hp
  refine ⟨(hs.block _ (lt_of_block a) b).trans a, fun e => ?_, c⟩
  rcases hl _ e with e' | e'
  · exact b e'
  · have := lt_of_block a; omega
theorem App.cell (h : App e size V X v n xs bs) {b : Nat} {cs : List Value} (hb : (b, cs) ∈ bs) : ∀ j x, cs[j]? = some x → X.cell? ((⟨b, 0, none⟩ : Addr).add j) = some x := by
  intro j x hj
  have := cell_of_block (h.news _ hb).1 j
  rw [show (⟨b, 0, none⟩ : Addr).add j = ⟨b, j, none⟩ by simp only [Addr.add]; split <;> simp_all, this]
  simpa using hj
end
end Go.Proofs.Ytnlkbboghcdpnaa
