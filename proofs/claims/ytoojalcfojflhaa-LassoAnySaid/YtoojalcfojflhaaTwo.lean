/- Two rows of numbers that are appended to in one statement, whichever comes first: what is so at each point. -/
import Derived.Test.YtoojalcfojflhaaBase
import Derived.Deep.AppendLies
namespace Go.Proofs.Ytoojalcfojflhaa
open Go.RowKit

theorem int_info : (Try.prog.info? 3).map (fun i => (i.zero, i.size, i.bytes)) = some (some (.int .i64 0), 1, 8) := by kernel_rfl
/-- Append to a row of the call's own, inside a drawn region: where it lies behind it is told, too. -/
theorem step_append_where_ {P : Program} (w : World) {ops : Array Oper} {o : Oper} {a : Act} {K : Act → World → Prop} {Q : Exit → Act → World → Prop} {E : Prop} (hw : Region.wanted o (yielded ops a.tmps) = true) (s x : Operand) (t : TypeId)
    (ho : o.op = .call { callee := .builtin .append, args := #[s, x], argTypes := #[t, t] })
    (e : TypeId) (z : Value) (size bytes : Nat) (ht : P.underlying t = some (.slice e)) (hinfo : (P.info? e).map (fun i => (i.zero, i.size, i.bytes)) = some (some z, size, bytes)) (hzs : z.cells.size = size) (hsz : 0 < size)
    (base : Nat) (v : Value) (n : Nat) (xs : List Value) (hs : a.eval s = v) (hown : w.ownsRow base e size v n xs)
    (ad : Addr) (m c : Nat) (news : List Value) (hx : a.eval x = .slice (some ad) m c) (hl : news.length = m * size) (hnews : ∀ j u, news[j]? = some u → w.cell? (ad.add j) = some u) (h1 : ∀ u ∈ news, u.oneCell' = true)
    (h63 : n + m ≤ maxLen) (hbytes : (n + m) * bytes ≤ 140737488355328) (hbase : base ≤ w.heap.size)
    (h : ∀ a' cap' w', w'.ownsRow base e size (.slice a' (n + m) cap') (n + m) (xs ++ news) → cap' ≤ 9223372036854775807 → n + m ≤ cap' → Since (fun k => v.ownBlock = some k) w w' →
      (∀ k, (Value.slice a' (n + m) cap').ownBlock = some k → v.ownBlock = some k ∨ k = w.heap.size) →
      K (a.put o.dst (.slice a' (n + m) cap')) w') : if Region.wanted o (yielded ops a.tmps) = true then Oper.wp P o a w K Q else E := by
  rw [if_pos hw]
  obtain ⟨i, hi, hz, hsize, hby⟩ := info_parts hinfo
  obtain ⟨v', w', hr, h2, h3, h4⟩ := run_append_own (P := P) w base t o.type e i z size bytes ht hi hz hsize hby hzs hsz v n xs hown ad m c news hl hnews h1 h63 hbytes hbase
  have hwh := append_where ht hi hz hsize hby hown hl hnews h1 h63 hbytes hr
  obtain ⟨a', cap', rfl, hc1, hc2⟩ := row_slice h2
  unfold Oper.wp execOp
  simp only [ho, resolve, invoke, builtin, Sem.run_bind, Sem.run_pure, Result.andThen_ok, List.map_toArray, List.map_cons, List.map_nil, hs, hx, hr]
  refine h a' cap' w' h2 (by unfold maxLen at hc2; omega) hc1 ((Since.refl _ _).grown h3 (fun k hk => .inl hk)) (fun k hk => ?_)
  rw [hk] at hwh
  rcases hwh with hwh | hwh
  · exact .inl hwh.symm
  · exact .inr (by simpa using hwh)

structure Two (V X : World) (B : Nat) (u1 u2 v1 : Value) (n1 : Nat) (xs1 : List Value) (v2 : Value) (n2 : Nat) (xs2 : List Value) (bs : List (Nat × Value)) : Prop where
  since : Since (fun x => u1.ownBlock = some x ∨ u2.ownBlock = some x) V X
  r1 : X.ownsRow B 3 1 v1 n1 xs1
  r2 : X.ownsRow B 3 1 v2 n2 xs2
  l1 : ∀ x, v1.ownBlock = some x → u1.ownBlock = some x ∨ V.heap.size ≤ x
  l2 : ∀ x, v2.ownBlock = some x → u2.ownBlock = some x ∨ V.heap.size ≤ x
  dis : ∀ x, v1.ownBlock = some x → v2.ownBlock ≠ some x
  news : ∀ p ∈ bs, X.heap[p.1]? = some (.cells #[p.2] 3 (0, 0)) ∧ v1.ownBlock ≠ some p.1 ∧ v2.ownBlock ≠ some p.1
  base : B ≤ X.heap.size
theorem Two.start {V : World} {B : Nat} {v1 : Value} {n1 : Nat} {xs1 : List Value} {v2 : Value} {n2 : Nat} {xs2 : List Value} (h1 : V.ownsRow B 3 1 v1 n1 xs1) (h2 : V.ownsRow B 3 1 v2 n2 xs2) (hd : ∀ x, v1.ownBlock = some x → v2.ownBlock ≠ some x) (hB : B ≤ V.heap.size) : Two V V.drew B v1 v2 v1 n1 xs1 v2 n2 xs2 [] :=
  ⟨(Since.refl _ _).drew, (Since.refl (fun _ => False) V).drew.row h1 (fun _ _ h => h), (Since.refl (fun _ => False) V).drew.row h2 (fun _ _ h => h), fun _ h => .inl h, fun _ h => .inl h, hd, by simp, hB⟩
section
variable {V X : World} {B : Nat} {u1 u2 v1 : Value} {n1 : Nat} {xs1 : List Value} {v2 : Value} {n2 : Nat} {xs2 : List Value} {bs : List (Nat × Value)}
theorem Two.alloc (h : Two V X B u1 u2 v1 n1 xs1 v2 n2 xs2 bs) (v : Value) : Two V (X.alloc (.cells #[v] 3)) B u1 u2 v1 n1 xs1 v2 n2 xs2 ((X.heap.size, v) :: bs) := by
  refine ⟨h.since.alloc _, h.r1.alloc _, h.r2.alloc _, h.l1, h.l2, h.dis, ?_, by have := h.base; simp; omega⟩
  intro p hp
  rcases List.mem_cons.1 hp with rfl | hp
  · exact ⟨heap_alloc_new X _, fun e => by have := (h.r1.lt _ e).2; simp at this, fun e => by have := (h.r2.lt _ e).2; simp at this⟩
  · obtain ⟨a, b, c⟩ := h.news p hp
    exact ⟨(Below.heap_alloc _ _ _ (lt_of_block a)).trans a, b, c⟩
theorem Two.app1 (h : Two V X B u1 u2 v1 n1 xs1 v2 n2 xs2 bs) {X' : World} {v1' : Value} {m : Nat} {xs' : List Value} (ho : X'.ownsRow B 3 1 v1' m xs') (hs : Since (fun k => v1.ownBlock = some k) X X') (hl : ∀ k, v1'.ownBlock = some k → v1.ownBlock = some k ∨ k = X.heap.size) : Two V X' B u1 u2 v1' m xs' v2 n2 xs2 bs := by
  refine ⟨h.since.trans hs (fun i hi => (h.l1 i hi).imp .inl id), ho, hs.row h.r2 (fun k hk e => h.dis k e hk), fun x hx => ?_, h.l2, fun x hx e => ?_, fun p hp => ?_, Nat.le_trans h.base hs.size⟩
  · rcases hl x hx with e | rfl
    · exact h.l1 x e
    · exact .inr h.since.size
  · rcases hl x hx with e' | rfl
    · exact h.dis x e' e
    · have := (h.r2.lt _ e).2; omega
  · obtain ⟨a, b, c⟩ := h.news p hp
    refine ⟨(hs.block _ (lt_of_block a) b).trans a, fun e => ?_, c⟩
    rcases hl _ e with e' | e'
    · exact b e'
    · have := lt_of_block a; omega
theorem Two.app2 (h : Two V X B u1 u2 v1 n1 xs1 v2 n2 xs2 bs) {X' : World} {v2' : Value} {m : Nat} {xs' : List Value} (ho : X'.ownsRow B 3 1 v2' m xs') (hs : Since (fun k => v2.ownBlock = some k) X X') (hl : ∀ k, v2'.ownBlock = some k → v2.ownBlock = some k ∨ k = X.heap.size) : Two V X' B u1 u2 v1 n1 xs1 v2' m xs' bs := by
  refine ⟨h.since.trans hs (fun i hi => (h.l2 i hi).imp .inr id), hs.row h.r1 (fun k hk e => h.dis k hk e), ho, h.l1, fun x hx => ?_, fun x hx e => ?_, fun p hp => ?_, Nat.le_trans h.base hs.size⟩
  · rcases hl x hx with e | rfl
    · exact h.l2 x e
    · exact .inr h.since.size
  · rcases hl x e with e' | rfl
    · exact h.dis x hx e'
    · have := (h.r1.lt _ hx).2; omega
  · obtain ⟨a, b, c⟩ := h.news p hp
    refine ⟨(hs.block _ (lt_of_block a) c).trans a, b, fun e => ?_⟩
    rcases hl _ e with e' | e'
    · exact c e'
    · have := lt_of_block a; omega
/-- The new thing's cell. -/
theorem Two.cell (h : Two V X B u1 u2 v1 n1 xs1 v2 n2 xs2 bs) {b : Nat} {v : Value} (hb : (b, v) ∈ bs) : ∀ j u, [v][j]? = some u → X.cell? ((⟨b, 0, none⟩ : Addr).add j) = some u := by
  intro j u hj
  cases j with
  | zero =>
    simp only [List.getElem?_cons_zero, Option.some.injEq] at hj
    subst hj
    have := cell_of_block (h.news _ hb).1 0
    simpa [Addr.add] using this
  | succ j => simp at hj
end
end Go.Proofs.Ytoojalcfojflhaa
