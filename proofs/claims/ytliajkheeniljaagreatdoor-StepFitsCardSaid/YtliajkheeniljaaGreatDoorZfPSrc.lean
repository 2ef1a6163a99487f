/- The cells of slices that were there, and what is appended from them or to them: laws. -/
import Derived.ArgAppend
import Derived.Test.YtliajkheeniljaaGreatDoorZfCodeP
import Derived.Test.YtliajkheeniljaaGreatDoorZfShort
set_option linter.all false
namespace Go.Proofs.YtliajkheeniljaaGreatDoor
open Go.RowKit
set_option maxRecDepth 100000
set_option maxHeartbeats 16000000
def SrcOf (w : World) (sv : Value) (n size : Nat) (xs : List Value) : Prop := ∃ a cap, sv = .slice a n cap ∧ xs.length = n * size ∧ (a = none → n = 0) ∧ ∀ A, a = some A → ∀ j u, xs[j]? = some u → w.cell? (A.add j) = some u
theorem SrcOf.below {w w' : World} {sv : Value} {n size : Nat} {xs : List Value} (h : SrcOf w sv n size xs) (hb : Below w.heap.size w w') : SrcOf w' sv n size xs := by
 obtain ⟨a, cap, h1, h2, h3, h4⟩ := h
 exact ⟨a, cap, h1, h2, h3, fun A hA j u hj => qck hb _ _ (h4 A hA j u hj)⟩
theorem SrcOf.of_slice {α : Type} [Inhabited α] {R : World → α → List Value → Prop} {size : Nat} {f : α → List Value} (hs : 0 < size) (hf : ∀ x, (f x).length = size) (hR : ∀ w x cs, R w x cs → cs = f x) {w : World} {sv : Value} {l : List α} (h : SliceR R size w sv l) : SrcOf w sv l.length size (flatC f l) := by
 obtain ⟨a, cap, rfl, -⟩ := SliceR.slice h
 refine ⟨a, cap, rfl, flatC_len hf l, fun e => ?_, fun A hA j u hj => ?_⟩
 ·subst e
  rcases Nat.eq_zero_or_pos l.length with e0 | e0
  ·exact e0
  ·obtain ⟨b, off, cs, h5, -⟩ := SliceR.part h 0 e0; cases h5
 ·subst hA
  have hl : 0 < l.length := by
   rcases Nat.eq_zero_or_pos l.length with e0 | e0
   ·rw [List.getElem?_eq_none (by rw [flatC_len hf, e0]; omega)] at hj; cases hj
   ·exact e0
  obtain ⟨b, off, cs, h5, -⟩ := SliceR.part h 0 hl
  cases h5
  exact SliceR.news hs hf hR h j u hj
theorem pick_all {n : Nat} {P : Nat → Value → Prop} (h : ∀ j, j < n → ∃ v, P j v) : ∃ l : List Value, l.length = n ∧ ∀ j, j < n → P j (l.getD j (.slice none 0 0)) := by
 induction n with
 | zero => exact ⟨[], rfl, fun j hj => by omega⟩
 | succ n ih =>
  obtain ⟨l, h1, h2⟩ := ih fun j hj => h j (by omega)
  obtain ⟨v, hv⟩ := h n (by omega)
  refine ⟨l ++ [v], by simp [h1], fun j hj => ?_⟩
  rw [getD_snoc (by omega)]
  by_cases e : j = n
  ·subst e; rw [if_pos h1.symm]; exact hv
  ·rw [if_neg (by omega)]; exact h2 j (by omega)
theorem SrcOf.threads {w : World} {sv : Value} {l : List ThreadD} (h : ThreadsAt w sv l) : ∃ bs : List Value, bs.length = l.length ∧ SrcOf w sv l.length 6 (threadsC l bs) ∧ (∀ j, j < l.length → (l.getD j default).regs.length = 4 ∧ BufAt w (bs.getD j (.slice none 0 0)) (l.getD j default).buf) ∧ ∀ u ∈ threadsC l bs, u.oneCell' = true := by
 obtain ⟨a, cap, rfl, -⟩ := SliceR.slice h
 obtain ⟨bs, hb, hP⟩ := pick_all (n := l.length) (P := fun j v => (l.getD j default).regs.length = 4 ∧ BufAt w v (l.getD j default).buf ∧ ∃ b off, a = some ⟨b, off, none⟩ ∧ ∀ i, i < 6 → w.cell? ⟨b, off + j * 6 + i, none⟩ = ((l.getD j default).cells v)[i]?) fun j hj => by
  obtain ⟨b, off, cs, h1, -, h3, h4, h5, bv, h6, h7⟩ := SliceR.part h j hj
  subst h6
  exact ⟨bv, h5, h7, b, off, h1, h4⟩
 refine ⟨bs, hb, ⟨a, cap, rfl, threadsC_len l bs, fun e => ?_, fun A hA j u hj => ?_⟩, fun j hj => ⟨(hP j hj).1, (hP j hj).2.1⟩, fun u hu => ?_⟩
 ·subst e
  rcases Nat.eq_zero_or_pos l.length with e0 | e0
  ·exact e0
  ·obtain ⟨-, -, b, off, h5, -⟩ := hP 0 e0; cases h5
 ·subst hA
  have hlt : j < l.length * 6 := by
   rcases Nat.lt_or_ge j (l.length * 6) with e | e
   ·exact e
   ·rw [List.getElem?_eq_none (by rw [threadsC_len]; exact e)] at hj; cases hj
  obtain ⟨q, r, hq, hr, rfl⟩ : ∃ q r, q < l.length ∧ r < 6 ∧ j = q * 6 + r := ⟨j / 6, j % 6, by omega, by omega, by omega⟩
  rw [threadsC_at hq hr] at hj
  obtain ⟨-, -, b, off, h5, h6⟩ := hP q hq
  cases h5
  rw [show (⟨b, off, none⟩ : Addr).add (q * 6 + r) = ⟨b, off + q * 6 + r, none⟩ by
   simp only [Addr.add]
   split
   ·rename_i h; rw [show off + q * 6 + r = off by omega]
   ·rw [Nat.add_assoc], h6 r hr]
  exact hj
 ·obtain ⟨j, hj, rfl⟩ := List.getElem_of_mem hu
  rw [threadsC_len] at hj
  obtain ⟨q, r, hq, hr, rfl⟩ : ∃ q r, q < l.length ∧ r < 6 ∧ j = q * 6 + r := ⟨j / 6, j % 6, by omega, by omega, by omega⟩
  have e := threadsC_at (bs := bs) hq hr
  rw [List.getElem?_eq_getElem (by rw [threadsC_len]; omega)] at e
  have hm := List.mem_of_getElem? e.symm
  refine thread_one ?_ _ hm
  obtain ⟨a', cap', e', -⟩ := SliceR.slice (hP q hq).2.1
  rw [e']; rfl
theorem threads_of_row {w : World} {B : Nat} {sv : Value} {l : List ThreadD} {bs : List Value} (h : w.ownsRow B 48 6 sv l.length (threadsC l bs)) (hb : ∀ j, j < l.length → (l.getD j default).regs.length = 4 ∧ BufAt w (bs.getD j (.slice none 0 0)) (l.getD j default).buf) : ThreadsAt w sv l :=
 SliceR.of_row h fun j hj => ⟨(l.getD j default).cells (bs.getD j (.slice none 0 0)), thread_len _ _, fun _ hi => threadsC_at hj hi, (hb j hj).1, _, rfl, (hb j hj).2⟩
theorem wpList_append_srcv {P : Program} (w : World) {ops : Array Oper} {rest : List Oper} {o : Oper} {a : Act} {Q : Exit → Act → World → Prop} (hgd : o.guard = none) (s x : Operand) (t : TypeId)
  (ho : o.op = .call { callee := .builtin .append, args := #[s, x], argTypes := #[t, t] })
  (e : TypeId) (z : Value) (size bytes : Nat) (ht : P.underlying t = some (.slice e)) (hinfo : (P.info? e).map (fun i => (i.zero, i.size, i.bytes)) = some (some z, size, bytes)) (hzs : z.cells.size = size) (hsz : 0 < size)
  (base : Nat) (v : Value) (n : Nat) (xs : List Value) (hs : a.eval s = v) (hown : w.ownsRow base e size v n xs)
  (sv : Value) (m : Nat) (news : List Value) (hx : a.eval x = sv) (hsrc : SrcOf w sv m size news) (h1 : ∀ u ∈ news, u.oneCell' = true)
  (h63 : n + m ≤ maxLen) (hbytes : (n + m) * bytes ≤ 140737488355328) (hbase : base ≤ w.heap.size)
  (h : ∀ a' cap' w', w'.ownsRow base e size (.slice a' (n + m) cap') (n + m) (xs ++ news) → cap' ≤ 9223372036854775807 → n + m ≤ cap' → Since (fun k => v.ownBlock = some k) w w' →
   (∀ k, (Value.slice a' (n + m) cap').ownBlock = some k → v.ownBlock = some k ∨ k = w.heap.size) → wpList P ops Q rest (a.put o.dst (.slice a' (n + m) cap')) w') : wpList P ops Q (o :: rest) a w := by
 obtain ⟨ad, c, rfl, hl, hnone, hnews⟩ := hsrc
 cases ad with
 | some A =>
  obtain ⟨i, hi, hz, hsize, hby⟩ := info_parts hinfo
  obtain ⟨v', w', hr, h2, h3, h4⟩ := run_append_own (P := P) w base t o.type e i z size bytes ht hi hz hsize hby hzs hsz v n xs hown A m c news hl (hnews A rfl) h1 h63 hbytes hbase
  have hw := append_where ht hi hz hsize hby hown hl (hnews A rfl) h1 h63 hbytes hr
  obtain ⟨a', cap', rfl, hc1, hc2⟩ := row_slice h2
  refine wpList_plain hgd fun _ hK => ?_
  unfold Oper.wp execOp
  simp only [ho, resolve, invoke, builtin, Sem.run_bind, Sem.run_pure, Result.andThen_ok, List.map_toArray, List.map_cons, List.map_nil, hs, hx, hr]
  refine hK _ _ (h a' cap' w' h2 (by unfold maxLen at hc2; omega) hc1 ((Since.refl _ _).grown h3 (fun k hk => .inl hk)) (fun k hk => ?_))
  rw [hk] at hw
  rcases hw with hw | hw
  ·exact .inl hw.symm
  ·exact .inr (by simpa using hw)
 | none =>
  have hm := hnone rfl
  subst hm
  have hn : news = [] := List.eq_nil_of_length_eq_zero (by simpa using hl)
  subst hn
  obtain ⟨i, hi, hz, hsize, hby⟩ := info_parts hinfo
  obtain ⟨va, cap, rfl, hc1, hc2⟩ := row_slice hown
  have hr : (Builtin.append_ #[t, t] o.type #[.slice va n cap, .slice none 0 c]).run P w = .ok (.slice va n cap) w := by
   cases va <;> simp [Builtin.append_, run_underlying ht, sizeOf, typeInfo, hi, Builtin.lenOf, Builtin.firstCells, hc1, storeCells]
  refine wpList_plain hgd fun _ hK => ?_
  unfold Oper.wp execOp
  simp only [ho, resolve, invoke, builtin, Sem.run_bind, Sem.run_pure, Result.andThen_ok, List.map_toArray, List.map_cons, List.map_nil, hs, hx, hr]
  exact hK _ _ (h va cap w (by rw [List.append_nil]; exact hown) (by unfold maxLen at hc2; omega) hc1 (Since.refl _ _) (fun k hk => .inl hk))
theorem run_append_full {P : Program} (w : World) (t ty : TypeId) (e : TypeId) (z : Value) (size bytes : Nat) (ht : P.underlying t = some (.slice e)) (hinfo : (P.info? e).map (fun i => (i.zero, i.size, i.bytes)) = some (some z, size, bytes)) (hzs : z.cells.size = size) (hsz : 0 < size)
  (ao : Option Addr) (n : Nat) (olds : List Value) (hsrc : SrcOf w (.slice ao n n) n size olds)
  (ad : Addr) (m c : Nat) (news : List Value) (hl : news.length = m * size) (hnews : ∀ j u, news[j]? = some u → w.cell? (ad.add j) = some u) (h1 : ∀ u ∈ news, u.oneCell' = true) (hm : 0 < m)
  (h63 : n + m ≤ maxLen) (hbytes : (n + m) * bytes ≤ 140737488355328) :
  ∃ a' cap' w', (Builtin.append_ #[t, t] ty #[.slice ao n n, .slice (some ad) m c]).run P w = .ok (.slice a' (n + m) cap') w' ∧ w'.ownsRow w.heap.size e size (.slice a' (n + m) cap') (n + m) (olds ++ news) ∧ cap' ≤ 9223372036854775807 ∧ n + m ≤ cap' ∧ Since (fun _ => False) w w' := by
 obtain ⟨i, hi, hz, hsize, hby⟩ := info_parts hinfo
 obtain ⟨ao', cap0, he, hol, hnone, holds⟩ := hsrc
 cases he
 have key : ∃ v' w', (Builtin.append_ #[t, t] ty #[.slice ao n n, .slice (some ad) m c]).run P w = .ok v' w' ∧ w'.ownsRow w.heap.size e size v' (n + m) (olds ++ news) ∧ w.grownBy w' none := by
  cases ao with
  | some b => exact run_append_arg_grows (P := P) w t ty e i z size bytes ht hi hz hsize hby hzs hsz b n n olds hol (holds b rfl) ad m c news hl hnews (by omega) h63 hbytes
  | none =>
   obtain rfl := hnone rfl
   obtain rfl : olds = [] := List.eq_nil_of_length_eq_zero (by simpa using hol)
   obtain ⟨v', w', hrun, r1, r2, -⟩ := run_append_own (P := P) w w.heap.size t ty e i z size bytes ht hi hz hsize hby hzs hsz (.slice none 0 0) 0 [] (World.ownsRow_nil w _ e size) ad m c news hl hnews h1 h63 hbytes (Nat.le_refl _)
   exact ⟨v', w', hrun, r1, r2⟩
 obtain ⟨v', w', hr, h2, h3⟩ := key
 obtain ⟨a', cap', rfl, hc1, hc2⟩ := row_slice h2
 exact ⟨a', cap', w', hr, h2, by unfold maxLen at hc2; omega, hc1, (Since.refl _ _).grown h3 (fun k hk => by cases hk)⟩
theorem step_append_full_ {P : Program} (w : World) {ops : Array Oper} {o : Oper} {a : Act} {K : Act → World → Prop} {Q : Exit → Act → World → Prop} {E : Prop} (hw : Region.wanted o (yielded ops a.tmps) = true) (s x : Operand) (t : TypeId)
  (ho : o.op = .call { callee := .builtin .append, args := #[s, x], argTypes := #[t, t] })
  (e : TypeId) (z : Value) (size bytes : Nat) (ht : P.underlying t = some (.slice e)) (hinfo : (P.info? e).map (fun i => (i.zero, i.size, i.bytes)) = some (some z, size, bytes)) (hzs : z.cells.size = size) (hsz : 0 < size)
  (ao : Option Addr) (n : Nat) (olds : List Value) (hs : a.eval s = .slice ao n n) (hsrc : SrcOf w (.slice ao n n) n size olds)
  (ad : Addr) (m c : Nat) (news : List Value) (hx : a.eval x = .slice (some ad) m c) (hl : news.length = m * size) (hnews : ∀ j u, news[j]? = some u → w.cell? (ad.add j) = some u) (h1 : ∀ u ∈ news, u.oneCell' = true) (hm : 0 < m)
  (h63 : n + m ≤ maxLen) (hbytes : (n + m) * bytes ≤ 140737488355328)
  (h : ∀ a' cap' w', w'.ownsRow w.heap.size e size (.slice a' (n + m) cap') (n + m) (olds ++ news) → cap' ≤ 9223372036854775807 → n + m ≤ cap' → Since (fun _ => False) w w' → K (a.put o.dst (.slice a' (n + m) cap')) w') :
  if Region.wanted o (yielded ops a.tmps) = true then Oper.wp P o a w K Q else E := by
 rw [if_pos hw]
 obtain ⟨a', cap', w', hr, h2, h3, h4, h5⟩ := run_append_full (P := P) w t o.type e z size bytes ht hinfo hzs hsz ao n olds hsrc ad m c news hl hnews h1 hm h63 hbytes
 unfold Oper.wp execOp
 simp only [ho, resolve, invoke, builtin, Sem.run_bind, Sem.run_pure, Result.andThen_ok, List.map_toArray, List.map_cons, List.map_nil, hs, hx, hr]
 exact h a' cap' w' h2 h3 h4 h5
theorem row_zero {X : World} {B m c : Nat} {e : TypeId} {size : Nat} {a : Option Addr} {xs : List Value} (h : X.ownsRow B e size (.slice a (0 + m) c) (0 + m) ([] ++ xs)) : X.ownsRow B e size (.slice a m c) m xs := by simpa using h
theorem row_of_block_ {X : World} {B g size n : Nat} {e : TypeId} {cs : List Value} (h : X.heap[g]? = some (.cells cs.toArray e (0, 0))) (hB : B ≤ g) (hl : cs.length = n * size) (hn : n ≤ maxLen) : X.ownsRow B e size (.slice (some ⟨g, 0, none⟩) n n) n cs :=
 ⟨hl, .inr ⟨g, n, cs.toArray, rfl, hB, h, Nat.le_refl _, hn, by simp [hl], by rw [List.take_of_length_le (by simp [hl])]⟩⟩
end Go.Proofs.YtliajkheeniljaaGreatDoor
