/- Finals as data; append of a slice that may be nil. -/
import Derived.Test.YtnlkbboghcdpnaaFinP
import Derived.Test.YtnlkbboghcdpnaaExpQ
namespace Go.Proofs.Ytnlkbboghcdpnaa
open Go.RowKit

/-- Append of whatever slice to a row of the call's own. -/
theorem wpList_append_src {P : Program} (w : World) {ops : Array Oper} {rest : List Oper} {o : Oper} {a : Act} {Q : Exit → Act → World → Prop} (hgd : o.guard = none) (s x : Operand) (t : TypeId)
    (ho : o.op = .call { callee := .builtin .append, args := #[s, x], argTypes := #[t, t] })
    (e : TypeId) (z : Value) (size bytes : Nat) (ht : P.underlying t = some (.slice e)) (hinfo : (P.info? e).map (fun i => (i.zero, i.size, i.bytes)) = some (some z, size, bytes)) (hzs : z.cells.size = size) (hsz : 0 < size)
    (base : Nat) (v : Value) (n : Nat) (xs : List Value) (hs : a.eval s = v) (hown : w.ownsRow base e size v n xs)
    (ad : Option Addr) (m c : Nat) (news : List Value) (hx : a.eval x = .slice ad m c) (hl : news.length = m * size) (hnews : ∀ A, ad = some A → ∀ j u, news[j]? = some u → w.cell? (A.add j) = some u) (hnone : ad = none → m = 0) (h1 : ∀ u ∈ news, u.oneCell' = true)
    (h63 : n + m ≤ maxLen) (hbytes : (n + m) * bytes ≤ 140737488355328) (hbase : base ≤ w.heap.size)
    (h : ∀ a' cap' w', w'.ownsRow base e size (.slice a' (n + m) cap') (n + m) (xs ++ news) → cap' ≤ 9223372036854775807 → n + m ≤ cap' → Since (fun k => v.ownBlock = some k) w w' →
      (∀ k, (Value.slice a' (n + m) cap').ownBlock = some k → v.ownBlock = some k ∨ k = w.heap.size) →
      wpList P ops Q rest (a.put o.dst (.slice a' (n + m) cap')) w') : wpList P ops Q (o :: rest) a w := by
  cases ad with
  | some A => exact wpList_append_at_ w hgd s x t ho e z size bytes ht hinfo hzs hsz base v n xs hs hown A m c news hx hl (hnews A rfl) h1 h63 hbytes hbase (fun a' cap' w' p1 p2 p3 p4 p5 _ => h a' cap' w' p1 p2 p3 p4 p5)
  | none =>
    have hm := hnone rfl
    subst hm
    have hn : news = [] := List.eq_nil_of_length_eq_zero (by simpa using hl)
    subst hn
    obtain ⟨i, hi, hz, hsize, hby⟩ := info_parts hinfo
    obtain ⟨va, cap, rfl, hc1, hc2⟩ := row_slice hown
    have hr : (Builtin.append_ #[t, t] o.type #[.slice va n cap, .slice none 0 c]).run P w = .ok (.slice va n cap) w := by
      cases va <;> simp [Builtin.append_, run_underlying ht, sizeOf, typeInfo, hi, Builtin.lenOf, Builtin.firstCells, hc1, storeCells]
    refine wpList_plain hgd fun _ hK => ?_
    unfold Oper.wp execOp
    simp only [ho, resolve, invoke, builtin, Sem.run_bind, Sem.run_pure, Result.andThen_ok, List.map_toArray, List.map_cons, List.map_nil, hs, hx, hr]
    exact hK _ _ (h va cap w (by rw [List.append_nil]; exact hown) (by unfold maxLen at hc2; omega) hc1 (Since.refl _ _) (fun k hk => .inl hk))
theorem zero_row {X : World} {B m c : Nat} {e : TypeId} {size : Nat} {a : Option Addr} {xs : List Value} (h : X.ownsRow B e size (.slice a (0 + m) c) (0 + m) ([] ++ xs)) : X.ownsRow B e size (.slice a m c) m xs := by simpa using h
/-- A block that is known whole is a row of the call's own. -/
theorem row_of_block {X : World} {B g size n : Nat} {e : TypeId} {cs : List Value} (h : X.heap[g]? = some (.cells cs.toArray e (0, 0))) (hB : B ≤ g) (hl : cs.length = n * size) (hn : n ≤ maxLen) : X.ownsRow B e size (.slice (some ⟨g, 0, none⟩) n n) n cs :=
  ⟨hl, .inr ⟨g, n, cs.toArray, rfl, hB, h, Nat.le_refl _, hn, by simp [hl], by rw [List.take_of_length_le (by simp [hl])]⟩⟩
/-- Four registers. -/
def Regs4R (_ : World) (r : List Int) (cs : List Value) : Prop := r.length = 4 ∧ cs = [.int .i64 (r.getD 0 0), .int .i64 (r.getD 1 0), .int .i64 (r.getD 2 0), .int .i64 (r.getD 3 0)]
theorem Regs4R.stays : Stays Regs4R := fun _ _ _ _ h _ => h
abbrev RegsAt := SliceR Regs4R 4
theorem RegsAt.part {w : World} {a : Option Addr} {n cap : Nat} {l : List (List Int)} (h : RegsAt w (.slice a n cap) l) (j : Nat) (hj : j < l.length) : ∃ b off, a = some ⟨b, off, none⟩ ∧ b < w.heap.size ∧ (l.getD j default).length = 4 ∧
    w.cell? ⟨b, off + j * 4, none⟩ = some (.int .i64 ((l.getD j default).getD 0 0)) ∧ w.cell? ⟨b, off + j * 4 + 1, none⟩ = some (.int .i64 ((l.getD j default).getD 1 0)) ∧ w.cell? ⟨b, off + j * 4 + 2, none⟩ = some (.int .i64 ((l.getD j default).getD 2 0)) ∧ w.cell? ⟨b, off + j * 4 + 3, none⟩ = some (.int .i64 ((l.getD j default).getD 3 0)) := by
  obtain ⟨b, off, cs, h1, h2, h3, h4, h0, h5⟩ := SliceR.part h j hj
  subst h5
  exact ⟨b, off, h1, h2, h0, h4 0 (by omega), h4 1 (by omega), h4 2 (by omega), h4 3 (by omega)⟩
def regsC (r : List Int) : List Value := [.int .i64 (r.getD 0 0), .int .i64 (r.getD 1 0), .int .i64 (r.getD 2 0), .int .i64 (r.getD 3 0)]
theorem regsC_len (r : List Int) : (regsC r).length = 4 := rfl
theorem regsC_eq {r : List Int} (h : r.length = 4) : regsC r = r.map (Value.int .i64) := by
  obtain ⟨a, b, c, d, rfl⟩ := four_of h; rfl
def finalV (mv rv : Value) : Value := .agg #[mv, rv]
structure FinalAt (w : World) (f : FinalD) (mv rv : Value) : Prop where
  mem : IntsAt w mv f.mem
  regs : RegsAt w rv f.regs
theorem FinalAt.below {w w' : World} {f : FinalD} {mv rv : Value} (h : FinalAt w f mv rv) (hb : Below w.heap.size w w') : FinalAt w' f mv rv := ⟨SliceR.below IntR.stays h.mem hb, SliceR.below Regs4R.stays h.regs hb⟩
def FinalR (w : World) (f : FinalD) (cs : List Value) : Prop := ∃ mv rv, cs = [mv, rv] ∧ FinalAt w f mv rv
theorem FinalR.stays : Stays FinalR := fun _ _ _ _ ⟨mv, rv, h, h2⟩ hb => ⟨mv, rv, h, h2.below hb⟩
abbrev FinalsAt := SliceR FinalR 2
theorem FinalsAt.part {w : World} {a : Option Addr} {n cap : Nat} {l : List FinalD} (h : FinalsAt w (.slice a n cap) l) (j : Nat) (hj : j < l.length) : ∃ b off ma mc ra rc, a = some ⟨b, off, none⟩ ∧ b < w.heap.size ∧
    w.cell? ⟨b, off + j * 2, none⟩ = some (.slice ma (l.getD j default).mem.length mc) ∧ w.cell? ⟨b, off + j * 2 + 1, none⟩ = some (.slice ra (l.getD j default).regs.length rc) ∧ FinalAt w (l.getD j default) (.slice ma (l.getD j default).mem.length mc) (.slice ra (l.getD j default).regs.length rc) := by
  obtain ⟨b, off, cs, h1, h2, h3, h4, mv, rv, h5, h6⟩ := SliceR.part h j hj
  subst h5
  obtain ⟨ma, mc, rfl, -⟩ := SliceR.slice h6.mem
  obtain ⟨ra, rc, rfl, -⟩ := SliceR.slice h6.regs
  exact ⟨b, off, ma, mc, ra, rc, h1, h2, h4 0 (by omega), h4 1 (by omega), h6⟩
theorem flat_map (l : List Int) : flatC intC l = l.map (Value.int .i64) := by
  induction l with
  | nil => rfl
  | cons y l ih => simp only [flatC, List.flatMap_cons, intC, List.map_cons] at ih ⊢; rw [ih]; rfl
theorem flat_int_app (l r : List Int) : flatC intC (l ++ r) = flatC intC l ++ flatC intC r := by simp [flatC]
theorem ints_one {l : List Int} : ∀ u ∈ flatC intC l, u.oneCell' = true := by
  rw [flat_map]; intro u hu
  obtain ⟨x, -, rfl⟩ := List.mem_map.1 hu
  rfl
theorem ints_src {w : World} {b : Option Addr} {n c : Nat} {l : List Int} (h : IntsAt w (.slice b n c) l) : ∀ A, b = some A → ∀ j u, (flatC intC l)[j]? = some u → w.cell? (A.add j) = some u := by
  rintro A rfl j u hu
  obtain ⟨ab, ao, asp⟩ := A
  have hj : j < l.length := by
    rcases Nat.lt_or_ge j l.length with e | e
    · exact e
    · rw [List.getElem?_eq_none (by rw [flatC_len (f := intC) int_len]; omega)] at hu; cases hu
  obtain ⟨b', o', he, -, hc⟩ := IntsAt.part h j hj
  cases he
  rw [flat_at hj] at hu
  cases hu
  rw [show (⟨ab, ao, none⟩ : Addr).add j = ⟨ab, ao + j, none⟩ by simp only [Addr.add]; split <;> simp_all]
  exact hc
theorem ints_none {w : World} {n c : Nat} {l : List Int} (h : IntsAt w (.slice none n c) l) : n = 0 := by
  obtain ⟨a, cap, he, -, hc⟩ := h
  cases he
  rcases Nat.eq_zero_or_pos l.length with e | e
  · exact e
  · obtain ⟨b, off, cs, h5, -⟩ := hc 0 e; cases h5
end Go.Proofs.Ytnlkbboghcdpnaa
