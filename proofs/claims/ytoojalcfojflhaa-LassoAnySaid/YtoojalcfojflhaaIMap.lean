/- Maps whose keys are ints: what they hold, looked up, stored into: run by run, over any program. -/
import Derived.Test.YtoojalcfojflhaaBase
import Derived.Maps.Own
namespace Go.Proofs.Ytoojalcfojflhaa
open Go.RowKit

/-- Block b is a map that holds just these, in the order in which they came. -/
def MapInts (w : World) (b : Nat) (l : List (Int × Value)) : Prop :=
  ∃ es clock, w.heap[b]? = some (.map es clock) ∧ es.toList.map (fun e => (e.key, e.val)) = l.map (fun x => (Value.int .i64 x.1, x.2))
def mfind : List (Int × Value) → Int → Option Value
  | [], _ => none
  | x :: l, k => if x.1 = k then some x.2 else mfind l k
def mput : List (Int × Value) → Int → Value → List (Int × Value)
  | [], k, v => [(k, v)]
  | x :: l, k, v => if x.1 = k then (k, v) :: l else x :: mput l k v
theorem mfind_mput (l : List (Int × Value)) (k : Int) (v : Value) (j : Int) : mfind (mput l k v) j = if k = j then some v else mfind l j := by
  induction l with
  | nil => simp [mput, mfind]
  | cons x l ih =>
    unfold mput
    by_cases h : x.1 = k
    · rw [if_pos h]; simp only [mfind]; subst h; split <;> simp_all
    · rw [if_neg h]; simp only [mfind]; rw [ih]; split <;> split <;> simp_all
theorem MapInts.since {F : Nat → Prop} {w w' : World} {b : Nat} {l : List (Int × Value)} (h : MapInts w b l) (hs : Since F w w') (hf : ¬ F b) : MapInts w' b l := by
  obtain ⟨es, c, h1, h2⟩ := h
  exact ⟨es, c, (hs.block b (lt_of_block h1) hf).trans h1, h2⟩
theorem MapInts.below {w w' : World} {b : Nat} {l : List (Int × Value)} (h : MapInts w b l) (hb : Below w.heap.size w w') : MapInts w' b l := by
  obtain ⟨es, c, h1, h2⟩ := h
  exact ⟨es, c, (hb.block b (lt_of_block h1)).trans h1, h2⟩
theorem MapInts.lt {w : World} {b : Nat} {l : List (Int × Value)} (h : MapInts w b l) : b < w.heap.size := by
  obtain ⟨es, c, h1, h2⟩ := h; exact lt_of_block h1

theorem findNow_ints (q : IntKind) (k : Int) : ∀ (l : List (Int × Value)) (es : List MapEntry) (i : Nat), es.map (fun e => (e.key, e.val)) = l.map (fun x => (Value.int .i64 x.1, x.2)) →
    ∃ r, Instr.findNow (.int q) (.int .i64 k) es i = some r ∧ r.map (·.2) = mfind l k ∧ (∀ j v, r = some (j, v) → i ≤ j ∧ ∃ e, es[j - i]? = some e ∧ e.key = .int .i64 k ∧
      ∀ v' : Value, (es.modify (j - i) (fun e => { e with key := .int .i64 k, val := v' })).map (fun e => (e.key, e.val)) = (mput l k v').map (fun x => (Value.int .i64 x.1, x.2))) ∧
      (r = none → ∀ v' : Value, mput l k v' = l ++ [(k, v')]) := by
  intro l
  induction l with
  | nil =>
    intro es i he
    have : es = [] := by simpa using he
    subst this
    exact ⟨none, rfl, rfl, by simp, by simp [mput]⟩
  | cons x l ih =>
    intro es i he
    cases es with
    | nil => simp at he
    | cons e es =>
      simp only [List.map_cons, List.cons.injEq, Prod.mk.injEq] at he
      obtain ⟨⟨h1, h2⟩, h3⟩ := he
      by_cases hk : x.1 = k
      · refine ⟨some (i, e.val), ?_, ?_, ?_, by simp⟩
        · simp [Instr.findNow, Instr.sameNow, h1, hk]
        · simp [mfind, hk, h2]
        · intro j v hj
          simp only [Option.some.injEq, Prod.mk.injEq] at hj
          obtain ⟨rfl, rfl⟩ := hj
          refine ⟨Nat.le_refl _, e, by simp, by rw [h1, hk], ?_⟩
          intro v'
          simp [mput, hk, h3]
      · obtain ⟨r, g1, g2, g3, g4⟩ := ih es (i + 1) h3
        refine ⟨r, ?_, ?_, ?_, ?_⟩
        · have hk' : (k == x.1) = false := beq_eq_false_iff_ne.2 fun e => hk e.symm
          simp only [Instr.findNow, Instr.sameNow, h1, if_true, hk', g1]
        · simp [mfind, hk, g2]
        · intro j v hj
          obtain ⟨m1, e', m2, m3, m4⟩ := g3 j v hj
          have hji : j - i = (j - (i + 1)) + 1 := by omega
          refine ⟨by omega, e', by rw [hji]; simpa using m2, m3, ?_⟩
          intro v'
          rw [hji]
          simp [mput, hk, h1, h2, m4 v']
        · intro hr v'
          simp [mput, hk, g4 hr v']

section
variable {P : Program} {w : World}
theorem run_checkKey_int (P : Program) (w : World) (em : Bool) (n : Nat) (k : TypeId) (q : IntKind) (hk : P.underlying k = some (.int q)) (v : Value) : (Instr.checkKey em (n + 1) k v).run P w = .ok () w := by
  unfold Instr.checkKey
  simp [run_underlying hk]
theorem run_lookup_ints {b : Nat} {l : List (Int × Value)} (h : MapInts w b l) {t k e : TypeId} {q : IntKind} (ht : P.underlying t = some (.map k e)) (hk : P.underlying k = some (.int q)) {z : Value} (hz : (zeroValue e).run P w = .ok z w) (j : Int) (c : Bool) :
    (Instr.lookup t (.map (some b)) (.int .i64 j) c).run P w = .ok (if c then .tuple #[(mfind l j).getD z, .bool (mfind l j).isSome] else (mfind l j).getD z) w := by
  obtain ⟨es, clock, h1, h2⟩ := h
  obtain ⟨r, g1, g2, -, -⟩ := findNow_ints q j l es.toList 0 h2
  unfold Instr.lookup
  simp only [Sem.run_bind, run_underlying ht, Result.andThen_ok]
  have hgo := MapKept.run_getObj_map (P := P) h1
  simp only [Sem.run_bind, hgo, Result.andThen_ok, Sem.run_pure, run_checkKey_int P w _ 9999 k q hk, Instr.findKey, run_underlying hk, g1]
  cases r with
  | none => simp only [Option.map_none] at g2; simp [← g2, hz]
  | some x => simp only [Option.map_some] at g2; simp [← g2]
theorem run_update_ints {b : Nat} {l : List (Int × Value)} (h : MapInts w b l) {t k e : TypeId} {q : IntKind} (ht : P.underlying t = some (.map k e)) (hk : P.underlying k = some (.int q)) (j : Int) (v : Value) :
    ∃ w', (Instr.mapUpdate t (.map (some b)) (.int .i64 j) v).run P w = .ok () w' ∧ MapInts w' b (mput l j v) ∧ Since (fun k => k = b) w w' ∧ w'.heap.size = w.heap.size := by
  obtain ⟨es, clock, h1, h2⟩ := h
  obtain ⟨r, g1, -, g3, g4⟩ := findNow_ints q j l es.toList 0 h2
  have hlt := lt_of_block h1
  have hgo := MapKept.run_getObj_map (P := P) h1
  have hset : ∀ o : Obj, Since (fun k => k = b) w { w with heap := w.heap.setIfInBounds b o } := fun o =>
    ⟨rfl, rfl, rfl, by simp, fun i _ hi => by
      show (w.heap.setIfInBounds b o)[i]? = _
      rw [Array.getElem?_setIfInBounds_ne (fun e => hi e.symm)]⟩
  have hat : ∀ o : Obj, ({ w with heap := w.heap.setIfInBounds b o } : World).heap[b]? = some o := fun o => by
    show (w.heap.setIfInBounds b o)[b]? = _
    simp [hlt]
  cases r with
  | none =>
    refine ⟨{ w with heap := w.heap.setIfInBounds b (.map (es.push { key := .int .i64 j, val := v, born := clock }) (clock + 1)) }, ?_, ⟨_, _, hat _, ?_⟩, hset _, by simp⟩
    · unfold Instr.mapUpdate
      simp only [Sem.run_bind, run_underlying ht, Result.andThen_ok, hgo, run_checkKey_int P w _ 9999 k q hk, Instr.findKey, run_underlying hk, g1, Sem.run_pure]
      exact MapKept.run_setObj_map _ h1
    · rw [g4 rfl v]; simp [h2]
  | some x =>
    obtain ⟨i, y⟩ := x
    obtain ⟨-, e', m2, m3, m4⟩ := g3 i y rfl
    simp only [Nat.sub_zero] at m2 m4
    have hei : es[i]? = some e' := by simpa using m2
    refine ⟨{ w with heap := w.heap.setIfInBounds b (.map (es.modify i fun e => { e with key := .int .i64 j, val := v }) clock) }, ?_, ⟨_, _, hat _, ?_⟩, hset _, by simp⟩
    · unfold Instr.mapUpdate
      have hks : (Instr.keyThatStays (((es[i]?).map (·.key)).getD (.int .i64 j)) (.int .i64 j)).run P w = .ok (.int .i64 j) w := by
        rw [hei]; simp only [Option.map_some, Option.getD_some, m3, Instr.keyThatStays]
        rw [if_pos (by simp [Instr.sameBits])]
        rfl
      simp only [Sem.run_bind, run_underlying ht, Result.andThen_ok, hgo, run_checkKey_int P w _ 9999 k q hk, Instr.findKey, run_underlying hk, g1, Sem.run_pure, hks]
      exact MapKept.run_setObj_map _ h1
    · have := m4 v
      simpa [Array.toList_modify] using this
end
/-- A store into such a map, written as a literal or not. -/
theorem wpList_insert_ints {P : Program} (w : World) {ops : Array Oper} {rest : List Oper} {o : Oper} {a : Act} {Q : Exit → Act → World → Prop} (hgd : o.guard = none) (m k x : Operand) (t : TypeId) (ho : o.op = .insert t m k x)
    (key e : TypeId) (q : IntKind) (ht : P.underlying t = some (.map key e)) (hk : P.underlying key = some (.int q)) (b : Nat) (l : List (Int × Value)) (hm : a.eval m = .map (some b)) (j : Int) (hj : a.eval k = .int .i64 j) (v : Value) (hv : a.eval x = v) (h : MapInts w b l)
    (hK : ∀ w', MapInts w' b (mput l j v) → Since (fun k => k = b) w w' → w'.heap.size = w.heap.size → wpList P ops Q rest (a.put o.dst undef) w') : wpList P ops Q (o :: rest) a w := by
  refine wpList_plain hgd fun K' hK' => ?_
  obtain ⟨w', hrun, r1, r2, r3⟩ := run_update_ints (P := P) h ht hk j v
  unfold Oper.wp
  simp [execOp, ho, hm, hj, hv, hrun, Result.andThen]
  exact hK' _ _ (hK w' r1 r2 r3)
theorem wpList_update_ints {P : Program} (w : World) {ops : Array Oper} {rest : List Oper} {o : Oper} {a : Act} {Q : Exit → Act → World → Prop} (hgd : o.guard = none) (m k x : Operand) (t : TypeId) (ho : o.op = .mapUpdate t m k x)
    (key e : TypeId) (q : IntKind) (ht : P.underlying t = some (.map key e)) (hk : P.underlying key = some (.int q)) (b : Nat) (l : List (Int × Value)) (hm : a.eval m = .map (some b)) (j : Int) (hj : a.eval k = .int .i64 j) (v : Value) (hv : a.eval x = v) (h : MapInts w b l)
    (hK : ∀ w', MapInts w' b (mput l j v) → Since (fun k => k = b) w w' → w'.heap.size = w.heap.size → wpList P ops Q rest (a.put o.dst undef) w') : wpList P ops Q (o :: rest) a w := by
  refine wpList_plain hgd fun K' hK' => ?_
  obtain ⟨w', hrun, r1, r2, r3⟩ := run_update_ints (P := P) h ht hk j v
  unfold Oper.wp
  simp [execOp, ho, hm, hj, hv, hrun, Result.andThen]
  exact hK' _ _ (hK w' r1 r2 r3)
end Go.Proofs.Ytoojalcfojflhaa
