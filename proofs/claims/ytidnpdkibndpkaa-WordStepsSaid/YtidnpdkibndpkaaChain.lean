/- A region that draws its order: calls in a row beside allocs: each call once, whichever way the allocs come between. -/
import Derived.Deep.RegionHeld3
import Derived.Test.YtidnpdkibndpkaaBase
namespace Go.Proofs.Ytidnpdkibndpkaa
open Go.RowKit

section
variable {P : Program} {ops : Array Oper} {Q : Exit → Act → World → Prop} {md : Region.Mode} {S : World → Prop}

/-- A value that is put already makes no difference to an operation apart. -/
theorem wpOp_puts {j : Nat} {oi oj : Oper} {v : Value} (hj : ops[j]? = some oj) (hap : oi.apart ops oj = true) (hsj : ∀ cs b, oj.op ≠ .select cs b)
    (hQ : ∀ c a w, Q (.panic c) a w → Q (.panic c) (a.put oi.dst v) w) {K : Act → World → Prop} {a : Act} {w : World}
    (h : wpOp P ops Q j (fun a' w' => K (a'.put oi.dst v) w') a w) : wpOp P ops Q j K (a.put oi.dst v) w := by
  obtain ⟨h1, h2, -⟩ := Oper.apart_spec hap
  unfold wpOp at *
  simp only [hj] at *
  rw [wanted_put oj a oi.dst v h1]
  split
  · rename_i hw
    simp only [hw, if_true] at h
    rcases h with h | ⟨hasks, hlets⟩
    case inr => exact .inr ⟨by unfold Oper.asks at *; rw [execOp_put oj hsj a oi.dst v h1]; exact hasks, hlets⟩
    refine .inl ?_
    unfold Oper.wp at *
    rw [execOp_put oj hsj a oi.dst v h1]
    generalize (execOp a.eval oj).run P w = r at *
    cases r with
    | ok n w' =>
      cases n <;> simp only [Oper.upon] at h ⊢
      case value u => rw [Act.put_comm a v u h2]; exact h
      case skip => rw [Act.put_comm a v undef h2]; exact h
      case defer d => rw [Act.put_defers, Act.put_comm _ v undef h2]; exact h
      case enter f args =>
        refine Calls.mono h fun e w'' he => ?_
        cases e with
        | returned u => show K _ _; rw [Act.put_comm a v u h2]; exact he
        | panicked c => exact hQ _ _ _ he
        | outgrown => exact he
      case row row args => exact Rows.mono h fun u w'' he => by rw [Act.put_comm a v u h2]; exact he
    | halt x w' =>
      cases x <;> simp only [Oper.upon] at h ⊢
      case panic u => exact hQ _ _ _ h
  · rename_i hw
    simp only [hw] at h
    rw [Act.put_comm a v undef h2]; exact h

/-- The blocks that the allocs have taken, by their numbers: none: not yet. -/
abbrev Taken := Nat → Option Nat
def Taken.set (A : Taken) (j B : Nat) : Taken := fun i => if i = j then some B else A i
/-- A state behind the calls, with the allocs' pointers put in. -/
def actOf (ds : Nat → Option Tmp) (A : Taken) : List Nat → Act → Act
  | [], a => a
  | j :: l, a => actOf ds A l (match A j with | some B => a.put (ds j) (.pointer (some ⟨B, 0, none⟩)) | none => a)
theorem actOf_put {ds : Nat → Option Tmp} {A : Taken} {x : Option Tmp} {v : Value} (l : List Nat) (h : ∀ j ∈ l, ∀ d, x = some d → ds j ≠ some d) (a : Act) : actOf ds A l (a.put x v) = (actOf ds A l a).put x v := by
  induction l generalizing a with
  | nil => rfl
  | cons j l ih =>
    simp only [actOf]
    cases A j with
    | none => exact ih (fun i hi => h i (by simp [hi])) a
    | some B =>
      simp only []
      rw [Act.put_comm a v _ (h j (by simp)), ih (fun i hi => h i (by simp [hi]))]
theorem actOf_congr {ds : Nat → Option Tmp} {A A' : Taken} (l : List Nat) (h : ∀ j ∈ l, A j = A' j) (a : Act) : actOf ds A l a = actOf ds A' l a := by
  induction l generalizing a with
  | nil => rfl
  | cons j l ih => simp only [actOf]; rw [h j (by simp), ih (fun i hi => h i (by simp [hi]))]
theorem actOf_set {ds : Nat → Option Tmp} {A : Taken} {j B : Nat} (l : List Nat) (hn : l.Nodup) (hj : j ∈ l) (hA : A j = none) (hd : ∀ i ∈ l, i ≠ j → ∀ d, ds j = some d → ds i ≠ some d) (a : Act) :
    actOf ds (A.set j B) l a = (actOf ds A l a).put (ds j) (.pointer (some ⟨B, 0, none⟩)) := by
  induction l generalizing a with
  | nil => simp at hj
  | cons i l ih =>
    rw [List.nodup_cons] at hn
    simp only [actOf]
    by_cases h : i = j
    · subst h
      rw [hA, show (A.set i B) i = some B from by simp [Taken.set]]
      simp only []
      rw [actOf_put l (fun k hk => hd k (by simp [hk]) (by rintro rfl; exact hn.1 hk))]
      rw [actOf_congr (A := A.set i B) (A' := A) l (fun k hk => by have : k ≠ i := by rintro rfl; exact hn.1 hk
                                                                   simp [Taken.set, this])]
    · have hjl : j ∈ l := by
        rcases List.mem_cons.1 hj with e | e
        · exact absurd e.symm h
        · exact e
      rw [show (A.set j B) i = A i from by simp [Taken.set, h]]
      exact ih hn.2 hjl (fun k hk => hd k (by simp [hk])) _
/-- What has come up: so many calls, and these allocs. -/
def listedOf (n : Nat) (L0 : Array Bool) (cs bs : List Nat) (m : Nat) (bits : List Bool) : Array Bool :=
  ((List.range n).map fun i => L0.getD i false || (cs.take m).contains i || (bs.zip bits).any (fun q => q.1 == i && q.2)).toArray
/-- Is the region so: at each point the next call may come up, and any alloc that has not yet; nothing else before all have. -/
def chainB (md : Region.Mode) (ops : Array Oper) (L0 : Array Bool) (cs bs : List Nat) (all : List (List Bool)) : Bool :=
  (List.range (cs.length + 1)).all fun m => all.all fun bits =>
    (decide (m = cs.length) && bits.all id) || (!(Region.ready md ops (listedOf ops.size L0 cs bs m bits)).isEmpty &&
      (Region.ready md ops (listedOf ops.size L0 cs bs m bits)).all fun i => (decide (m < cs.length) && cs.getD m 0 == i) || (bs.zip bits).any (fun q => q.1 == i && !q.2))
def allBits : Nat → List (List Bool)
  | 0 => [[]]
  | k + 1 => (allBits k).flatMap fun l => [false :: l, true :: l]
theorem mem_allBits (l : List Bool) : l ∈ allBits l.length := by
  induction l with
  | nil => simp [allBits]
  | cons b l ih =>
    simp only [List.length_cons, allBits, List.mem_flatMap]
    exact ⟨l, ih, by cases b <;> simp⟩
def Taken.bits (A : Taken) (k : Nat) : List Bool := (List.range k).map fun j => (A j).isSome
def Taken.left (A : Taken) : List Nat → Nat
  | [] => 0
  | j :: l => (if (A j).isNone then 1 else 0) + A.left l
theorem left_congr {A A' : Taken} (l : List Nat) (h : ∀ j ∈ l, A j = A' j) : A.left l = A'.left l := by
  induction l with
  | nil => rfl
  | cons j l ih => simp only [Taken.left]; rw [h j (by simp), ih (fun i hi => h i (by simp [hi]))]
theorem left_set {A : Taken} {j B : Nat} (l : List Nat) (hn : l.Nodup) (hj : j ∈ l) (hA : A j = none) : A.left l = (A.set j B).left l + 1 := by
  induction l with
  | nil => simp at hj
  | cons i l ih =>
    rw [List.nodup_cons] at hn
    simp only [Taken.left]
    by_cases h : i = j
    · subst h
      rw [hA, show (A.set i B) i = some B from by simp [Taken.set], left_congr (A := A.set i B) (A' := A) l (fun k hk => by
        have : k ≠ i := by rintro rfl; exact hn.1 hk
        simp [Taken.set, this])]
      simp; omega
    · have hjl : j ∈ l := by
        rcases List.mem_cons.1 hj with e | e
        · exact absurd e.symm h
        · exact e
      rw [show (A.set j B) i = A i from by simp [Taken.set, h], ih hn.2 hjl]; omega
theorem left_zero {A : Taken} (l : List Nat) (h : A.left l = 0) : ∀ j ∈ l, ∃ B, A j = some B := by
  induction l with
  | nil => intro j hj; simp at hj
  | cons i l ih =>
    simp only [Taken.left] at h
    intro j hj
    rcases List.mem_cons.1 hj with rfl | e
    · cases hA : A j with
      | none => rw [hA] at h; simp at h
      | some B => exact ⟨B, rfl⟩
    · exact ih (by omega) j e
theorem left_pos {A : Taken} (l : List Nat) (j : Nat) (hj : j ∈ l) (h : A j = none) : 0 < A.left l := by
  induction l with
  | nil => simp at hj
  | cons i l ih =>
    simp only [Taken.left]
    rcases List.mem_cons.1 hj with rfl | e
    · rw [h]; simp; omega
    · have := ih e; omega
theorem zip_any {bs : List Nat} {bits : List Bool} {q : Nat × Bool → Bool} (h : (bs.zip bits).any q = true) : ∃ j, j < bs.length ∧ j < bits.length ∧ q (bs.getD j 0, bits.getD j false) = true := by
  obtain ⟨x, hx, hq⟩ := List.any_eq_true.1 h
  obtain ⟨j, hj, he⟩ := List.getElem_of_mem hx
  have hl : j < bs.length ∧ j < bits.length := by rw [List.length_zip] at hj; omega
  refine ⟨j, hl.1, hl.2, ?_⟩
  rw [← hq, ← he]
  simp [List.getD_eq_getElem?_getD, List.getElem?_eq_getElem hl.1, List.getElem?_eq_getElem hl.2]
theorem any_zip {bs : List Nat} {bits : List Bool} {q : Nat × Bool → Bool} {j : Nat} (h1 : j < bs.length) (h2 : j < bits.length) (h : q (bs.getD j 0, bits.getD j false) = true) : (bs.zip bits).any q = true := by
  rw [List.any_eq_true]
  have hl : j < (bs.zip bits).length := by rw [List.length_zip]; omega
  refine ⟨(bs.zip bits)[j], List.getElem_mem hl, ?_⟩
  simpa [List.getD_eq_getElem?_getD, List.getElem?_eq_getElem h1, List.getElem?_eq_getElem h2] using h
theorem bits_len (A : Taken) (k : Nat) : (A.bits k).length = k := by simp [Taken.bits]
theorem bits_get (A : Taken) {k j : Nat} (h : j < k) : (A.bits k).getD j false = (A j).isSome := by
  simp [Taken.bits, List.getD_eq_getElem?_getD, h]
theorem listed_get {n : Nat} {L0 : Array Bool} {cs bs : List Nat} {m : Nat} {bits : List Bool} {i : Nat} (h : i < n) : (listedOf n L0 cs bs m bits)[i]? = some (L0.getD i false || (cs.take m).contains i || (bs.zip bits).any (fun q => q.1 == i && q.2)) := by
  simp [listedOf, h]
theorem listed_call {n : Nat} {L0 : Array Bool} {cs bs : List Nat} {m : Nat} {bits : List Bool} (hm : m < cs.length) : (listedOf n L0 cs bs m bits).setIfInBounds (cs.getD m 0) true = listedOf n L0 cs bs (m + 1) bits := by
  have hs : ∀ m, (listedOf n L0 cs bs m bits).size = n := fun m => by simp [listedOf]
  apply Array.ext_getElem?
  intro i
  rw [Array.getElem?_setIfInBounds]
  by_cases hi : i < n
  · have htk : cs.take (m + 1) = cs.take m ++ [cs.getD m 0] := by
      rw [List.take_succ_eq_append_getElem hm]; simp [List.getD_eq_getElem?_getD, List.getElem?_eq_getElem hm]
    rw [listed_get hi, listed_get hi, htk]
    split
    · rename_i e; subst e; rw [if_pos (by rw [hs]; exact hi)]; simp
    · rename_i e
      congr 1; congr 1; congr 1
      rw [Bool.eq_iff_iff]; simp only [List.contains_iff_mem, List.mem_append, List.mem_singleton]
      exact ⟨.inl, fun h => h.elim id (fun h => absurd h.symm e)⟩
  · rw [Array.getElem?_eq_none (by rw [hs]; omega), Array.getElem?_eq_none (by rw [hs]; omega)]
    split
    · rename_i e; rw [if_neg (by rw [hs]; omega)]
    · rfl
theorem listed_alloc {n : Nat} {L0 : Array Bool} {cs bs : List Nat} {m : Nat} {A : Taken} {j B : Nat} (hj : j < bs.length) : (listedOf n L0 cs bs m (A.bits bs.length)).setIfInBounds (bs.getD j 0) true = listedOf n L0 cs bs m ((A.set j B).bits bs.length) := by
  have hs : ∀ bits, (listedOf n L0 cs bs m bits).size = n := fun m => by simp [listedOf]
  apply Array.ext_getElem?
  intro i
  rw [Array.getElem?_setIfInBounds]
  by_cases hi : i < n
  · rw [listed_get hi, listed_get hi]
    split
    · rename_i e
      rw [if_pos (by rw [hs]; omega)]
      have : (bs.zip ((A.set j B).bits bs.length)).any (fun q => q.1 == i && q.2) = true := by
        refine any_zip (j := j) hj (by rw [bits_len]; exact hj) ?_
        rw [bits_get _ hj, e]; simp [Taken.set]
      rw [this]; simp
    · rename_i e
      congr 1; congr 1
      rw [Bool.eq_iff_iff]
      constructor
      · intro h
        obtain ⟨k, hk1, hk2, hq⟩ := zip_any h
        refine any_zip (j := k) hk1 (by rw [bits_len]; exact hk1) ?_
        rw [bits_get _ hk1] at hq ⊢
        simp only [Bool.and_eq_true, beq_iff_eq] at hq ⊢
        refine ⟨hq.1, ?_⟩
        unfold Taken.set; split
        · rfl
        · exact hq.2
      · intro h
        obtain ⟨k, hk1, hk2, hq⟩ := zip_any h
        refine any_zip (j := k) hk1 (by rw [bits_len]; exact hk1) ?_
        rw [bits_get _ hk1] at hq ⊢
        simp only [Bool.and_eq_true, beq_iff_eq] at hq ⊢
        refine ⟨hq.1, ?_⟩
        have hkj : k ≠ j := by rintro rfl; exact e hq.1
        have := hq.2
        unfold Taken.set at this; rw [if_neg hkj] at this; exact this
  · rw [Array.getElem?_eq_none (by rw [hs]; omega), Array.getElem?_eq_none (by rw [hs]; omega)]
    split
    · rename_i e; rw [if_neg (by rw [hs]; omega)]
    · rfl
def apartB (ops : Array Oper) (cs bs : List Nat) : Bool := bs.all fun b => cs.all fun c => match ops[b]?, ops[c]? with | some x, some y => x.apart ops y | _, _ => false
/-- The allocs' temporaries. -/
def dstOf (ops : Array Oper) (bs : List Nat) (j : Nat) : Option Tmp := (ops[bs.getD j 0]?).bind (·.dst)
def dstsB (ops : Array Oper) (bs : List Nat) : Bool := (List.range bs.length).all fun i => (List.range bs.length).all fun j => decide (i = j) || match dstOf ops bs i, dstOf ops bs j with | some x, some y => decide (x ≠ y) | _, _ => false
theorem wpOp_actOf {cs bs : List Nat} {m : Nat} (hm : m < cs.length) (hap : apartB ops cs bs = true) (hsel : Region.noSelect ops = true) (hQ : ∀ c a x v w, Q (.panic c) a w → Q (.panic c) (a.put x v) w) {A : Taken} (l : List Nat) (hl : ∀ j ∈ l, j < bs.length) :
    ∀ {K : Act → World → Prop} {a : Act} {w : World}, wpOp P ops Q (cs.getD m 0) (fun a' w' => K (actOf (dstOf ops bs) A l a') w') a w → wpOp P ops Q (cs.getD m 0) K (actOf (dstOf ops bs) A l a) w := by
  induction l with
  | nil => exact fun h => h
  | cons j l ih =>
    intro K a w h
    simp only [actOf] at h ⊢
    cases hA : A j with
    | none => simp only [hA] at h ⊢; exact ih (fun i hi => hl i (by simp [hi])) h
    | some B =>
      simp only [hA] at h ⊢
      apply ih (fun i hi => hl i (by simp [hi]))
      have hj := hl j (by simp)
      have h1 := List.all_eq_true.1 hap (bs.getD j 0) (by rw [List.getD_eq_getElem?_getD, List.getElem?_eq_getElem hj]; exact List.getElem_mem hj)
      have h2 := List.all_eq_true.1 h1 (cs.getD m 0) (by rw [List.getD_eq_getElem?_getD, List.getElem?_eq_getElem hm]; exact List.getElem_mem hm)
      cases hb : ops[bs.getD j 0]? with
      | none => rw [hb] at h2; cases h2
      | some oi =>
        cases hc : ops[cs.getD m 0]? with
        | none => rw [hb, hc] at h2; cases h2
        | some oj =>
          rw [hb, hc] at h2
          have hd : dstOf ops bs j = oi.dst := by unfold dstOf; rw [hb]; rfl
          rw [hd] at h ⊢
          exact wpOp_puts hc h2 (fun cs b => Region.noSelect_spec hsel _ oj cs b hc) (fun c a w => hQ c a _ _ w) h
/-- Each call once, whichever way the allocs come between. -/
theorem chain_law {L0 : Array Bool} {cs bs : List Nat} {obj : Nat → Obj} {J : Nat → (Nat → Prop) → Act → World → Prop} {f base : Nat}
    (hB : chainB md ops L0 cs bs (allBits bs.length) = true) (hap : apartB ops cs bs = true) (hdd : dstsB ops bs = true) (hsel : Region.noSelect ops = true)
    (hQ : ∀ c a x v w, Q (.panic c) a w → Q (.panic c) (a.put x v) w) (hS : ∀ m U a w, J m U a w → S w)
    (hcall : ∀ m, m < cs.length → ∀ U a w, J m U a w → (∀ b, U b → b < w.heap.size) → wpOp P ops Q (cs.getD m 0) (fun a' w' => J (m + 1) U a' w' ∧ w.heap.size ≤ w'.heap.size ∧ ∀ b, U b → w'.heap[b]? = w.heap[b]?) a w)
    (hall : ∀ j, j < bs.length → ∀ K a w, K (a.put (dstOf ops bs j) (.pointer (some ⟨w.heap.size, 0, none⟩))) (w.alloc (obj j)) → wpOp P ops Q (bs.getD j 0) K a w)
    (hjunk : ∀ m U a w o, J m U a w → J m (fun b => U b ∨ b = w.heap.size) a (w.alloc o))
    (hend : ∀ (B : Nat → Nat) (U : Nat → Prop) a w, J cs.length U a w → (∀ j, j < bs.length → U (B j) ∧ base ≤ B j ∧ w.heap[B j]? = some (obj j)) → (∀ i j, i < bs.length → j < bs.length → B i = B j → i = j) →
      wpAnyH P md ops Q S f (listedOf ops.size L0 cs bs cs.length (List.replicate bs.length true)) (actOf (dstOf ops bs) (fun j => some (B j)) (List.range bs.length) a) w)
    {a : Act} {w : World} (h0 : J 0 (fun _ => False) a w) (hbase : base ≤ w.heap.size) :
    wpAnyH P md ops Q S (f + (cs.length + bs.length)) (listedOf ops.size L0 cs bs 0 (List.replicate bs.length false)) a w := by
  have main : ∀ (N m : Nat) (A : Taken) (a : Act) (w : World), m ≤ cs.length → N = (cs.length - m) + A.left (List.range bs.length) → base ≤ w.heap.size →
      J m (fun b => ∃ j, j < bs.length ∧ A j = some b) a w →
      (∀ j, j < bs.length → ∀ B, A j = some B → base ≤ B ∧ w.heap[B]? = some (obj j) ∧ ∀ i, i < bs.length → A i = some B → i = j) →
      wpAnyH P md ops Q S (f + N) (listedOf ops.size L0 cs bs m (A.bits bs.length)) (actOf (dstOf ops bs) A (List.range bs.length) a) w := by
    intro N
    induction N with
    | zero =>
      intro m A a w hm hN hb hJ hA
      obtain rfl : m = cs.length := by omega
      have hz := left_zero (List.range bs.length) (A := A) (by omega)
      have hAe : ∀ j ∈ List.range bs.length, A j = (fun j => some ((A j).getD 0)) j := fun j hj => by obtain ⟨B, h⟩ := hz j hj; simp [h]
      have hbits : A.bits bs.length = List.replicate bs.length true := by
        apply List.ext_getElem
        · simp [Taken.bits]
        · intro i h1 h2
          obtain ⟨B, h⟩ := hz i (by simpa [Taken.bits] using h1)
          simp [Taken.bits, h]
      rw [hbits, actOf_congr _ hAe]
      refine hend (fun j => (A j).getD 0) _ a w hJ (fun j hj => ?_) (fun i j hi hj he => ?_)
      · obtain ⟨B, h⟩ := hz j (by simpa using hj)
        obtain ⟨e1, e2, -⟩ := hA j hj B h
        simp only [h, Option.getD_some]
        exact ⟨⟨j, hj, h⟩, e1, e2⟩
      · obtain ⟨B, h⟩ := hz j (by simpa using hj)
        obtain ⟨C, h'⟩ := hz i (by simpa using hi)
        simp only [h, h', Option.getD_some] at he
        subst he
        exact (hA j hj C h).2.2 i hi h'
    | succ N ih =>
      intro m A a w hm hN hb hJ hA
      have hc := List.all_eq_true.1 (List.all_eq_true.1 hB m (by simp; omega)) (A.bits bs.length) (by have := mem_allBits (A.bits bs.length); rw [bits_len] at this; exact this)
      have hnot : (decide (m = cs.length) && (A.bits bs.length).all id) = false := by
        rw [Bool.and_eq_false_iff]
        by_cases h1 : m = cs.length
        · right
          rw [Bool.eq_false_iff]
          intro h2
          have : A.left (List.range bs.length) = 0 := by
            rcases Nat.eq_zero_or_pos (A.left (List.range bs.length)) with h | h
            · exact h
            · exfalso
              have h3 : ∀ l : List Nat, (∀ j ∈ l, j < bs.length) → A.left l = 0 := by
                intro l
                induction l with
                | nil => intro _; rfl
                | cons j l ihl =>
                  intro hl
                  simp only [Taken.left]
                  have hj := hl j (by simp)
                  have := List.all_eq_true.1 h2 ((A.bits bs.length).getD j false) (by rw [List.getD_eq_getElem?_getD, List.getElem?_eq_getElem (by rw [bits_len]; exact hj)]; exact List.getElem_mem _)
                  rw [bits_get _ hj] at this
                  rw [ihl (fun i hi => hl i (by simp [hi]))]
                  cases hA' : A j with
                  | none => rw [hA'] at this; cases this
                  | some B => simp
              have := h3 (List.range bs.length) (by simp)
              omega
          omega
        · left; simpa using h1
      rw [hnot, Bool.false_or, Bool.and_eq_true] at hc
      obtain ⟨hne, hready⟩ := hc
      have hlt : ∀ b, (∃ j, j < bs.length ∧ A j = some b) → b < w.heap.size := by
        rintro b ⟨j, hj, h⟩
        exact lt_of_block (hA j hj b h).2.1
      refine ⟨fun h => (by rw [h] at hne; cases hne), fun i hi => ?_⟩
      have hi' := List.all_eq_true.1 hready i hi
      rw [Bool.or_eq_true] at hi'
      rcases hi' with hi' | hi'
      · rw [Bool.and_eq_true] at hi'
        have hml : m < cs.length := by simpa using hi'.1
        obtain rfl : cs.getD m 0 = i := by simpa using hi'.2
        refine wpOp_actOf hml hap hsel hQ _ (by simp) ?_
        refine wpOp_mono (fun a' w' hk => ?_) (hcall m hml _ a w hJ hlt)
        obtain ⟨hJ', hbs, hbl⟩ := hk
        refine ⟨hS _ _ _ _ hJ', ?_⟩
        rw [listed_call hml]
        exact ih (m + 1) A a' w' hml (by omega) (Nat.le_trans hb hbs) hJ' (fun j hj B h => by
          obtain ⟨e1, e2, e3⟩ := hA j hj B h
          exact ⟨e1, (hbl _ ⟨j, hj, h⟩).trans e2, e3⟩)
      · obtain ⟨j, hj, -, hq⟩ := zip_any hi'
        rw [bits_get _ hj] at hq
        simp only [Bool.and_eq_true, beq_iff_eq, Bool.not_eq_true', Option.isSome_eq_false_iff, Option.isNone_iff_eq_none] at hq
        obtain ⟨rfl, hAj⟩ := hq
        refine hall j hj _ _ _ ?_
        have hU : (fun b => (∃ i, i < bs.length ∧ A i = some b) ∨ b = w.heap.size) = fun b => ∃ i, i < bs.length ∧ (A.set j w.heap.size) i = some b := by
          funext b
          apply propext
          constructor
          · rintro (⟨i, hi, h⟩ | rfl)
            · exact ⟨i, hi, by unfold Taken.set; rw [if_neg (by rintro rfl; rw [hAj] at h; cases h)]; exact h⟩
            · exact ⟨j, hj, by simp [Taken.set]⟩
          · rintro ⟨i, hi, h⟩
            unfold Taken.set at h
            split at h
            · right; cases h; rfl
            · exact .inl ⟨i, hi, h⟩
        have hJ' := hjunk m _ a w (obj j) hJ
        rw [hU] at hJ'
        refine ⟨hS _ _ _ _ hJ', ?_⟩
        rw [listed_alloc (B := w.heap.size) hj, ← actOf_set (List.range bs.length) List.nodup_range (by simpa using hj) hAj (fun i hi hne d hd => by
          have := List.all_eq_true.1 (List.all_eq_true.1 hdd i (by simpa using hi)) j (by simpa using hj)
          rw [Bool.or_eq_true, decide_eq_true_eq] at this
          rcases this with e | e
          · exact absurd e hne
          · rw [hd] at e
            intro h; rw [h] at e; simp at e)]
        refine ih m (A.set j w.heap.size) a _ hm ?_ ?_ hJ' ?_
        · have := left_set (B := w.heap.size) (List.range bs.length) List.nodup_range (by simpa using hj) hAj; omega
        · rw [World.size_alloc]; omega
        · intro i hi B h
          unfold Taken.set at h
          split at h
          · rename_i e; subst e
            cases h
            refine ⟨hb, heap_alloc_new w _, fun k hk h => ?_⟩
            unfold Taken.set at h
            split at h
            · assumption
            · have := hlt _ ⟨k, hk, h⟩; omega
          · rename_i e
            obtain ⟨e1, e2, e3⟩ := hA i hi B h
            have hBl := lt_of_block e2
            refine ⟨e1, (Below.heap_alloc _ _ _ hBl).trans e2, fun k hk h => ?_⟩
            unfold Taken.set at h
            split at h
            · rename_i e'; cases h; omega
            · exact e3 k hk h
  have := main (cs.length + bs.length) 0 (fun _ => none) a w (by omega) (by
    have : ∀ l : List Nat, Taken.left (fun _ => none) l = l.length := by
      intro l; induction l with
      | nil => rfl
      | cons j l ih => simp only [Taken.left]; rw [ih]; simp; omega
    rw [this]; simp) hbase (by
      have : (fun b => ∃ j, j < bs.length ∧ (fun _ => none : Taken) j = some b) = (fun _ => False) := by funext b; simp
      rw [this]; exact h0) (fun j _ B h => by cases h)
  have hb : Taken.bits (fun _ => none) bs.length = List.replicate bs.length false := by
    apply List.ext_getElem
    · simp [Taken.bits]
    · intro i h1 h2; simp [Taken.bits]
  rw [hb] at this
  have ha : actOf (dstOf ops bs) (fun _ => none) (List.range bs.length) a = a := by
    have : ∀ (l : List Nat) (a : Act), actOf (dstOf ops bs) (fun _ => none) l a = a := by
      intro l; induction l with
      | nil => intro a; rfl
      | cons j l ih => intro a; simp only [actOf]; exact ih a
    exact this _ _
  rw [ha] at this
  exact this
/-- Likewise, with what has come up, and how many are left, as the walk has them. -/
theorem chain_at {L0 : Array Bool} {cs bs : List Nat} {obj : Nat → Obj} {J : Nat → (Nat → Prop) → Act → World → Prop} {fuel : Nat} {listed : Array Bool} (f base : Nat) {a : Act} {w : World} (hl : listed = listedOf ops.size L0 cs bs 0 (List.replicate bs.length false)) (hf : fuel = f + (cs.length + bs.length))
    (hB : chainB md ops L0 cs bs (allBits bs.length) = true) (hap : apartB ops cs bs = true) (hdd : dstsB ops bs = true) (hsel : Region.noSelect ops = true)
    (hQ : ∀ c a x v w, Q (.panic c) a w → Q (.panic c) (a.put x v) w) (hS : ∀ m U a w, J m U a w → S w)
    (h0 : J 0 (fun _ => False) a w) (hbase : base ≤ w.heap.size)
    (hjunk : ∀ m U a w o, J m U a w → J m (fun b => U b ∨ b = w.heap.size) a (w.alloc o))
    (hall : ∀ j, j < bs.length → ∀ K a w, K (a.put (dstOf ops bs j) (.pointer (some ⟨w.heap.size, 0, none⟩))) (w.alloc (obj j)) → wpOp P ops Q (bs.getD j 0) K a w)
    (hcall : ∀ m, m < cs.length → ∀ U a w, J m U a w → (∀ b, U b → b < w.heap.size) → wpOp P ops Q (cs.getD m 0) (fun a' w' => J (m + 1) U a' w' ∧ Below w.heap.size w w') a w)
    (hend : ∀ (B : Nat → Nat) (U : Nat → Prop) a w, J cs.length U a w → (∀ j, j < bs.length → U (B j) ∧ base ≤ B j ∧ w.heap[B j]? = some (obj j)) → (∀ i j, i < bs.length → j < bs.length → B i = B j → i = j) →
      wpAnyH P md ops Q S f (listedOf ops.size L0 cs bs cs.length (List.replicate bs.length true)) (actOf (dstOf ops bs) (fun j => some (B j)) (List.range bs.length) a) w) :
    wpAnyH P md ops Q S fuel listed a w := by
  rw [hl, hf]
  exact chain_law hB hap hdd hsel hQ hS (fun m hm U a w hJ hU => wpOp_mono (fun _ _ h => ⟨h.1, h.2.size, fun b hb => h.2.block b (hU b hb)⟩) (hcall m hm U a w hJ hU)) hall hjunk hend h0 hbase
/-- Likewise, where a call may write what is not the allocs'. -/
theorem chain_since {L0 : Array Bool} {cs bs : List Nat} {obj : Nat → Obj} {J : Nat → (Nat → Prop) → Act → World → Prop} {fuel : Nat} {listed : Array Bool} (f base : Nat) {a : Act} {w : World} (hl : listed = listedOf ops.size L0 cs bs 0 (List.replicate bs.length false)) (hf : fuel = f + (cs.length + bs.length))
    (hB : chainB md ops L0 cs bs (allBits bs.length) = true) (hap : apartB ops cs bs = true) (hdd : dstsB ops bs = true) (hsel : Region.noSelect ops = true)
    (hQ : ∀ c a x v w, Q (.panic c) a w → Q (.panic c) (a.put x v) w) (hS : ∀ m U a w, J m U a w → S w)
    (h0 : J 0 (fun _ => False) a w) (hbase : base ≤ w.heap.size)
    (hjunk : ∀ m U a w o, J m U a w → J m (fun b => U b ∨ b = w.heap.size) a (w.alloc o))
    (hall : ∀ j, j < bs.length → ∀ K a w, K (a.put (dstOf ops bs j) (.pointer (some ⟨w.heap.size, 0, none⟩))) (w.alloc (obj j)) → wpOp P ops Q (bs.getD j 0) K a w)
    (hcall : ∀ m, m < cs.length → ∀ U a w, J m U a w → (∀ b, U b → b < w.heap.size) → wpOp P ops Q (cs.getD m 0) (fun a' w' => J (m + 1) U a' w' ∧ w.heap.size ≤ w'.heap.size ∧ ∀ b, U b → w'.heap[b]? = w.heap[b]?) a w)
    (hend : ∀ (B : Nat → Nat) (U : Nat → Prop) a w, J cs.length U a w → (∀ j, j < bs.length → U (B j) ∧ base ≤ B j ∧ w.heap[B j]? = some (obj j)) → (∀ i j, i < bs.length → j < bs.length → B i = B j → i = j) →
      wpAnyH P md ops Q S f (listedOf ops.size L0 cs bs cs.length (List.replicate bs.length true)) (actOf (dstOf ops bs) (fun j => some (B j)) (List.range bs.length) a) w) :
    wpAnyH P md ops Q S fuel listed a w := by
  rw [hl, hf]
  exact chain_law hB hap hdd hsel hQ hS hcall hall hjunk hend h0 hbase
end
end Go.Proofs.Ytidnpdkibndpkaa
