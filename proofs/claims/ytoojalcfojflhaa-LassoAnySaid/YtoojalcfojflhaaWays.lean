/- Ways through a graph, step by step: plain laws. -/
import Derived.Test.YtoojalcfojflhaaAccept
import Derived.Test.YtoojalcfojflhaaReachN
import Derived.Test.YtoojalcfojflhaaTarjanEnd
namespace Go.Proofs.Ytoojalcfojflhaa
open Go.RowKit

/-- Where an edge leads. -/
def GraphD.toOf (g : GraphD) (a k : Nat) : Nat := ((g.edges.getD a []).getD k default).to.toNat
def GraphD.has (g : GraphD) (a k : Nat) : Prop := k < (g.edges.getD a []).length
def GraphD.markOf (g : GraphD) (a k : Nat) : Int := ((g.edges.getD a []).getD k default).marks
/-- Edges, one behind the other. -/
inductive Way (g : GraphD) (may : Nat → Bool) : Nat → List (Nat × Nat) → Nat → Prop
  | nil (a : Nat) : Way g may a [] a
  | cons {a k b : Nat} {l : List (Nat × Nat)} (hk : g.has a k) (hm : may (g.toOf a k) = true) (r : Way g may (g.toOf a k) l b) : Way g may a ((a, k) :: l) b
theorem Way.append {g : GraphD} {may : Nat → Bool} {a b c : Nat} {l r : List (Nat × Nat)} (h : Way g may a l b) (k : Way g may b r c) : Way g may a (l ++ r) c := by
  induction h with
  | nil a => exact k
  | cons h1 h2 _ ih => exact .cons h1 h2 (ih k)
theorem Way.one {g : GraphD} {may : Nat → Bool} {a k : Nat} (hk : g.has a k) (hm : may (g.toOf a k) = true) : Way g may a [(a, k)] (g.toOf a k) := .cons hk hm (.nil _)
theorem Way.mono {g : GraphD} {may may' : Nat → Bool} {a b : Nat} {l : List (Nat × Nat)} (h : Way g may a l b) (hm : ∀ x, may x = true → may' x = true) : Way g may' a l b := by
  induction h with
  | nil a => exact .nil a
  | cons h1 h2 _ ih => exact .cons h1 (hm _ h2) ih
theorem GraphD.has_succ {g : GraphD} {a k : Nat} (h : g.has a k) : g.toOf a k ∈ g.succ a := by
  unfold GraphD.succ GraphD.toOf
  unfold GraphD.has at h
  rw [List.getD_eq_getElem?_getD (l := g.edges.getD a []), List.getElem?_eq_getElem h]
  exact List.mem_map_of_mem (List.getElem_mem h)
theorem GraphD.succ_has {g : GraphD} {a b : Nat} (h : b ∈ g.succ a) : ∃ k, g.has a k ∧ g.toOf a k = b := by
  unfold GraphD.succ at h
  obtain ⟨e, he, rfl⟩ := List.mem_map.1 h
  obtain ⟨k, hk, rfl⟩ := List.getElem_of_mem he
  exact ⟨k, hk, by unfold GraphD.toOf; rw [List.getD_eq_getElem?_getD (l := g.edges.getD a []), List.getElem?_eq_getElem hk]; rfl⟩
theorem GraphD.has_lt {g : GraphD} {a k : Nat} (h : g.has a k) : a < g.edges.length := by
  rcases Nat.lt_or_ge a g.edges.length with e | e
  · exact e
  · unfold GraphD.has at h
    rw [List.getD_eq_getElem?_getD, List.getElem?_eq_none e] at h
    simp at h
theorem GraphD.right_to {g : GraphD} (h : g.right = true) {a k : Nat} (hk : g.has a k) : g.toOf a k < g.edges.length ∧ ((g.edges.getD a []).getD k default).to = (g.toOf a k : Int) := by
  unfold GraphD.right at h
  simp only [Bool.and_eq_true, List.all_eq_true] at h
  have ha := g.has_lt hk
  unfold GraphD.has at hk
  have h1 := h.1.2 (g.edges.getD a []) (by rw [List.getD_eq_getElem?_getD, List.getElem?_eq_getElem ha]; exact List.getElem_mem ha) ((g.edges.getD a []).getD k default) (by rw [List.getD_eq_getElem?_getD (l := g.edges.getD a []), List.getElem?_eq_getElem hk]; exact List.getElem_mem hk)
  unfold GraphD.node at h1
  simp only [decide_eq_true_eq] at h1
  unfold GraphD.toOf
  omega
theorem GraphD.right_init {g : GraphD} (h : g.right = true) {j : Nat} (hj : j < g.initial.length) : ∃ x : Nat, g.initial.getD j 0 = (x : Int) ∧ x < g.edges.length := by
  unfold GraphD.right at h
  simp only [Bool.and_eq_true, List.all_eq_true] at h
  have h1 := h.2 (g.initial.getD j 0) (by rw [List.getD_eq_getElem?_getD, List.getElem?_eq_getElem hj]; exact List.getElem_mem hj)
  unfold GraphD.node at h1
  simp only [decide_eq_true_eq] at h1
  exact ⟨(g.initial.getD j 0).toNat, by omega, by omega⟩
theorem Way.reach {g : GraphD} {may : Nat → Bool} {a b : Nat} {l : List (Nat × Nat)} (h : Way g may a l b) : Reach g.succ a b := by
  induction h with
  | nil a => exact .refl a
  | cons h1 _ _ ih => exact .step (g.has_succ h1) ih
theorem Way.at_ {g : GraphD} {may : Nat → Bool} {a b : Nat} {l : List (Nat × Nat)} (h : Way g may a l b) : ∀ j, j < l.length → g.has (l.getD j (0, 0)).1 (l.getD j (0, 0)).2 ∧
    g.toOf (l.getD j (0, 0)).1 (l.getD j (0, 0)).2 = if j + 1 < l.length then (l.getD (j + 1) (0, 0)).1 else b := by
  induction h with
  | nil a => intro j hj; simp at hj
  | @cons a k b l h1 h2 r ih =>
    intro j hj
    cases j with
    | zero =>
      refine ⟨h1, ?_⟩
      cases r with
      | nil => simp
      | cons => simp
    | succ j =>
      simp only [List.length_cons, Nat.add_lt_add_iff_right] at hj ⊢
      exact ih j hj
theorem Way.first {g : GraphD} {may : Nat → Bool} {a b : Nat} {l : List (Nat × Nat)} (h : Way g may a l b) (hl : l ≠ []) : (l.getD 0 (0, 0)).1 = a := by
  cases h with
  | nil => exact absurd rfl hl
  | cons => rfl
/-- Where edges lead: the last one. -/
theorem Way.last {g : GraphD} {may : Nat → Bool} {a b : Nat} {l : List (Nat × Nat)} (h : Way g may a l b) (hl : l ≠ []) : g.toOf (l.getD (l.length - 1) (0, 0)).1 (l.getD (l.length - 1) (0, 0)).2 = b := by
  have hp : 0 < l.length := List.length_pos_iff.2 hl
  have := (h.at_ (l.length - 1) (by omega)).2
  rwa [if_neg (by omega)] at this

/-- The nodes that one has come to, and by which edges. -/
structure Seek (g : GraphD) (may : Nat → Bool) (from_ : Nat) (Q : List Nat) (A : Nat → Option (Nat × Nat)) : Prop where
  nodup : Q.Nodup
  head : Q[0]? = some from_
  lt : ∀ x ∈ Q, x < g.edges.length
  dom : ∀ x, (A x).isSome = true ↔ x ∈ Q ∧ x ≠ from_
  par : ∀ (j x : Nat), Q[j]? = some x → x ≠ from_ → ∃ i k j', A x = some (i, k) ∧ j' < j ∧ Q[j']? = some i ∧ g.has i k ∧ g.toOf i k = x ∧ may x = true
theorem Seek.start {g : GraphD} {may : Nat → Bool} {x : Nat} (hx : x < g.edges.length) : Seek g may x [x] (fun _ => none) := by
  refine ⟨by simp, rfl, by simpa using hx, by simp, ?_⟩
  intro j y hj hy
  cases j with
  | zero => simp at hj; exact absurd hj.symm hy
  | succ j => simp at hj
theorem Seek.push {g : GraphD} {may : Nat → Bool} {x y i k j : Nat} {Q : List Nat} {A : Nat → Option (Nat × Nat)} (h : Seek g may x Q A) (hj : Q[j]? = some i) (hk : g.has i k) (hy : g.toOf i k = y) (hm : may y = true) (hA : A y = none) (hx : y ≠ x) (hn : y < g.edges.length) :
    Seek g may x (Q ++ [y]) (upd A y (some (i, k))) := by
  have hyq : y ∉ Q := fun e => by have := (h.dom y).2 ⟨e, hx⟩; rw [hA] at this; simp at this
  have hjl : j < Q.length := (List.getElem?_eq_some_iff.1 hj).1
  refine ⟨?_, ?_, ?_, ?_, ?_⟩
  · rw [List.nodup_append]
    exact ⟨h.nodup, by simp, fun a ha b hb => by simp at hb; subst hb; rintro rfl; exact hyq ha⟩
  · rw [List.getElem?_append_left (by omega)]; exact h.head
  · intro z hz
    rcases List.mem_append.1 hz with e | e
    · exact h.lt z e
    · simp at e; subst e; exact hn
  · intro z
    by_cases e : z = y
    · subst e; rw [upd_same]; simp [hx]
    · rw [upd_other _ _ _ _ e, h.dom]; simp [e]
  · intro p z hp hz
    rcases Nat.lt_or_ge p Q.length with e | e
    · rw [List.getElem?_append_left e] at hp
      obtain ⟨i', k', j', a1, a2, a3, a4⟩ := h.par p z hp hz
      have : z ≠ y := by rintro rfl; exact hyq (List.mem_of_getElem? hp)
      exact ⟨i', k', j', by rw [upd_other _ _ _ _ this]; exact a1, a2, by rw [List.getElem?_append_left (by omega)]; exact a3, a4⟩
    · rw [List.getElem?_append_right e] at hp
      have hp0 : p - Q.length = 0 := by
        rcases Nat.eq_zero_or_pos (p - Q.length) with e0 | e0
        · exact e0
        · rw [List.getElem?_eq_none (by simp; omega)] at hp; simp at hp
      rw [hp0] at hp; simp at hp; subst hp
      exact ⟨i, k, j, upd_same _ _ _, by omega, by rw [List.getElem?_append_left hjl]; exact hj, hk, hy, hm⟩
/-- Back from a node to the first one. -/
inductive Back (A : Nat → Option (Nat × Nat)) (x : Nat) : Nat → List (Nat × Nat) → Prop
  | here : Back A x x []
  | step {y i k : Nat} {l : List (Nat × Nat)} (hy : y ≠ x) (ha : A y = some (i, k)) (r : Back A x i l) : Back A x y ((i, k) :: l)
theorem Seek.back {g : GraphD} {may : Nat → Bool} {x : Nat} {Q : List Nat} {A : Nat → Option (Nat × Nat)} (h : Seek g may x Q A) : ∀ (j y : Nat), Q[j]? = some y → ∃ l, l.length ≤ j ∧ Back A x y l ∧ Way g may x l.reverse y := by
  intro j
  induction j using Nat.strongRecOn with
  | _ j ih =>
    intro y hy
    by_cases e : y = x
    · subst e; exact ⟨[], by simp, .here, .nil _⟩
    · obtain ⟨i, k, j', a1, a2, a3, a4, a5, a6⟩ := h.par j y hy e
      obtain ⟨l, b1, b2, b3⟩ := ih j' a2 i a3
      refine ⟨(i, k) :: l, by simp; omega, .step e a1 b2, ?_⟩
      rw [List.reverse_cons]
      have := b3.append (Way.one a4 (by rw [a5]; exact a6))
      rwa [a5] at this
theorem Seek.size {g : GraphD} {may : Nat → Bool} {x : Nat} {Q : List Nat} {A : Nat → Option (Nat × Nat)} (h : Seek g may x Q A) : Q.length ≤ g.edges.length := by
  have h1 := List.Nodup.length_le_of_subset (l₂ := List.range g.edges.length) h.nodup (fun y hy => by simpa using h.lt y hy)
  simpa using h1
theorem Seek.all {g : GraphD} {may : Nat → Bool} {x : Nat} {Q : List Nat} {A : Nat → Option (Nat × Nat)} (_h : Seek g may x Q A) (hc : ∀ (j y : Nat), Q[j]? = some y → ∀ k, g.has y k → may (g.toOf y k) = true → g.toOf y k ∈ Q) {a b : Nat} {l : List (Nat × Nat)} (hw : Way g may a l b) (ha : a ∈ Q) : b ∈ Q := by
  induction hw with
  | nil a => exact ha
  | cons h1 h2 _ ih =>
    obtain ⟨j, hj, rfl⟩ := List.getElem_of_mem ha
    exact ih (hc j _ (List.getElem?_eq_getElem hj) _ h1 h2)
/-- What is told of a way. -/
def WayTold (g : GraphD) (may : Nat → Bool) (found : Nat → Nat → Bool) (x : Nat) (l : List (Nat × Nat)) : Prop :=
  (l ≠ [] ∧ l.length ≤ g.edges.length ∧ ∃ i k r, l = r ++ [(i, k)] ∧ found i k = true ∧ Way g may x l (g.toOf i k)) ∨
  (l = [] ∧ ∀ y r k, Way g may x r y → g.has y k → may (g.toOf y k) = true → found y k = false)

/-- Marks that are met are the marks of some step. -/
theorem metTo_bit (g : GraphD) (l : LassoD) (b : Nat) (hb : l.back = (b : Int)) (k : Nat) : ∀ n, bitI (metTo g l n) k = true ↔ ∃ j, b ≤ j ∧ j < n ∧ bitI (g.edgeAt (l.nodes.getD j 0) (l.edges.getD j 0)).marks k = true := by
  intro n
  induction n with
  | zero => simp [metTo, bitI_zero]
  | succ n ih =>
    unfold metTo
    by_cases h : l.back ≤ (n : Int)
    · rw [if_pos h, bitI_or, Bool.or_eq_true, ih]
      constructor
      · rintro (⟨j, h1, h2, h3⟩ | h3)
        · exact ⟨j, h1, by omega, h3⟩
        · exact ⟨n, by omega, by omega, h3⟩
      · rintro ⟨j, h1, h2, h3⟩
        rcases Nat.lt_or_eq_of_le (Nat.le_of_lt_succ h2) with e | rfl
        · exact .inl ⟨j, h1, e, h3⟩
        · exact .inr h3
    · rw [if_neg h, ih]
      constructor
      · rintro ⟨j, h1, h2, h3⟩; exact ⟨j, h1, by omega, h3⟩
      · rintro ⟨j, h1, h2, h3⟩; exact ⟨j, h1, by omega, h3⟩
/-- A way to a circle, and the circle: a lasso. -/
def lassoOf (l r : List (Nat × Nat)) : LassoD := ⟨(l ++ r).map (fun x => (x.1 : Int)), (l ++ r).map (fun x => (x.2 : Int)), (l.length : Int)⟩
theorem getD_map_nat (l : List (Nat × Nat)) (f : Nat × Nat → Nat) (hf : f (0, 0) = 0) (j : Nat) : (l.map (fun x => (f x : Int))).getD j 0 = (f (l.getD j (0, 0)) : Int) := by
  rw [List.getD_eq_getElem?_getD, List.getElem?_map, List.getD_eq_getElem?_getD]
  cases l[j]? <;> simp [hf]
theorem lasso_ok (g : GraphD) (hr : g.right = true) (x at_ : Nat) (l r : List (Nat × Nat)) (hx : (x : Int) ∈ g.initial) (hl : Way g (fun _ => true) x l at_) (hc : Way g (fun _ => true) at_ r at_) (hn : r ≠ [])
    (hm : ∀ k, k < g.marks.toNat → ∃ y ∈ r, bitI (g.markOf y.1 y.2) k = true) : acceptOk g (lassoOf l r) = true := by
  have hw := hl.append hc
  have hrl : 0 < r.length := List.length_pos_iff.2 hn
  have hlen : (lassoOf l r).nodes.length = (l ++ r).length := by simp [lassoOf]
  have hlen2 : (lassoOf l r).edges.length = (l ++ r).length := by simp [lassoOf]
  have h1 : ∀ j, (lassoOf l r).nodes.getD j 0 = (((l ++ r).getD j (0, 0)).1 : Int) := fun j => getD_map_nat (l ++ r) (·.1) rfl j
  have h2 : ∀ j, (lassoOf l r).edges.getD j 0 = (((l ++ r).getD j (0, 0)).2 : Int) := fun j => getD_map_nat (l ++ r) (·.2) rfl j
  have hpos : 0 < (l ++ r).length := by simp; omega
  have hat : ((l ++ r).getD l.length (0, 0)).1 = at_ := by
    rw [List.getD_eq_getElem?_getD, List.getElem?_append_right (Nat.le_refl _), Nat.sub_self, ← List.getD_eq_getElem?_getD]
    exact hc.first hn
  have hmk : g.marks.toNat ≤ 40 := by
    unfold GraphD.right at hr
    simp only [Bool.and_eq_true, decide_eq_true_eq] at hr
    omega
  have hbk : (lassoOf l r).back = (l.length : Int) := rfl
  unfold acceptOk headOk
  simp only [Bool.and_eq_true, decide_eq_true_eq, List.any_eq_true, List.all_eq_true]
  refine ⟨⟨⟨⟨⟨⟨⟨hr, ?_⟩, ?_⟩, ?_⟩, ?_⟩, ?_⟩, ?_⟩, ?_⟩
  · rw [hlen]; omega
  · rw [hlen, hlen2]
  · rw [hbk]; omega
  · rw [hbk, hlen]; simp; omega
  · refine ⟨(x : Int), hx, ?_⟩
    rw [h1, hw.first (by intro e; rw [e] at hpos; simp at hpos)]
  · intro j hj
    have hj' : j < (l ++ r).length := by rw [← hlen]; simpa using hj
    obtain ⟨a1, a2⟩ := hw.at_ j hj'
    have a3 := g.has_lt a1
    have a4 := g.right_to hr a1
    unfold stepOk nodeB LassoD.nextOf GraphD.edgeAt
    rw [h1, h2, hlen, hbk]
    simp only [Int.toNat_natCast, Bool.and_eq_true, decide_eq_true_eq]
    refine ⟨⟨⟨by omega, by omega⟩, ⟨by omega, by unfold GraphD.has at a1; omega⟩⟩, ?_⟩
    rw [a4.2, h1]
    congr 1
    rw [a2]
    by_cases e : j + 1 < (l ++ r).length
    · rw [if_pos e, if_pos e]
    · rw [if_neg e, if_neg e]; exact hat.symm
  · rw [all_met _ _ hmk]
    intro k hk
    obtain ⟨y, hy, hb⟩ := hm k hk
    obtain ⟨j, hj, rfl⟩ := List.getElem_of_mem hy
    rw [metTo_bit g _ l.length hbk]
    refine ⟨l.length + j, by omega, by rw [hlen]; simp; omega, ?_⟩
    unfold GraphD.edgeAt
    rw [h1, h2]
    simp only [Int.toNat_natCast]
    have : (l ++ r).getD (l.length + j) (0, 0) = r[j] := by
      rw [List.getD_eq_getElem?_getD, List.getElem?_append_right (by omega)]
      simp [hj]
    rw [this]; exact hb
end Go.Proofs.Ytoojalcfojflhaa
