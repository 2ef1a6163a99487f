/- What is come to in rounds: plain laws. -/
import Derived.Test.YtoojalcfojflhaaTarjan
namespace Go.Proofs.Ytoojalcfojflhaa

theorem count_le {a b : List Bool} (hl : a.length = b.length) (hm : ∀ i, a.getD i false = true → b.getD i false = true) : a.count true ≤ b.count true := by
  induction a generalizing b with
  | nil => simp
  | cons x a ih =>
    cases b with
    | nil => simp at hl
    | cons y b =>
      have h0 := hm 0
      have := ih (b := b) (by simpa using hl) (fun i hi => by have := hm (i + 1); simpa using this (by simpa using hi))
      simp only [List.count_cons]
      cases x <;> cases y <;> simp at h0 ⊢ <;> omega
theorem count_lt {a b : List Bool} (hl : a.length = b.length) (hm : ∀ i, a.getD i false = true → b.getD i false = true) (k : Nat) (ha : a.getD k false = false) (hb : b.getD k false = true) : a.count true < b.count true := by
  induction a generalizing b k with
  | nil =>
    have : b = [] := List.eq_nil_of_length_eq_zero (by simpa using hl.symm)
    subst this; simp at hb
  | cons x a ih =>
    cases b with
    | nil => simp at hl
    | cons y b =>
      have hl' : a.length = b.length := by simpa using hl
      have hm' : ∀ i, a.getD i false = true → b.getD i false = true := fun i hi => by have := hm (i + 1); simpa using this (by simpa using hi)
      have h0 := hm 0
      cases k with
      | zero =>
        have := count_le hl' hm'
        simp only [List.getD_cons_zero] at ha hb
        subst ha hb
        simp only [List.count_cons]; simp; omega
      | succ k =>
        have := ih hl' hm' k (by simpa using ha) (by simpa using hb)
        simp only [List.count_cons]
        cases x <;> cases y <;> simp at h0 ⊢ <;> omega
/-- What is come to from a set. -/
def From (succ : Nat → List Nat) (S : Nat → Prop) (v : Nat) : Prop := ∃ u, S u ∧ Reach succ u v
/-- One round more: all is there, or more is there. -/
theorem grow_law {succ : Nat → List Nat} {S : Nat → Prop} {a b : List Bool} (hl : a.length = b.length) (hm : ∀ i, a.getD i false = true → b.getD i false = true) (hs : ∀ v, a.getD v false = true → ∀ k ∈ succ v, b.getD k false = true) (hc : ∀ v, S v → a.getD v false = true) :
    (∀ v, From succ S v → a.getD v false = true) ∨ a.count true + 1 ≤ b.count true := by
  by_cases h : ∀ v, a.getD v false = true → ∀ k ∈ succ v, a.getD k false = true
  · left
    rintro v ⟨u, hu, hr⟩
    exact hr.stays (C := fun v => a.getD v false = true) h (hc u hu)
  · right
    simp only [Classical.not_forall] at h
    obtain ⟨v, hv, k, hk, hn⟩ := h
    exact count_lt hl hm k (by simpa using hn) (hs v hv k hk)
/-- What is so behind r rounds. -/
structure Rounds (n : Nat) (succ : Nat → List Nat) (S : Nat → Prop) (c r : Nat) (a : List Bool) : Prop where
  len : a.length = n
  has : ∀ v, S v → a.getD v false = true
  sound : ∀ v, a.getD v false = true → From succ S v
  many : (∀ v, From succ S v → a.getD v false = true) ∨ r + c ≤ a.count true
theorem Rounds.next {n : Nat} {succ : Nat → List Nat} {S : Nat → Prop} {c r : Nat} {a b : List Bool} (h : Rounds n succ S c r a) (hl : b.length = n) (hm : ∀ i, a.getD i false = true → b.getD i false = true) (hs : ∀ v, a.getD v false = true → ∀ k ∈ succ v, b.getD k false = true)
    (hso : ∀ v, b.getD v false = true → From succ S v) : Rounds n succ S c (r + 1) b := by
  refine ⟨hl, fun v hv => hm v (h.has v hv), hso, ?_⟩
  rcases h.many with e | e
  · exact .inl fun v hv => hm v (e v hv)
  · rcases grow_law (S := S) (h.len.trans hl.symm) hm hs h.has with e' | e'
    · exact .inl fun v hv => hm v (e' v hv)
    · exact .inr (by omega)
theorem Rounds.full {n : Nat} {succ : Nat → List Nat} {S : Nat → Prop} {c : Nat} {a : List Bool} (h : Rounds n succ S c n a) (hc : (∃ v, S v) → 1 ≤ c) (v : Nat) : a.getD v false = true ↔ From succ S v := by
  refine ⟨h.sound v, ?_⟩
  rintro ⟨u, hu, hr⟩
  rcases h.many with e | e
  · exact e v ⟨u, hu, hr⟩
  · have := hc ⟨u, hu⟩
    have h2 : a.count true ≤ a.length := List.count_le_length
    have := h.len; omega
end Go.Proofs.Ytoojalcfojflhaa
