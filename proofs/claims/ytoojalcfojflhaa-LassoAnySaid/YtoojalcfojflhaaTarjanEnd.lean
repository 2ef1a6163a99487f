/- Groups of nodes, when the walk has ended: plain laws. -/
import Derived.Test.YtoojalcfojflhaaTarjan
namespace Go.Proofs.Ytoojalcfojflhaa

/-- A node is in a group just if it is come to. -/
theorem TInv.reached {s : TS} {n : Nat} {succ : Nat → List Nat} {I : Nat → Prop} (h : TInv n succ I s) (hp : s.path = []) (hI : ∀ a, I a → 0 < s.order a) (v : Nat) : 0 ≤ s.group v ↔ ∃ a, I a ∧ Reach succ a v := by
  constructor
  · exact fun hv => h.src v (h.gvis v hv)
  · rintro ⟨a, ha, hr⟩
    refine hr.stays (C := fun v => 0 ≤ s.group v) h.closed ?_
    rcases Int.lt_or_le (s.group a) 0 with e | e
    · have := (h.opens a).2 ⟨hI a ha, e⟩
      rw [h.none_open hp] at this; simp at this
    · exact e
/-- Two nodes that are come to are in one group just if they lead to one another. -/
theorem TInv.together {s : TS} {n : Nat} {succ : Nat → List Nat} {I : Nat → Prop} (h : TInv n succ I s) (hp : s.path = []) (hI : ∀ a, I a → 0 < s.order a) {u v : Nat} (hu : ∃ a, I a ∧ Reach succ a u) (hv : ∃ a, I a ∧ Reach succ a v) : s.group u = s.group v ↔ Reach succ u v ∧ Reach succ v u :=
  h.scc u v ((h.reached hp hI u).2 hu) ((h.reached hp hI v).2 hv)
/-- At the beginning. -/
theorem TInv.start (n : Nat) (succ : Nat → List Nat) (I : Nat → Prop) (low : Nat → Nat) : TInv n succ I ⟨fun _ => 0, low, fun _ => -1, [], [], fun _ => 0, 0⟩ := by
  refine ⟨fun v hv => ?_, fun v => Nat.le_refl _, fun u v hu => ?_, List.Pairwise.nil, fun v => ?_, List.Sublist.refl _, fun v hv => ?_, fun v hv => ?_, fun v hv => ?_, fun p hp => ?_, fun w hw => ?_, fun w hw => ?_, fun w hw => ?_, fun v hv => ?_, fun u v hu => ?_, fun u hu => ?_, fun v hv => ?_, fun v => Nat.zero_le _, fun _ _ => rfl⟩
  · exact absurd hv (Nat.lt_irrefl 0)
  · exact absurd hu (Nat.lt_irrefl 0)
  · simp
  · have : (0 : Int) ≤ -1 := hv; omega
  · simp at hv
  · simp at hv
  · simp at hp
  · simp at hw
  · simp at hw
  · simp at hw
  · have : (0 : Int) ≤ -1 := hv; omega
  · have : (0 : Int) ≤ -1 := hu; omega
  · have : (0 : Int) ≤ -1 := hu; omega
  · exact absurd hv (Nat.lt_irrefl 0)
/-- What is left to do: it falls with each step. -/
def TS.left (s : TS) (succ : Nat → List Nat) : Nat → Nat
  | 0 => 0
  | n + 1 => s.left succ n + ((succ n).length - s.next n)
theorem left_upd {s : TS} {succ : Nat → List Nat} {i : Nat} (h : s.next i < (succ i).length) (n : Nat) (hi : i < n) : (s.advance i).left succ n + 1 = s.left succ n := by
  have hsame : ∀ m, m ≤ i → (s.advance i).left succ m = s.left succ m := by
    intro m
    induction m with
    | zero => intro _; rfl
    | succ m ih =>
      intro hm
      simp only [TS.left]
      rw [ih (by omega), show (s.advance i).next m = s.next m from upd_other _ _ _ _ (by omega)]
  induction n with
  | zero => omega
  | succ n ih =>
    simp only [TS.left]
    by_cases e : i = n
    · subst e
      rw [hsame i (Nat.le_refl _), show (s.advance i).next i = s.next i + 1 from upd_same _ _ _]; omega
    · rw [show (s.advance i).next n = s.next n from upd_other _ _ _ _ (fun h => e h.symm)]
      have := ih (by omega); omega
end Go.Proofs.Ytoojalcfojflhaa
