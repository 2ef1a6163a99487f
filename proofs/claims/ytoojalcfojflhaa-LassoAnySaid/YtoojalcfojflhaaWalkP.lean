/- What is so of the walker between its steps: plain laws. -/
import Derived.Test.YtoojalcfojflhaaLeave
namespace Go.Proofs.Ytoojalcfojflhaa
open Go.RowKit

def cnt (f : Nat → Nat) : Nat → Nat
  | 0 => 0
  | n + 1 => cnt f n + if 0 < f n then 1 else 0
theorem cnt_le (f : Nat → Nat) (n : Nat) : cnt f n ≤ n := by
  induction n with
  | zero => exact Nat.le_refl _
  | succ n ih => simp only [cnt]; split <;> omega
theorem cnt_same {f : Nat → Nat} {i c n : Nat} (h : n ≤ i) : cnt (upd f i c) n = cnt f n := by
  induction n with
  | zero => rfl
  | succ n ih => simp only [cnt]; rw [ih (by omega), upd_other _ _ _ _ (by omega)]
theorem cnt_upd {f : Nat → Nat} {i c n : Nat} (hi : i < n) (h0 : f i = 0) (hc : 0 < c) : cnt (upd f i c) n = cnt f n + 1 := by
  induction n with
  | zero => omega
  | succ n ih =>
    simp only [cnt]
    by_cases e : i = n
    · subst e
      rw [cnt_same (Nat.le_refl _), upd_same, if_pos hc, if_neg (by omega)]
    · rw [ih (by omega), upd_other _ _ _ _ (fun h => e h.symm)]; omega
/-- What is so between the walker's steps. -/
structure WInv (N : Nat) (succ : Nat → List Nat) (I : Nat → Prop) (o : Nat → Nat) (s : TS) : Prop where
  inv : TInv N succ I s
  many : s.many = cnt s.order N
  mono : ∀ v, 0 < o v → 0 < s.order v
section
variable {N : Nat} {succ : Nat → List Nat} {I : Nat → Prop} {o : Nat → Nat} {s : TS}
theorem WInv.many_le (h : WInv N succ I o s) : s.many ≤ N := by rw [h.many]; exact cnt_le _ _
theorem WInv.open_lt (h : WInv N succ I o s) : ∀ v ∈ s.openL, v < N := fun v hv => h.inv.bound v (h.inv.vis hv).1
theorem WInv.open_nodup (h : WInv N succ I o s) : s.openL.Nodup := by
  refine List.Pairwise.imp (fun {a b} hab e => ?_) h.inv.rise
  subst e; omega
theorem WInv.open_le (h : WInv N succ I o s) : s.openL.length ≤ N := by
  have h1 := List.Nodup.length_le_of_subset (l₂ := List.range N) h.open_nodup (fun y hy => by simpa using h.open_lt y hy)
  simpa using h1
theorem WInv.path_lt (h : WInv N succ I o s) : ∀ v ∈ s.path, v < N := fun v hv => h.open_lt v (h.inv.sub.subset hv)
theorem WInv.path_le (h : WInv N succ I o s) : s.path.length ≤ N := Nat.le_trans h.inv.sub.length_le h.open_le
theorem WInv.begun (h : WInv N succ I o s) {k : Nat} (hp : s.path = []) (hkn : k < N) (hk0 : s.order k = 0) (hI : I k) : WInv N succ I o (s.enter k) :=
  ⟨h.inv.begun hp hkn hk0 hI, by show s.many + 1 = cnt (upd s.order k (s.many + 1)) N; rw [cnt_upd hkn hk0 (by omega), h.many], fun v hv => by
    show 0 < upd s.order k (s.many + 1) v
    unfold upd; split
    · omega
    · exact h.mono v hv⟩
theorem WInv.entered (h : WInv N succ I o s) {i k : Nat} (hi : s.path.getLast? = some i) (hm : (succ i)[s.next i]? = some k) (hkn : k < N) (hk0 : s.order k = 0) : WInv N succ I o ((s.advance i).enter k) :=
  ⟨h.inv.entered hi hm hkn hk0, by show s.many + 1 = cnt (upd s.order k (s.many + 1)) N; rw [cnt_upd hkn hk0 (by omega), h.many], fun v hv => by
    show 0 < upd s.order k (s.many + 1) v
    unfold upd; split
    · omega
    · exact h.mono v hv⟩
theorem WInv.relaxed (h : WInv N succ I o s) {i k : Nat} (hi : s.path.getLast? = some i) (hm : (succ i)[s.next i]? = some k) (hk : 0 < s.order k) (hg : s.group k < 0) : WInv N succ I o ((s.advance i).relax i k) := ⟨h.inv.relaxed hi hm hk hg, h.many, h.mono⟩
theorem WInv.passed (h : WInv N succ I o s) {i k : Nat} (hi : s.path.getLast? = some i) (hm : (succ i)[s.next i]? = some k) (hk : 0 < s.order k) (hg : 0 ≤ s.group k) : WInv N succ I o (s.advance i) := ⟨h.inv.passed hi hm hk hg, h.many, h.mono⟩
theorem back_own {l : List Nat} {i : Nat} (h : TInv N succ I s) (hl : s.path = l ++ [i]) : (s.back i).low i = s.low i := by
  obtain ⟨-, -, h3, -⟩ := path_ahead h hl
  unfold TS.back
  have hd : s.path.dropLast = l := by rw [hl]; simp
  simp only [hd]
  cases hg : l.getLast? with
  | none => rfl
  | some p =>
    have hp : p ∈ l := List.mem_of_getLast? hg
    exact upd_other _ _ _ _ (fun e => h3 (e ▸ hp))
theorem gone_path (s : TS) (i : Nat) : (s.gone i).path = s.path.dropLast := by unfold TS.gone; split <;> rfl
theorem gone_order (s : TS) (i : Nat) : (s.gone i).order = s.order := by unfold TS.gone; split <;> rfl
theorem gone_next (s : TS) (i : Nat) : (s.gone i).next = s.next := by unfold TS.gone; split <;> rfl
theorem gone_many (s : TS) (i : Nat) : (s.gone i).many = s.many := by unfold TS.gone; split <;> rfl
theorem WInv.gone (h : WInv N succ I o s) {l : List Nat} {i : Nat} (hl : s.path = l ++ [i]) (hend : s.next i = (succ i).length) : WInv N succ I o (s.gone i) := by
  refine ⟨?_, by rw [gone_many, gone_order]; exact h.many, by rw [gone_order]; exact h.mono⟩
  unfold TS.gone
  rw [back_own h.inv hl, show (s.back i).order = s.order from rfl]
  split
  · exact h.inv.left hl hend (by assumption)
  · exact h.inv.closed_ hl hend (by assumption)
theorem left_enter (s : TS) (k n : Nat) : (s.enter k).left succ n = s.left succ n := by
  induction n with
  | zero => rfl
  | succ n ih => simp only [TS.left]; rw [ih]; rfl
theorem left_relax (s : TS) (i k n : Nat) : (s.relax i k).left succ n = s.left succ n := by
  induction n with
  | zero => rfl
  | succ n ih => simp only [TS.left]; rw [ih]; rfl
theorem left_gone (s : TS) (i n : Nat) : (s.gone i).left succ n = s.left succ n := by
  induction n with
  | zero => rfl
  | succ n ih => simp only [TS.left]; rw [ih, gone_next]
end
end Go.Proofs.Ytoojalcfojflhaa
