/- May an atom be: the document's way: the walks. -/
import Derived.Test.YtidnpdkibndpkaaProp2
import Derived.Deep.AppendLies
namespace Go.Proofs.Ytidnpdkibndpkaa
open Go.RowKit

def kidsR (k : Int) : Int := if k = 1 ∨ k = 2 ∨ k = 3 then 0 else if k = 4 ∨ k = 8 ∨ k = 11 ∨ k = 12 then 1 else if k = 5 ∨ k = 6 ∨ k = 7 ∨ k = 9 ∨ k = 10 then 2 else -1
set_option maxHeartbeats 2000000 in
theorem kids_any (k : Int) (w : World) : Calls Try.prog 23 #[.int .i64 k] w fun e w' => e = .returned (.int .i64 (kidsR k)) ∧ w = w' := by
  by_cases h : 1 ≤ k ∧ k ≤ 12
  · have : k = 1 ∨ k = 2 ∨ k = 3 ∨ k = 4 ∨ k = 5 ∨ k = 6 ∨ k = 7 ∨ k = 8 ∨ k = 9 ∨ k = 10 ∨ k = 11 ∨ k = 12 := by omega
    clear h
    rcases this with rfl | rfl | rfl | rfl | rfl | rfl | rfl | rfl | rfl | rfl | rfl | rfl
    all_goals
      go_enter Try.func23, Try.ntmps23
      go_wp2
      go_ret
      exact ⟨rfl, rfl⟩
  · have e : ∀ j : Int, 1 ≤ j → j ≤ 12 → (k == j) = false := fun j h1 h2 => by rw [beq_eq_false_iff_ne]; omega
    have e1 := e 1 (by omega) (by omega)
    have e2 := e 2 (by omega) (by omega)
    have e3 := e 3 (by omega) (by omega)
    have e4 := e 4 (by omega) (by omega)
    have e5 := e 5 (by omega) (by omega)
    have e6 := e 6 (by omega) (by omega)
    have e7 := e 7 (by omega) (by omega)
    have e8 := e 8 (by omega) (by omega)
    have e9 := e 9 (by omega) (by omega)
    have e10 := e 10 (by omega) (by omega)
    have e11 := e 11 (by omega) (by omega)
    have e12 := e 12 (by omega) (by omega)
    have hr : kidsR k = -1 := by unfold kidsR; rw [if_neg (by omega), if_neg (by omega), if_neg (by omega)]
    rw [hr]
    clear e hr h
    go_enter Try.func23, Try.ntmps23
    go_wp2
    go_ret
    exact ⟨rfl, rfl⟩

/-- An atom's word; nothing where there is none such. -/
def propWord (k : Int) : List UInt8 := if k = 1 then [109, 101, 109] else if k = 2 then [114, 101, 103] else if k = 3 then [97, 116] else if k = 4 then [101, 109, 112, 116, 121] else if k = 5 then [98, 97, 100] else if k = 6 then [101, 110, 100, 101, 100] else []
set_option maxHeartbeats 2000000 in
theorem propWord_any (k : Int) (w : World) : Calls Try.prog 60 #[.int .i64 k] w fun e w' => e = .returned (.string ⟨(propWord k).toArray⟩) ∧ Below w.heap.size w w' := by
  by_cases h : 0 ≤ k ∧ k ≤ 6
  · have : k = 0 ∨ k = 1 ∨ k = 2 ∨ k = 3 ∨ k = 4 ∨ k = 5 ∨ k = 6 := by omega
    clear h
    rcases this with rfl | rfl | rfl | rfl | rfl | rfl | rfl
    all_goals
      go_enter Try.func60, Try.ntmps60
      go_wp2
      go_ret
      exact ⟨rfl, (Below.refl _ _).alloc (Nat.le_refl _) _⟩
  · have hr : propWord k = [] := by unfold propWord; rw [if_neg (by omega), if_neg (by omega), if_neg (by omega), if_neg (by omega), if_neg (by omega), if_neg (by omega)]
    rw [hr]
    by_cases h0 : k < 0
    · clear h hr
      go_enter Try.func60, Try.ntmps60
      go_wp2
      go_ret
      exact ⟨rfl, (Below.refl _ _).alloc (Nat.le_refl _) _⟩
    · have h7 : 7 ≤ k := by omega
      clear h hr
      go_enter Try.func60, Try.ntmps60
      go_wp2
      go_ret
      exact ⟨rfl, (Below.refl _ _).alloc (Nat.le_refl _) _⟩

/-- The numbers of an atom. -/
def numsOf (p : PropD) : List Int := ((placesOf p.kind).getD []).map p.field
/-- A call that tells a new list of numbers. -/
def TellsInts (l : List Int) (w : World) (e : Ending) (w' : World) : Prop := ∃ sv, e = .returned sv ∧ w'.ownsRow w.heap.size 3 1 sv l.length (l.map (Value.int .i64)) ∧ Below w.heap.size w w'
set_option maxHeartbeats 2000000 in
theorem numbers_any (p : PropD) (w : World) : Calls Try.prog 62 #[p.val] w (TellsInts (numsOf p) w) := by
  obtain ⟨k, p2, p3, p4⟩ := p
  unfold PropD.val
  by_cases h : 1 ≤ k ∧ k ≤ 6
  · have : k = 1 ∨ k = 2 ∨ k = 3 ∨ k = 4 ∨ k = 5 ∨ k = 6 := by omega
    clear h
    rcases this with rfl | rfl | rfl | rfl | rfl | rfl
    · rw [show numsOf ⟨1, p2, p3, p4⟩ = [p3, p4] from rfl]
      go_enter Try.func62, Try.ntmps62
      go_wp2
      go_ret
      have hrow := World.ownsRow_lit (base := w.heap.size) (e := 3) (size := 1) (w.alloc (.cells #[.int .i64 1, .int .i64 p2, .int .i64 p3, .int .i64 p4] 23)) #[.int .i64 p3, .int .i64 p4] 2 (by simp) (by unfold maxLen; omega) rfl
      simp only [World.size_alloc] at hrow
      exact ⟨_, rfl, hrow, ((Below.refl _ _).alloc (Nat.le_refl _) _).alloc (by simp) _⟩
    · rw [show numsOf ⟨2, p2, p3, p4⟩ = [p2, p3, p4] from rfl]
      go_enter Try.func62, Try.ntmps62
      go_wp2
      go_ret
      have hrow := World.ownsRow_lit (base := w.heap.size) (e := 3) (size := 1) (w.alloc (.cells #[.int .i64 2, .int .i64 p2, .int .i64 p3, .int .i64 p4] 23)) #[.int .i64 p2, .int .i64 p3, .int .i64 p4] 3 (by simp) (by unfold maxLen; omega) rfl
      simp only [World.size_alloc] at hrow
      exact ⟨_, rfl, hrow, ((Below.refl _ _).alloc (Nat.le_refl _) _).alloc (by simp) _⟩
    · rw [show numsOf ⟨3, p2, p3, p4⟩ = [p2, p4] from rfl]
      go_enter Try.func62, Try.ntmps62
      go_wp2
      go_ret
      have hrow := World.ownsRow_lit (base := w.heap.size) (e := 3) (size := 1) (w.alloc (.cells #[.int .i64 3, .int .i64 p2, .int .i64 p3, .int .i64 p4] 23)) #[.int .i64 p2, .int .i64 p4] 2 (by simp) (by unfold maxLen; omega) rfl
      simp only [World.size_alloc] at hrow
      exact ⟨_, rfl, hrow, ((Below.refl _ _).alloc (Nat.le_refl _) _).alloc (by simp) _⟩
    · rw [show numsOf ⟨4, p2, p3, p4⟩ = [p2] from rfl]
      go_enter Try.func62, Try.ntmps62
      go_wp2
      go_ret
      have hrow := World.ownsRow_lit (base := w.heap.size) (e := 3) (size := 1) (w.alloc (.cells #[.int .i64 4, .int .i64 p2, .int .i64 p3, .int .i64 p4] 23)) #[.int .i64 p2] 1 (by simp) (by unfold maxLen; omega) rfl
      simp only [World.size_alloc] at hrow
      exact ⟨_, rfl, hrow, ((Below.refl _ _).alloc (Nat.le_refl _) _).alloc (by simp) _⟩
    · rw [show numsOf ⟨5, p2, p3, p4⟩ = [] from rfl]
      go_enter Try.func62, Try.ntmps62
      go_wp2
      go_ret
      exact ⟨_, rfl, World.ownsRow_nil _ _ _ _, (Below.refl _ _).alloc (Nat.le_refl _) _⟩
    · rw [show numsOf ⟨6, p2, p3, p4⟩ = [p2] from rfl]
      go_enter Try.func62, Try.ntmps62
      go_wp2
      go_ret
      have hrow := World.ownsRow_lit (base := w.heap.size) (e := 3) (size := 1) (w.alloc (.cells #[.int .i64 6, .int .i64 p2, .int .i64 p3, .int .i64 p4] 23)) #[.int .i64 p2] 1 (by simp) (by unfold maxLen; omega) rfl
      simp only [World.size_alloc] at hrow
      exact ⟨_, rfl, hrow, ((Below.refl _ _).alloc (Nat.le_refl _) _).alloc (by simp) _⟩
  · have e : ∀ j : Int, 1 ≤ j → j ≤ 6 → (k == j) = false := fun j h1 h2 => by rw [beq_eq_false_iff_ne]; omega
    have e1 := e 1 (by omega) (by omega)
    have e2 := e 2 (by omega) (by omega)
    have e3 := e 3 (by omega) (by omega)
    have e4 := e 4 (by omega) (by omega)
    have e6 := e 6 (by omega) (by omega)
    have hr : numsOf ⟨k, p2, p3, p4⟩ = [] := by
      simp only [numsOf, placesOf]
      rw [if_neg (by omega), if_neg (by omega), if_neg (by omega), if_neg (by omega), if_neg (by omega), if_neg (by omega)]; rfl
    rw [hr]
    clear e hr h
    go_enter Try.func62, Try.ntmps62
    go_wp2
    go_ret
    exact ⟨_, rfl, World.ownsRow_nil _ _ _ _, (Below.refl _ _).alloc (Nat.le_refl _) _⟩

end Go.Proofs.Ytidnpdkibndpkaa
