/- What a thread's instruction does: the program's map of methods, and each method by the document's answer. -/
import Derived.Test.YtliajkheeniljaaGreatDoorZfIMap
import Derived.Test.YtliajkheeniljaaGreatDoorZfPWays2
import Derived.Test.YtliajkheeniljaaGreatDoorZfPWays3
import Derived.Test.YtliajkheeniljaaGreatDoorZfPWays4
import Derived.Test.YtliajkheeniljaaGreatDoorZfStepQ
import Derived.Test.YtliajkheeniljaaGreatDoorZfShort
set_option linter.all false
namespace Go.Proofs.YtliajkheeniljaaGreatDoor
open Go.RowKit
set_option maxRecDepth 100000
set_option maxHeartbeats 16000000
variable {v0 : Value}
def wyL : List (Int × Value) := [(1, .func (.func 125) #[] #[]), (2, .func (.func 126) #[] #[]), (3, .func (.func 127) #[] #[]), (4, .func (.func 128) #[] #[]), (5, .func (.func 129) #[] #[]), (6, .func (.func 130) #[] #[]), (7, .func (.func 131) #[] #[]), (8, .func (.func 132) #[] #[]), (9, .func (.func 133) #[] #[]), (12, .func (.func 134) #[] #[]), (13, .func (.func 135) #[] #[])]
theorem pways_any (w : World) : Calls Tryz.prog 107 #[] w (TellsMap wyL w) := by
 have hmm := @run_makeMap Tryz.prog
 have h0 : MapInts (w.alloc (.map #[] 0)) w.heap.size [] := ⟨#[], 0, qhn w _, rfl⟩
 have hB0 : Below w.heap.size w (w.alloc (.map #[] 0)) := (Below.refl _ _).alloc (Nat.le_refl _) _
 go_enter Tryz.func107, Tryz.ntmps107
 go_wp2_with (refine wpList_insert_ints _ rfl _ _ _ 169 rfl 3 168 .i64 Tryz.underlying169 Tryz.underlying3 w.heap.size _ rfl _ rfl _ rfl h0 ?_; clear h0; intro w1 h0 hs1 hz1; replace hB0 := hB0.trans (hs1.below hB0.size (fun k hk => by omega)); clear hs1 hz1)
 go_ret
 exact ⟨w.heap.size, rfl, h0, Nat.le_refl _, hB0⟩
def opOk (k : Int) : Prop := k = 1 ∨ k = 2 ∨ k = 3 ∨ k = 4 ∨ k = 5 ∨ k = 6 ∨ k = 7 ∨ k = 8 ∨ k = 9 ∨ k = 12 ∨ k = 13
theorem pway_any {w : World} {B gr mb mc : Nat} {pc r0 r1 r2 r3 : Int} {buf : List EntryD} {bv : Value} {m : MachD} {c : CodeD} {s : StateD} (h : RunR v0 w B gr (pc + 1) r0 r1 r2 r3 buf bv m c.domain s.mem mb mc s.bad) (hB : B ≤ w.heap.size) (hd1 : 1 ≤ c.domain) (hd2 : c.domain ≤ 1000) (d : Nat) (x : InstrD) (ka kb : Value) (ha : ExprAt d w x.a ka) (hb : ExprAt d w x.b kb)
  (hreg : 0 ≤ x.reg ∧ x.reg < 4) (hvar : 0 ≤ x.var ∧ x.var < (s.mem.length : Int)) (hbl : buf.length ≤ 1000000) (hop : opOk x.op) :
  ∃ f, mfind wyL x.op = some (.func (.func f) #[] #[]) ∧ (∀ args W, (callFunc f args).run Tryz.prog W = .ok (.enter f args) W) ∧
   Calls Tryz.prog f #[.pointer (some ⟨gr, 0, none⟩), instrV x ka kb] w fun e w' => WayEnd v0 w B gr m c.domain mb mc (stepT c m s ⟨pc, [r0, r1, r2, r3], buf⟩ x d) e w' := by
 rcases hop with k | k | k | k | k | k | k | k | k | k | k
 ·exact ⟨_, by rw [k]; rfl, fun _ _ => rfl, by rw [stepT_load k]; exact pway_load h hB hd1 hd2 d x ka kb ha hb hreg hvar hbl⟩
 ·refine ⟨_, by rw [k]; rfl, fun _ _ => rfl, ?_⟩
  have hw := pway_store h hB hd1 hd2 d x ka kb ha hb hreg hvar hbl
  by_cases hm : m.model = 0
  ·rw [stepT_store0 k hm]; simp only [if_pos hm] at hw; exact hw
  ·simp only [if_neg hm] at hw
   cases hp : putOk buf m ⟨x.var, evalN [r0, r1, r2, r3] c.domain d x.a⟩ with
   | true => rw [stepT_storeY k hm hp]; simp only [hp, if_true] at hw; exact hw
   | false => rw [stepT_storeN k hm hp]; simp only [hp, Bool.false_eq_true, if_false] at hw; exact hw
 ·exact ⟨_, by rw [k]; rfl, fun _ _ => rfl, by rw [stepT_set k]; exact pway_set h hB hd1 hd2 d x ka kb ha hb hreg hvar hbl⟩
 ·exact ⟨_, by rw [k]; rfl, fun _ _ => rfl, by rw [stepT_fence k]; exact pway_fence h hB hd1 hd2 d x ka kb ha hb hreg hvar hbl⟩
 ·exact ⟨_, by rw [k]; rfl, fun _ _ => rfl, by rw [stepT_weak k]; exact pway_weak h hB hd1 hd2 d x ka kb ha hb hreg hvar hbl⟩
 ·refine ⟨_, by rw [k]; rfl, fun _ _ => rfl, ?_⟩
  have hw := pway_cas h hB hd1 hd2 d x ka kb ha hb hreg hvar hbl
  by_cases hv : s.mem.getD x.var.toNat 0 = evalN [r0, r1, r2, r3] c.domain d x.a
  ·rw [stepT_casY k hv]; simp only [if_pos hv] at hw; exact hw
  ·rw [stepT_casN k hv]; simp only [if_neg hv] at hw; exact hw
 ·exact ⟨_, by rw [k]; rfl, fun _ _ => rfl, by rw [stepT_lock k]; exact pway_lock h hB hd1 hd2 d x ka kb ha hb hreg hvar hbl⟩
 ·exact ⟨_, by rw [k]; rfl, fun _ _ => rfl, by rw [stepT_unlock k]; exact pway_unlock h hB hd1 hd2 d x ka kb ha hb hreg hvar hbl⟩
 ·exact ⟨_, by rw [k]; rfl, fun _ _ => rfl, by rw [stepT_assert k]; exact pway_assert h hB hd1 hd2 d x ka kb ha hb hreg hvar hbl⟩
 ·refine ⟨_, by rw [k]; rfl, fun _ _ => rfl, ?_⟩
  have hw := pway_branch h hB hd1 hd2 d x ka kb ha hb hreg hvar hbl
  rw [stepT_branch k]
  by_cases hv : evalN [r0, r1, r2, r3] c.domain d x.a = 0
  ·simp only [if_pos hv] at hw ⊢; exact hw
  ·simp only [if_neg hv] at hw ⊢; exact hw
 ·exact ⟨_, by rw [k]; rfl, fun _ _ => rfl, by rw [stepT_jump k]; exact pway_jump h hB hd1 hd2 d x ka kb ha hb hreg hvar hbl⟩
end Go.Proofs.YtliajkheeniljaaGreatDoor
