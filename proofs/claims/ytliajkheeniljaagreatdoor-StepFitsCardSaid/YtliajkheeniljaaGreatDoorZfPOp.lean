/- What an operator makes of two numbers: the program's closures: the walks. -/
import Derived.Test.YtliajkheeniljaaGreatDoorZfApp
import Derived.Test.YtliajkheeniljaaGreatDoorZfKFuncs
import Derived.Test.YtliajkheeniljaaGreatDoorZfShort
set_option linter.all false
namespace Go.Proofs.YtliajkheeniljaaGreatDoor
open Go.RowKit
set_option maxRecDepth 100000
set_option maxHeartbeats 16000000
theorem op1_any (w : World) (a b : Int) : Calls Tryz.prog 192 #[.int .i64 a, .int .i64 b] w fun e w' => e = .returned (.int .i64 (evalOp 43 a b)) ∧ Below w.heap.size w w' := by
 have hr : evalOp 43 a b = wrap64 (a + b) := by simp [evalOp]
 rw [hr]
 go_enter Tryz.func192, Tryz.ntmps192
 go_wp2_with fail
 go_ret
 exact ⟨by first | rfl | simp, Below.refl _ _⟩
theorem op2_any (w : World) (a b : Int) : Calls Tryz.prog 193 #[.int .i64 a, .int .i64 b] w fun e w' => e = .returned (.int .i64 (evalOp 45 a b)) ∧ Below w.heap.size w w' := by
 have hr : evalOp 45 a b = wrap64 (a - b) := by simp [evalOp]
 rw [hr]
 go_enter Tryz.func193, Tryz.ntmps193
 go_wp2_with fail
 go_ret
 exact ⟨by first | rfl | simp, Below.refl _ _⟩
theorem op3_any (w : World) (a b : Int) : Calls Tryz.prog 194 #[.int .i64 a, .int .i64 b] w fun e w' => e = .returned (.int .i64 (evalOp 42 a b)) ∧ Below w.heap.size w w' := by
 have hr : evalOp 42 a b = wrap64 (a * b) := by simp [evalOp]
 rw [hr]
 go_enter Tryz.func194, Tryz.ntmps194
 go_wp2_with fail
 go_ret
 exact ⟨by first | rfl | simp, Below.refl _ _⟩
theorem op4_any (w : World) (a b : Int) : Calls Tryz.prog 195 #[.int .i64 a, .int .i64 b] w fun e w' => e = .returned (.int .i64 (evalOp 38 a b)) ∧ Below w.heap.size w w' := by
 have hr : evalOp 38 a b = bits .and .i64 a b := by simp [evalOp]
 rw [hr]
 go_enter Tryz.func195, Tryz.ntmps195
 go_wp2_with fail
 go_ret
 exact ⟨by first | rfl | simp, Below.refl _ _⟩
theorem op5_any (w : World) (a b : Int) : Calls Tryz.prog 196 #[.int .i64 a, .int .i64 b] w fun e w' => e = .returned (.int .i64 (evalOp 124 a b)) ∧ Below w.heap.size w w' := by
 have hr : evalOp 124 a b = bits .or .i64 a b := by simp [evalOp]
 rw [hr]
 go_enter Tryz.func196, Tryz.ntmps196
 go_wp2_with fail
 go_ret
 exact ⟨by first | rfl | simp, Below.refl _ _⟩
theorem is6_any (w : World) (a b : Int) : Calls Tryz.prog 198 #[.int .i64 a, .int .i64 b] w fun e w' => e = .returned (.bool (decide (a < b))) ∧ w' = w := by
 go_enter Tryz.func198, Tryz.ntmps198
 go_wp2_with fail
 go_ret
 exact ⟨congrArg (fun q => Ending.returned (.bool q)) (by first | rfl | (rw [Bool.eq_iff_iff]; simp)), rfl⟩
theorem is7_any (w : World) (a b : Int) : Calls Tryz.prog 199 #[.int .i64 a, .int .i64 b] w fun e w' => e = .returned (.bool (decide (a = b))) ∧ w' = w := by
 go_enter Tryz.func199, Tryz.ntmps199
 go_wp2_with fail
 go_ret
 exact ⟨congrArg (fun q => Ending.returned (.bool q)) (by first | rfl | (rw [Bool.eq_iff_iff]; simp)), rfl⟩
theorem is8_any (w : World) (a b : Int) : Calls Tryz.prog 200 #[.int .i64 a, .int .i64 b] w fun e w' => e = .returned (.bool (!decide (a = b))) ∧ w' = w := by
 go_enter Tryz.func200, Tryz.ntmps200
 go_wp2_with fail
 go_ret
 exact ⟨congrArg (fun q => Ending.returned (.bool q)) (by first | rfl | (rw [Bool.eq_iff_iff]; simp)), rfl⟩
def OpFun (w : World) (op : Int) (v : Value) : Prop := ∃ f cap, v = .func (.func f) #[] cap ∧ (∀ args W, (callFunc f args).run Tryz.prog W = .ok (.enter f args) W) ∧
 ∀ W, Below w.heap.size w W → ∀ a b : Int, Calls Tryz.prog f (#[.int .i64 a, .int .i64 b] ++ cap) W fun e W' => e = .returned (.int .i64 (evalOp op a b)) ∧ Below W.heap.size W W'
theorem truth1_any (w : World) (f : FuncId) (g : Nat) (hg : w.cell? ⟨g, 0, none⟩ = some (.func (.func f) #[] #[])) (hf : ∀ args W, (callFunc f args).run Tryz.prog W = .ok (.enter f args) W) (op a b : Int) (r : Bool) (hr : evalOp op a b = if r then 1 else 0)
  (hc : Calls Tryz.prog f #[.int .i64 a, .int .i64 b] w fun e w' => e = .returned (.bool r) ∧ w' = w) :
  Calls Tryz.prog 203 #[.int .i64 a, .int .i64 b, .pointer (some ⟨g, 0, none⟩)] w fun e w' => e = .returned (.int .i64 (evalOp op a b)) ∧ Below w.heap.size w w' := by
 have HC := qh hc
 have HR := qh hr
 clear hc hr
 cases r with
 | true =>
  rw [HR.out]
  clear HR
  go_enter Tryz.func203, Tryz.ntmps203
  go_wp2_with fail
  refine HC.out.mono ?_
  rintro e w2 ⟨rfl, rfl⟩
  go_wp2_with fail
  go_ret
  exact ⟨by first | rfl | simp, Below.refl _ _⟩
 | false =>
  rw [HR.out]
  clear HR
  go_enter Tryz.func203, Tryz.ntmps203
  go_wp2_with fail
  refine HC.out.mono ?_
  rintro e w2 ⟨rfl, rfl⟩
  go_wp2_with fail
  go_ret
  exact ⟨by first | rfl | simp, Below.refl _ _⟩
theorem truth_any (w : World) (f : FuncId) : Calls Tryz.prog 197 #[.func (.func f) #[] #[]] w fun e w' => e = .returned (.func (.func 203) #[] #[.pointer (some ⟨w.heap.size, 0, none⟩)]) ∧ w'.cell? ⟨w.heap.size, 0, none⟩ = some (.func (.func f) #[] #[]) ∧ w.heap.size < w'.heap.size ∧ Below w.heap.size w w' := by
 have HA := qh ((Below.refl w.heap.size w).alloc (Nat.le_refl _) (.cells #[.func (.func f) #[] #[]] 200))
 have HX := qh (qhn w (.cells #[.func (.func f) #[] #[]] 200))
 go_enter Tryz.func197, Tryz.ntmps197
 go_wp2_with fail
 go_ret
 exact ⟨rfl, qcb HX.out 0, by simp, HA.out⟩
theorem operator_any (w : World) (op : Int) : Calls Tryz.prog 189 #[.int .u8 op] w fun e w' => (∃ v, e = .returned v ∧ (OpFun w' op v ∨ (v = .nilFunc ∧ ∀ a b, evalOp op a b = 0))) ∧ Below w.heap.size w w' := by
 by_cases o0 : op = 43
 ·subst o0
  go_enter Tryz.func189, Tryz.ntmps189
  go_wp2_with fail
  go_ret
  exact ⟨⟨_, rfl, .inl ⟨192, #[], rfl, fun _ _ => rfl, fun W _ a b => op1_any W a b⟩⟩, Below.refl _ _⟩
 skip
 by_cases o1 : op = 45
 ·subst o1
  clear o0
  go_enter Tryz.func189, Tryz.ntmps189
  go_wp2_with fail
  go_ret
  exact ⟨⟨_, rfl, .inl ⟨193, #[], rfl, fun _ _ => rfl, fun W _ a b => op2_any W a b⟩⟩, Below.refl _ _⟩
 skip
 by_cases o2 : op = 42
 ·subst o2
  clear o0 o1
  go_enter Tryz.func189, Tryz.ntmps189
  go_wp2_with fail
  go_ret
  exact ⟨⟨_, rfl, .inl ⟨194, #[], rfl, fun _ _ => rfl, fun W _ a b => op3_any W a b⟩⟩, Below.refl _ _⟩
 skip
 by_cases o3 : op = 38
 ·subst o3
  clear o0 o1 o2
  go_enter Tryz.func189, Tryz.ntmps189
  go_wp2_with fail
  go_ret
  exact ⟨⟨_, rfl, .inl ⟨195, #[], rfl, fun _ _ => rfl, fun W _ a b => op4_any W a b⟩⟩, Below.refl _ _⟩
 skip
 by_cases o4 : op = 124
 ·subst o4
  clear o0 o1 o2 o3
  go_enter Tryz.func189, Tryz.ntmps189
  go_wp2_with fail
  go_ret
  exact ⟨⟨_, rfl, .inl ⟨196, #[], rfl, fun _ _ => rfl, fun W _ a b => op5_any W a b⟩⟩, Below.refl _ _⟩
 skip
 by_cases o5 : op = 60
 ·subst o5
  clear o0 o1 o2 o3 o4
  go_enter Tryz.func189, Tryz.ntmps189
  go_wp2_with fail
  refine (truth_any w 198).mono ?_
  rintro e w2 ⟨rfl, hc, hlt, hb⟩
  have HC := qh hc
  have HB := qh hb
  have HLT := qh hlt
  clear hc hb hlt
  go_wp2_with fail
  go_ret
  exact ⟨⟨_, rfl, .inl ⟨203, #[.pointer (some ⟨w.heap.size, 0, none⟩)], rfl, fun _ _ => rfl, fun W hW a b => truth1_any W 198 w.heap.size (qck hW _ _ HC.out) (fun _ _ => rfl) 60 a b (decide (a < b)) (by simp [evalOp]) (is6_any W a b)⟩⟩, HB.out⟩
 skip
 by_cases o6 : op = 61
 ·subst o6
  clear o0 o1 o2 o3 o4 o5
  go_enter Tryz.func189, Tryz.ntmps189
  go_wp2_with fail
  refine (truth_any w 199).mono ?_
  rintro e w2 ⟨rfl, hc, hlt, hb⟩
  have HC := qh hc
  have HB := qh hb
  have HLT := qh hlt
  clear hc hb hlt
  go_wp2_with fail
  go_ret
  exact ⟨⟨_, rfl, .inl ⟨203, #[.pointer (some ⟨w.heap.size, 0, none⟩)], rfl, fun _ _ => rfl, fun W hW a b => truth1_any W 199 w.heap.size (qck hW _ _ HC.out) (fun _ _ => rfl) 61 a b (decide (a = b)) (by simp [evalOp]) (is7_any W a b)⟩⟩, HB.out⟩
 skip
 by_cases o7 : op = 33
 ·subst o7
  clear o0 o1 o2 o3 o4 o5 o6
  go_enter Tryz.func189, Tryz.ntmps189
  go_wp2_with fail
  refine (truth_any w 200).mono ?_
  rintro e w2 ⟨rfl, hc, hlt, hb⟩
  have HC := qh hc
  have HB := qh hb
  have HLT := qh hlt
  clear hc hb hlt
  go_wp2_with fail
  go_ret
  exact ⟨⟨_, rfl, .inl ⟨203, #[.pointer (some ⟨w.heap.size, 0, none⟩)], rfl, fun _ _ => rfl, fun W hW a b => truth1_any W 200 w.heap.size (qck hW _ _ HC.out) (fun _ _ => rfl) 33 a b (!decide (a = b)) (by simp [evalOp]) (is8_any W a b)⟩⟩, HB.out⟩
 have hz : ∀ a b, evalOp op a b = 0 := fun a b => by simp [evalOp, o0, o1, o2, o3, o4, o5, o6, o7]
 have n0 : ((op : Int) == 43) = false := by simp [o0]
 have n1 : ((op : Int) == 45) = false := by simp [o1]
 have n2 : ((op : Int) == 42) = false := by simp [o2]
 have n3 : ((op : Int) == 38) = false := by simp [o3]
 have n4 : ((op : Int) == 124) = false := by simp [o4]
 have n5 : ((op : Int) == 60) = false := by simp [o5]
 have n6 : ((op : Int) == 61) = false := by simp [o6]
 have n7 : ((op : Int) == 33) = false := by simp [o7]
 have HZ := qh hz
 clear hz o0 o1 o2 o3 o4 o5 o6 o7
 go_enter Tryz.func189, Tryz.ntmps189
 go_wp2_with fail
 go_ret
 exact ⟨⟨_, rfl, .inr ⟨rfl, HZ.out⟩⟩, Below.refl _ _⟩
end Go.Proofs.YtliajkheeniljaaGreatDoor
