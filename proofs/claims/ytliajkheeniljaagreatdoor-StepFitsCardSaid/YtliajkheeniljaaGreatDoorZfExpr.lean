/- May an expression be: the document's answer: the walks. -/
import Derived.Laws.BytesArg
import Derived.Test.YtliajkheeniljaaGreatDoorZfApp
import Derived.Test.YtliajkheeniljaaGreatDoorZfShort
set_option linter.all false
namespace Go.Proofs.YtliajkheeniljaaGreatDoor
open Go.RowKit
set_option maxRecDepth 100000
set_option maxHeartbeats 16000000
def isSign (op : Int) : Bool := decide (op = 43 ∨ op = 45 ∨ op = 42 ∨ op = 60 ∨ op = 38 ∨ op = 124 ∨ op = 61 ∨ op = 33)
theorem str_one (op : Int) : (strOfNums [op]).toList.isEmpty = false := by
 rw [ByteArray.toList_eq, strOfNums_data]; rfl
theorem conv_one (w : World) (op : Int) : (convert 38 9 (.slice (some ⟨w.heap.size, 0, none⟩) 1 1)).run Tryz.prog (w.alloc (.cells #[.int .u8 op] 5)) = .ok (.string (strOfNums [op])) (w.alloc (.cells #[.int .u8 op] 5)) :=
 run_convert_bytes_arg _ 38 5 Tryz.underlying38 Tryz.underlying5 w.heap.size 0 1 1 [op] rfl (fun i hi => by
  obtain rfl : i = 0 := by omega
  exact qcb (qhn w _) 0) 9 Tryz.underlying9
theorem sign_any (w : World) (op : Int) : Calls Tryz.prog 153 #[.int .u8 op] w fun e w' => (∃ s : ByteArray, e = .returned (.string s) ∧ s.toList.isEmpty = !isSign op) ∧ Below w.heap.size w w' := by
 have hcv := conv_one w op
 have HA := qh ((Below.refl w.heap.size w).alloc (Nat.le_refl _) (.cells #[.int .u8 op] 5))
 go_enter Tryz.func153, Tryz.ntmps153
 go_wp2_with fail
 go_loopg [3] 6 (fun gg s3 wr => ∃ i : Nat, i ≤ 6 ∧ Hid (gg = 6 - i) ∧ s3 = .int .i64 i ∧ Hid ((0 < i → op ≠ 43) ∧ (1 < i → op ≠ 45) ∧ (2 < i → op ≠ 42) ∧ (3 < i → op ≠ 60) ∧ (4 < i → op ≠ 38) ∧ (5 < i → op ≠ 124)) ∧ wr = w)
 case atStart => exact ⟨0, by omega, rfl, rfl, by constructor <;> simp, rfl⟩
 case round =>
  obtain ⟨i, hi, HG, rfl, HO, hwr⟩ := hrel
  obtain rfl : w = wr := hwr.symm
  have g0 : (({ data := #[43, 45, 42, 60, 38, 124] } : ByteArray)[0]).toNat = 43 := by rfl
  have g1 : (({ data := #[43, 45, 42, 60, 38, 124] } : ByteArray)[1]).toNat = 45 := by rfl
  have g2 : (({ data := #[43, 45, 42, 60, 38, 124] } : ByteArray)[2]).toNat = 42 := by rfl
  have g3 : (({ data := #[43, 45, 42, 60, 38, 124] } : ByteArray)[3]).toNat = 60 := by rfl
  have g4 : (({ data := #[43, 45, 42, 60, 38, 124] } : ByteArray)[4]).toNat = 38 := by rfl
  have g5 : (({ data := #[43, 45, 42, 60, 38, 124] } : ByteArray)[5]).toNat = 124 := by rfl
  have hc : i = 0 ∨ i = 1 ∨ i = 2 ∨ i = 3 ∨ i = 4 ∨ i = 5 ∨ i = 6 := by omega
  rcases hc with rfl | rfl | rfl | rfl | rfl | rfl | rfl
  ·by_cases a : op = 43
   ·subst a
    go_wp2_with fail
    go_ret
    exact ⟨⟨_, by first | rfl | simp, by rw [str_one]; rfl⟩, HA.out⟩
   ·have a2 : ((43 : Int) == op) = false := by rw [beq_eq_false_iff_ne]; omega
    have a3 : ((op : Int) == 43) = false := by rw [beq_eq_false_iff_ne]; omega
    have a4 : ¬ (43 : Int) = op := by omega
    clear hcv
    go_wp2_with fail
    go_roundg 5
    case measure => rw [HG.out]; omega
    case rel => exact ⟨1, by omega, rfl, by simp, by rw [Hid]; have := HO.out; omega, rfl⟩
  ·by_cases a : op = 45
   ·subst a
    go_wp2_with fail
    go_ret
    exact ⟨⟨_, by first | rfl | simp, by rw [str_one]; rfl⟩, HA.out⟩
   ·have a2 : ((45 : Int) == op) = false := by rw [beq_eq_false_iff_ne]; omega
    have a3 : ((op : Int) == 45) = false := by rw [beq_eq_false_iff_ne]; omega
    have a4 : ¬ (45 : Int) = op := by omega
    clear hcv
    go_wp2_with fail
    go_roundg 4
    case measure => rw [HG.out]; omega
    case rel => exact ⟨2, by omega, rfl, by simp, by rw [Hid]; have := HO.out; omega, rfl⟩
  ·by_cases a : op = 42
   ·subst a
    go_wp2_with fail
    go_ret
    exact ⟨⟨_, by first | rfl | simp, by rw [str_one]; rfl⟩, HA.out⟩
   ·have a2 : ((42 : Int) == op) = false := by rw [beq_eq_false_iff_ne]; omega
    have a3 : ((op : Int) == 42) = false := by rw [beq_eq_false_iff_ne]; omega
    have a4 : ¬ (42 : Int) = op := by omega
    clear hcv
    go_wp2_with fail
    go_roundg 3
    case measure => rw [HG.out]; omega
    case rel => exact ⟨3, by omega, rfl, by simp, by rw [Hid]; have := HO.out; omega, rfl⟩
  ·by_cases a : op = 60
   ·subst a
    go_wp2_with fail
    go_ret
    exact ⟨⟨_, by first | rfl | simp, by rw [str_one]; rfl⟩, HA.out⟩
   ·have a2 : ((60 : Int) == op) = false := by rw [beq_eq_false_iff_ne]; omega
    have a3 : ((op : Int) == 60) = false := by rw [beq_eq_false_iff_ne]; omega
    have a4 : ¬ (60 : Int) = op := by omega
    clear hcv
    go_wp2_with fail
    go_roundg 2
    case measure => rw [HG.out]; omega
    case rel => exact ⟨4, by omega, rfl, by simp, by rw [Hid]; have := HO.out; omega, rfl⟩
  ·by_cases a : op = 38
   ·subst a
    go_wp2_with fail
    go_ret
    exact ⟨⟨_, by first | rfl | simp, by rw [str_one]; rfl⟩, HA.out⟩
   ·have a2 : ((38 : Int) == op) = false := by rw [beq_eq_false_iff_ne]; omega
    have a3 : ((op : Int) == 38) = false := by rw [beq_eq_false_iff_ne]; omega
    have a4 : ¬ (38 : Int) = op := by omega
    clear hcv
    go_wp2_with fail
    go_roundg 1
    case measure => rw [HG.out]; omega
    case rel => exact ⟨5, by omega, rfl, by simp, by rw [Hid]; have := HO.out; omega, rfl⟩
  ·by_cases a : op = 124
   ·subst a
    go_wp2_with fail
    go_ret
    exact ⟨⟨_, by first | rfl | simp, by rw [str_one]; rfl⟩, HA.out⟩
   ·have a2 : ((124 : Int) == op) = false := by rw [beq_eq_false_iff_ne]; omega
    have a3 : ((op : Int) == 124) = false := by rw [beq_eq_false_iff_ne]; omega
    have a4 : ¬ (124 : Int) = op := by omega
    clear hcv
    go_wp2_with fail
    go_roundg 0
    case measure => rw [HG.out]; omega
    case rel => exact ⟨6, by omega, rfl, by simp, by rw [Hid]; have := HO.out; omega, rfl⟩
  ·clear hcv
   by_cases a : op = 61
   ·subst a
    go_wp2_with fail
    go_ret
    exact ⟨⟨_, by first | rfl | simp, by decide +kernel⟩, Below.refl _ _⟩
   have a2 : ((op : Int) == 61) = false := by rw [beq_eq_false_iff_ne]; omega
   by_cases b : op = 33
   ·subst b
    go_wp2_with fail
    go_ret
    exact ⟨⟨_, by first | rfl | simp, by decide +kernel⟩, Below.refl _ _⟩
   ·have b2 : ((op : Int) == 33) = false := by rw [beq_eq_false_iff_ne]; omega
    have hs : isSign op = false := by unfold isSign; rw [decide_eq_false_iff_not]; have := HO.out; omega
    have HS := qh hs
    clear hs
    go_wp2_with fail
    go_ret
    exact ⟨⟨ByteArray.empty, by first | rfl | simp, by rw [HS.out]; decide +kernel⟩, Below.refl _ _⟩
def exprNone (x : ExprT) : Bool := decide (x.kind = 0) && decide (x.n = 0) && decide (x.op = 0) && decide (x.kids.length = 0)
theorem none_any (w : World) (x : ExprT) (ka : Option Addr) (kc : Nat) : Calls Tryz.prog 100 #[exprV x (.slice ka x.kids.length kc)] w fun e w' => e = .returned (.bool (exprNone x)) ∧ Below w.heap.size w w' := by
 obtain ⟨k, n, o, l⟩ := x
 obtain ⟨m, hm⟩ : ∃ m, m = l.length := ⟨_, rfl⟩
 obtain ⟨r, hr⟩ : ∃ r, r = exprNone (.mk k n o l) := ⟨_, rfl⟩
 rw [← hr]
 have hr2 : r = (decide (k = 0) && decide (n = 0) && decide (o = 0) && decide (m = 0)) := by rw [hr, hm]; rfl
 have HR := qh hr2
 unfold exprV
 simp only [ExprT.kind, ExprT.n, ExprT.op, ExprT.kids]
 rw [← hm]
 clear hr hr2 hm
 have HA := qh ((Below.refl w.heap.size w).alloc (Nat.le_refl _) (.cells #[.int .i64 k, .int .i64 n, .int .u8 o, .slice ka m kc] 62))
 have HGB := qh (qhn w (.cells #[.int .i64 k, .int .i64 n, .int .u8 o, .slice ka m kc] 62))
 go_enter Tryz.func100, Tryz.ntmps100
 go_upto_region 1 with fail
 generalize World.alloc w _ = W at HA HGB ⊢
 obtain ⟨gx, hgx⟩ : ∃ gx, gx = w.heap.size := ⟨_, rfl⟩
 rw [← hgx] at HGB ⊢
 clear hgx
 have c0 : W.cell? ⟨gx, 0, none⟩ = some (.int .i64 k) := qcb HGB.out 0
 have c1 : W.cell? ⟨gx, 1, none⟩ = some (.int .i64 n) := qcb HGB.out 1
 have c2 : W.cell? ⟨gx, 2, none⟩ = some (.int .u8 o) := qcb HGB.out 2
 have c3 : W.cell? ⟨gx, 3, none⟩ = some (.slice ka m kc) := qcb HGB.out 3
 by_cases a1 : k = 0
 rotate_left
 ·have b1 : ((k : Int) == 0) = false := by simp [a1]
  obtain rfl : r = false := by rw [HR.out]; simp [a1]
  clear HR a1
  go_wp2_with fail
  go_ret
  exact ⟨by first | rfl | simp, HA.out⟩
 have b1 : ((k : Int) == 0) = true := by simp [a1]
 by_cases a2 : n = 0
 rotate_left
 ·have b2 : ((n : Int) == 0) = false := by simp [a2]
  obtain rfl : r = false := by rw [HR.out]; simp [a2]
  clear HR a1 a2
  go_wp2_with fail
  go_ret
  exact ⟨by first | rfl | simp, HA.out⟩
 have b2 : ((n : Int) == 0) = true := by simp [a2]
 by_cases a3 : o = 0
 ·have b3 : ((o : Int) == 0) = true := by simp [a3]
  obtain rfl : r = decide (m = 0) := by rw [HR.out]; simp [a1, a2, a3]
  clear HR a1 a2 a3
  by_cases a4 : m = 0
  ·have b4 : ((m : Int) == 0) = true := by simp [a4]
   subst a4
   go_wp2_with fail
   go_ret
   exact ⟨by first | rfl | simp, HA.out⟩
  ·have b4 : ((m : Int) == 0) = false := by simp [a4]
   go_wp2_with fail
   go_ret
   exact ⟨by first | rfl | simp [a4], HA.out⟩
 ·have b3 : ((o : Int) == 0) = false := by simp [a3]
  obtain rfl : r = false := by rw [HR.out]; simp [a3]
  clear HR a1 a2 a3
  go_wp2_with fail
  go_ret
  exact ⟨by first | rfl | simp, HA.out⟩
end Go.Proofs.YtliajkheeniljaaGreatDoor
