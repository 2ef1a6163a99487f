/- What a thread's instructions do: the program's methods: the walks. -/
import Derived.Test.YtliajkheeniljaaGreatDoorQBase
import Derived.Test.YtliajkheeniljaaGreatDoorQPRun
import Derived.Test.YtliajkheeniljaaGreatDoorQShort
set_option linter.all false
namespace Go.Proofs.YtliajkheeniljaaGreatDoor
open Go.RowKit
set_option maxRecDepth 100000
set_option maxHeartbeats 16000000
variable {v0 : Value}
def WayEnd (v0 : Value) (w : World) (B gr : Nat) (m : MachD) (dom : Int) (mb mc : Nat) (res : Option (ThreadD × List Int × Bool)) (e : Ending) (w' : World) : Prop :=
 Below B w w' ∧ ((res = none ∧ e = .returned (.bool false)) ∨ ∃ (t : ThreadD) (mem : List Int) (bad : Bool) (bv : Value), res = some (t, mem, bad) ∧ e = .returned (.bool true) ∧ t.regs.length = 4 ∧ RunR v0 w' B gr t.pc (t.regs.getD 0 0) (t.regs.getD 1 0) (t.regs.getD 2 0) (t.regs.getD 3 0) t.buf bv m dom mem mb mc bad)
section
variable {w w' : World} {B gr mb mc : Nat} {pc r0 r1 r2 r3 dom : Int} {buf : List EntryD} {bv : Value} {m : MachD} {mem : List Int} {bad : Bool}
theorem way_some (h : RunR v0 w' B gr pc r0 r1 r2 r3 buf bv m dom mem mb mc bad) (hb : Below B w w') : WayEnd v0 w B gr m dom mb mc (some (⟨pc, [r0, r1, r2, r3], buf⟩, mem, bad)) (.returned (.bool true)) w' :=
 ⟨hb, .inr ⟨_, _, _, _, rfl, rfl, rfl, h⟩⟩
theorem way_set {k : Nat} {x : Int} (h : RunR v0 w' B gr pc (([r0, r1, r2, r3].set k x).getD 0 0) (([r0, r1, r2, r3].set k x).getD 1 0) (([r0, r1, r2, r3].set k x).getD 2 0) (([r0, r1, r2, r3].set k x).getD 3 0) buf bv m dom mem mb mc bad) (hb : Below B w w') : WayEnd v0 w B gr m dom mb mc (some (⟨pc, [r0, r1, r2, r3].set k x, buf⟩, mem, bad)) (.returned (.bool true)) w' :=
 ⟨hb, .inr ⟨_, _, _, _, rfl, rfl, by simp, h⟩⟩
theorem way_none (hb : Below B w w') : WayEnd v0 w B gr m dom mb mc none (.returned (.bool false)) w' := ⟨hb, .inl ⟨rfl, rfl⟩⟩
end
theorem RunR.regCell {w : World} {B gr mb mc : Nat} {pc r0 r1 r2 r3 dom : Int} {buf : List EntryD} {bv : Value} {m : MachD} {mem : List Int} {bad : Bool} (h : RunR v0 w B gr pc r0 r1 r2 r3 buf bv m dom mem mb mc bad) {k : Nat} (hk : k < 4) : w.cell? ⟨gr, 1 + k, none⟩ = some (.int .i64 ([r0, r1, r2, r3].getD k 0)) ∧ w.frozen? ⟨gr, 1 + k, none⟩ = false := by
 refine ⟨?_, qfb h.block _⟩
 have e := qcb h.block (1 + k)
 have : k = 0 ∨ k = 1 ∨ k = 2 ∨ k = 3 := by omega
 rcases this with rfl | rfl | rfl | rfl <;> exact e
theorem pway_jump {w : World} {B gr mb mc : Nat} {pc r0 r1 r2 r3 dom : Int} {buf : List EntryD} {bv : Value} {m : MachD} {mem : List Int} {bad : Bool} (h : RunR v0 w B gr pc r0 r1 r2 r3 buf bv m dom mem mb mc bad) (hB : B ≤ w.heap.size) (hd1 : 1 ≤ dom) (hd2 : dom ≤ 1000) (d : Nat) (x : InstrD) (ka kb : Value) (ha : ExprAt d w x.a ka) (hb : ExprAt d w x.b kb)
  (hreg : 0 ≤ x.reg ∧ x.reg < 4) (hvar : 0 ≤ x.var ∧ x.var < (mem.length : Int)) (hbl : buf.length ≤ 1000000) : Calls Tryz.prog 135 #[.pointer (some ⟨gr, 0, none⟩), instrV x ka kb] w fun e w' =>
  WayEnd v0 w B gr m dom mb mc (some (⟨x.dest, [r0, r1, r2, r3], buf⟩, mem, bad)) e w' := by
 obtain ⟨aa, ac, rfl, -⟩ := ha.slice
 obtain ⟨ba, bc, rfl, -⟩ := hb.slice
 obtain ⟨ua, uc, rfl, -⟩ := SliceR.slice h.bufAt
 obtain ⟨op, reg, v, a, b, to_⟩ := x
 simp only [] at hreg hvar ha hb ⊢
 obtain ⟨reg, rfl⟩ : ∃ k : Nat, reg = (k : Int) := ⟨reg.toNat, by omega⟩
 obtain ⟨v, rfl⟩ : ∃ k : Nat, v = (k : Int) := ⟨v.toNat, by omega⟩
 have hr4 : reg < 4 := by omega
 have hvn : v < mem.length := by omega
 have hvI : (v : Int) < (mem.length : Int) := hvar.2
 have hrI : (reg : Int) < 4 := hreg.2
 try simp only [Int.toNat_natCast]
 clear ha hb
 unfold instrV
 simp only []
 generalize a.kind = ak at ⊢
 generalize a.n = an at ⊢
 generalize a.op = ao at ⊢
 generalize a.kids.length = al at ⊢
 generalize b.kind = bk at ⊢
 generalize b.n = bn at ⊢
 generalize b.op = bo at ⊢
 generalize b.kids.length = bl at ⊢
 obtain ⟨res, hres⟩ : ∃ r : Option (ThreadD × List Int × Bool), r = (some (⟨to_, [r0, r1, r2, r3], buf⟩, mem, bad)) := ⟨_, rfl⟩
 rw [← hres]
 have HRES := qh hres
 clear hres
 obtain ⟨un, hun⟩ : ∃ n, n = buf.length := ⟨_, rfl⟩
 rw [← hun] at h hbl
 have HUN := qh hun
 have HR := qh h
 have HBW := qh hB
 have HA := qh ((Below.refl w.heap.size w).alloc (Nat.le_refl _) (.cells #[.int .i64 op, .int .i64 (reg : Int), .int .i64 (v : Int), .int .i64 ak, .int .i64 an, .int .u8 ao, .slice aa al ac, .int .i64 bk, .int .i64 bn, .int .u8 bo, .slice ba bl bc, .int .i64 to_] 64))
 have HX := qh (qhn w (.cells #[.int .i64 op, .int .i64 (reg : Int), .int .i64 (v : Int), .int .i64 ak, .int .i64 an, .int .u8 ao, .slice aa al ac, .int .i64 bk, .int .i64 bn, .int .u8 bo, .slice ba bl bc, .int .i64 to_] 64))
 clear h hun hB
 go_enter Tryz.func135, Tryz.ntmps135
 go_upto_region 1 with fail
 generalize World.alloc w _ = W at HA HX ⊢
 obtain ⟨gi, hgi⟩ : ∃ g, g = w.heap.size := ⟨_, rfl⟩
 rw [← hgi] at HX ⊢
 clear hgi
 have HRW := qh (HR.out.below HA.out)
 have HBW2 : Hid (Below B w W) := HA.out.mono HBW.out
 have CC : Hid (∀ x, Below W.heap.size W x → x.cell? ⟨gi, 11, none⟩ = some (.int .i64 to_) ∧ x.cell? ⟨gr, 0, none⟩ = some (.int .i64 pc)) := fun x hx => ⟨qck hx _ _ (qcb HX.out 11), qck hx _ _ (qcb HRW.out.block 0)⟩
 obtain ⟨c0, c1⟩ := CC.out W (Below.refl _ _)
 have f0 : W.frozen? ⟨gr, 0, none⟩ = false := qfb HRW.out.block 0
 go_wp2_with fail
 go_ret
 rw [HRES.out]
 exact way_some (HRW.out.setPc to_) (HBW2.out.setCell (p := ⟨gr, 0, none⟩) HRW.out.base _)
theorem pway_branch {w : World} {B gr mb mc : Nat} {pc r0 r1 r2 r3 dom : Int} {buf : List EntryD} {bv : Value} {m : MachD} {mem : List Int} {bad : Bool} (h : RunR v0 w B gr pc r0 r1 r2 r3 buf bv m dom mem mb mc bad) (hB : B ≤ w.heap.size) (hd1 : 1 ≤ dom) (hd2 : dom ≤ 1000) (d : Nat) (x : InstrD) (ka kb : Value) (ha : ExprAt d w x.a ka) (hb : ExprAt d w x.b kb)
  (hreg : 0 ≤ x.reg ∧ x.reg < 4) (hvar : 0 ≤ x.var ∧ x.var < (mem.length : Int)) (hbl : buf.length ≤ 1000000) : Calls Tryz.prog 134 #[.pointer (some ⟨gr, 0, none⟩), instrV x ka kb] w fun e w' =>
  WayEnd v0 w B gr m dom mb mc (some (if evalN [r0, r1, r2, r3] dom d x.a = 0 then (⟨x.dest, [r0, r1, r2, r3], buf⟩ : ThreadD) else ⟨pc, [r0, r1, r2, r3], buf⟩, mem, bad)) e w' := by
 have hea := fun W V (hV : RunR v0 W B gr pc r0 r1 r2 r3 buf V m dom mem mb mc bad) (hW : Below w.heap.size w W) => prun_eval hV hd1 hd2 d x.a ka (ha.below hW)
 obtain ⟨aa, ac, rfl, -⟩ := ha.slice
 obtain ⟨ba, bc, rfl, -⟩ := hb.slice
 obtain ⟨ua, uc, rfl, -⟩ := SliceR.slice h.bufAt
 obtain ⟨op, reg, v, a, b, to_⟩ := x
 simp only [] at hreg hvar ha hb hea ⊢
 obtain ⟨reg, rfl⟩ : ∃ k : Nat, reg = (k : Int) := ⟨reg.toNat, by omega⟩
 obtain ⟨v, rfl⟩ : ∃ k : Nat, v = (k : Int) := ⟨v.toNat, by omega⟩
 have hr4 : reg < 4 := by omega
 have hvn : v < mem.length := by omega
 have hvI : (v : Int) < (mem.length : Int) := hvar.2
 have hrI : (reg : Int) < 4 := hreg.2
 try simp only [Int.toNat_natCast]
 clear ha hb
 unfold instrV
 simp only []
 unfold exprV at hea
 generalize hva : evalN [r0, r1, r2, r3] dom d a = va at hea ⊢
 clear hva
 generalize a.kind = ak at hea ⊢
 generalize a.n = an at hea ⊢
 generalize a.op = ao at hea ⊢
 generalize a.kids.length = al at hea ⊢
 generalize b.kind = bk at ⊢
 generalize b.n = bn at ⊢
 generalize b.op = bo at ⊢
 generalize b.kids.length = bl at ⊢
 have HEA := qh hea
 clear hea
 obtain ⟨res, hres⟩ : ∃ r : Option (ThreadD × List Int × Bool), r = (some (if va = 0 then (⟨to_, [r0, r1, r2, r3], buf⟩ : ThreadD) else ⟨pc, [r0, r1, r2, r3], buf⟩, mem, bad)) := ⟨_, rfl⟩
 rw [← hres]
 have HRES := qh hres
 clear hres
 obtain ⟨un, hun⟩ : ∃ n, n = buf.length := ⟨_, rfl⟩
 rw [← hun] at h hbl
 have HUN := qh hun
 have HR := qh h
 have HBW := qh hB
 have HA := qh ((Below.refl w.heap.size w).alloc (Nat.le_refl _) (.cells #[.int .i64 op, .int .i64 (reg : Int), .int .i64 (v : Int), .int .i64 ak, .int .i64 an, .int .u8 ao, .slice aa al ac, .int .i64 bk, .int .i64 bn, .int .u8 bo, .slice ba bl bc, .int .i64 to_] 64))
 have HX := qh (qhn w (.cells #[.int .i64 op, .int .i64 (reg : Int), .int .i64 (v : Int), .int .i64 ak, .int .i64 an, .int .u8 ao, .slice aa al ac, .int .i64 bk, .int .i64 bn, .int .u8 bo, .slice ba bl bc, .int .i64 to_] 64))
 clear h hun hB
 go_enter Tryz.func134, Tryz.ntmps134
 go_upto_region 1 with fail
 generalize World.alloc w _ = W at HA HX ⊢
 obtain ⟨gi, hgi⟩ : ∃ g, g = w.heap.size := ⟨_, rfl⟩
 rw [← hgi] at HX ⊢
 clear hgi
 have HRW := qh (HR.out.below HA.out)
 have HBW2 : Hid (Below B w W) := HA.out.mono HBW.out
 have CC : Hid (∀ x, Below W.heap.size W x → x.cell? ⟨gi, 3, none⟩ = some (.int .i64 ak) ∧ x.cell? ⟨gi, 4, none⟩ = some (.int .i64 an) ∧ x.cell? ⟨gi, 5, none⟩ = some (.int .u8 ao) ∧ x.cell? ⟨gi, 6, none⟩ = some (.slice aa al ac)) := fun x hx => ⟨qck hx _ _ (qcb HX.out 3), qck hx _ _ (qcb HX.out 4), qck hx _ _ (qcb HX.out 5), qck hx _ _ (qcb HX.out 6)⟩
 obtain ⟨c0, c1, c2, c3⟩ := CC.out W (Below.refl _ _)
 go_wp2_with fail
 refine (HEA.out W _ HRW.out HA.out).mono ?_
 rintro e w2 ⟨rfl, hb2⟩
 have HR2 := qh (HRW.out.below hb2)
 have HBB : Hid (Below B w w2) := HBW2.out.trans (hb2.mono (Nat.le_trans HBW.out HA.out.size))
 have d0 : w2.cell? ⟨gi, 11, none⟩ = some (.int .i64 to_) := qck hb2 _ _ (qcb HX.out 11)
 have d1 : w2.cell? ⟨gr, 0, none⟩ = some (.int .i64 pc) := qcb HR2.out.block 0
 have f0 : w2.frozen? ⟨gr, 0, none⟩ = false := qfb HR2.out.block 0
 clear hb2 c0 c1 c2 c3
 by_cases hz : va = 0
 ·subst hz
  go_wp2_with fail
  go_ret
  first | rw [HRES.out, if_pos rfl] | rw [HRES.out, if_pos trivial]
  exact way_some (HR2.out.setPc to_) (HBB.out.setCell (p := ⟨gr, 0, none⟩) HR2.out.base _)
 ·have hz1 : ((va : Int) == 0) = false := by simp [hz]
  have HZ := qh hz
  clear hz
  go_wp2_with fail
  go_ret
  rw [HRES.out, if_neg HZ.out]
  exact way_some HR2.out HBB.out
theorem pway_assert {w : World} {B gr mb mc : Nat} {pc r0 r1 r2 r3 dom : Int} {buf : List EntryD} {bv : Value} {m : MachD} {mem : List Int} {bad : Bool} (h : RunR v0 w B gr pc r0 r1 r2 r3 buf bv m dom mem mb mc bad) (hB : B ≤ w.heap.size) (hd1 : 1 ≤ dom) (hd2 : dom ≤ 1000) (d : Nat) (x : InstrD) (ka kb : Value) (ha : ExprAt d w x.a ka) (hb : ExprAt d w x.b kb)
  (hreg : 0 ≤ x.reg ∧ x.reg < 4) (hvar : 0 ≤ x.var ∧ x.var < (mem.length : Int)) (hbl : buf.length ≤ 1000000) : Calls Tryz.prog 133 #[.pointer (some ⟨gr, 0, none⟩), instrV x ka kb] w fun e w' =>
  WayEnd v0 w B gr m dom mb mc (some (⟨pc, [r0, r1, r2, r3], buf⟩, mem, bad || decide (evalN [r0, r1, r2, r3] dom d x.a = 0))) e w' := by
 have hea := fun W V (hV : RunR v0 W B gr pc r0 r1 r2 r3 buf V m dom mem mb mc bad) (hW : Below w.heap.size w W) => prun_eval hV hd1 hd2 d x.a ka (ha.below hW)
 obtain ⟨aa, ac, rfl, -⟩ := ha.slice
 obtain ⟨ba, bc, rfl, -⟩ := hb.slice
 obtain ⟨ua, uc, rfl, -⟩ := SliceR.slice h.bufAt
 obtain ⟨op, reg, v, a, b, to_⟩ := x
 simp only [] at hreg hvar ha hb hea ⊢
 obtain ⟨reg, rfl⟩ : ∃ k : Nat, reg = (k : Int) := ⟨reg.toNat, by omega⟩
 obtain ⟨v, rfl⟩ : ∃ k : Nat, v = (k : Int) := ⟨v.toNat, by omega⟩
 have hr4 : reg < 4 := by omega
 have hvn : v < mem.length := by omega
 have hvI : (v : Int) < (mem.length : Int) := hvar.2
 have hrI : (reg : Int) < 4 := hreg.2
 try simp only [Int.toNat_natCast]
 clear ha hb
 unfold instrV
 simp only []
 unfold exprV at hea
 generalize hva : evalN [r0, r1, r2, r3] dom d a = va at hea ⊢
 clear hva
 generalize a.kind = ak at hea ⊢
 generalize a.n = an at hea ⊢
 generalize a.op = ao at hea ⊢
 generalize a.kids.length = al at hea ⊢
 generalize b.kind = bk at ⊢
 generalize b.n = bn at ⊢
 generalize b.op = bo at ⊢
 generalize b.kids.length = bl at ⊢
 have HEA := qh hea
 clear hea
 obtain ⟨res, hres⟩ : ∃ r : Option (ThreadD × List Int × Bool), r = (some (⟨pc, [r0, r1, r2, r3], buf⟩, mem, bad || decide (va = 0))) := ⟨_, rfl⟩
 rw [← hres]
 have HRES := qh hres
 clear hres
 obtain ⟨un, hun⟩ : ∃ n, n = buf.length := ⟨_, rfl⟩
 rw [← hun] at h hbl
 have HUN := qh hun
 have HR := qh h
 have HBW := qh hB
 have HA := qh ((Below.refl w.heap.size w).alloc (Nat.le_refl _) (.cells #[.int .i64 op, .int .i64 (reg : Int), .int .i64 (v : Int), .int .i64 ak, .int .i64 an, .int .u8 ao, .slice aa al ac, .int .i64 bk, .int .i64 bn, .int .u8 bo, .slice ba bl bc, .int .i64 to_] 64))
 have HX := qh (qhn w (.cells #[.int .i64 op, .int .i64 (reg : Int), .int .i64 (v : Int), .int .i64 ak, .int .i64 an, .int .u8 ao, .slice aa al ac, .int .i64 bk, .int .i64 bn, .int .u8 bo, .slice ba bl bc, .int .i64 to_] 64))
 clear h hun hB
 go_enter Tryz.func133, Tryz.ntmps133
 go_upto_region 1 with fail
 generalize World.alloc w _ = W at HA HX ⊢
 obtain ⟨gi, hgi⟩ : ∃ g, g = w.heap.size := ⟨_, rfl⟩
 rw [← hgi] at HX ⊢
 clear hgi
 have HRW := qh (HR.out.below HA.out)
 have HBW2 : Hid (Below B w W) := HA.out.mono HBW.out
 have CC : Hid (∀ x, Below W.heap.size W x → x.cell? ⟨gi, 3, none⟩ = some (.int .i64 ak) ∧ x.cell? ⟨gi, 4, none⟩ = some (.int .i64 an) ∧ x.cell? ⟨gi, 5, none⟩ = some (.int .u8 ao) ∧ x.cell? ⟨gi, 6, none⟩ = some (.slice aa al ac) ∧ x.cell? ⟨gr, 10, none⟩ = some (.bool bad)) := fun x hx => ⟨qck hx _ _ (qcb HX.out 3), qck hx _ _ (qcb HX.out 4), qck hx _ _ (qcb HX.out 5), qck hx _ _ (qcb HX.out 6), qck hx _ _ (qcb HRW.out.block 10)⟩
 obtain ⟨c0, c1, c2, c3, c4⟩ := CC.out W (Below.refl _ _)
 have f10 : W.frozen? ⟨gr, 10, none⟩ = false := qfb HRW.out.block 10
 cases bad with
 | true =>
  go_wp2_with fail
  go_ret
  rw [HRES.out]
  exact way_some (HRW.out.setBad _) (HBW2.out.setCell (p := ⟨gr, 10, none⟩) HRW.out.base _)
 | false =>
  go_wp2_with fail
  refine (HEA.out W _ HRW.out HA.out).mono ?_
  rintro e w2 ⟨rfl, hb2⟩
  have HR2 := qh (HRW.out.below hb2)
  have HBB : Hid (Below B w w2) := HBW2.out.trans (hb2.mono (Nat.le_trans HBW.out HA.out.size))
  have d1 : w2.cell? ⟨gr, 10, none⟩ = some (.bool false) := qcb HR2.out.block 10
  have g0 : w2.frozen? ⟨gr, 10, none⟩ = false := qfb HR2.out.block 10
  clear hb2 f10 c0 c1 c2 c3 c4
  by_cases hz : va = 0
  ·subst hz
   go_wp2_with fail
   go_ret
   rw [HRES.out]
   exact way_some (HR2.out.setBad _) (HBB.out.setCell (p := ⟨gr, 10, none⟩) HR2.out.base _)
  ·have hz1 : ((va : Int) == 0) = false := by simp [hz]
   have HZ : Hid ((false || decide (va = 0)) = false) := by simp [Hid, hz]
   clear hz
   go_wp2_with fail
   go_ret
   rw [HRES.out, HZ.out]
   exact way_some (HR2.out.setBad _) (HBB.out.setCell (p := ⟨gr, 10, none⟩) HR2.out.base _)
theorem pway_fence {w : World} {B gr mb mc : Nat} {pc r0 r1 r2 r3 dom : Int} {buf : List EntryD} {bv : Value} {m : MachD} {mem : List Int} {bad : Bool} (h : RunR v0 w B gr pc r0 r1 r2 r3 buf bv m dom mem mb mc bad) (hB : B ≤ w.heap.size) (hd1 : 1 ≤ dom) (hd2 : dom ≤ 1000) (d : Nat) (x : InstrD) (ka kb : Value) (ha : ExprAt d w x.a ka) (hb : ExprAt d w x.b kb)
  (hreg : 0 ≤ x.reg ∧ x.reg < 4) (hvar : 0 ≤ x.var ∧ x.var < (mem.length : Int)) (hbl : buf.length ≤ 1000000) : Calls Tryz.prog 128 #[.pointer (some ⟨gr, 0, none⟩), instrV x ka kb] w fun e w' =>
  WayEnd v0 w B gr m dom mb mc (if buf.length = 0 then some (⟨pc, [r0, r1, r2, r3], buf⟩, mem, bad) else none) e w' := by
 obtain ⟨aa, ac, rfl, -⟩ := ha.slice
 obtain ⟨ba, bc, rfl, -⟩ := hb.slice
 obtain ⟨ua, uc, rfl, -⟩ := SliceR.slice h.bufAt
 obtain ⟨op, reg, v, a, b, to_⟩ := x
 simp only [] at hreg hvar ha hb ⊢
 obtain ⟨reg, rfl⟩ : ∃ k : Nat, reg = (k : Int) := ⟨reg.toNat, by omega⟩
 obtain ⟨v, rfl⟩ : ∃ k : Nat, v = (k : Int) := ⟨v.toNat, by omega⟩
 have hr4 : reg < 4 := by omega
 have hvn : v < mem.length := by omega
 have hvI : (v : Int) < (mem.length : Int) := hvar.2
 have hrI : (reg : Int) < 4 := hreg.2
 try simp only [Int.toNat_natCast]
 clear ha hb
 unfold instrV
 simp only []
 generalize a.kind = ak at ⊢
 generalize a.n = an at ⊢
 generalize a.op = ao at ⊢
 generalize a.kids.length = al at ⊢
 generalize b.kind = bk at ⊢
 generalize b.n = bn at ⊢
 generalize b.op = bo at ⊢
 generalize b.kids.length = bl at ⊢
 obtain ⟨res, hres⟩ : ∃ r : Option (ThreadD × List Int × Bool), r = (if buf.length = 0 then some (⟨pc, [r0, r1, r2, r3], buf⟩, mem, bad) else none) := ⟨_, rfl⟩
 rw [← hres]
 have HRES := qh hres
 clear hres
 obtain ⟨un, hun⟩ : ∃ n, n = buf.length := ⟨_, rfl⟩
 rw [← hun] at h hbl
 have HUN := qh hun
 have HR := qh h
 have HBW := qh hB
 have HA := qh ((Below.refl w.heap.size w).alloc (Nat.le_refl _) (.cells #[.int .i64 op, .int .i64 (reg : Int), .int .i64 (v : Int), .int .i64 ak, .int .i64 an, .int .u8 ao, .slice aa al ac, .int .i64 bk, .int .i64 bn, .int .u8 bo, .slice ba bl bc, .int .i64 to_] 64))
 have HX := qh (qhn w (.cells #[.int .i64 op, .int .i64 (reg : Int), .int .i64 (v : Int), .int .i64 ak, .int .i64 an, .int .u8 ao, .slice aa al ac, .int .i64 bk, .int .i64 bn, .int .u8 bo, .slice ba bl bc, .int .i64 to_] 64))
 clear h hun hB
 go_enter Tryz.func128, Tryz.ntmps128
 go_upto_region 1 with fail
 generalize World.alloc w _ = W at HA HX ⊢
 obtain ⟨gi, hgi⟩ : ∃ g, g = w.heap.size := ⟨_, rfl⟩
 rw [← hgi] at HX ⊢
 clear hgi
 have HRW := qh (HR.out.below HA.out)
 have HBW2 : Hid (Below B w W) := HA.out.mono HBW.out
 go_wp2_with fail
 refine (prun_empty HRW.out).mono ?_
 rintro e w2 ⟨rfl, rfl⟩
 by_cases hz : buf.length = 0
 ·have HZ := qh hz
  have hz1 : decide (buf.length = 0) = true := decide_eq_true hz
  clear hz
  rw [hz1]
  go_wp2_with fail
  go_ret
  rw [HRES.out, if_pos HZ.out]
  exact way_some HRW.out HBW2.out
 ·have HZ := qh hz
  have hz1 : decide (buf.length = 0) = false := decide_eq_false hz
  clear hz
  rw [hz1]
  go_wp2_with fail
  go_ret
  rw [HRES.out, if_neg HZ.out]
  exact way_none HBW2.out
theorem pway_weak {w : World} {B gr mb mc : Nat} {pc r0 r1 r2 r3 dom : Int} {buf : List EntryD} {bv : Value} {m : MachD} {mem : List Int} {bad : Bool} (h : RunR v0 w B gr pc r0 r1 r2 r3 buf bv m dom mem mb mc bad) (hB : B ≤ w.heap.size) (hd1 : 1 ≤ dom) (hd2 : dom ≤ 1000) (d : Nat) (x : InstrD) (ka kb : Value) (ha : ExprAt d w x.a ka) (hb : ExprAt d w x.b kb)
  (hreg : 0 ≤ x.reg ∧ x.reg < 4) (hvar : 0 ≤ x.var ∧ x.var < (mem.length : Int)) (hbl : buf.length ≤ 1000000) : Calls Tryz.prog 129 #[.pointer (some ⟨gr, 0, none⟩), instrV x ka kb] w fun e w' =>
  WayEnd v0 w B gr m dom mb mc (if buf.length = 0 ∨ ¬ m.model = 2 then some (⟨pc, [r0, r1, r2, r3], buf⟩, mem, bad) else none) e w' := by
 obtain ⟨aa, ac, rfl, -⟩ := ha.slice
 obtain ⟨ba, bc, rfl, -⟩ := hb.slice
 obtain ⟨ua, uc, rfl, -⟩ := SliceR.slice h.bufAt
 obtain ⟨op, reg, v, a, b, to_⟩ := x
 simp only [] at hreg hvar ha hb ⊢
 obtain ⟨reg, rfl⟩ : ∃ k : Nat, reg = (k : Int) := ⟨reg.toNat, by omega⟩
 obtain ⟨v, rfl⟩ : ∃ k : Nat, v = (k : Int) := ⟨v.toNat, by omega⟩
 have hr4 : reg < 4 := by omega
 have hvn : v < mem.length := by omega
 have hvI : (v : Int) < (mem.length : Int) := hvar.2
 have hrI : (reg : Int) < 4 := hreg.2
 try simp only [Int.toNat_natCast]
 clear ha hb
 unfold instrV
 simp only []
 generalize a.kind = ak at ⊢
 generalize a.n = an at ⊢
 generalize a.op = ao at ⊢
 generalize a.kids.length = al at ⊢
 generalize b.kind = bk at ⊢
 generalize b.n = bn at ⊢
 generalize b.op = bo at ⊢
 generalize b.kids.length = bl at ⊢
 obtain ⟨res, hres⟩ : ∃ r : Option (ThreadD × List Int × Bool), r = (if buf.length = 0 ∨ ¬ m.model = 2 then some (⟨pc, [r0, r1, r2, r3], buf⟩, mem, bad) else none) := ⟨_, rfl⟩
 rw [← hres]
 have HRES := qh hres
 clear hres
 obtain ⟨un, hun⟩ : ∃ n, n = buf.length := ⟨_, rfl⟩
 rw [← hun] at h hbl
 have HUN := qh hun
 have HR := qh h
 have HBW := qh hB
 have HA := qh ((Below.refl w.heap.size w).alloc (Nat.le_refl _) (.cells #[.int .i64 op, .int .i64 (reg : Int), .int .i64 (v : Int), .int .i64 ak, .int .i64 an, .int .u8 ao, .slice aa al ac, .int .i64 bk, .int .i64 bn, .int .u8 bo, .slice ba bl bc, .int .i64 to_] 64))
 have HX := qh (qhn w (.cells #[.int .i64 op, .int .i64 (reg : Int), .int .i64 (v : Int), .int .i64 ak, .int .i64 an, .int .u8 ao, .slice aa al ac, .int .i64 bk, .int .i64 bn, .int .u8 bo, .slice ba bl bc, .int .i64 to_] 64))
 clear h hun hB
 go_enter Tryz.func129, Tryz.ntmps129
 go_upto_region 1 with fail
 generalize World.alloc w _ = W at HA HX ⊢
 obtain ⟨gi, hgi⟩ : ∃ g, g = w.heap.size := ⟨_, rfl⟩
 rw [← hgi] at HX ⊢
 clear hgi
 have HRW := qh (HR.out.below HA.out)
 have HBW2 : Hid (Below B w W) := HA.out.mono HBW.out
 have CC : Hid (∀ x, Below W.heap.size W x → x.cell? ⟨gr, 6, none⟩ = some (.int .i64 m.model)) := fun x hx => qck hx _ _ (qcb HRW.out.block 6)
 go_wp2_with fail
 refine (prun_empty HRW.out).mono ?_
 rintro e w2 ⟨rfl, rfl⟩
 by_cases hz : buf.length = 0
 ·have HZ := qh hz
  have hz1 : decide (buf.length = 0) = true := decide_eq_true hz
  clear hz
  rw [hz1]
  go_wp2_with fail
  go_ret
  rw [HRES.out, if_pos (.inl HZ.out)]
  exact way_some HRW.out HBW2.out
 have HZ := qh hz
 have hz1 : decide (buf.length = 0) = false := decide_eq_false hz
 clear hz
 rw [hz1]
 have c0 := CC.out w2 (Below.refl _ _)
 by_cases hm : m.model = 2
 ·have hm1 : ((m.model : Int) != 2) = false := by simp [hm]
  have HM := qh hm
  clear hm
  go_wp2_with fail
  go_ret
  rw [HRES.out, if_neg (fun h => h.elim HZ.out (fun h2 => h2 HM.out))]
  exact way_none HBW2.out
 ·have hm1 : ((m.model : Int) != 2) = true := by simp [hm]
  have HM := qh hm
  clear hm
  go_wp2_with fail
  go_ret
  rw [HRES.out, if_pos (.inr HM.out)]
  exact way_some HRW.out HBW2.out
theorem pway_unlock {w : World} {B gr mb mc : Nat} {pc r0 r1 r2 r3 dom : Int} {buf : List EntryD} {bv : Value} {m : MachD} {mem : List Int} {bad : Bool} (h : RunR v0 w B gr pc r0 r1 r2 r3 buf bv m dom mem mb mc bad) (hB : B ≤ w.heap.size) (hd1 : 1 ≤ dom) (hd2 : dom ≤ 1000) (d : Nat) (x : InstrD) (ka kb : Value) (ha : ExprAt d w x.a ka) (hb : ExprAt d w x.b kb)
  (hreg : 0 ≤ x.reg ∧ x.reg < 4) (hvar : 0 ≤ x.var ∧ x.var < (mem.length : Int)) (hbl : buf.length ≤ 1000000) : Calls Tryz.prog 132 #[.pointer (some ⟨gr, 0, none⟩), instrV x ka kb] w fun e w' =>
  WayEnd v0 w B gr m dom mb mc (if buf.length = 0 then some (⟨pc, [r0, r1, r2, r3], buf⟩, mem.set x.var.toNat 0, bad) else none) e w' := by
 obtain ⟨aa, ac, rfl, -⟩ := ha.slice
 obtain ⟨ba, bc, rfl, -⟩ := hb.slice
 obtain ⟨ua, uc, rfl, -⟩ := SliceR.slice h.bufAt
 obtain ⟨op, reg, v, a, b, to_⟩ := x
 simp only [] at hreg hvar ha hb ⊢
 obtain ⟨reg, rfl⟩ : ∃ k : Nat, reg = (k : Int) := ⟨reg.toNat, by omega⟩
 obtain ⟨v, rfl⟩ : ∃ k : Nat, v = (k : Int) := ⟨v.toNat, by omega⟩
 have hr4 : reg < 4 := by omega
 have hvn : v < mem.length := by omega
 have hvI : (v : Int) < (mem.length : Int) := hvar.2
 have hrI : (reg : Int) < 4 := hreg.2
 try simp only [Int.toNat_natCast]
 clear ha hb
 unfold instrV
 simp only []
 generalize a.kind = ak at ⊢
 generalize a.n = an at ⊢
 generalize a.op = ao at ⊢
 generalize a.kids.length = al at ⊢
 generalize b.kind = bk at ⊢
 generalize b.n = bn at ⊢
 generalize b.op = bo at ⊢
 generalize b.kids.length = bl at ⊢
 obtain ⟨res, hres⟩ : ∃ r : Option (ThreadD × List Int × Bool), r = (if buf.length = 0 then some (⟨pc, [r0, r1, r2, r3], buf⟩, mem.set v 0, bad) else none) := ⟨_, rfl⟩
 rw [← hres]
 have HRES := qh hres
 clear hres
 obtain ⟨un, hun⟩ : ∃ n, n = buf.length := ⟨_, rfl⟩
 rw [← hun] at h hbl
 have HUN := qh hun
 have HR := qh h
 have HBW := qh hB
 have HA := qh ((Below.refl w.heap.size w).alloc (Nat.le_refl _) (.cells #[.int .i64 op, .int .i64 (reg : Int), .int .i64 (v : Int), .int .i64 ak, .int .i64 an, .int .u8 ao, .slice aa al ac, .int .i64 bk, .int .i64 bn, .int .u8 bo, .slice ba bl bc, .int .i64 to_] 64))
 have HX := qh (qhn w (.cells #[.int .i64 op, .int .i64 (reg : Int), .int .i64 (v : Int), .int .i64 ak, .int .i64 an, .int .u8 ao, .slice aa al ac, .int .i64 bk, .int .i64 bn, .int .u8 bo, .slice ba bl bc, .int .i64 to_] 64))
 clear h hun hB
 go_enter Tryz.func132, Tryz.ntmps132
 go_upto_region 1 with fail
 generalize World.alloc w _ = W at HA HX ⊢
 obtain ⟨gi, hgi⟩ : ∃ g, g = w.heap.size := ⟨_, rfl⟩
 rw [← hgi] at HX ⊢
 clear hgi
 have HRW := qh (HR.out.below HA.out)
 have HBW2 : Hid (Below B w W) := HA.out.mono HBW.out
 have CC : Hid (∀ x, Below W.heap.size W x → x.cell? ⟨gi, 2, none⟩ = some (.int .i64 (v : Int)) ∧ x.cell? ⟨gr, 9, none⟩ = some (.slice (some ⟨mb, 0, none⟩) mem.length mc)) := fun x hx => ⟨qck hx _ _ (qcb HX.out 2), qck hx _ _ (qcb HRW.out.block 9)⟩
 refine wp_region_noPanic ?_
 refine wp_region_tail (n0 := 7) (S := fun x => Below W.heap.size W x) (by kernel_rfl) ((Below.refl _ _).drew) (fun hT => ?_)
 refine qtF 0 5 ?vt1 rfl ?hyt1 (fun _ => hT) ?_
 case hyt1 => (intro _ _; go_simp <;> rfl)
 simp only [Act.put, qz1, qz2, qz3]
 refine qtF 1 6 ?vt2 rfl ?hyt2 (fun _ => hT) ?_
 case hyt2 => (intro _ _; go_simp <;> rfl)
 simp only [Act.put, qz1, qz2, qz3]
 refine qtF 2 7 ?vt3 rfl ?hyt3 (fun _ => hT) ?_
 case hyt3 => (intro _ _; go_simp <;> rfl)
 simp only [Act.put, qz1, qz2, qz3]
 refine qtT [6, 7] 3 8 ?vt4 rfl ?hyt4 hT ?_
 case hyt4 => (intro x h; have e := CC.out x h; go_simp <;> rfl)
 simp only [Act.put, qz1, qz2, qz3]
 refine qtF 4 9 ?vt5 rfl ?hyt5 (fun _ => hT) ?_
 case hyt5 => (intro _ _; go_simp <;> rfl)
 simp only [Act.put, qz1, qz2, qz3]
 refine qtT [6, 7] 5 10 ?vt6 rfl ?hyt6 hT ?_
 case hyt6 => (intro x h; have e := CC.out x h; go_simp <;> rfl)
 simp only [Act.put, qz1, qz2, qz3]
 refine qtF 6 11 ?vt7 rfl ?hyt7 (fun _ => hT) ?_
 case hyt7 => (intro _ _; go_simp <;> rfl)
 simp only [Act.put, qz1, qz2, qz3]
 refine qrT 7 rfl (fun K hK => ?_)
 obtain ⟨q0, q1⟩ := (HRW.out.below (Below.refl _ _).drew).memCell hvn
 go_simp
 refine hK.out _ _ (fun h => absurd rfl h) ?_
 clear hK K
 refine wpAnyT_done (by kernel_rfl) ?_ _
 refine NoPanic.normal ?_
 clear q0 q1
 have HR2 := qh ((HRW.out.below (Below.refl _ _).drew).setMem v 0)
 have HB2 : Hid (Below B w (W.drew.setCell ⟨mb, v, none⟩ (.int .i64 0))) := HBW2.out.drew.setCell (p := ⟨mb, v, none⟩) HRW.out.memBase.1 _
 go_wp2_with fail
 refine (prun_empty HR2.out).mono ?_
 rintro e w3 ⟨rfl, rfl⟩
 by_cases hz : buf.length = 0
 ·have HZ := qh hz
  have hz1 : decide (buf.length = 0) = true := decide_eq_true hz
  clear hz
  rw [hz1]
  go_wp2_with fail
  go_ret
  rw [HRES.out, if_pos HZ.out]
  exact way_some HR2.out HB2.out
 ·have HZ := qh hz
  have hz1 : decide (buf.length = 0) = false := decide_eq_false hz
  clear hz
  rw [hz1]
  go_wp2_with fail
  go_ret
  rw [HRES.out, if_neg HZ.out]
  exact way_none HB2.out
end Go.Proofs.YtliajkheeniljaaGreatDoor
