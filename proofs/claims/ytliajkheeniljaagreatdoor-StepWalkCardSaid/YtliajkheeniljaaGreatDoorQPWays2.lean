/- What a thread's instructions do: the program's methods: the walks. -/
import Derived.Test.YtliajkheeniljaaGreatDoorQPLook
import Derived.Test.YtliajkheeniljaaGreatDoorQPWays
import Derived.Test.YtliajkheeniljaaGreatDoorQShort
set_option linter.all false
namespace Go.Proofs.YtliajkheeniljaaGreatDoor
open Go.RowKit
set_option maxRecDepth 100000
set_option maxHeartbeats 16000000
variable {v0 : Value}
theorem pway_set {w : World} {B gr mb mc : Nat} {pc r0 r1 r2 r3 dom : Int} {buf : List EntryD} {bv : Value} {m : MachD} {mem : List Int} {bad : Bool} (h : RunR v0 w B gr pc r0 r1 r2 r3 buf bv m dom mem mb mc bad) (hB : B ≤ w.heap.size) (hd1 : 1 ≤ dom) (hd2 : dom ≤ 1000) (d : Nat) (x : InstrD) (ka kb : Value) (ha : ExprAt d w x.a ka) (hb : ExprAt d w x.b kb)
  (hreg : 0 ≤ x.reg ∧ x.reg < 4) (hvar : 0 ≤ x.var ∧ x.var < (mem.length : Int)) (hbl : buf.length ≤ 1000000) : Calls Tryz.prog 127 #[.pointer (some ⟨gr, 0, none⟩), instrV x ka kb] w fun e w' =>
  WayEnd v0 w B gr m dom mb mc (some (⟨pc, [r0, r1, r2, r3].set x.reg.toNat (evalN [r0, r1, r2, r3] dom d x.a), buf⟩, mem, bad)) e w' := by
 have hea := fun W V (hV : RunR v0 W B gr pc r0 r1 r2 r3 buf V m dom mem mb mc bad) (hW : Below w.heap.size w W) => prun_eval hV hd1 hd2 d x.a ka (ha.below hW)
 obtain ⟨aa, ac, rfl, -⟩ := ha.slice
 obtain ⟨ba, bc, rfl, -⟩ := hb.slice
 obtain ⟨ua, uc, rfl, -⟩ := SliceR.slice h.bufAt
 obtain ⟨op, reg, v, a, b, to_⟩ := x
 simp only [] at hreg hvar ha hb hea ⊢
 obtain ⟨reg, rfl⟩ : ∃ k : Nat, reg = (k : Int) := ⟨reg.toNat, by omega⟩
 obtain ⟨v, rfl⟩ : ∃ k : Nat, v = (k : Int) := ⟨v.toNat, by omega⟩
 have hr4 : reg < 4 := by omega
 have hvn : v < mem.length := by omega
 have hvI : (v : Int) < (mem.length : Int) := hvar.2
 have hrI : (reg : Int) < 4 := hreg.2
 try simp only [Int.toNat_natCast]
 clear ha hb
 unfold instrV
 simp only []
 unfold exprV at hea
 generalize hva : evalN [r0, r1, r2, r3] dom d a = va at hea ⊢
 clear hva
 generalize a.kind = ak at hea ⊢
 generalize a.n = an at hea ⊢
 generalize a.op = ao at hea ⊢
 generalize a.kids.length = al at hea ⊢
 generalize b.kind = bk at ⊢
 generalize b.n = bn at ⊢
 generalize b.op = bo at ⊢
 generalize b.kids.length = bl at ⊢
 have HEA := qh hea
 clear hea
 obtain ⟨res, hres⟩ : ∃ r : Option (ThreadD × List Int × Bool), r = (some (⟨pc, [r0, r1, r2, r3].set reg (va), buf⟩, mem, bad)) := ⟨_, rfl⟩
 rw [← hres]
 have HRES := qh hres
 clear hres
 obtain ⟨un, hun⟩ : ∃ n, n = buf.length := ⟨_, rfl⟩
 rw [← hun] at h hbl
 have HUN := qh hun
 have HR := qh h
 have HBW := qh hB
 have HA := qh ((Below.refl w.heap.size w).alloc (Nat.le_refl _) (.cells #[.int .i64 op, .int .i64 (reg : Int), .int .i64 (v : Int), .int .i64 ak, .int .i64 an, .int .u8 ao, .slice aa al ac, .int .i64 bk, .int .i64 bn, .int .u8 bo, .slice ba bl bc, .int .i64 to_] 64))
 have HX := qh (qhn w (.cells #[.int .i64 op, .int .i64 (reg : Int), .int .i64 (v : Int), .int .i64 ak, .int .i64 an, .int .u8 ao, .slice aa al ac, .int .i64 bk, .int .i64 bn, .int .u8 bo, .slice ba bl bc, .int .i64 to_] 64))
 clear h hun hB
 go_enter Tryz.func127, Tryz.ntmps127
 go_upto_region 1 with fail
 generalize World.alloc w _ = W at HA HX ⊢
 obtain ⟨gi, hgi⟩ : ∃ g, g = w.heap.size := ⟨_, rfl⟩
 rw [← hgi] at HX ⊢
 clear hgi
 have HRW := qh (HR.out.below HA.out)
 have HBW2 : Hid (Below B w W) := HA.out.mono HBW.out
 have CC : Hid (∀ x, Below W.heap.size W x → x.cell? ⟨gi, 1, none⟩ = some (.int .i64 (reg : Int)) ∧ x.cell? ⟨gi, 3, none⟩ = some (.int .i64 ak) ∧ x.cell? ⟨gi, 4, none⟩ = some (.int .i64 an) ∧ x.cell? ⟨gi, 5, none⟩ = some (.int .u8 ao) ∧ x.cell? ⟨gi, 6, none⟩ = some (.slice aa al ac)) := fun x hx => ⟨qck hx _ _ (qcb HX.out 1), qck hx _ _ (qcb HX.out 3), qck hx _ _ (qcb HX.out 4), qck hx _ _ (qcb HX.out 5), qck hx _ _ (qcb HX.out 6)⟩
 refine wp_region_noPanic ?_
 refine wp_region_tail (n0 := 11) (S := fun x => Below W.heap.size W x) (by kernel_rfl) ((Below.refl _ _).drew) (fun hT => ?_)
 refine qtF 0 5 ?vt1 rfl ?hyt1 (fun _ => hT) ?_
 case hyt1 => (intro _ _; go_simp <;> rfl)
 simp only [Act.put, qz1, qz2, qz3]
 refine qtF 1 6 ?vt2 rfl ?hyt2 (fun _ => hT) ?_
 case hyt2 => (intro _ _; go_simp <;> rfl)
 simp only [Act.put, qz1, qz2, qz3]
 refine qtT [10, 11] 2 7 ?vt3 rfl ?hyt3 hT ?_
 case hyt3 => (intro x h; have e := CC.out x h; go_simp <;> rfl)
 simp only [Act.put, qz1, qz2, qz3]
 refine qtF 3 8 ?vt4 rfl ?hyt4 (fun _ => hT) ?_
 case hyt4 => (intro _ _; go_simp <;> rfl)
 simp only [Act.put, qz1, qz2, qz3]
 refine qtF 4 9 ?vt5 rfl ?hyt5 (fun _ => hT) ?_
 case hyt5 => (intro _ _; go_simp <;> rfl)
 simp only [Act.put, qz1, qz2, qz3]
 refine qtT [6, 10, 11] 5 10 ?vt6 rfl ?hyt6 hT ?_
 case hyt6 => (intro x h; have e := CC.out x h; go_simp <;> rfl)
 simp only [Act.put, qz1, qz2, qz3]
 refine qtF 7 12 ?vt7 rfl ?hyt7 (fun _ => hT) ?_
 case hyt7 => (intro _ _; go_simp <;> rfl)
 simp only [Act.put, qz1, qz2, qz3]
 refine qtF 8 13 ?vt8 rfl ?hyt8 (fun _ => hT) ?_
 case hyt8 => (intro _ _; go_simp <;> rfl)
 simp only [Act.put, qz1, qz2, qz3]
 refine qtF 9 14 ?vt9 rfl ?hyt9 (fun _ => hT) ?_
 case hyt9 => (intro _ _; go_simp <;> rfl)
 simp only [Act.put, qz1, qz2, qz3]
 refine qrT 6 rfl (fun K hK => ?_)
 go_simp
 refine (HEA.out W.drew _ (HRW.out.below hT) (qbt HA.out hT)).mono ?_
 rintro e tw6 ⟨rfl, hb⟩
 have hT6 : Below W.heap.size W tw6 := qbt hT hb
 refine hK.out _ _ (fun _ _ => hT6) ?_
 clear hK K hb hT
 refine qtF 10 15 ?vt10 rfl ?hyt10 (fun _ => hT6) ?_
 case hyt10 => (intro _ _; go_simp <;> rfl)
 simp only [Act.put, qz1, qz2, qz3]
 refine qrT 11 rfl (fun K hK => ?_)
 obtain ⟨q0, q1⟩ := (HRW.out.below hT6).regCell hr4
 go_simp
 refine hK.out _ _ (fun h => absurd rfl h) ?_
 clear hK K
 refine wpAnyT_done (by kernel_rfl) ?_ _
 refine NoPanic.normal ?_
 clear q0 q1
 have HR2 := qh ((HRW.out.below hT6).setReg reg hr4 va)
 have HB2 : Hid (Below B w (tw6.setCell ⟨gr, 1 + reg, none⟩ (.int .i64 va))) := (HBW2.out.trans (hT6.mono (Nat.le_trans HBW.out HA.out.size))).setCell (p := ⟨gr, 1 + reg, none⟩) HRW.out.base _
 go_wp2_with fail
 go_ret
 rw [HRES.out]
 exact way_set HR2.out HB2.out
theorem pway_lock {w : World} {B gr mb mc : Nat} {pc r0 r1 r2 r3 dom : Int} {buf : List EntryD} {bv : Value} {m : MachD} {mem : List Int} {bad : Bool} (h : RunR v0 w B gr pc r0 r1 r2 r3 buf bv m dom mem mb mc bad) (hB : B ≤ w.heap.size) (hd1 : 1 ≤ dom) (hd2 : dom ≤ 1000) (d : Nat) (x : InstrD) (ka kb : Value) (ha : ExprAt d w x.a ka) (hb : ExprAt d w x.b kb)
  (hreg : 0 ≤ x.reg ∧ x.reg < 4) (hvar : 0 ≤ x.var ∧ x.var < (mem.length : Int)) (hbl : buf.length ≤ 1000000) : Calls Tryz.prog 131 #[.pointer (some ⟨gr, 0, none⟩), instrV x ka kb] w fun e w' =>
  WayEnd v0 w B gr m dom mb mc (if buf.length = 0 ∧ mem.getD x.var.toNat 0 = 0 then some (⟨pc, [r0, r1, r2, r3], buf⟩, mem.set x.var.toNat 1, bad) else none) e w' := by
 obtain ⟨aa, ac, rfl, -⟩ := ha.slice
 obtain ⟨ba, bc, rfl, -⟩ := hb.slice
 obtain ⟨ua, uc, rfl, -⟩ := SliceR.slice h.bufAt
 obtain ⟨op, reg, v, a, b, to_⟩ := x
 simp only [] at hreg hvar ha hb ⊢
 obtain ⟨reg, rfl⟩ : ∃ k : Nat, reg = (k : Int) := ⟨reg.toNat, by omega⟩
 obtain ⟨v, rfl⟩ : ∃ k : Nat, v = (k : Int) := ⟨v.toNat, by omega⟩
 have hr4 : reg < 4 := by omega
 have hvn : v < mem.length := by omega
 have hvI : (v : Int) < (mem.length : Int) := hvar.2
 have hrI : (reg : Int) < 4 := hreg.2
 try simp only [Int.toNat_natCast]
 clear ha hb
 unfold instrV
 simp only []
 generalize a.kind = ak at ⊢
 generalize a.n = an at ⊢
 generalize a.op = ao at ⊢
 generalize a.kids.length = al at ⊢
 generalize b.kind = bk at ⊢
 generalize b.n = bn at ⊢
 generalize b.op = bo at ⊢
 generalize b.kids.length = bl at ⊢
 obtain ⟨res, hres⟩ : ∃ r : Option (ThreadD × List Int × Bool), r = (if buf.length = 0 ∧ mem.getD v 0 = 0 then some (⟨pc, [r0, r1, r2, r3], buf⟩, mem.set v 1, bad) else none) := ⟨_, rfl⟩
 rw [← hres]
 have HRES := qh hres
 clear hres
 obtain ⟨un, hun⟩ : ∃ n, n = buf.length := ⟨_, rfl⟩
 rw [← hun] at h hbl
 have HUN := qh hun
 have HR := qh h
 have HBW := qh hB
 have HA := qh ((Below.refl w.heap.size w).alloc (Nat.le_refl _) (.cells #[.int .i64 op, .int .i64 (reg : Int), .int .i64 (v : Int), .int .i64 ak, .int .i64 an, .int .u8 ao, .slice aa al ac, .int .i64 bk, .int .i64 bn, .int .u8 bo, .slice ba bl bc, .int .i64 to_] 64))
 have HX := qh (qhn w (.cells #[.int .i64 op, .int .i64 (reg : Int), .int .i64 (v : Int), .int .i64 ak, .int .i64 an, .int .u8 ao, .slice aa al ac, .int .i64 bk, .int .i64 bn, .int .u8 bo, .slice ba bl bc, .int .i64 to_] 64))
 clear h hun hB
 go_enter Tryz.func131, Tryz.ntmps131
 go_upto_region 1 with fail
 generalize World.alloc w _ = W at HA HX ⊢
 obtain ⟨gi, hgi⟩ : ∃ g, g = w.heap.size := ⟨_, rfl⟩
 rw [← hgi] at HX ⊢
 clear hgi
 have HRW := qh (HR.out.below HA.out)
 have HBW2 : Hid (Below B w W) := HA.out.mono HBW.out
 have CC : Hid (∀ x, Below W.heap.size W x → x.cell? ⟨gi, 2, none⟩ = some (.int .i64 (v : Int)) ∧ x.cell? ⟨gr, 9, none⟩ = some (.slice (some ⟨mb, 0, none⟩) mem.length mc) ∧ x.cell? ⟨mb, v, none⟩ = some (.int .i64 (mem.getD v 0))) := fun x hx => ⟨qck hx _ _ (qcb HX.out 2), qck hx _ _ (qcb HRW.out.block 9), qck hx _ _ (HRW.out.memCell hvn).1⟩
 obtain ⟨z, hz⟩ : ∃ z, z = mem.getD v 0 := ⟨_, rfl⟩
 rw [← hz] at CC HRES
 clear hz
 by_cases hz0 : z = 0
 rotate_left
 ·have hz1 : ((z : Int) == 0) = false := by simp [hz0]
  have HZ0 := qh hz0
  clear hz0
  refine wp_region_noPanic ?_
  refine wp_region_held_drew (S := fun x => Below W.heap.size W x) (by kernel_rfl) ((Below.refl _ _).drew) (fun hH => ?_)
  refine qta 0 6 ?vhn1 rfl ?hyhn1 ?_
  case hyhn1 => (intro x h; have e := CC.out x h; go_simp <;> rfl)
  simp only [Act.put, qz1, qz2, qz3]
  refine qta 1 7 ?vhn2 rfl ?hyhn2 ?_
  case hyhn2 => (intro x h; have e := CC.out x h; go_simp <;> rfl)
  simp only [Act.put, qz1, qz2, qz3]
  refine qta 2 8 ?vhn3 rfl ?hyhn3 ?_
  case hyhn3 => (intro x h; have e := CC.out x h; go_simp <;> rfl)
  simp only [Act.put, qz1, qz2, qz3]
  refine qta 3 9 ?vhn4 rfl ?hyhn4 ?_
  case hyhn4 => (intro x h; have e := CC.out x h; go_simp <;> rfl)
  simp only [Act.put, qz1, qz2, qz3]
  refine qta 4 10 ?vhn5 rfl ?hyhn5 ?_
  case hyhn5 => (intro x h; have e := CC.out x h; go_simp <;> rfl)
  simp only [Act.put, qz1, qz2, qz3]
  refine qta 5 11 ?vhn6 rfl ?hyhn6 ?_
  case hyhn6 => (intro x h; have e := CC.out x h; go_simp <;> rfl)
  simp only [Act.put, qz1, qz2, qz3]
  refine qta 6 12 ?vhn7 rfl ?hyhn7 ?_
  case hyhn7 => (intro x h; have e := CC.out x h; go_simp <;> rfl)
  simp only [Act.put, qz1, qz2, qz3]
  refine qta 7 13 ?vhn8 rfl ?hyhn8 ?_
  case hyhn8 => (intro x h; have e := CC.out x h; go_simp <;> rfl)
  simp only [Act.put, qz1, qz2, qz3]
  refine qta 8 14 ?vhn9 rfl ?hyhn9 ?_
  case hyhn9 => (intro x h; have e := CC.out x h; go_simp <;> rfl)
  simp only [Act.put, qz1, qz2, qz3]
  refine qta 9 5 ?vhn10 rfl ?hyhn10 ?_
  case hyhn10 => (intro x h; have e := CC.out x h; go_simp <;> rfl)
  simp only [Act.put, qz1, qz2, qz3]
  refine wpAnyH_done (by kernel_rfl) ?_ _
  refine NoPanic.normal ?_
  go_upto_region 2 with fail
  refine wp_region_noPanic ?_
  refine wp_region_tail (n0 := 7) (S := fun x => Below W.heap.size W x) (by kernel_rfl) ((Below.refl _ _).drew.drew) (fun hT => ?_)
  refine qtF 0 15 ?vtn1 rfl ?hytn1 (fun _ => hT) ?_
  case hytn1 => (intro _ _; go_simp <;> rfl)
  simp only [Act.put, qz1, qz2, qz3]
  refine qtF 1 16 ?vtn2 rfl ?hytn2 (fun _ => hT) ?_
  case hytn2 => (intro _ _; go_simp <;> rfl)
  simp only [Act.put, qz1, qz2, qz3]
  refine qtF 2 17 ?vtn3 rfl ?hytn3 (fun _ => hT) ?_
  case hytn3 => (intro _ _; go_simp <;> rfl)
  simp only [Act.put, qz1, qz2, qz3]
  refine qtT [6, 7] 3 18 ?vtn4 rfl ?hytn4 hT ?_
  case hytn4 => (intro x h; have e := CC.out x h; go_simp <;> rfl)
  simp only [Act.put, qz1, qz2, qz3]
  refine qtF 4 19 ?vtn5 rfl ?hytn5 (fun _ => hT) ?_
  case hytn5 => (intro _ _; go_simp <;> rfl)
  simp only [Act.put, qz1, qz2, qz3]
  refine qtT [6, 7] 5 20 ?vtn6 rfl ?hytn6 hT ?_
  case hytn6 => (intro x h; have e := CC.out x h; go_simp <;> rfl)
  simp only [Act.put, qz1, qz2, qz3]
  refine qtF 6 21 ?vtn7 rfl ?hytn7 (fun _ => hT) ?_
  case hytn7 => (intro _ _; go_simp <;> rfl)
  simp only [Act.put, qz1, qz2, qz3]
  refine qrT 7 rfl (fun K hK => ?_)
  obtain ⟨q0, q1⟩ := (HRW.out.below (Below.refl _ _).drew.drew).memCell hvn
  go_simp
  refine hK.out _ _ (fun h => absurd rfl h) ?_
  clear hK K
  refine wpAnyT_done (by kernel_rfl) ?_ _
  refine NoPanic.normal ?_
  clear q0 q1
  have HR2 := qh ((HRW.out.below (Below.refl _ _).drew.drew).setMem v 1)
  have HB2 : Hid (Below B w (W.drew.drew.setCell ⟨mb, v, none⟩ (.int .i64 1))) := HBW2.out.drew.drew.setCell (p := ⟨mb, v, none⟩) HRW.out.memBase.1 _
  go_wp2_with fail
  go_ret
  rw [HRES.out, if_neg (fun h => HZ0.out h.2)]
  exact way_none HB2.out
 have hz1 : ((z : Int) == 0) = true := by simp [hz0]
 have HZ0 := qh hz0
 clear hz0
 refine wp_region_noPanic ?_
 refine wp_region_held_drew (S := fun x => Below W.heap.size W x) (by kernel_rfl) ((Below.refl _ _).drew) (fun hH => ?_)
 refine qta 0 6 ?vhy1 rfl ?hyhy1 ?_
 case hyhy1 => (intro x h; have e := CC.out x h; go_simp <;> rfl)
 simp only [Act.put, qz1, qz2, qz3]
 refine qta 1 7 ?vhy2 rfl ?hyhy2 ?_
 case hyhy2 => (intro x h; have e := CC.out x h; go_simp <;> rfl)
 simp only [Act.put, qz1, qz2, qz3]
 refine qta 2 8 ?vhy3 rfl ?hyhy3 ?_
 case hyhy3 => (intro x h; have e := CC.out x h; go_simp <;> rfl)
 simp only [Act.put, qz1, qz2, qz3]
 refine qta 3 9 ?vhy4 rfl ?hyhy4 ?_
 case hyhy4 => (intro x h; have e := CC.out x h; go_simp <;> rfl)
 simp only [Act.put, qz1, qz2, qz3]
 refine qta 4 10 ?vhy5 rfl ?hyhy5 ?_
 case hyhy5 => (intro x h; have e := CC.out x h; go_simp <;> rfl)
 simp only [Act.put, qz1, qz2, qz3]
 refine qta 5 11 ?vhy6 rfl ?hyhy6 ?_
 case hyhy6 => (intro x h; have e := CC.out x h; go_simp <;> rfl)
 simp only [Act.put, qz1, qz2, qz3]
 refine qta 6 12 ?vhy7 rfl ?hyhy7 ?_
 case hyhy7 => (intro x h; have e := CC.out x h; go_simp <;> rfl)
 simp only [Act.put, qz1, qz2, qz3]
 refine qta 7 13 ?vhy8 rfl ?hyhy8 ?_
 case hyhy8 => (intro x h; have e := CC.out x h; go_simp <;> rfl)
 simp only [Act.put, qz1, qz2, qz3]
 refine qta 8 14 ?vhy9 rfl ?hyhy9 ?_
 case hyhy9 => (intro x h; have e := CC.out x h; go_simp <;> rfl)
 simp only [Act.put, qz1, qz2, qz3]
 refine qta 9 5 ?vhy10 rfl ?hyhy10 ?_
 case hyhy10 => (intro x h; have e := CC.out x h; go_simp <;> rfl)
 simp only [Act.put, qz1, qz2, qz3]
 refine wpAnyH_done (by kernel_rfl) ?_ _
 refine NoPanic.normal ?_
 go_upto_region 2 with fail
 refine wp_region_noPanic ?_
 refine wp_region_tail (n0 := 7) (S := fun x => Below W.heap.size W x) (by kernel_rfl) ((Below.refl _ _).drew.drew) (fun hT => ?_)
 refine qtF 0 15 ?vty1 rfl ?hyty1 (fun _ => hT) ?_
 case hyty1 => (intro _ _; go_simp <;> rfl)
 simp only [Act.put, qz1, qz2, qz3]
 refine qtF 1 16 ?vty2 rfl ?hyty2 (fun _ => hT) ?_
 case hyty2 => (intro _ _; go_simp <;> rfl)
 simp only [Act.put, qz1, qz2, qz3]
 refine qtF 2 17 ?vty3 rfl ?hyty3 (fun _ => hT) ?_
 case hyty3 => (intro _ _; go_simp <;> rfl)
 simp only [Act.put, qz1, qz2, qz3]
 refine qtT [6, 7] 3 18 ?vty4 rfl ?hyty4 hT ?_
 case hyty4 => (intro x h; have e := CC.out x h; go_simp <;> rfl)
 simp only [Act.put, qz1, qz2, qz3]
 refine qtF 4 19 ?vty5 rfl ?hyty5 (fun _ => hT) ?_
 case hyty5 => (intro _ _; go_simp <;> rfl)
 simp only [Act.put, qz1, qz2, qz3]
 refine qtT [6, 7] 5 20 ?vty6 rfl ?hyty6 hT ?_
 case hyty6 => (intro x h; have e := CC.out x h; go_simp <;> rfl)
 simp only [Act.put, qz1, qz2, qz3]
 refine qtF 6 21 ?vty7 rfl ?hyty7 (fun _ => hT) ?_
 case hyty7 => (intro _ _; go_simp <;> rfl)
 simp only [Act.put, qz1, qz2, qz3]
 refine qrT 7 rfl (fun K hK => ?_)
 obtain ⟨q0, q1⟩ := (HRW.out.below (Below.refl _ _).drew.drew).memCell hvn
 go_simp
 refine hK.out _ _ (fun h => absurd rfl h) ?_
 clear hK K
 refine wpAnyT_done (by kernel_rfl) ?_ _
 refine NoPanic.normal ?_
 clear q0 q1
 have HR2 := qh ((HRW.out.below (Below.refl _ _).drew.drew).setMem v 1)
 have HB2 : Hid (Below B w (W.drew.drew.setCell ⟨mb, v, none⟩ (.int .i64 1))) := HBW2.out.drew.drew.setCell (p := ⟨mb, v, none⟩) HRW.out.memBase.1 _
 go_wp2_with fail
 refine (prun_empty HR2.out).mono ?_
 rintro e w3 ⟨rfl, rfl⟩
 by_cases hz : buf.length = 0
 ·have HZ := qh hz
  have hz1 : decide (buf.length = 0) = true := decide_eq_true hz
  clear hz
  rw [hz1]
  go_wp2_with fail
  go_ret
  rw [HRES.out, if_pos ⟨HZ.out, HZ0.out⟩]
  exact way_some HR2.out HB2.out
 ·have HZ := qh hz
  have hz1 : decide (buf.length = 0) = false := decide_eq_false hz
  clear hz
  rw [hz1]
  go_wp2_with fail
  go_ret
  rw [HRES.out, if_neg (fun h => HZ.out h.1)]
  exact way_none HB2.out
theorem pway_load {w : World} {B gr mb mc : Nat} {pc r0 r1 r2 r3 dom : Int} {buf : List EntryD} {bv : Value} {m : MachD} {mem : List Int} {bad : Bool} (h : RunR v0 w B gr pc r0 r1 r2 r3 buf bv m dom mem mb mc bad) (hB : B ≤ w.heap.size) (hd1 : 1 ≤ dom) (hd2 : dom ≤ 1000) (d : Nat) (x : InstrD) (ka kb : Value) (ha : ExprAt d w x.a ka) (hb : ExprAt d w x.b kb)
  (hreg : 0 ≤ x.reg ∧ x.reg < 4) (hvar : 0 ≤ x.var ∧ x.var < (mem.length : Int)) (hbl : buf.length ≤ 1000000) : Calls Tryz.prog 125 #[.pointer (some ⟨gr, 0, none⟩), instrV x ka kb] w fun e w' =>
  WayEnd v0 w B gr m dom mb mc (some (⟨pc, [r0, r1, r2, r3].set x.reg.toNat ((lookB buf x.var).getD (mem.getD x.var.toNat 0)), buf⟩, mem, bad)) e w' := by
 obtain ⟨aa, ac, rfl, -⟩ := ha.slice
 obtain ⟨ba, bc, rfl, -⟩ := hb.slice
 obtain ⟨ua, uc, rfl, -⟩ := SliceR.slice h.bufAt
 obtain ⟨op, reg, v, a, b, to_⟩ := x
 simp only [] at hreg hvar ha hb ⊢
 obtain ⟨reg, rfl⟩ : ∃ k : Nat, reg = (k : Int) := ⟨reg.toNat, by omega⟩
 obtain ⟨v, rfl⟩ : ∃ k : Nat, v = (k : Int) := ⟨v.toNat, by omega⟩
 have hr4 : reg < 4 := by omega
 have hvn : v < mem.length := by omega
 have hvI : (v : Int) < (mem.length : Int) := hvar.2
 have hrI : (reg : Int) < 4 := hreg.2
 try simp only [Int.toNat_natCast]
 clear ha hb
 unfold instrV
 simp only []
 generalize a.kind = ak at ⊢
 generalize a.n = an at ⊢
 generalize a.op = ao at ⊢
 generalize a.kids.length = al at ⊢
 generalize b.kind = bk at ⊢
 generalize b.n = bn at ⊢
 generalize b.op = bo at ⊢
 generalize b.kids.length = bl at ⊢
 obtain ⟨res, hres⟩ : ∃ r : Option (ThreadD × List Int × Bool), r = (some (⟨pc, [r0, r1, r2, r3].set reg ((lookB buf (v : Int)).getD (mem.getD v 0)), buf⟩, mem, bad)) := ⟨_, rfl⟩
 rw [← hres]
 have HRES := qh hres
 clear hres
 obtain ⟨un, hun⟩ : ∃ n, n = buf.length := ⟨_, rfl⟩
 rw [← hun] at h hbl
 have HUN := qh hun
 have HR := qh h
 have HBW := qh hB
 have HA := qh ((Below.refl w.heap.size w).alloc (Nat.le_refl _) (.cells #[.int .i64 op, .int .i64 (reg : Int), .int .i64 (v : Int), .int .i64 ak, .int .i64 an, .int .u8 ao, .slice aa al ac, .int .i64 bk, .int .i64 bn, .int .u8 bo, .slice ba bl bc, .int .i64 to_] 64))
 have HX := qh (qhn w (.cells #[.int .i64 op, .int .i64 (reg : Int), .int .i64 (v : Int), .int .i64 ak, .int .i64 an, .int .u8 ao, .slice aa al ac, .int .i64 bk, .int .i64 bn, .int .u8 bo, .slice ba bl bc, .int .i64 to_] 64))
 clear h hun hB
 go_enter Tryz.func125, Tryz.ntmps125
 go_upto_region 1 with fail
 generalize World.alloc w _ = W at HA HX ⊢
 obtain ⟨gi, hgi⟩ : ∃ g, g = w.heap.size := ⟨_, rfl⟩
 rw [← hgi] at HX ⊢
 clear hgi
 have HRW := qh (HR.out.below HA.out)
 have HBW2 : Hid (Below B w W) := HA.out.mono HBW.out
 have CC : Hid (∀ x, Below W.heap.size W x → x.cell? ⟨gi, 1, none⟩ = some (.int .i64 (reg : Int)) ∧ x.cell? ⟨gi, 2, none⟩ = some (.int .i64 (v : Int)) ∧ x.cell? ⟨gr, 5, none⟩ = some (.slice ua un uc) ∧ x.cell? ⟨gr, 9, none⟩ = some (.slice (some ⟨mb, 0, none⟩) mem.length mc) ∧ x.cell? ⟨mb, v, none⟩ = some (.int .i64 (mem.getD v 0))) := fun x hx => ⟨qck hx _ _ (qcb HX.out 1), qck hx _ _ (qcb HX.out 2), qck hx _ _ (qcb HRW.out.block 5), qck hx _ _ (qcb HRW.out.block 9), qck hx _ _ (HRW.out.memCell hvn).1⟩
 obtain ⟨lk, hlk⟩ : ∃ k, k = lookB buf (v : Int) := ⟨_, rfl⟩
 have HLOOK : Hid (∀ x, Below W.heap.size W x → Calls Tryz.prog 166 #[.slice ua un uc, .int .i64 (v : Int)] x fun e w' => e = .returned (.tuple #[.int .i64 (lk.getD 0), .bool lk.isSome]) ∧ Below x.heap.size x w') := fun x hx => by rw [hlk]; exact plook_any x _ buf (HRW.out.below hx).bufAt (by rw [← HUN.out]; exact hbl) v
 obtain ⟨z, hz⟩ : ∃ z, z = mem.getD v 0 := ⟨_, rfl⟩
 rw [← hz] at CC HRES
 rw [← hlk] at HRES
 clear hz hlk
 cases lk with
 | some y =>
  refine wp_region_noPanic ?_
  refine wp_region_held_drew (S := fun x => Below W.heap.size W x) (by kernel_rfl) ((Below.refl _ _).drew) (fun hH => ?_)
  refine qta 0 8 ?vhy1 rfl ?hyhy1 ?_
  case hyhy1 => (intro x h; have e := CC.out x h; go_simp <;> rfl)
  simp only [Act.put, qz1, qz2, qz3]
  refine qta 1 9 ?vhy2 rfl ?hyhy2 ?_
  case hyhy2 => (intro x h; have e := CC.out x h; go_simp <;> rfl)
  simp only [Act.put, qz1, qz2, qz3]
  refine qta 2 10 ?vhy3 rfl ?hyhy3 ?_
  case hyhy3 => (intro x h; have e := CC.out x h; go_simp <;> rfl)
  simp only [Act.put, qz1, qz2, qz3]
  refine qta 3 11 ?vhy4 rfl ?hyhy4 ?_
  case hyhy4 => (intro x h; have e := CC.out x h; go_simp <;> rfl)
  simp only [Act.put, qz1, qz2, qz3]
  refine qta 4 12 ?vhy5 rfl ?hyhy5 ?_
  case hyhy5 => (intro x h; have e := CC.out x h; go_simp <;> rfl)
  simp only [Act.put, qz1, qz2, qz3]
  refine qta 5 13 ?vhy6 rfl ?hyhy6 ?_
  case hyhy6 => (intro x h; have e := CC.out x h; go_simp <;> rfl)
  simp only [Act.put, qz1, qz2, qz3]
  refine qta 6 14 ?vhy7 rfl ?hyhy7 ?_
  case hyhy7 => (intro x h; have e := CC.out x h; go_simp <;> rfl)
  simp only [Act.put, qz1, qz2, qz3]
  refine qrH 7 rfl (fun K hK => ?_)
  go_simp
  refine (HLOOK.out W.drew hH).mono ?_
  rintro e hyw7 ⟨rfl, hb⟩
  have hHhy7 : Below W.heap.size W hyw7 := qbt hH hb
  refine hK.out _ _ hHhy7 (fun _ => ?_)
  clear hK K hb hH
  refine qta 8 7 ?vhy8 rfl ?hyhy8 ?_
  case hyhy8 => (intro x h; have e := CC.out x h; go_simp <;> rfl)
  simp only [Act.put, qz1, qz2, qz3]
  refine qta 9 16 ?vhy9 rfl ?hyhy9 ?_
  case hyhy9 => (intro x h; have e := CC.out x h; go_simp <;> rfl)
  simp only [Act.put, qz1, qz2, qz3]
  refine qta 10 17 ?vhy10 rfl ?hyhy10 ?_
  case hyhy10 => (intro x h; have e := CC.out x h; go_simp <;> rfl)
  simp only [Act.put, qz1, qz2, qz3]
  refine qta 11 5 ?vhy11 rfl ?hyhy11 ?_
  case hyhy11 => (intro x h; have e := CC.out x h; go_simp <;> rfl)
  simp only [Act.put, qz1, qz2, qz3]
  refine qta 12 6 ?vhy12 rfl ?hyhy12 ?_
  case hyhy12 => (intro x h; have e := CC.out x h; go_simp <;> rfl)
  simp only [Act.put, qz1, qz2, qz3]
  refine wpAnyH_done (by kernel_rfl) ?_ _
  refine NoPanic.normal ?_
  go_upto_region 4 with fail
  refine wp_region_noPanic ?_
  refine wp_region_tail (n0 := 8) (S := fun x => Below W.heap.size W x) (by kernel_rfl) ((qbt hHhy7 (Below.refl _ _).drew)) (fun hT4 => ?_)
  refine qtF 0 28 ?vty1 rfl ?hyty1 (fun _ => hT4) ?_
  case hyty1 => (intro _ _; go_simp <;> rfl)
  simp only [Act.put, qz1, qz2, qz3]
  refine qtF 1 29 ?vty2 rfl ?hyty2 (fun _ => hT4) ?_
  case hyty2 => (intro _ _; go_simp <;> rfl)
  simp only [Act.put, qz1, qz2, qz3]
  refine qtT [7, 8] 2 30 ?vty3 rfl ?hyty3 hT4 ?_
  case hyty3 => (intro x h; have e := CC.out x h; go_simp <;> rfl)
  simp only [Act.put, qz1, qz2, qz3]
  refine qtF 3 31 ?vty4 rfl ?hyty4 (fun _ => hT4) ?_
  case hyty4 => (intro _ _; go_simp <;> rfl)
  simp only [Act.put, qz1, qz2, qz3]
  refine qtF 4 32 ?vty5 rfl ?hyty5 (fun _ => hT4) ?_
  case hyty5 => (intro _ _; go_simp <;> rfl)
  simp only [Act.put, qz1, qz2, qz3]
  refine qtF 5 33 ?vty6 rfl ?hyty6 (fun _ => hT4) ?_
  case hyty6 => (intro _ _; go_simp <;> rfl)
  simp only [Act.put, qz1, qz2, qz3]
  refine qtF 6 34 ?vty7 rfl ?hyty7 (fun _ => hT4) ?_
  case hyty7 => (intro _ _; go_simp <;> rfl)
  simp only [Act.put, qz1, qz2, qz3]
  refine qtF 7 35 ?vty8 rfl ?hyty8 (fun _ => hT4) ?_
  case hyty8 => (intro _ _; go_simp <;> rfl)
  simp only [Act.put, qz1, qz2, qz3]
  refine qrT 8 rfl (fun K hK => ?_)
  obtain ⟨q0, q1⟩ := (HRW.out.below hT4).regCell hr4
  go_simp
  refine hK.out _ _ (fun h => absurd rfl h) ?_
  clear hK K
  refine wpAnyT_done (by kernel_rfl) ?_ _
  refine NoPanic.normal ?_
  clear q0 q1
  have HR2 := qh ((HRW.out.below hT4).setReg reg hr4 y)
  have HB2 : Hid (Below B w (hyw7.drew.setCell ⟨gr, 1 + reg, none⟩ (.int .i64 y))) := (HBW2.out.trans (hT4.mono (Nat.le_trans HBW.out HA.out.size))).setCell (p := ⟨gr, 1 + reg, none⟩) HRW.out.base _
  go_wp2_with fail
  go_ret
  rw [HRES.out]
  exact way_set HR2.out HB2.out
 | none =>
  refine wp_region_noPanic ?_
  refine wp_region_held_drew (S := fun x => Below W.heap.size W x) (by kernel_rfl) ((Below.refl _ _).drew) (fun hH => ?_)
  refine qta 0 8 ?vhn1 rfl ?hyhn1 ?_
  case hyhn1 => (intro x h; have e := CC.out x h; go_simp <;> rfl)
  simp only [Act.put, qz1, qz2, qz3]
  refine qta 1 9 ?vhn2 rfl ?hyhn2 ?_
  case hyhn2 => (intro x h; have e := CC.out x h; go_simp <;> rfl)
  simp only [Act.put, qz1, qz2, qz3]
  refine qta 2 10 ?vhn3 rfl ?hyhn3 ?_
  case hyhn3 => (intro x h; have e := CC.out x h; go_simp <;> rfl)
  simp only [Act.put, qz1, qz2, qz3]
  refine qta 3 11 ?vhn4 rfl ?hyhn4 ?_
  case hyhn4 => (intro x h; have e := CC.out x h; go_simp <;> rfl)
  simp only [Act.put, qz1, qz2, qz3]
  refine qta 4 12 ?vhn5 rfl ?hyhn5 ?_
  case hyhn5 => (intro x h; have e := CC.out x h; go_simp <;> rfl)
  simp only [Act.put, qz1, qz2, qz3]
  refine qta 5 13 ?vhn6 rfl ?hyhn6 ?_
  case hyhn6 => (intro x h; have e := CC.out x h; go_simp <;> rfl)
  simp only [Act.put, qz1, qz2, qz3]
  refine qta 6 14 ?vhn7 rfl ?hyhn7 ?_
  case hyhn7 => (intro x h; have e := CC.out x h; go_simp <;> rfl)
  simp only [Act.put, qz1, qz2, qz3]
  refine qrH 7 rfl (fun K hK => ?_)
  go_simp
  refine (HLOOK.out W.drew hH).mono ?_
  rintro e hnw7 ⟨rfl, hb⟩
  have hHhn7 : Below W.heap.size W hnw7 := qbt hH hb
  refine hK.out _ _ hHhn7 (fun _ => ?_)
  clear hK K hb hH
  refine qta 8 7 ?vhn8 rfl ?hyhn8 ?_
  case hyhn8 => (intro x h; have e := CC.out x h; go_simp <;> rfl)
  simp only [Act.put, qz1, qz2, qz3]
  refine qta 9 16 ?vhn9 rfl ?hyhn9 ?_
  case hyhn9 => (intro x h; have e := CC.out x h; go_simp <;> rfl)
  simp only [Act.put, qz1, qz2, qz3]
  refine qta 10 17 ?vhn10 rfl ?hyhn10 ?_
  case hyhn10 => (intro x h; have e := CC.out x h; go_simp <;> rfl)
  simp only [Act.put, qz1, qz2, qz3]
  refine qta 11 5 ?vhn11 rfl ?hyhn11 ?_
  case hyhn11 => (intro x h; have e := CC.out x h; go_simp <;> rfl)
  simp only [Act.put, qz1, qz2, qz3]
  refine qta 12 6 ?vhn12 rfl ?hyhn12 ?_
  case hyhn12 => (intro x h; have e := CC.out x h; go_simp <;> rfl)
  simp only [Act.put, qz1, qz2, qz3]
  refine wpAnyH_done (by kernel_rfl) ?_ _
  refine NoPanic.normal ?_
  go_upto_region 3 with fail
  refine wp_region_noPanic ?_
  refine wp_region_held_drew (S := fun x => Below W.heap.size W x) (by kernel_rfl) ((qbt hHhn7 (Below.refl _ _).drew)) (fun hK3 => ?_)
  refine qta 0 20 ?vkn1 rfl ?hykn1 ?_
  case hykn1 => (intro x h; have e := CC.out x h; go_simp <;> rfl)
  simp only [Act.put, qz1, qz2, qz3]
  refine qta 1 21 ?vkn2 rfl ?hykn2 ?_
  case hykn2 => (intro x h; have e := CC.out x h; go_simp <;> rfl)
  simp only [Act.put, qz1, qz2, qz3]
  refine qta 2 22 ?vkn3 rfl ?hykn3 ?_
  case hykn3 => (intro x h; have e := CC.out x h; go_simp <;> rfl)
  simp only [Act.put, qz1, qz2, qz3]
  refine qta 3 23 ?vkn4 rfl ?hykn4 ?_
  case hykn4 => (intro x h; have e := CC.out x h; go_simp <;> rfl)
  simp only [Act.put, qz1, qz2, qz3]
  refine qta 4 24 ?vkn5 rfl ?hykn5 ?_
  case hykn5 => (intro x h; have e := CC.out x h; go_simp <;> rfl)
  simp only [Act.put, qz1, qz2, qz3]
  refine qta 5 25 ?vkn6 rfl ?hykn6 ?_
  case hykn6 => (intro x h; have e := CC.out x h; go_simp <;> rfl)
  simp only [Act.put, qz1, qz2, qz3]
  refine qta 6 26 ?vkn7 rfl ?hykn7 ?_
  case hykn7 => (intro x h; have e := CC.out x h; go_simp <;> rfl)
  simp only [Act.put, qz1, qz2, qz3]
  refine qta 7 27 ?vkn8 rfl ?hykn8 ?_
  case hykn8 => (intro x h; have e := CC.out x h; go_simp <;> rfl)
  simp only [Act.put, qz1, qz2, qz3]
  refine qta 8 5 ?vkn9 rfl ?hykn9 ?_
  case hykn9 => (intro x h; have e := CC.out x h; go_simp <;> rfl)
  simp only [Act.put, qz1, qz2, qz3]
  refine wpAnyH_done (by kernel_rfl) ?_ _
  refine NoPanic.normal ?_
  go_upto_region 4 with fail
  refine wp_region_noPanic ?_
  refine wp_region_tail (n0 := 8) (S := fun x => Below W.heap.size W x) (by kernel_rfl) ((qbt hHhn7 (Below.refl _ _).drew.drew)) (fun hT4 => ?_)
  refine qtF 0 28 ?vtn1 rfl ?hytn1 (fun _ => hT4) ?_
  case hytn1 => (intro _ _; go_simp <;> rfl)
  simp only [Act.put, qz1, qz2, qz3]
  refine qtF 1 29 ?vtn2 rfl ?hytn2 (fun _ => hT4) ?_
  case hytn2 => (intro _ _; go_simp <;> rfl)
  simp only [Act.put, qz1, qz2, qz3]
  refine qtT [7, 8] 2 30 ?vtn3 rfl ?hytn3 hT4 ?_
  case hytn3 => (intro x h; have e := CC.out x h; go_simp <;> rfl)
  simp only [Act.put, qz1, qz2, qz3]
  refine qtF 3 31 ?vtn4 rfl ?hytn4 (fun _ => hT4) ?_
  case hytn4 => (intro _ _; go_simp <;> rfl)
  simp only [Act.put, qz1, qz2, qz3]
  refine qtF 4 32 ?vtn5 rfl ?hytn5 (fun _ => hT4) ?_
  case hytn5 => (intro _ _; go_simp <;> rfl)
  simp only [Act.put, qz1, qz2, qz3]
  refine qtF 5 33 ?vtn6 rfl ?hytn6 (fun _ => hT4) ?_
  case hytn6 => (intro _ _; go_simp <;> rfl)
  simp only [Act.put, qz1, qz2, qz3]
  refine qtF 6 34 ?vtn7 rfl ?hytn7 (fun _ => hT4) ?_
  case hytn7 => (intro _ _; go_simp <;> rfl)
  simp only [Act.put, qz1, qz2, qz3]
  refine qtF 7 35 ?vtn8 rfl ?hytn8 (fun _ => hT4) ?_
  case hytn8 => (intro _ _; go_simp <;> rfl)
  simp only [Act.put, qz1, qz2, qz3]
  refine qrT 8 rfl (fun K hK => ?_)
  obtain ⟨q0, q1⟩ := (HRW.out.below hT4).regCell hr4
  go_simp
  refine hK.out _ _ (fun h => absurd rfl h) ?_
  clear hK K
  refine wpAnyT_done (by kernel_rfl) ?_ _
  refine NoPanic.normal ?_
  clear q0 q1
  have HR2 := qh ((HRW.out.below hT4).setReg reg hr4 z)
  have HB2 : Hid (Below B w (hnw7.drew.drew.setCell ⟨gr, 1 + reg, none⟩ (.int .i64 z))) := (HBW2.out.trans (hT4.mono (Nat.le_trans HBW.out HA.out.size))).setCell (p := ⟨gr, 1 + reg, none⟩) HRW.out.base _
  go_wp2_with fail
  go_ret
  rw [HRES.out]
  exact way_set HR2.out HB2.out
end Go.Proofs.YtliajkheeniljaaGreatDoor
