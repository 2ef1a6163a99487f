/- What a thread's instructions do: the program's methods: the walks. -/
import Derived.Test.YtliajkheeniljaaGreatDoorQPWays
import Derived.Test.YtliajkheeniljaaGreatDoorQShort
set_option linter.all false
namespace Go.Proofs.YtliajkheeniljaaGreatDoor
open Go.RowKit
set_option maxRecDepth 100000
set_option maxHeartbeats 16000000
variable {v0 : Value}
theorem pway_cas {w : World} {B gr mb mc : Nat} {pc r0 r1 r2 r3 dom : Int} {buf : List EntryD} {bv : Value} {m : MachD} {mem : List Int} {bad : Bool} (h : RunR v0 w B gr pc r0 r1 r2 r3 buf bv m dom mem mb mc bad) (hB : B ≤ w.heap.size) (hd1 : 1 ≤ dom) (hd2 : dom ≤ 1000) (d : Nat) (x : InstrD) (ka kb : Value) (ha : ExprAt d w x.a ka) (hb : ExprAt d w x.b kb)
  (hreg : 0 ≤ x.reg ∧ x.reg < 4) (hvar : 0 ≤ x.var ∧ x.var < (mem.length : Int)) (hbl : buf.length ≤ 1000000) : Calls Tryz.prog 130 #[.pointer (some ⟨gr, 0, none⟩), instrV x ka kb] w fun e w' =>
  WayEnd v0 w B gr m dom mb mc (if mem.getD x.var.toNat 0 = evalN [r0, r1, r2, r3] dom d x.a then (if buf.length = 0 then some (⟨pc, [r0, r1, r2, r3].set x.reg.toNat 1, buf⟩, mem.set x.var.toNat (evalN [r0, r1, r2, r3] dom d x.b), bad) else none) else (if buf.length = 0 then some (⟨pc, [r0, r1, r2, r3].set x.reg.toNat 0, buf⟩, mem, bad) else none)) e w' := by
 have hea := fun W V (hV : RunR v0 W B gr pc r0 r1 r2 r3 buf V m dom mem mb mc bad) (hW : Below w.heap.size w W) => prun_eval hV hd1 hd2 d x.a ka (ha.below hW)
 have heb := fun W V (hV : RunR v0 W B gr pc r0 r1 r2 r3 buf V m dom mem mb mc bad) (hW : Below w.heap.size w W) => prun_eval hV hd1 hd2 d x.b kb (hb.below hW)
 obtain ⟨aa, ac, rfl, -⟩ := ha.slice
 obtain ⟨ba, bc, rfl, -⟩ := hb.slice
 obtain ⟨ua, uc, rfl, -⟩ := SliceR.slice h.bufAt
 obtain ⟨op, reg, v, a, b, to_⟩ := x
 simp only [] at hreg hvar ha hb hea heb ⊢
 obtain ⟨reg, rfl⟩ : ∃ k : Nat, reg = (k : Int) := ⟨reg.toNat, by omega⟩
 obtain ⟨v, rfl⟩ : ∃ k : Nat, v = (k : Int) := ⟨v.toNat, by omega⟩
 have hr4 : reg < 4 := by omega
 have hvn : v < mem.length := by omega
 have hvI : (v : Int) < (mem.length : Int) := hvar.2
 have hrI : (reg : Int) < 4 := hreg.2
 try simp only [Int.toNat_natCast]
 clear ha hb
 unfold instrV
 simp only []
 unfold exprV at hea heb
 generalize hva : evalN [r0, r1, r2, r3] dom d a = va at hea ⊢
 clear hva
 generalize hvb : evalN [r0, r1, r2, r3] dom d b = vb at heb ⊢
 clear hvb
 generalize a.kind = ak at hea ⊢
 generalize a.n = an at hea ⊢
 generalize a.op = ao at hea ⊢
 generalize a.kids.length = al at hea ⊢
 generalize b.kind = bk at heb ⊢
 generalize b.n = bn at heb ⊢
 generalize b.op = bo at heb ⊢
 generalize b.kids.length = bl at heb ⊢
 have HEA := qh hea
 clear hea
 have HEB := qh heb
 clear heb
 obtain ⟨res, hres⟩ : ∃ r : Option (ThreadD × List Int × Bool), r = (if mem.getD v 0 = va then (if buf.length = 0 then some (⟨pc, [r0, r1, r2, r3].set reg 1, buf⟩, mem.set v (vb), bad) else none) else (if buf.length = 0 then some (⟨pc, [r0, r1, r2, r3].set reg 0, buf⟩, mem, bad) else none)) := ⟨_, rfl⟩
 rw [← hres]
 have HRES := qh hres
 clear hres
 obtain ⟨un, hun⟩ : ∃ n, n = buf.length := ⟨_, rfl⟩
 rw [← hun] at h hbl
 have HUN := qh hun
 have HR := qh h
 have HBW := qh hB
 have HA := qh ((Below.refl w.heap.size w).alloc (Nat.le_refl _) (.cells #[.int .i64 op, .int .i64 (reg : Int), .int .i64 (v : Int), .int .i64 ak, .int .i64 an, .int .u8 ao, .slice aa al ac, .int .i64 bk, .int .i64 bn, .int .u8 bo, .slice ba bl bc, .int .i64 to_] 64))
 have HX := qh (qhn w (.cells #[.int .i64 op, .int .i64 (reg : Int), .int .i64 (v : Int), .int .i64 ak, .int .i64 an, .int .u8 ao, .slice aa al ac, .int .i64 bk, .int .i64 bn, .int .u8 bo, .slice ba bl bc, .int .i64 to_] 64))
 clear h hun hB
 go_enter Tryz.func130, Tryz.ntmps130
 go_upto_region 1 with fail
 generalize World.alloc w _ = W at HA HX ⊢
 obtain ⟨gi, hgi⟩ : ∃ g, g = w.heap.size := ⟨_, rfl⟩
 rw [← hgi] at HX ⊢
 have HGI := qh hgi
 clear hgi
 have HRW := qh (HR.out.below HA.out)
 have HBW2 : Hid (Below B w W) := HA.out.mono HBW.out
 have CC : Hid (∀ x, Below W.heap.size W x → x.cell? ⟨gi, 1, none⟩ = some (.int .i64 (reg : Int)) ∧ x.cell? ⟨gi, 2, none⟩ = some (.int .i64 (v : Int)) ∧ x.cell? ⟨gi, 3, none⟩ = some (.int .i64 ak) ∧ x.cell? ⟨gi, 4, none⟩ = some (.int .i64 an) ∧ x.cell? ⟨gi, 5, none⟩ = some (.int .u8 ao) ∧ x.cell? ⟨gi, 6, none⟩ = some (.slice aa al ac) ∧ x.cell? ⟨gi, 7, none⟩ = some (.int .i64 bk) ∧ x.cell? ⟨gi, 8, none⟩ = some (.int .i64 bn) ∧ x.cell? ⟨gi, 9, none⟩ = some (.int .u8 bo) ∧ x.cell? ⟨gi, 10, none⟩ = some (.slice ba bl bc) ∧ x.cell? ⟨gr, 9, none⟩ = some (.slice (some ⟨mb, 0, none⟩) mem.length mc) ∧ x.cell? ⟨mb, v, none⟩ = some (.int .i64 (mem.getD v 0))) := fun x hx => ⟨qck hx _ _ (qcb HX.out 1), qck hx _ _ (qcb HX.out 2), qck hx _ _ (qcb HX.out 3), qck hx _ _ (qcb HX.out 4), qck hx _ _ (qcb HX.out 5), qck hx _ _ (qcb HX.out 6), qck hx _ _ (qcb HX.out 7), qck hx _ _ (qcb HX.out 8), qck hx _ _ (qcb HX.out 9), qck hx _ _ (qcb HX.out 10), qck hx _ _ (qcb HRW.out.block 9), qck hx _ _ (HRW.out.memCell hvn).1⟩
 have HGM := qh (show gi ≠ mb by have := HR.out.memBase.2; have := HGI.out; omega)
 obtain ⟨z, hz⟩ : ∃ z, z = mem.getD v 0 := ⟨_, rfl⟩
 rw [← hz] at CC HRES
 clear hz
 refine wp_region_noPanic ?_
 refine wp_region_held_drew (S := fun x => Below W.heap.size W x) (by kernel_rfl) ((Below.refl _ _).drew) (fun hH => ?_)
 refine qta 0 8 ?vh1 rfl ?hyh1 ?_
 case hyh1 => (intro x h; have e := CC.out x h; go_simp <;> rfl)
 simp only [Act.put, qz1, qz2, qz3]
 refine qta 1 9 ?vh2 rfl ?hyh2 ?_
 case hyh2 => (intro x h; have e := CC.out x h; go_simp <;> rfl)
 simp only [Act.put, qz1, qz2, qz3]
 refine qta 2 10 ?vh3 rfl ?hyh3 ?_
 case hyh3 => (intro x h; have e := CC.out x h; go_simp <;> rfl)
 simp only [Act.put, qz1, qz2, qz3]
 refine qta 4 12 ?vh4 rfl ?hyh4 ?_
 case hyh4 => (intro x h; have e := CC.out x h; go_simp <;> rfl)
 simp only [Act.put, qz1, qz2, qz3]
 refine qta 5 13 ?vh5 rfl ?hyh5 ?_
 case hyh5 => (intro x h; have e := CC.out x h; go_simp <;> rfl)
 simp only [Act.put, qz1, qz2, qz3]
 refine qta 6 14 ?vh6 rfl ?hyh6 ?_
 case hyh6 => (intro x h; have e := CC.out x h; go_simp <;> rfl)
 simp only [Act.put, qz1, qz2, qz3]
 refine qrH 3 rfl (fun K hK => ?_)
 go_simp
 refine (HEA.out W.drew _ (HRW.out.below hH) (qbt HA.out hH)).mono ?_
 rintro e hw3 ⟨rfl, hb⟩
 have hHh3 : Below W.heap.size W hw3 := qbt hH hb
 refine hK.out _ _ hHh3 (fun _ => ?_)
 clear hK K hb hH
 refine qrH 7 rfl (fun K hK => ?_)
 go_simp
 refine (HEB.out hw3 _ (HRW.out.below hHh3) (qbt HA.out hHh3)).mono ?_
 rintro e hw7 ⟨rfl, hb⟩
 have hHh7 : Below W.heap.size W hw7 := qbt hHh3 hb
 refine hK.out _ _ hHh7 (fun _ => ?_)
 clear hK K hb hHh3
 refine qta 8 5 ?vh7 rfl ?hyh7 ?_
 case hyh7 => (intro x h; have e := CC.out x h; go_simp <;> rfl)
 simp only [Act.put, qz1, qz2, qz3]
 refine qta 9 6 ?vh8 rfl ?hyh8 ?_
 case hyh8 => (intro x h; have e := CC.out x h; go_simp <;> rfl)
 simp only [Act.put, qz1, qz2, qz3]
 refine qta 10 7 ?vh9 rfl ?hyh9 ?_
 case hyh9 => (intro x h; have e := CC.out x h; go_simp <;> rfl)
 simp only [Act.put, qz1, qz2, qz3]
 refine wpAnyH_done (by kernel_rfl) ?_ _
 refine NoPanic.normal ?_
 go_upto_region 2 with fail
 by_cases hz0 : z = va
 rotate_left
 ·have hz1 : ((z : Int) == va) = false := by simp [hz0]
  have HZ0 := qh hz0
  clear hz0
  refine wp_region_noPanic ?_
  refine wp_region_held_drew (S := fun x => Below W.heap.size W x) (by kernel_rfl) ((qbt hHh7 (Below.refl _ _).drew)) (fun hK2 => ?_)
  refine qta 0 16 ?vkn1 rfl ?hykn1 ?_
  case hykn1 => (intro x h; have e := CC.out x h; go_simp <;> rfl)
  simp only [Act.put, qz1, qz2, qz3]
  refine qta 1 17 ?vkn2 rfl ?hykn2 ?_
  case hykn2 => (intro x h; have e := CC.out x h; go_simp <;> rfl)
  simp only [Act.put, qz1, qz2, qz3]
  refine qta 2 18 ?vkn3 rfl ?hykn3 ?_
  case hykn3 => (intro x h; have e := CC.out x h; go_simp <;> rfl)
  simp only [Act.put, qz1, qz2, qz3]
  refine qta 3 19 ?vkn4 rfl ?hykn4 ?_
  case hykn4 => (intro x h; have e := CC.out x h; go_simp <;> rfl)
  simp only [Act.put, qz1, qz2, qz3]
  refine qta 4 20 ?vkn5 rfl ?hykn5 ?_
  case hykn5 => (intro x h; have e := CC.out x h; go_simp <;> rfl)
  simp only [Act.put, qz1, qz2, qz3]
  refine qta 5 21 ?vkn6 rfl ?hykn6 ?_
  case hykn6 => (intro x h; have e := CC.out x h; go_simp <;> rfl)
  simp only [Act.put, qz1, qz2, qz3]
  refine qta 6 22 ?vkn7 rfl ?hykn7 ?_
  case hykn7 => (intro x h; have e := CC.out x h; go_simp <;> rfl)
  simp only [Act.put, qz1, qz2, qz3]
  refine qta 7 23 ?vkn8 rfl ?hykn8 ?_
  case hykn8 => (intro x h; have e := CC.out x h; go_simp <;> rfl)
  simp only [Act.put, qz1, qz2, qz3]
  refine qta 8 24 ?vkn9 rfl ?hykn9 ?_
  case hykn9 => (intro x h; have e := CC.out x h; go_simp <;> rfl)
  simp only [Act.put, qz1, qz2, qz3]
  refine qta 9 25 ?vkn10 rfl ?hykn10 ?_
  case hykn10 => (intro x h; have e := CC.out x h; go_simp <;> rfl)
  simp only [Act.put, qz1, qz2, qz3]
  refine wpAnyH_done (by kernel_rfl) ?_ _
  refine NoPanic.normal ?_
  have HR2 := qh (HRW.out.below (qbt hHh7 (Below.refl _ _).drew))
  have HB2 : Hid (Below B w hw7.drew) := HBW2.out.trans ((qbt hHh7 (Below.refl _ _).drew).mono (Nat.le_trans HBW.out HA.out.size))
  have HS2 : Hid (Since (fun k => k = mb) W hw7.drew) := since_of _ (qbt hHh7 (Below.refl _ _).drew)
  go_upto_region 4 with fail
  generalize World.drew _ = W4 at HR2 HB2 HS2 ⊢
  have C4 : Hid (∀ x, Below W4.heap.size W4 x → x.cell? ⟨gi, 1, none⟩ = some (.int .i64 (reg : Int))) := fun x hx => qck hx _ _ ((HS2.out.cell (p := ⟨gi, 1, none⟩) (qlb HX.out) (fun e => HGM.out e)).trans (qcb HX.out 1))
  refine wp_region_noPanic ?_
  refine wp_region_tail (n0 := 8) (S := fun x => Below W4.heap.size W4 x) (by kernel_rfl) ((Below.refl _ _).drew) (fun hT4 => ?_)
  refine qtF 0 34 ?vun1 rfl ?hyun1 (fun _ => hT4) ?_
  case hyun1 => (intro _ _; go_simp <;> rfl)
  simp only [Act.put, qz1, qz2, qz3]
  refine qtF 1 35 ?vun2 rfl ?hyun2 (fun _ => hT4) ?_
  case hyun2 => (intro _ _; go_simp <;> rfl)
  simp only [Act.put, qz1, qz2, qz3]
  refine qtT [7, 8] 2 36 ?vun3 rfl ?hyun3 hT4 ?_
  case hyun3 => (intro x h; have e0 := C4.out x h; go_simp <;> rfl)
  simp only [Act.put, qz1, qz2, qz3]
  refine qtF 3 37 ?vun4 rfl ?hyun4 (fun _ => hT4) ?_
  case hyun4 => (intro _ _; go_simp <;> rfl)
  simp only [Act.put, qz1, qz2, qz3]
  refine qtF 4 38 ?vun5 rfl ?hyun5 (fun _ => hT4) ?_
  case hyun5 => (intro _ _; go_simp <;> rfl)
  simp only [Act.put, qz1, qz2, qz3]
  refine qtF 5 39 ?vun6 rfl ?hyun6 (fun _ => hT4) ?_
  case hyun6 => (intro _ _; go_simp <;> rfl)
  simp only [Act.put, qz1, qz2, qz3]
  refine qtF 6 40 ?vun7 rfl ?hyun7 (fun _ => hT4) ?_
  case hyun7 => (intro _ _; go_simp <;> rfl)
  simp only [Act.put, qz1, qz2, qz3]
  refine qtF 7 41 ?vun8 rfl ?hyun8 (fun _ => hT4) ?_
  case hyun8 => (intro _ _; go_simp <;> rfl)
  simp only [Act.put, qz1, qz2, qz3]
  refine qrT 8 rfl (fun K hK => ?_)
  obtain ⟨q0, q1⟩ := (HR2.out.below hT4).regCell hr4
  go_simp
  refine hK.out _ _ (fun h => absurd rfl h) ?_
  clear hK K
  refine wpAnyT_done (by kernel_rfl) ?_ _
  refine NoPanic.normal ?_
  clear q0 q1
  have HR3 := qh ((HR2.out.below hT4).setReg reg hr4 0)
  have HB3 : Hid (Below B w (W4.drew.setCell ⟨gr, 1 + reg, none⟩ (.int .i64 0))) := HB2.out.drew.setCell (p := ⟨gr, 1 + reg, none⟩) HRW.out.base _
  go_wp2_with fail
  refine (prun_empty HR3.out).mono ?_
  rintro e w9 ⟨rfl, rfl⟩
  by_cases hz : buf.length = 0
  ·have HZ := qh hz
   have hz1 : decide (buf.length = 0) = true := decide_eq_true hz
   clear hz
   rw [hz1]
   go_wp2_with fail
   go_ret
   rw [HRES.out, if_neg HZ0.out, if_pos HZ.out]
   exact way_set HR3.out HB3.out
  ·have HZ := qh hz
   have hz1 : decide (buf.length = 0) = false := decide_eq_false hz
   clear hz
   rw [hz1]
   go_wp2_with fail
   go_ret
   rw [HRES.out, if_neg HZ0.out, if_neg HZ.out]
   exact way_none HB3.out
 have hz1 : ((z : Int) == va) = true := by simp [hz0]
 have HZ0 := qh hz0
 clear hz0
 refine wp_region_noPanic ?_
 refine wp_region_held_drew (S := fun x => Below W.heap.size W x) (by kernel_rfl) ((qbt hHh7 (Below.refl _ _).drew)) (fun hK2 => ?_)
 refine qta 0 16 ?vky1 rfl ?hyky1 ?_
 case hyky1 => (intro x h; have e := CC.out x h; go_simp <;> rfl)
 simp only [Act.put, qz1, qz2, qz3]
 refine qta 1 17 ?vky2 rfl ?hyky2 ?_
 case hyky2 => (intro x h; have e := CC.out x h; go_simp <;> rfl)
 simp only [Act.put, qz1, qz2, qz3]
 refine qta 2 18 ?vky3 rfl ?hyky3 ?_
 case hyky3 => (intro x h; have e := CC.out x h; go_simp <;> rfl)
 simp only [Act.put, qz1, qz2, qz3]
 refine qta 3 19 ?vky4 rfl ?hyky4 ?_
 case hyky4 => (intro x h; have e := CC.out x h; go_simp <;> rfl)
 simp only [Act.put, qz1, qz2, qz3]
 refine qta 4 20 ?vky5 rfl ?hyky5 ?_
 case hyky5 => (intro x h; have e := CC.out x h; go_simp <;> rfl)
 simp only [Act.put, qz1, qz2, qz3]
 refine qta 5 21 ?vky6 rfl ?hyky6 ?_
 case hyky6 => (intro x h; have e := CC.out x h; go_simp <;> rfl)
 simp only [Act.put, qz1, qz2, qz3]
 refine qta 6 22 ?vky7 rfl ?hyky7 ?_
 case hyky7 => (intro x h; have e := CC.out x h; go_simp <;> rfl)
 simp only [Act.put, qz1, qz2, qz3]
 refine qta 7 23 ?vky8 rfl ?hyky8 ?_
 case hyky8 => (intro x h; have e := CC.out x h; go_simp <;> rfl)
 simp only [Act.put, qz1, qz2, qz3]
 refine qta 8 24 ?vky9 rfl ?hyky9 ?_
 case hyky9 => (intro x h; have e := CC.out x h; go_simp <;> rfl)
 simp only [Act.put, qz1, qz2, qz3]
 refine qta 9 25 ?vky10 rfl ?hyky10 ?_
 case hyky10 => (intro x h; have e := CC.out x h; go_simp <;> rfl)
 simp only [Act.put, qz1, qz2, qz3]
 refine wpAnyH_done (by kernel_rfl) ?_ _
 refine NoPanic.normal ?_
 go_upto_region 3 with fail
 refine wp_region_noPanic ?_
 refine wp_region_tail (n0 := 8) (S := fun x => Below W.heap.size W x) (by kernel_rfl) ((qbt hHh7 (Below.refl _ _).drew.drew)) (fun hT3 => ?_)
 refine qtF 0 26 ?vty1 rfl ?hyty1 (fun _ => hT3) ?_
 case hyty1 => (intro _ _; go_simp <;> rfl)
 simp only [Act.put, qz1, qz2, qz3]
 refine qtF 1 27 ?vty2 rfl ?hyty2 (fun _ => hT3) ?_
 case hyty2 => (intro _ _; go_simp <;> rfl)
 simp only [Act.put, qz1, qz2, qz3]
 refine qtF 2 28 ?vty3 rfl ?hyty3 (fun _ => hT3) ?_
 case hyty3 => (intro _ _; go_simp <;> rfl)
 simp only [Act.put, qz1, qz2, qz3]
 refine qtT [7, 8, 9] 3 29 ?vty4 rfl ?hyty4 hT3 ?_
 case hyty4 => (intro x h; have e := CC.out x h; go_simp <;> rfl)
 simp only [Act.put, qz1, qz2, qz3]
 refine qtF 4 30 ?vty5 rfl ?hyty5 (fun _ => hT3) ?_
 case hyty5 => (intro _ _; go_simp <;> rfl)
 simp only [Act.put, qz1, qz2, qz3]
 refine qtT [7, 8, 9] 5 31 ?vty6 rfl ?hyty6 hT3 ?_
 case hyty6 => (intro x h; have e := CC.out x h; go_simp <;> rfl)
 simp only [Act.put, qz1, qz2, qz3]
 refine qtF 6 32 ?vty7 rfl ?hyty7 (fun _ => hT3) ?_
 case hyty7 => (intro _ _; go_simp <;> rfl)
 simp only [Act.put, qz1, qz2, qz3]
 refine qtF 7 33 ?vty8 rfl ?hyty8 (fun _ => hT3) ?_
 case hyty8 => (intro _ _; go_simp <;> rfl)
 simp only [Act.put, qz1, qz2, qz3]
 refine qrT 8 rfl (fun K hK => ?_)
 obtain ⟨q0, q1⟩ := (HRW.out.below hT3).memCell hvn
 go_simp
 refine hK.out _ _ (fun h => absurd rfl h) ?_
 clear hK K
 refine qtF 9 7 ?vty9 rfl ?hyty9 (fun h => absurd h (by decide +kernel)) ?_
 case hyty9 => (intro _ _; go_simp <;> rfl)
 simp only [Act.put, qz1, qz2, qz3]
 refine wpAnyT_done (by kernel_rfl) ?_ _
 refine NoPanic.normal ?_
 clear q0 q1
 have HR2 := qh ((HRW.out.below hT3).setMem v vb)
 have HB2 : Hid (Below B w (hw7.drew.drew.setCell ⟨mb, v, none⟩ (.int .i64 vb))) := (HBW2.out.trans (hT3.mono (Nat.le_trans HBW.out HA.out.size))).setCell (p := ⟨mb, v, none⟩) HRW.out.memBase.1 _
 have HS2 : Hid (Since (fun k => k = mb) W (hw7.drew.drew.setCell ⟨mb, v, none⟩ (.int .i64 vb))) := (since_of _ hT3).trans (Since.setCell (F := fun k => k = mb) (p := ⟨mb, v, none⟩) (Since.refl _ _) (.inl rfl) _) (fun _ h => .inl h)
 go_upto_region 4 with fail
 have eW : hw7.drew.drew.setCell ⟨mb, v, none⟩ (.int .i64 vb) = (hw7.setCell ⟨mb, v, none⟩ (.int .i64 vb)).drew.drew := rfl
 rw [eW] at HR2 HB2 HS2
 clear eW
 generalize (World.setCell hw7 ⟨mb, v, none⟩ (.int .i64 vb)).drew.drew = W4 at HR2 HB2 HS2 ⊢
 have C4 : Hid (∀ x, Below W4.heap.size W4 x → x.cell? ⟨gi, 1, none⟩ = some (.int .i64 (reg : Int))) := fun x hx => qck hx _ _ ((HS2.out.cell (p := ⟨gi, 1, none⟩) (qlb HX.out) (fun e => HGM.out e)).trans (qcb HX.out 1))
 refine wp_region_noPanic ?_
 refine wp_region_tail (n0 := 8) (S := fun x => Below W4.heap.size W4 x) (by kernel_rfl) ((Below.refl _ _).drew) (fun hT4 => ?_)
 refine qtF 0 34 ?vuy1 rfl ?hyuy1 (fun _ => hT4) ?_
 case hyuy1 => (intro _ _; go_simp <;> rfl)
 simp only [Act.put, qz1, qz2, qz3]
 refine qtF 1 35 ?vuy2 rfl ?hyuy2 (fun _ => hT4) ?_
 case hyuy2 => (intro _ _; go_simp <;> rfl)
 simp only [Act.put, qz1, qz2, qz3]
 refine qtT [7, 8] 2 36 ?vuy3 rfl ?hyuy3 hT4 ?_
 case hyuy3 => (intro x h; have e0 := C4.out x h; go_simp <;> rfl)
 simp only [Act.put, qz1, qz2, qz3]
 refine qtF 3 37 ?vuy4 rfl ?hyuy4 (fun _ => hT4) ?_
 case hyuy4 => (intro _ _; go_simp <;> rfl)
 simp only [Act.put, qz1, qz2, qz3]
 refine qtF 4 38 ?vuy5 rfl ?hyuy5 (fun _ => hT4) ?_
 case hyuy5 => (intro _ _; go_simp <;> rfl)
 simp only [Act.put, qz1, qz2, qz3]
 refine qtF 5 39 ?vuy6 rfl ?hyuy6 (fun _ => hT4) ?_
 case hyuy6 => (intro _ _; go_simp <;> rfl)
 simp only [Act.put, qz1, qz2, qz3]
 refine qtF 6 40 ?vuy7 rfl ?hyuy7 (fun _ => hT4) ?_
 case hyuy7 => (intro _ _; go_simp <;> rfl)
 simp only [Act.put, qz1, qz2, qz3]
 refine qtF 7 41 ?vuy8 rfl ?hyuy8 (fun _ => hT4) ?_
 case hyuy8 => (intro _ _; go_simp <;> rfl)
 simp only [Act.put, qz1, qz2, qz3]
 refine qrT 8 rfl (fun K hK => ?_)
 obtain ⟨q0, q1⟩ := (HR2.out.below hT4).regCell hr4
 go_simp
 refine hK.out _ _ (fun h => absurd rfl h) ?_
 clear hK K
 refine wpAnyT_done (by kernel_rfl) ?_ _
 refine NoPanic.normal ?_
 clear q0 q1
 have HR3 := qh ((HR2.out.below hT4).setReg reg hr4 1)
 have HB3 : Hid (Below B w (W4.drew.setCell ⟨gr, 1 + reg, none⟩ (.int .i64 1))) := HB2.out.drew.setCell (p := ⟨gr, 1 + reg, none⟩) HRW.out.base _
 go_wp2_with fail
 refine (prun_empty HR3.out).mono ?_
 rintro e w9 ⟨rfl, rfl⟩
 by_cases hz : buf.length = 0
 ·have HZ := qh hz
  have hz1 : decide (buf.length = 0) = true := decide_eq_true hz
  clear hz
  rw [hz1]
  go_wp2_with fail
  go_ret
  rw [HRES.out, if_pos HZ0.out, if_pos HZ.out]
  exact way_set HR3.out HB3.out
 ·have HZ := qh hz
  have hz1 : decide (buf.length = 0) = false := decide_eq_false hz
  clear hz
  rw [hz1]
  go_wp2_with fail
  go_ret
  rw [HRES.out, if_pos HZ0.out, if_neg HZ.out]
  exact way_none HB3.out
end Go.Proofs.YtliajkheeniljaaGreatDoor
