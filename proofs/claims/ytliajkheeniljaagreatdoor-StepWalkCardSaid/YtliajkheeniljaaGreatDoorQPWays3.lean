/- What a thread's instructions do: the program's methods: the walks. What a thread's instruction does: the program's map of methods, and each method by the document's answer. -/
import Derived.Test.YtliajkheeniljaaGreatDoorQIMap
import Derived.Test.YtliajkheeniljaaGreatDoorQPWays
import Derived.Test.YtliajkheeniljaaGreatDoorQPWays2
import Derived.Test.YtliajkheeniljaaGreatDoorQPWays4
import Derived.Test.YtliajkheeniljaaGreatDoorQStepQ
import Derived.Test.YtliajkheeniljaaGreatDoorQShort
set_option linter.all false
namespace Go.Proofs.YtliajkheeniljaaGreatDoor
open Go.RowKit
set_option maxRecDepth 100000
set_option maxHeartbeats 16000000
variable {v0 : Value}
theorem pway_store {w : World} {B gr mb mc : Nat} {pc r0 r1 r2 r3 dom : Int} {buf : List EntryD} {bv : Value} {m : MachD} {mem : List Int} {bad : Bool} (h : RunR v0 w B gr pc r0 r1 r2 r3 buf bv m dom mem mb mc bad) (hB : B ≤ w.heap.size) (hd1 : 1 ≤ dom) (hd2 : dom ≤ 1000) (d : Nat) (x : InstrD) (ka kb : Value) (ha : ExprAt d w x.a ka) (hb : ExprAt d w x.b kb)
  (hreg : 0 ≤ x.reg ∧ x.reg < 4) (hvar : 0 ≤ x.var ∧ x.var < (mem.length : Int)) (hbl : buf.length ≤ 1000000) : Calls Tryz.prog 126 #[.pointer (some ⟨gr, 0, none⟩), instrV x ka kb] w fun e w' =>
  WayEnd v0 w B gr m dom mb mc (if m.model = 0 then some (⟨pc, [r0, r1, r2, r3], buf⟩, mem.set x.var.toNat (evalN [r0, r1, r2, r3] dom d x.a), bad) else if putOk buf m ⟨x.var, evalN [r0, r1, r2, r3] dom d x.a⟩ = true then some (⟨pc, [r0, r1, r2, r3], putB buf m ⟨x.var, evalN [r0, r1, r2, r3] dom d x.a⟩⟩, mem, bad) else none) e w' := by
 have hea := fun W V (hV : RunR v0 W B gr pc r0 r1 r2 r3 buf V m dom mem mb mc bad) (hW : Below w.heap.size w W) => prun_eval hV hd1 hd2 d x.a ka (ha.below hW)
 obtain ⟨aa, ac, rfl, -⟩ := ha.slice
 obtain ⟨ba, bc, rfl, -⟩ := hb.slice
 obtain ⟨ua, uc, rfl, -⟩ := SliceR.slice h.bufAt
 obtain ⟨op, reg, v, a, b, to_⟩ := x
 simp only [] at hreg hvar ha hb hea ⊢
 obtain ⟨reg, rfl⟩ : ∃ k : Nat, reg = (k : Int) := ⟨reg.toNat, by omega⟩
 obtain ⟨v, rfl⟩ : ∃ k : Nat, v = (k : Int) := ⟨v.toNat, by omega⟩
 have hr4 : reg < 4 := by omega
 have hvn : v < mem.length := by omega
 have hvI : (v : Int) < (mem.length : Int) := hvar.2
 have hrI : (reg : Int) < 4 := hreg.2
 try simp only [Int.toNat_natCast]
 clear ha hb
 unfold instrV
 simp only []
 unfold exprV at hea
 generalize hva : evalN [r0, r1, r2, r3] dom d a = va at hea ⊢
 clear hva
 generalize a.kind = ak at hea ⊢
 generalize a.n = an at hea ⊢
 generalize a.op = ao at hea ⊢
 generalize a.kids.length = al at hea ⊢
 generalize b.kind = bk at ⊢
 generalize b.n = bn at ⊢
 generalize b.op = bo at ⊢
 generalize b.kids.length = bl at ⊢
 have HEA := qh hea
 clear hea
 obtain ⟨res, hres⟩ : ∃ r : Option (ThreadD × List Int × Bool), r = (if m.model = 0 then some (⟨pc, [r0, r1, r2, r3], buf⟩, mem.set v (va), bad) else if putOk buf m ⟨(v : Int), va⟩ = true then some (⟨pc, [r0, r1, r2, r3], putB buf m ⟨(v : Int), va⟩⟩, mem, bad) else none) := ⟨_, rfl⟩
 rw [← hres]
 have HRES := qh hres
 clear hres
 obtain ⟨un, hun⟩ : ∃ n, n = buf.length := ⟨_, rfl⟩
 rw [← hun] at h hbl
 have HUN := qh hun
 have HR := qh h
 have HBW := qh hB
 have HA := qh ((Below.refl w.heap.size w).alloc (Nat.le_refl _) (.cells #[.int .i64 op, .int .i64 (reg : Int), .int .i64 (v : Int), .int .i64 ak, .int .i64 an, .int .u8 ao, .slice aa al ac, .int .i64 bk, .int .i64 bn, .int .u8 bo, .slice ba bl bc, .int .i64 to_] 64))
 have HX := qh (qhn w (.cells #[.int .i64 op, .int .i64 (reg : Int), .int .i64 (v : Int), .int .i64 ak, .int .i64 an, .int .u8 ao, .slice aa al ac, .int .i64 bk, .int .i64 bn, .int .u8 bo, .slice ba bl bc, .int .i64 to_] 64))
 clear h hun hB
 go_enter Tryz.func126, Tryz.ntmps126
 go_upto_region 1 with fail
 generalize World.alloc w _ = W at HA HX ⊢
 obtain ⟨gi, hgi⟩ : ∃ g, g = w.heap.size := ⟨_, rfl⟩
 rw [← hgi] at HX ⊢
 clear hgi
 have HRW := qh (HR.out.below HA.out)
 have HBW2 : Hid (Below B w W) := HA.out.mono HBW.out
 have CC : Hid (∀ x, Below W.heap.size W x → x.cell? ⟨gi, 2, none⟩ = some (.int .i64 (v : Int)) ∧ x.cell? ⟨gi, 3, none⟩ = some (.int .i64 ak) ∧ x.cell? ⟨gi, 4, none⟩ = some (.int .i64 an) ∧ x.cell? ⟨gi, 5, none⟩ = some (.int .u8 ao) ∧ x.cell? ⟨gi, 6, none⟩ = some (.slice aa al ac) ∧ x.cell? ⟨gr, 5, none⟩ = some (.slice ua un uc) ∧ x.cell? ⟨gr, 6, none⟩ = some (.int .i64 m.model) ∧ x.cell? ⟨gr, 7, none⟩ = some (.int .i64 m.bound) ∧ x.cell? ⟨gr, 9, none⟩ = some (.slice (some ⟨mb, 0, none⟩) mem.length mc)) := fun x hx => ⟨qck hx _ _ (qcb HX.out 2), qck hx _ _ (qcb HX.out 3), qck hx _ _ (qcb HX.out 4), qck hx _ _ (qcb HX.out 5), qck hx _ _ (qcb HX.out 6), qck hx _ _ (qcb HRW.out.block 5), qck hx _ _ (qcb HRW.out.block 6), qck hx _ _ (qcb HRW.out.block 7), qck hx _ _ (qcb HRW.out.block 9)⟩
 obtain ⟨c0, c1, c2, c3, c4, c5, c6, c7, c8⟩ := CC.out W (Below.refl _ _)
 go_wp2_with fail
 refine (HEA.out W _ HRW.out HA.out).mono ?_
 rintro e w2 ⟨rfl, hb2⟩
 have HB2 := qh hb2
 have HR2 := qh (HRW.out.below hb2)
 have HBB : Hid (Below B w w2) := HBW2.out.trans (hb2.mono (Nat.le_trans HBW.out HA.out.size))
 clear hb2 c0 c1 c2 c3 c4 c5 c6 c7 c8
 have C2 : Hid (∀ x, Below w2.heap.size w2 x → x.cell? ⟨gi, 2, none⟩ = some (.int .i64 (v : Int)) ∧ x.cell? ⟨gr, 5, none⟩ = some (.slice ua un uc) ∧ x.cell? ⟨gr, 6, none⟩ = some (.int .i64 m.model) ∧ x.cell? ⟨gr, 7, none⟩ = some (.int .i64 m.bound) ∧ x.cell? ⟨gr, 9, none⟩ = some (.slice (some ⟨mb, 0, none⟩) mem.length mc)) := fun x hx => ⟨qck (qbt HB2.out hx) _ _ (qcb HX.out 2), qck hx _ _ (qcb HR2.out.block 5), qck hx _ _ (qcb HR2.out.block 6), qck hx _ _ (qcb HR2.out.block 7), qck hx _ _ (qcb HR2.out.block 9)⟩
 obtain ⟨-, -, e6, -, -⟩ := C2.out w2 (Below.refl _ _)
 by_cases hm : m.model = 0
 ·have hm1 : ((m.model : Int) == 0) = true := by simp [hm]
  have HM := qh hm
  clear hm
  go_upto_region 3 with fail
  clear e6 hm1
  refine wp_region_noPanic ?_
  refine wp_region_tail (n0 := 8) (S := fun x => Below w2.heap.size w2 x) (by kernel_rfl) ((Below.refl _ _).drew) (fun hT => ?_)
  refine qtF 0 16 ?vm1 rfl ?hym1 (fun _ => hT) ?_
  case hym1 => (intro _ _; go_simp <;> rfl)
  simp only [Act.put, qz1, qz2, qz3]
  refine qtF 1 17 ?vm2 rfl ?hym2 (fun _ => hT) ?_
  case hym2 => (intro _ _; go_simp <;> rfl)
  simp only [Act.put, qz1, qz2, qz3]
  refine qtF 2 18 ?vm3 rfl ?hym3 (fun _ => hT) ?_
  case hym3 => (intro _ _; go_simp <;> rfl)
  simp only [Act.put, qz1, qz2, qz3]
  refine qtT [7, 8] 3 19 ?vm4 rfl ?hym4 hT ?_
  case hym4 => (intro x h; have e := C2.out x h; go_simp <;> rfl)
  simp only [Act.put, qz1, qz2, qz3]
  refine qtF 4 20 ?vm5 rfl ?hym5 (fun _ => hT) ?_
  case hym5 => (intro _ _; go_simp <;> rfl)
  simp only [Act.put, qz1, qz2, qz3]
  refine qtT [7, 8] 5 21 ?vm6 rfl ?hym6 hT ?_
  case hym6 => (intro x h; have e := C2.out x h; go_simp <;> rfl)
  simp only [Act.put, qz1, qz2, qz3]
  refine qtF 6 22 ?vm7 rfl ?hym7 (fun _ => hT) ?_
  case hym7 => (intro _ _; go_simp <;> rfl)
  simp only [Act.put, qz1, qz2, qz3]
  refine qtF 7 23 ?vm8 rfl ?hym8 (fun _ => hT) ?_
  case hym8 => (intro _ _; go_simp <;> rfl)
  simp only [Act.put, qz1, qz2, qz3]
  refine qrT 8 rfl (fun K hK => ?_)
  obtain ⟨q0, q1⟩ := (HR2.out.below hT).memCell hvn
  go_simp
  refine hK.out _ _ (fun h => absurd rfl h) ?_
  clear hK K
  refine wpAnyT_done (by kernel_rfl) ?_ _
  refine NoPanic.normal ?_
  clear q0 q1
  have HR3 := qh ((HR2.out.below hT).setMem v va)
  have HB3 : Hid (Below B w (w2.drew.setCell ⟨mb, v, none⟩ (.int .i64 va))) := HBB.out.drew.setCell (p := ⟨mb, v, none⟩) HR2.out.memBase.1 _
  go_wp2_with fail
  go_ret
  rw [HRES.out, if_pos HM.out]
  exact way_some HR3.out HB3.out
 have hm1 : ((m.model : Int) == 0) = false := by simp [hm]
 have HM := qh hm
 clear hm
 have HPUT : Hid (∀ x, Below w2.heap.size w2 x → Calls Tryz.prog 85 #[.slice ua un uc, .agg #[.int .i64 m.model, .int .i64 m.bound], .agg #[.int .i64 (v : Int), .int .i64 va]] x fun e w' => (∃ bv', e = .returned (.tuple #[bv', .bool (putOk buf m ⟨(v : Int), va⟩)]) ∧ BufAt w' bv' (putB buf m ⟨(v : Int), va⟩) ∧ (putOk buf m ⟨(v : Int), va⟩ = true → w'.ownsRow x.heap.size 50 2 bv' (putB buf m ⟨(v : Int), va⟩).length (flatC EntryD.cells (putB buf m ⟨(v : Int), va⟩)))) ∧ Below x.heap.size x w') := fun x hx => pput_any x _ buf (HR2.out.below hx).bufAt (by rw [← HUN.out]; exact hbl) m ⟨(v : Int), va⟩
 obtain ⟨pb, hpb⟩ : ∃ l, l = putB buf m ⟨(v : Int), va⟩ := ⟨_, rfl⟩
 rw [← hpb] at HPUT HRES
 clear hpb
 go_upto_region 5 with fail
 clear e6 hm1
 cases hok : putOk buf m ⟨(v : Int), va⟩ with
 | true =>
  rw [hok] at HPUT HRES
  clear hok
  refine wp_region_noPanic ?_
  refine wp_region_tail (n0 := 21) (S := fun x => Below w2.heap.size w2 x) (by kernel_rfl) ((Below.refl _ _).drew) (fun hT => ?_)
  refine qtF 0 25 ?vttrue1 rfl ?hyttrue1 (fun _ => hT) ?_
  case hyttrue1 => (intro _ _; go_simp <;> rfl)
  simp only [Act.put, qz1, qz2, qz3]
  refine qtF 1 26 ?vttrue2 rfl ?hyttrue2 (fun _ => hT) ?_
  case hyttrue2 => (intro _ _; go_simp <;> rfl)
  simp only [Act.put, qz1, qz2, qz3]
  refine qtF 2 27 ?vttrue3 rfl ?hyttrue3 (fun _ => hT) ?_
  case hyttrue3 => (intro _ _; go_simp <;> rfl)
  simp only [Act.put, qz1, qz2, qz3]
  refine qtF 3 28 ?vttrue4 rfl ?hyttrue4 (fun _ => hT) ?_
  case hyttrue4 => (intro _ _; go_simp <;> rfl)
  simp only [Act.put, qz1, qz2, qz3]
  refine qtF 4 29 ?vttrue5 rfl ?hyttrue5 (fun _ => hT) ?_
  case hyttrue5 => (intro _ _; go_simp <;> rfl)
  simp only [Act.put, qz1, qz2, qz3]
  refine qtT [14, 15, 16, 17, 18, 19, 20, 21, 22] 5 30 ?vttrue6 rfl ?hyttrue6 hT ?_
  case hyttrue6 => (intro x h; have e := C2.out x h; go_simp <;> rfl)
  simp only [Act.put, qz1, qz2, qz3]
  refine qtF 6 31 ?vttrue7 rfl ?hyttrue7 (fun _ => hT) ?_
  case hyttrue7 => (intro _ _; go_simp <;> rfl)
  simp only [Act.put, qz1, qz2, qz3]
  refine qtF 7 32 ?vttrue8 rfl ?hyttrue8 (fun _ => hT) ?_
  case hyttrue8 => (intro _ _; go_simp <;> rfl)
  simp only [Act.put, qz1, qz2, qz3]
  refine qtF 8 33 ?vttrue9 rfl ?hyttrue9 (fun _ => hT) ?_
  case hyttrue9 => (intro _ _; go_simp <;> rfl)
  simp only [Act.put, qz1, qz2, qz3]
  refine qtT [14, 15, 16, 17, 18, 19, 20, 21, 22] 9 34 ?vttrue10 rfl ?hyttrue10 hT ?_
  case hyttrue10 => (intro x h; have e := C2.out x h; go_simp <;> rfl)
  simp only [Act.put, qz1, qz2, qz3]
  refine qtF 10 35 ?vttrue11 rfl ?hyttrue11 (fun _ => hT) ?_
  case hyttrue11 => (intro _ _; go_simp <;> rfl)
  simp only [Act.put, qz1, qz2, qz3]
  refine qtT [13, 14, 15, 16, 17, 18, 19, 20, 21, 22] 11 36 ?vttrue12 rfl ?hyttrue12 hT ?_
  case hyttrue12 => (intro x h; have e := C2.out x h; go_simp <;> rfl)
  simp only [Act.put, qz1, qz2, qz3]
  refine qtF 12 37 ?vttrue13 rfl ?hyttrue13 (fun _ => hT) ?_
  case hyttrue13 => (intro _ _; go_simp <;> rfl)
  simp only [Act.put, qz1, qz2, qz3]
  refine qtF 13 38 ?vttrue14 rfl ?hyttrue14 (fun _ => hT) ?_
  case hyttrue14 => (intro _ _; go_simp <;> rfl)
  simp only [Act.put, qz1, qz2, qz3]
  refine qrT 14 rfl (fun K hK => ?_)
  go_simp
  refine (HPUT.out w2.drew hT).mono ?_
  rintro e ttruew14 ⟨⟨bv', rfl, hbf, hrow⟩, hb⟩
  obtain ⟨xa, xc, rfl, -⟩ := SliceR.slice hbf
  have HROW := qh hrow
  clear hbf hrow
  have hT14 : Below w2.heap.size w2 ttruew14 := qbt hT hb
  refine hK.out _ _ (fun _ _ => hT14) ?_
  clear hK K hb hT
  refine qtF 15 24 ?vttrue15 rfl ?hyttrue15 (fun _ => hT14) ?_
  case hyttrue15 => (intro _ _; go_simp <;> rfl)
  simp only [Act.put, qz1, qz2, qz3]
  refine qtF 16 40 ?vttrue16 rfl ?hyttrue16 (fun _ => hT14) ?_
  case hyttrue16 => (intro _ _; go_simp <;> rfl)
  simp only [Act.put, qz1, qz2, qz3]
  refine qtF 17 41 ?vttrue17 rfl ?hyttrue17 (fun _ => hT14) ?_
  case hyttrue17 => (intro _ _; go_simp <;> rfl)
  simp only [Act.put, qz1, qz2, qz3]
  refine qtF 18 42 ?vttrue18 rfl ?hyttrue18 (fun _ => hT14) ?_
  case hyttrue18 => (intro _ _; go_simp <;> rfl)
  simp only [Act.put, qz1, qz2, qz3]
  refine qtF 19 43 ?vttrue19 rfl ?hyttrue19 (fun _ => hT14) ?_
  case hyttrue19 => (intro _ _; go_simp <;> rfl)
  simp only [Act.put, qz1, qz2, qz3]
  refine qtF 20 44 ?vttrue20 rfl ?hyttrue20 (fun _ => hT14) ?_
  case hyttrue20 => (intro _ _; go_simp <;> rfl)
  simp only [Act.put, qz1, qz2, qz3]
  refine qrT 21 rfl (fun K hK => ?_)
  have HBK := qh ((HR2.out.below hT14).block)
  have q0 : ttruew14.cell? ⟨gr, 5, none⟩ = some (.slice ua un uc) := qcb HBK.out 5
  have q1 : ttruew14.frozen? ⟨gr, 5, none⟩ = false := qfb HBK.out 5
  go_simp
  refine hK.out _ _ (fun h => absurd rfl h) ?_
  clear hK K
  refine qtF 22 4 ?vttrue21 rfl ?hyttrue21 (fun h => absurd h (by decide +kernel)) ?_
  case hyttrue21 => (intro _ _; go_simp <;> rfl)
  simp only [Act.put, qz1, qz2, qz3]
  refine wpAnyT_done (by kernel_rfl) ?_ _
  refine NoPanic.normal ?_
  clear q0 q1
  have HB3 : Hid (Below B w (ttruew14.setCell ⟨gr, 5, none⟩ (.slice xa pb.length xc))) := (HBB.out.trans (hT14.mono (Nat.le_trans HBW.out (Nat.le_trans HA.out.size HB2.out.size)))).setCell (p := ⟨gr, 5, none⟩) HRW.out.base _
  have HR3 := qh ((HR2.out.below hT14).setBuf (V := w2.drew) ⟨qlb HR2.out.block, HR2.out.memBase.2⟩ (HROW.out rfl))
  go_wp2_with fail
  go_ret
  first | rw [HRES.out, if_neg HM.out, if_pos rfl] | rw [HRES.out, if_neg HM.out, if_pos trivial]
  exact way_some HR3.out HB3.out
 | false =>
  rw [hok] at HPUT HRES
  clear hok
  refine wp_region_noPanic ?_
  refine wp_region_tail (n0 := 21) (S := fun x => Below w2.heap.size w2 x) (by kernel_rfl) ((Below.refl _ _).drew) (fun hT => ?_)
  refine qtF 0 25 ?vtfalse1 rfl ?hytfalse1 (fun _ => hT) ?_
  case hytfalse1 => (intro _ _; go_simp <;> rfl)
  simp only [Act.put, qz1, qz2, qz3]
  refine qtF 1 26 ?vtfalse2 rfl ?hytfalse2 (fun _ => hT) ?_
  case hytfalse2 => (intro _ _; go_simp <;> rfl)
  simp only [Act.put, qz1, qz2, qz3]
  refine qtF 2 27 ?vtfalse3 rfl ?hytfalse3 (fun _ => hT) ?_
  case hytfalse3 => (intro _ _; go_simp <;> rfl)
  simp only [Act.put, qz1, qz2, qz3]
  refine qtF 3 28 ?vtfalse4 rfl ?hytfalse4 (fun _ => hT) ?_
  case hytfalse4 => (intro _ _; go_simp <;> rfl)
  simp only [Act.put, qz1, qz2, qz3]
  refine qtF 4 29 ?vtfalse5 rfl ?hytfalse5 (fun _ => hT) ?_
  case hytfalse5 => (intro _ _; go_simp <;> rfl)
  simp only [Act.put, qz1, qz2, qz3]
  refine qtT [14, 15, 16, 17, 18, 19, 20, 21, 22] 5 30 ?vtfalse6 rfl ?hytfalse6 hT ?_
  case hytfalse6 => (intro x h; have e := C2.out x h; go_simp <;> rfl)
  simp only [Act.put, qz1, qz2, qz3]
  refine qtF 6 31 ?vtfalse7 rfl ?hytfalse7 (fun _ => hT) ?_
  case hytfalse7 => (intro _ _; go_simp <;> rfl)
  simp only [Act.put, qz1, qz2, qz3]
  refine qtF 7 32 ?vtfalse8 rfl ?hytfalse8 (fun _ => hT) ?_
  case hytfalse8 => (intro _ _; go_simp <;> rfl)
  simp only [Act.put, qz1, qz2, qz3]
  refine qtF 8 33 ?vtfalse9 rfl ?hytfalse9 (fun _ => hT) ?_
  case hytfalse9 => (intro _ _; go_simp <;> rfl)
  simp only [Act.put, qz1, qz2, qz3]
  refine qtT [14, 15, 16, 17, 18, 19, 20, 21, 22] 9 34 ?vtfalse10 rfl ?hytfalse10 hT ?_
  case hytfalse10 => (intro x h; have e := C2.out x h; go_simp <;> rfl)
  simp only [Act.put, qz1, qz2, qz3]
  refine qtF 10 35 ?vtfalse11 rfl ?hytfalse11 (fun _ => hT) ?_
  case hytfalse11 => (intro _ _; go_simp <;> rfl)
  simp only [Act.put, qz1, qz2, qz3]
  refine qtT [13, 14, 15, 16, 17, 18, 19, 20, 21, 22] 11 36 ?vtfalse12 rfl ?hytfalse12 hT ?_
  case hytfalse12 => (intro x h; have e := C2.out x h; go_simp <;> rfl)
  simp only [Act.put, qz1, qz2, qz3]
  refine qtF 12 37 ?vtfalse13 rfl ?hytfalse13 (fun _ => hT) ?_
  case hytfalse13 => (intro _ _; go_simp <;> rfl)
  simp only [Act.put, qz1, qz2, qz3]
  refine qtF 13 38 ?vtfalse14 rfl ?hytfalse14 (fun _ => hT) ?_
  case hytfalse14 => (intro _ _; go_simp <;> rfl)
  simp only [Act.put, qz1, qz2, qz3]
  refine qrT 14 rfl (fun K hK => ?_)
  go_simp
  refine (HPUT.out w2.drew hT).mono ?_
  rintro e tfalsew14 ⟨⟨bv', rfl, hbf, hrow⟩, hb⟩
  obtain ⟨xa, xc, rfl, -⟩ := SliceR.slice hbf
  have HROW := qh hrow
  clear hbf hrow
  have hT14 : Below w2.heap.size w2 tfalsew14 := qbt hT hb
  refine hK.out _ _ (fun _ _ => hT14) ?_
  clear hK K hb hT
  refine qtF 15 24 ?vtfalse15 rfl ?hytfalse15 (fun _ => hT14) ?_
  case hytfalse15 => (intro _ _; go_simp <;> rfl)
  simp only [Act.put, qz1, qz2, qz3]
  refine qtF 16 40 ?vtfalse16 rfl ?hytfalse16 (fun _ => hT14) ?_
  case hytfalse16 => (intro _ _; go_simp <;> rfl)
  simp only [Act.put, qz1, qz2, qz3]
  refine qtF 17 41 ?vtfalse17 rfl ?hytfalse17 (fun _ => hT14) ?_
  case hytfalse17 => (intro _ _; go_simp <;> rfl)
  simp only [Act.put, qz1, qz2, qz3]
  refine qtF 18 42 ?vtfalse18 rfl ?hytfalse18 (fun _ => hT14) ?_
  case hytfalse18 => (intro _ _; go_simp <;> rfl)
  simp only [Act.put, qz1, qz2, qz3]
  refine qtF 19 43 ?vtfalse19 rfl ?hytfalse19 (fun _ => hT14) ?_
  case hytfalse19 => (intro _ _; go_simp <;> rfl)
  simp only [Act.put, qz1, qz2, qz3]
  refine qtF 20 44 ?vtfalse20 rfl ?hytfalse20 (fun _ => hT14) ?_
  case hytfalse20 => (intro _ _; go_simp <;> rfl)
  simp only [Act.put, qz1, qz2, qz3]
  refine qrT 21 rfl (fun K hK => ?_)
  have HBK := qh ((HR2.out.below hT14).block)
  have q0 : tfalsew14.cell? ⟨gr, 5, none⟩ = some (.slice ua un uc) := qcb HBK.out 5
  have q1 : tfalsew14.frozen? ⟨gr, 5, none⟩ = false := qfb HBK.out 5
  go_simp
  refine hK.out _ _ (fun h => absurd rfl h) ?_
  clear hK K
  refine qtF 22 4 ?vtfalse21 rfl ?hytfalse21 (fun h => absurd h (by decide +kernel)) ?_
  case hytfalse21 => (intro _ _; go_simp <;> rfl)
  simp only [Act.put, qz1, qz2, qz3]
  refine wpAnyT_done (by kernel_rfl) ?_ _
  refine NoPanic.normal ?_
  clear q0 q1
  have HB3 : Hid (Below B w (tfalsew14.setCell ⟨gr, 5, none⟩ (.slice xa pb.length xc))) := (HBB.out.trans (hT14.mono (Nat.le_trans HBW.out (Nat.le_trans HA.out.size HB2.out.size)))).setCell (p := ⟨gr, 5, none⟩) HRW.out.base _
  go_wp2_with fail
  go_ret
  rw [HRES.out, if_neg HM.out, if_neg (fun h => by cases h)]
  exact way_none HB3.out
end Go.Proofs.YtliajkheeniljaaGreatDoor
namespace Go.Proofs.YtliajkheeniljaaGreatDoor
open Go.RowKit
set_option maxRecDepth 100000
set_option maxHeartbeats 16000000
variable {v0 : Value}
def wyL : List (Int × Value) := [(1, .func (.func 125) #[] #[]), (2, .func (.func 126) #[] #[]), (3, .func (.func 127) #[] #[]), (4, .func (.func 128) #[] #[]), (5, .func (.func 129) #[] #[]), (6, .func (.func 130) #[] #[]), (7, .func (.func 131) #[] #[]), (8, .func (.func 132) #[] #[]), (9, .func (.func 133) #[] #[]), (12, .func (.func 134) #[] #[]), (13, .func (.func 135) #[] #[])]
theorem pways_any (w : World) : Calls Tryz.prog 107 #[] w (TellsMap wyL w) := by
 have hmm := @run_makeMap Tryz.prog
 have h0 : MapInts (w.alloc (.map #[] 0)) w.heap.size [] := ⟨#[], 0, qhn w _, rfl⟩
 have hB0 : Below w.heap.size w (w.alloc (.map #[] 0)) := (Below.refl _ _).alloc (Nat.le_refl _) _
 go_enter Tryz.func107, Tryz.ntmps107
 go_wp2_with (refine wpList_insert_ints _ rfl _ _ _ 169 rfl 3 168 .i64 Tryz.underlying169 Tryz.underlying3 w.heap.size _ rfl _ rfl _ rfl h0 ?_; clear h0; intro w1 h0 hs1 hz1; replace hB0 := hB0.trans (hs1.below hB0.size (fun k hk => by omega)); clear hs1 hz1)
 go_ret
 exact ⟨w.heap.size, rfl, h0, Nat.le_refl _, hB0⟩
def opOk (k : Int) : Prop := k = 1 ∨ k = 2 ∨ k = 3 ∨ k = 4 ∨ k = 5 ∨ k = 6 ∨ k = 7 ∨ k = 8 ∨ k = 9 ∨ k = 12 ∨ k = 13
theorem pway_any {w : World} {B gr mb mc : Nat} {pc r0 r1 r2 r3 : Int} {buf : List EntryD} {bv : Value} {m : MachD} {c : CodeD} {s : StateD} (h : RunR v0 w B gr (pc + 1) r0 r1 r2 r3 buf bv m c.domain s.mem mb mc s.bad) (hB : B ≤ w.heap.size) (hd1 : 1 ≤ c.domain) (hd2 : c.domain ≤ 1000) (d : Nat) (x : InstrD) (ka kb : Value) (ha : ExprAt d w x.a ka) (hb : ExprAt d w x.b kb)
  (hreg : 0 ≤ x.reg ∧ x.reg < 4) (hvar : 0 ≤ x.var ∧ x.var < (s.mem.length : Int)) (hbl : buf.length ≤ 1000000) (hop : opOk x.op) :
  ∃ f, mfind wyL x.op = some (.func (.func f) #[] #[]) ∧ (∀ args W, (callFunc f args).run Tryz.prog W = .ok (.enter f args) W) ∧
   Calls Tryz.prog f #[.pointer (some ⟨gr, 0, none⟩), instrV x ka kb] w fun e w' => WayEnd v0 w B gr m c.domain mb mc (stepT c m s ⟨pc, [r0, r1, r2, r3], buf⟩ x d) e w' := by
 rcases hop with k | k | k | k | k | k | k | k | k | k | k
 ·exact ⟨_, by rw [k]; rfl, fun _ _ => rfl, by rw [stepT_load k]; exact pway_load h hB hd1 hd2 d x ka kb ha hb hreg hvar hbl⟩
 ·refine ⟨_, by rw [k]; rfl, fun _ _ => rfl, ?_⟩
  have hw := pway_store h hB hd1 hd2 d x ka kb ha hb hreg hvar hbl
  by_cases hm : m.model = 0
  ·rw [stepT_store0 k hm]; simp only [if_pos hm] at hw; exact hw
  ·simp only [if_neg hm] at hw
   cases hp : putOk buf m ⟨x.var, evalN [r0, r1, r2, r3] c.domain d x.a⟩ with
   | true => rw [stepT_storeY k hm hp]; simp only [hp, if_true] at hw; exact hw
   | false => rw [stepT_storeN k hm hp]; simp only [hp, Bool.false_eq_true, if_false] at hw; exact hw
 ·exact ⟨_, by rw [k]; rfl, fun _ _ => rfl, by rw [stepT_set k]; exact pway_set h hB hd1 hd2 d x ka kb ha hb hreg hvar hbl⟩
 ·exact ⟨_, by rw [k]; rfl, fun _ _ => rfl, by rw [stepT_fence k]; exact pway_fence h hB hd1 hd2 d x ka kb ha hb hreg hvar hbl⟩
 ·exact ⟨_, by rw [k]; rfl, fun _ _ => rfl, by rw [stepT_weak k]; exact pway_weak h hB hd1 hd2 d x ka kb ha hb hreg hvar hbl⟩
 ·refine ⟨_, by rw [k]; rfl, fun _ _ => rfl, ?_⟩
  have hw := pway_cas h hB hd1 hd2 d x ka kb ha hb hreg hvar hbl
  by_cases hv : s.mem.getD x.var.toNat 0 = evalN [r0, r1, r2, r3] c.domain d x.a
  ·rw [stepT_casY k hv]; simp only [if_pos hv] at hw; exact hw
  ·rw [stepT_casN k hv]; simp only [if_neg hv] at hw; exact hw
 ·exact ⟨_, by rw [k]; rfl, fun _ _ => rfl, by rw [stepT_lock k]; exact pway_lock h hB hd1 hd2 d x ka kb ha hb hreg hvar hbl⟩
 ·exact ⟨_, by rw [k]; rfl, fun _ _ => rfl, by rw [stepT_unlock k]; exact pway_unlock h hB hd1 hd2 d x ka kb ha hb hreg hvar hbl⟩
 ·exact ⟨_, by rw [k]; rfl, fun _ _ => rfl, by rw [stepT_assert k]; exact pway_assert h hB hd1 hd2 d x ka kb ha hb hreg hvar hbl⟩
 ·refine ⟨_, by rw [k]; rfl, fun _ _ => rfl, ?_⟩
  have hw := pway_branch h hB hd1 hd2 d x ka kb ha hb hreg hvar hbl
  rw [stepT_branch k]
  by_cases hv : evalN [r0, r1, r2, r3] c.domain d x.a = 0
  ·simp only [if_pos hv] at hw ⊢; exact hw
  ·simp only [if_neg hv] at hw ⊢; exact hw
 ·exact ⟨_, by rw [k]; rfl, fun _ _ => rfl, by rw [stepT_jump k]; exact pway_jump h hB hd1 hd2 d x ka kb ha hb hreg hvar hbl⟩
end Go.Proofs.YtliajkheeniljaaGreatDoor
