/- A thread's step and a flush, by the program's runner: the walks. -/
import Derived.Test.YtliajkheeniljaaGreatDoorQPClone
import Derived.Test.YtliajkheeniljaaGreatDoorQPHeads
import Derived.Test.YtliajkheeniljaaGreatDoorQPWays3
import Derived.Test.YtliajkheeniljaaGreatDoorQShort
set_option linter.all false
namespace Go.Proofs.YtliajkheeniljaaGreatDoor
open Go.RowKit
set_option maxRecDepth 100000
set_option maxHeartbeats 16000000
variable {v0 : Value}
theorem way_info : (Tryz.prog.info? 168).map (fun i => (i.zero, i.size, i.bytes)) = some (some .nilFunc, 1, 8) := by kernel_rfl
theorem zero_way_run (P : World) : (zeroValue 168).run Tryz.prog P = .ok .nilFunc P := by
 obtain ⟨i0, hi, hz0, hz1, hz2⟩ := info_parts way_info
 simp [zeroValue, typeInfo, hi, hz0]
def InstrFit (n : Nat) (x : InstrD) : Prop := (0 ≤ x.reg ∧ x.reg < 4) ∧ (0 ≤ x.var ∧ x.var < (n : Int)) ∧ opOk x.op
theorem WayEnd.told {w w' : World} {B gr : Nat} {m : MachD} {dom : Int} {mb mc : Nat} {res : Option (ThreadD × List Int × Bool)} {e : Ending} (h : WayEnd v0 w B gr m dom mb mc res e w') : ∃ b : Bool, e = .returned (.bool b) ∧ WayEnd v0 w B gr m dom mb mc res (.returned (.bool b)) w' := by
 rcases h.2 with ⟨-, he⟩ | ⟨t, mem, bad, bv, -, he, -⟩
 ·exact ⟨false, he, he ▸ h⟩
 ·exact ⟨true, he, he ▸ h⟩
theorem WayEnd.base {w W w' : World} {B gr : Nat} {m : MachD} {dom : Int} {mb mc : Nat} {res : Option (ThreadD × List Int × Bool)} {e : Ending} (h : WayEnd v0 W B gr m dom mb mc res e w') (hb : Below B w W) : WayEnd v0 w B gr m dom mb mc res e w' := ⟨hb.trans h.1, h.2⟩
theorem pstep_any {w0 w : World} {B gr mb mc : Nat} {pc : Nat} {r0 r1 r2 r3 : Int} {buf : List EntryD} {bv : Value} {m : MachD} {c : CodeD} {s : StateD} (h : RunR v0 w B gr (pc : Int) r0 r1 r2 r3 buf bv m c.domain s.mem mb mc s.bad) (hB : B ≤ w.heap.size) (hd1 : 1 ≤ c.domain) (hd2 : c.domain ≤ 1000) (d : Nat) (l : List InstrD) (lv : Value) (hl : InstrsAt d w0 lv l) (h0 : Below w0.heap.size w0 w) (hB0 : w0.heap.size ≤ B)
  (hx : ∀ j, j < l.length → InstrFit s.mem.length (l.getD j default)) (hbl : buf.length ≤ 1000000) : Calls Tryz.prog 81 #[.pointer (some ⟨gr, 0, none⟩), lv] w fun e w' =>
  WayEnd v0 w B gr m c.domain mb mc (if (pc : Int) < (l.length : Int) then stepT c m s ⟨(pc : Int), [r0, r1, r2, r3], buf⟩ (l.getD pc default) d else none) e w' := by
 obtain ⟨la, lc, rfl, -⟩ := SliceR.slice hl
 have hroom := SliceR.room hl
 obtain ⟨n, hn⟩ : ∃ n, n = l.length := ⟨_, rfl⟩
 rw [← hn] at hl hroom hx ⊢
 have HL := qh hl
 have HN := qh hn
 have HR := qh h
 have HBW := qh hB
 have H0 := qh h0
 have HB0 := qh hB0
 clear h0 hB0
 have c0 : w.cell? ⟨gr, 0, none⟩ = some (.int .i64 (pc : Int)) := qcb h.block 0
 clear hl hn
 rcases Nat.lt_or_ge pc n with hlt | hlt
 rotate_left
 ·have hge : (n : Int) ≤ (pc : Int) := by omega
  rw [if_neg (by omega)]
  clear HL HR h hx hB
  go_enter Tryz.func81, Tryz.ntmps81
  go_wp2_with fail
  go_ret
  exact way_none (Below.refl _ _)
 have hltI : (pc : Int) < (n : Int) := by omega
 have hwr : IntKind.i64.wrap ((pc : Int) + 1) = (pc : Int) + 1 := IntWalk.i64_in _ (by omega)
 clear hroom
 rw [if_pos hltI]
 obtain ⟨eb, eo, aa, ac, ba, bc, hea, -, ⟨x0, x1, x2⟩, ⟨x3, x4, x5, x6⟩, ⟨x7, x8, x9, x10⟩, x11, xa, xb⟩ := InstrsAt.part HL.out pc (by rw [← HN.out]; exact hlt)
 subst hea
 have hfx := hx pc hlt
 replace x0 := qck H0.out _ _ x0
 replace x1 := qck H0.out _ _ x1
 replace x2 := qck H0.out _ _ x2
 replace x3 := qck H0.out _ _ x3
 replace x4 := qck H0.out _ _ x4
 replace x5 := qck H0.out _ _ x5
 replace x6 := qck H0.out _ _ x6
 replace x7 := qck H0.out _ _ x7
 replace x8 := qck H0.out _ _ x8
 replace x9 := qck H0.out _ _ x9
 replace x10 := qck H0.out _ _ x10
 replace x11 := qck H0.out _ _ x11
 obtain ⟨x, hxx⟩ : ∃ x, x = l.getD pc default := ⟨_, rfl⟩
 rw [← hxx] at x0 x1 x2 x3 x4 x5 x6 x7 x8 x9 x10 x11 xa xb hfx ⊢
 have hway := fun W V (hV : RunR v0 W B gr ((pc : Int) + 1) r0 r1 r2 r3 buf V m c.domain s.mem mb mc s.bad) (hW : B ≤ W.heap.size) (ha : ExprAt d W x.a (.slice aa x.a.kids.length ac)) (hb : ExprAt d W x.b (.slice ba x.b.kids.length bc)) => pway_any hV hW hd1 hd2 d x _ _ ha hb hfx.1 hfx.2.1 hbl hfx.2.2
 unfold instrV at hway
 have hxa := fun W (hW : Below w0.heap.size w0 W) => xa.below hW
 have hxb := fun W (hW : Below w0.heap.size w0 W) => xb.below hW
 clear xa xb hfx hxx
 obtain ⟨res, hres⟩ : ∃ r, r = stepT c m s ⟨(pc : Int), [r0, r1, r2, r3], buf⟩ x d := ⟨_, rfl⟩
 rw [← hres] at hway ⊢
 clear hres
 obtain ⟨op, reg, v, a, b, to_⟩ := x
 simp only [] at x0 x1 x2 x3 x4 x5 x6 x7 x8 x9 x10 x11 hway hxa hxb ⊢
 obtain ⟨al, hal⟩ : ∃ n, n = a.kids.length := ⟨_, rfl⟩
 obtain ⟨bl, hbl2⟩ : ∃ n, n = b.kids.length := ⟨_, rfl⟩
 obtain ⟨ak, hak⟩ : ∃ n, n = a.kind := ⟨_, rfl⟩
 obtain ⟨an, han⟩ : ∃ n, n = a.n := ⟨_, rfl⟩
 obtain ⟨ao, hao⟩ : ∃ n, n = a.op := ⟨_, rfl⟩
 obtain ⟨bk, hbk⟩ : ∃ n, n = b.kind := ⟨_, rfl⟩
 obtain ⟨bn, hbn⟩ : ∃ n, n = b.n := ⟨_, rfl⟩
 obtain ⟨bo, hbo⟩ : ∃ n, n = b.op := ⟨_, rfl⟩
 rw [← hak] at x3 hway
 rw [← han] at x4 hway
 rw [← hao] at x5 hway
 rw [← hal] at x6 hway hxa
 rw [← hbk] at x7 hway
 rw [← hbn] at x8 hway
 rw [← hbo] at x9 hway
 rw [← hbl2] at x10 hway hxb
 clear hak han hao hal hbk hbn hbo hbl2
 have HWAY := qh hway
 have HXA := qh hxa
 have HXB := qh hxb
 have HA := qh ((Below.refl w.heap.size w).alloc (Nat.le_refl _) (.cells #[.int .i64 op, .int .i64 reg, .int .i64 v, .int .i64 ak, .int .i64 an, .int .u8 ao, .slice aa al ac, .int .i64 bk, .int .i64 bn, .int .u8 bo, .slice ba bl bc, .int .i64 to_] 64))
 have HX := qh (qhn w (.cells #[.int .i64 op, .int .i64 reg, .int .i64 v, .int .i64 ak, .int .i64 an, .int .u8 ao, .slice aa al ac, .int .i64 bk, .int .i64 bn, .int .u8 bo, .slice ba bl bc, .int .i64 to_] 64))
 clear hway hxa hxb h hB hx HL
 go_enter Tryz.func81, Tryz.ntmps81
 go_upto_region 4 with fail
 generalize World.alloc w _ = X at HA HX ⊢
 obtain ⟨gi, hgi⟩ : ∃ g, g = w.heap.size := ⟨_, rfl⟩
 rw [← hgi] at HX ⊢
 have HNG := qh (show gi ≠ gr by have := qlb HR.out.block; omega)
 clear hgi c0 x0 x1 x2 x3 x4 x5 x6 x7 x8 x9 x10 x11
 have HRX := qh (HR.out.below HA.out)
 have d0 : X.cell? ⟨gr, 0, none⟩ = some (.int .i64 (pc : Int)) := qcb HRX.out.block 0
 have f0 : X.frozen? ⟨gr, 0, none⟩ = false := qfb HRX.out.block 0
 go_upto_region 5 with fail
 clear d0 f0
 have HRY := qh (HRX.out.setPc ((pc : Int) + 1))
 have HBY : Hid (Below B w (X.setCell ⟨gr, 0, none⟩ (.int .i64 ((pc : Int) + 1)))) := (HA.out.mono HBW.out).setCell (p := ⟨gr, 0, none⟩) HR.out.base _
 have HSY : Hid (Since (fun k => k = gr) X (X.setCell ⟨gr, 0, none⟩ (.int .i64 ((pc : Int) + 1)))) := Since.setCell (F := fun k => k = gr) (p := ⟨gr, 0, none⟩) (Since.refl _ _) (.inl rfl) _
 have HEX : Hid (ExprAt d (X.setCell ⟨gr, 0, none⟩ (.int .i64 ((pc : Int) + 1))) a (.slice aa al ac) ∧ ExprAt d (X.setCell ⟨gr, 0, none⟩ (.int .i64 ((pc : Int) + 1))) b (.slice ba bl bc)) := ⟨(HXA.out _ (H0.out.trans (HBY.out.mono HB0.out))), (HXB.out _ (H0.out.trans (HBY.out.mono HB0.out)))⟩
 generalize World.setCell X ⟨gr, 0, none⟩ _ = Y at HRY HBY HSY HEX ⊢
 have hYB : B ≤ Y.heap.size := Nat.le_trans HBW.out HBY.out.size
 obtain ⟨f, hmf, hfn, -⟩ := HWAY.out Y _ HRY.out hYB HEX.out.1 HEX.out.2
 have hrun : Hid (∀ W, Below Y.heap.size Y W → Calls Tryz.prog f #[.pointer (some ⟨gr, 0, none⟩), .agg #[.int .i64 op, .int .i64 reg, .int .i64 v, .int .i64 ak, .int .i64 an, .int .u8 ao, .slice aa al ac, .int .i64 bk, .int .i64 bn, .int .u8 bo, .slice ba bl bc, .int .i64 to_]] W fun e w' => WayEnd v0 W B gr m c.domain mb mc res e w') := fun W hW => by
  obtain ⟨f', hmf', -, hc⟩ := HWAY.out W _ (HRY.out.below hW) (Nat.le_trans hYB hW.size) (HEX.out.1.below hW) (HEX.out.2.below hW)
  rw [hmf] at hmf'
  cases hmf'
  exact hc
 have CC : Hid (∀ x, Below Y.heap.size Y x → x.cell? ⟨gi, 0, none⟩ = some (.int .i64 op) ∧ x.cell? ⟨gi, 1, none⟩ = some (.int .i64 reg) ∧ x.cell? ⟨gi, 2, none⟩ = some (.int .i64 v) ∧ x.cell? ⟨gi, 3, none⟩ = some (.int .i64 ak) ∧ x.cell? ⟨gi, 4, none⟩ = some (.int .i64 an) ∧ x.cell? ⟨gi, 5, none⟩ = some (.int .u8 ao) ∧ x.cell? ⟨gi, 6, none⟩ = some (.slice aa al ac) ∧ x.cell? ⟨gi, 7, none⟩ = some (.int .i64 bk) ∧ x.cell? ⟨gi, 8, none⟩ = some (.int .i64 bn) ∧ x.cell? ⟨gi, 9, none⟩ = some (.int .u8 bo) ∧ x.cell? ⟨gi, 10, none⟩ = some (.slice ba bl bc) ∧ x.cell? ⟨gi, 11, none⟩ = some (.int .i64 to_)) := fun x hx => by
  have k := fun (i : Nat) (u : Value) (hv : (#[.int .i64 op, .int .i64 reg, .int .i64 v, .int .i64 ak, .int .i64 an, .int .u8 ao, .slice aa al ac, .int .i64 bk, .int .i64 bn, .int .u8 bo, .slice ba bl bc, .int .i64 to_] : Array Value)[i]? = some u) => qck hx _ _ ((HSY.out.cell (p := ⟨gi, i, none⟩) (qlb HX.out) HNG.out).trans ((qcb HX.out i).trans hv))
  exact ⟨k 0 _ rfl, k 1 _ rfl, k 2 _ rfl, k 3 _ rfl, k 4 _ rfl, k 5 _ rfl, k 6 _ rfl, k 7 _ rfl, k 8 _ rfl, k 9 _ rfl, k 10 _ rfl, k 11 _ rfl⟩
 have HMF := qh hmf
 clear hmf HWAY HXA HXB
 refine wp_region_noPanic ?_
 refine wp_region_tail (n0 := 6) (S := fun x => Below Y.heap.size Y x) (by kernel_rfl) ((Below.refl _ _).drew) (fun hT => ?_)
 refine qtF 1 32 ?vt1 rfl ?hyt1 (fun _ => hT) ?_
 case hyt1 => (intro _ _; go_simp <;> rfl)
 simp only [Act.put, qz1, qz2, qz3]
 refine qtT [3, 6, 7] 2 33 ?vt2 rfl ?hyt2 hT ?_
 case hyt2 => (intro x h; have e := CC.out x h; go_simp <;> rfl)
 simp only [Act.put, qz1, qz2, qz3]
 refine qtF 4 35 ?vt3 rfl ?hyt3 (fun _ => hT) ?_
 case hyt3 => (intro _ _; go_simp <;> rfl)
 simp only [Act.put, qz1, qz2, qz3]
 refine qtT [6, 7] 5 36 ?vt4 rfl ?hyt4 hT ?_
 case hyt4 => (intro x h; have e := CC.out x h; go_simp <;> rfl)
 simp only [Act.put, qz1, qz2, qz3]
 refine qrT 0 rfl (fun K hK => ?_)
 go_simp
 refine (pways_any Y.drew).mono ?_
 rintro e tw0 ⟨mp, rfl, hmi, -, hb⟩
 have hlk := run_lookup_ints hmi Tryz.underlying169 Tryz.underlying3 (zero_way_run tw0) op false
 rw [HMF.out] at hlk
 simp only [Option.getD_some, Bool.false_eq_true, if_false] at hlk
 clear hmi
 have hT0 : Below Y.heap.size Y tw0 := qbt hT hb
 refine hK.out _ _ (fun _ _ => hT0) ?_
 clear hK K hb hT
 refine qrT 3 rfl (fun K hK => ?_)
 go_simp
 refine hK.out _ _ (fun _ _ => hT0) ?_
 clear hK K
 refine qrT 6 rfl (fun K hK => ?_)
 go_simp
 clear hlk
 refine (hrun.out tw0 hT0).mono ?_
 rintro e tw6 hwe
 have hbx : Below B Y tw0 := hT0.mono hYB
 obtain ⟨bb, rfl, hwe⟩ := hwe.told
 have HWE := qh (hwe.base (HBY.out.trans hbx))
 clear hwe hbx
 refine hK.out _ _ (fun h => absurd rfl h) ?_
 clear hK K
 refine qtF 7 4 ?vt5 rfl ?hyt5 (fun h => absurd h (by decide +kernel)) ?_
 case hyt5 => (intro _ _; go_simp <;> rfl)
 simp only [Act.put, qz1, qz2, qz3]
 refine wpAnyT_done (by kernel_rfl) ?_ _
 refine NoPanic.normal ?_
 clear hfn
 go_wp2_with fail
 go_ret
 exact HWE.out
theorem pflush_any {w : World} {B gr mb mc : Nat} {pc r0 r1 r2 r3 dom : Int} {buf : List EntryD} {bv : Value} {m : MachD} {mem : List Int} {bad : Bool} (h : RunR v0 w B gr pc r0 r1 r2 r3 buf bv m dom mem mb mc bad) (hB : B ≤ w.heap.size) (hbl : buf.length ≤ 1000000) (v : Int)
  (hh : v ∈ headsB buf m.model → 0 ≤ v ∧ v < (mem.length : Int) ∧ ∃ n, takeB buf v = (some ⟨v, n⟩, (takeB buf v).2)) : Calls Tryz.prog 82 #[.pointer (some ⟨gr, 0, none⟩), .int .i64 v] w fun e w' =>
  WayEnd v0 w B gr m dom mb mc (if v ∈ headsB buf m.model then some (⟨pc, [r0, r1, r2, r3], (takeB buf v).2⟩, mem.set v.toNat ((takeB buf v).1.getD default).n, bad) else none) e w' := by
 have hheads := fun W V (hV : RunR v0 W B gr pc r0 r1 r2 r3 buf V m dom mem mb mc bad) => pheads_any W V buf hV.bufAt hbl m.model
 have htake := fun W V (hV : RunR v0 W B gr pc r0 r1 r2 r3 buf V m dom mem mb mc bad) => ptake_any W V buf hV.bufAt hbl v
 obtain ⟨ua, uc, rfl, -⟩ := SliceR.slice h.bufAt
 obtain ⟨hs, hhs⟩ : ∃ l, l = headsB buf m.model := ⟨_, rfl⟩
 rw [← hhs] at hh hheads ⊢
 obtain ⟨un, hun⟩ : ∃ n, n = buf.length := ⟨_, rfl⟩
 rw [← hun] at h
 have HUN := qh hun
 have HR := qh h
 have HBW := qh hB
 have HHEADS : Hid (∀ x, Below w.heap.size w x → Calls Tryz.prog 79 #[.slice ua un uc, .int .i64 m.model] x fun e w' => (∃ sv, e = .returned sv ∧ IntsAt w' sv hs) ∧ Below x.heap.size x w') := fun x hx => hheads x _ (HR.out.below hx)
 have CC : Hid (∀ x, Below w.heap.size w x → x.cell? ⟨gr, 5, none⟩ = some (.slice ua un uc) ∧ x.cell? ⟨gr, 6, none⟩ = some (.int .i64 m.model)) := fun x hx => ⟨qck hx _ _ (qcb HR.out.block 5), qck hx _ _ (qcb HR.out.block 6)⟩
 have HH := qh hh
 have HTK := qh htake
 clear hheads htake hhs hun h hB hh hbl
 by_cases hv : v ∈ hs
 rotate_left
 ·have hcv : hs.contains v = false := by simpa using hv
  rw [if_neg hv]
  clear hv
  clear HTK HH
  obtain ⟨res, hres⟩ : ∃ r : Option (ThreadD × List Int × Bool), r = none := ⟨_, rfl⟩
  rw [← hres]
  have HRES := qh hres
  clear hres
  go_enter Tryz.func82, Tryz.ntmps82
  go_upto_region 1 with fail
  refine wp_region_noPanic ?_
  refine wp_region_held_drew (S := fun x => Below w.heap.size w x) (by kernel_rfl) ((Below.refl _ _).drew) (fun hH => ?_)
  refine qta 0 8 ?vn1 rfl ?hyn1 ?_
  case hyn1 => (intro x h; have e := CC.out x h; go_simp <;> rfl)
  simp only [Act.put, qz1, qz2, qz3]
  refine qta 1 9 ?vn2 rfl ?hyn2 ?_
  case hyn2 => (intro x h; have e := CC.out x h; go_simp <;> rfl)
  simp only [Act.put, qz1, qz2, qz3]
  refine qta 2 10 ?vn3 rfl ?hyn3 ?_
  case hyn3 => (intro x h; have e := CC.out x h; go_simp <;> rfl)
  simp only [Act.put, qz1, qz2, qz3]
  refine qta 3 11 ?vn4 rfl ?hyn4 ?_
  case hyn4 => (intro x h; have e := CC.out x h; go_simp <;> rfl)
  simp only [Act.put, qz1, qz2, qz3]
  refine qta 4 12 ?vn5 rfl ?hyn5 ?_
  case hyn5 => (intro x h; have e := CC.out x h; go_simp <;> rfl)
  simp only [Act.put, qz1, qz2, qz3]
  refine qta 5 13 ?vn6 rfl ?hyn6 ?_
  case hyn6 => (intro x h; have e := CC.out x h; go_simp <;> rfl)
  simp only [Act.put, qz1, qz2, qz3]
  refine qta 6 14 ?vn7 rfl ?hyn7 ?_
  case hyn7 => (intro x h; have e := CC.out x h; go_simp <;> rfl)
  simp only [Act.put, qz1, qz2, qz3]
  refine qta 7 15 ?vn8 rfl ?hyn8 ?_
  case hyn8 => (intro x h; have e := CC.out x h; go_simp <;> rfl)
  simp only [Act.put, qz1, qz2, qz3]
  refine qta 8 16 ?vn9 rfl ?hyn9 ?_
  case hyn9 => (intro x h; have e := CC.out x h; go_simp <;> rfl)
  simp only [Act.put, qz1, qz2, qz3]
  refine qta 9 17 ?vn10 rfl ?hyn10 ?_
  case hyn10 => (intro x h; have e := CC.out x h; go_simp <;> rfl)
  simp only [Act.put, qz1, qz2, qz3]
  refine qta 11 19 ?vn11 rfl ?hyn11 ?_
  case hyn11 => (intro x h; have e := CC.out x h; go_simp <;> rfl)
  simp only [Act.put, qz1, qz2, qz3]
  refine qrH 10 rfl (fun K hK => ?_)
  go_simp
  refine (HHEADS.out w.drew hH).mono ?_
  rintro e nw10 ⟨⟨sv, rfl, hsv⟩, hb⟩
  obtain ⟨ha, hc, rfl, -⟩ := SliceR.slice hsv
  have hHn10 : Below w.heap.size w nw10 := qbt hH hb
  refine hK.out _ _ hHn10 (fun _ => ?_)
  clear hK K hb hH
  refine qrH 12 rfl (fun K hK => ?_)
  go_simp
  refine (pcontains_any nw10 _ hs hsv v).mono ?_
  rintro e nw12 ⟨he, hyx⟩
  rw [hcv] at he
  subst he
  have hb : Below nw10.heap.size nw10 nw12 := by rw [hyx]; exact Below.refl _ _
  clear hyx hsv
  have hHn12 : Below w.heap.size w nw12 := qbt hHn10 hb
  refine hK.out _ _ hHn12 (fun _ => ?_)
  clear hK K hb hHn10
  refine qta 13 21 ?vn12 rfl ?hyn12 ?_
  case hyn12 => (intro x h; have e := CC.out x h; go_simp <;> rfl)
  simp only [Act.put, qz1, qz2, qz3]
  refine wpAnyH_done (by kernel_rfl) ?_ _
  refine NoPanic.normal ?_
  go_wp2_with fail
  go_ret
  rw [HRES.out]
  exact way_none (hHn12.mono HBW.out)
 have hcv : hs.contains v = true := by simpa using hv
 obtain ⟨hv0, hv1, tn, htk⟩ := HH.out hv
 rw [if_pos hv, htk]
 simp only [Option.getD_some]
 obtain ⟨rest, hrest⟩ : ∃ l, l = (takeB buf v).2 := ⟨_, rfl⟩
 rw [← hrest] at htk ⊢
 clear hrest
 obtain ⟨vn, rfl⟩ : ∃ k : Nat, v = (k : Int) := ⟨v.toNat, by omega⟩
 have hvn : vn < mem.length := by omega
 simp only [Int.toNat_natCast]
 have HTAKE : Hid (∀ x, Below w.heap.size w x → Calls Tryz.prog 109 #[.slice ua un uc, .int .i64 (vn : Int)] x fun e w' => (∃ xa xc, e = .returned (.tuple #[.agg #[.int .i64 (vn : Int), .int .i64 tn], .slice xa rest.length xc, .bool true]) ∧ w'.ownsRow x.heap.size 50 2 (.slice xa rest.length xc) rest.length (flatC EntryD.cells rest)) ∧ Below x.heap.size x w') := fun x hx => (HTK.out x _ (HR.out.below hx)).mono (by
  rintro e w' ⟨⟨sv, he, hbf, hrow⟩, hb⟩
  rw [htk] at he hbf hrow
  obtain ⟨xa, xc, rfl, -⟩ := SliceR.slice hbf
  exact ⟨⟨xa, xc, he, hrow rfl⟩, hb⟩)
 clear htk hv hv0
 clear HTK HH
 obtain ⟨res, hres⟩ : ∃ r : Option (ThreadD × List Int × Bool), r = some (⟨pc, [r0, r1, r2, r3], rest⟩, mem.set vn tn, bad) := ⟨_, rfl⟩
 rw [← hres]
 have HRES := qh hres
 clear hres
 go_enter Tryz.func82, Tryz.ntmps82
 go_upto_region 1 with fail
 refine wp_region_noPanic ?_
 refine wp_region_held_drew (S := fun x => Below w.heap.size w x) (by kernel_rfl) ((Below.refl _ _).drew) (fun hH => ?_)
 refine qta 0 8 ?vy1 rfl ?hyy1 ?_
 case hyy1 => (intro x h; have e := CC.out x h; go_simp <;> rfl)
 simp only [Act.put, qz1, qz2, qz3]
 refine qta 1 9 ?vy2 rfl ?hyy2 ?_
 case hyy2 => (intro x h; have e := CC.out x h; go_simp <;> rfl)
 simp only [Act.put, qz1, qz2, qz3]
 refine qta 2 10 ?vy3 rfl ?hyy3 ?_
 case hyy3 => (intro x h; have e := CC.out x h; go_simp <;> rfl)
 simp only [Act.put, qz1, qz2, qz3]
 refine qta 3 11 ?vy4 rfl ?hyy4 ?_
 case hyy4 => (intro x h; have e := CC.out x h; go_simp <;> rfl)
 simp only [Act.put, qz1, qz2, qz3]
 refine qta 4 12 ?vy5 rfl ?hyy5 ?_
 case hyy5 => (intro x h; have e := CC.out x h; go_simp <;> rfl)
 simp only [Act.put, qz1, qz2, qz3]
 refine qta 5 13 ?vy6 rfl ?hyy6 ?_
 case hyy6 => (intro x h; have e := CC.out x h; go_simp <;> rfl)
 simp only [Act.put, qz1, qz2, qz3]
 refine qta 6 14 ?vy7 rfl ?hyy7 ?_
 case hyy7 => (intro x h; have e := CC.out x h; go_simp <;> rfl)
 simp only [Act.put, qz1, qz2, qz3]
 refine qta 7 15 ?vy8 rfl ?hyy8 ?_
 case hyy8 => (intro x h; have e := CC.out x h; go_simp <;> rfl)
 simp only [Act.put, qz1, qz2, qz3]
 refine qta 8 16 ?vy9 rfl ?hyy9 ?_
 case hyy9 => (intro x h; have e := CC.out x h; go_simp <;> rfl)
 simp only [Act.put, qz1, qz2, qz3]
 refine qta 9 17 ?vy10 rfl ?hyy10 ?_
 case hyy10 => (intro x h; have e := CC.out x h; go_simp <;> rfl)
 simp only [Act.put, qz1, qz2, qz3]
 refine qta 11 19 ?vy11 rfl ?hyy11 ?_
 case hyy11 => (intro x h; have e := CC.out x h; go_simp <;> rfl)
 simp only [Act.put, qz1, qz2, qz3]
 refine qrH 10 rfl (fun K hK => ?_)
 go_simp
 refine (HHEADS.out w.drew hH).mono ?_
 rintro e yw10 ⟨⟨sv, rfl, hsv⟩, hb⟩
 obtain ⟨ha, hc, rfl, -⟩ := SliceR.slice hsv
 have hHy10 : Below w.heap.size w yw10 := qbt hH hb
 refine hK.out _ _ hHy10 (fun _ => ?_)
 clear hK K hb hH
 refine qrH 12 rfl (fun K hK => ?_)
 go_simp
 refine (pcontains_any yw10 _ hs hsv (vn : Int)).mono ?_
 rintro e yw12 ⟨he, hyx⟩
 rw [hcv] at he
 subst he
 have hb : Below yw10.heap.size yw10 yw12 := by rw [hyx]; exact Below.refl _ _
 clear hyx hsv
 have hHy12 : Below w.heap.size w yw12 := qbt hHy10 hb
 refine hK.out _ _ hHy12 (fun _ => ?_)
 clear hK K hb hHy10
 refine qta 13 21 ?vy12 rfl ?hyy12 ?_
 case hyy12 => (intro x h; have e := CC.out x h; go_simp <;> rfl)
 simp only [Act.put, qz1, qz2, qz3]
 refine wpAnyH_done (by kernel_rfl) ?_ _
 refine NoPanic.normal ?_
 have c5 : yw12.cell? ⟨gr, 5, none⟩ = some (.slice ua un uc) := (CC.out _ hHy12).1
 have HY := qh hHy12
 clear hHy12 hcv
 go_wp2_with fail
 refine (HTAKE.out yw12 HY.out).mono ?_
 rintro e w3 ⟨⟨xa, xc, rfl, hrow⟩, hb3⟩
 clear c5
 have HROW := qh hrow
 have H3 : Hid (Below w.heap.size w w3) := qbt HY.out hb3
 clear hrow hb3
 have HA := qh ((Below.refl w3.heap.size w3).alloc (Nat.le_refl _) (.cells #[.int .i64 (vn : Int), .int .i64 tn] 50))
 have HX := qh (qhn w3 (.cells #[.int .i64 (vn : Int), .int .i64 tn] 50))
 go_upto_region 4 with fail
 generalize World.alloc w3 _ = X at HA HX ⊢
 obtain ⟨gx, hgx⟩ : ∃ g, g = w3.heap.size := ⟨_, rfl⟩
 rw [← hgx] at HX ⊢
 have HG : Hid (gx ≠ gr ∧ gx ≠ mb) := by
  have h1 := qlb HR.out.block
  have h2 := HR.out.memBase.2
  have h3 := H3.out.size
  exact ⟨by omega, by omega⟩
 clear hgx
 have HWX : Hid (Below w.heap.size w X) := qbt H3.out HA.out
 have HRX := qh (HR.out.below (HWX.out.drew))
 have HRB := qh (HRX.out.setBuf (V := yw12) (bv' := .slice xa rest.length xc) (buf' := rest) ⟨Nat.lt_of_lt_of_le (qlb HR.out.block) HY.out.size, Nat.lt_of_lt_of_le HR.out.memBase.2 HY.out.size⟩ (row_below HROW.out HA.out.drew))
 have HRC := qh (HRB.out.setMem vn tn)
 have HBC : Hid (Below B w ((X.drew.setCell ⟨gr, 5, none⟩ (.slice xa rest.length xc)).setCell ⟨mb, vn, none⟩ (.int .i64 tn))) := ((HWX.out.drew.mono HBW.out).setCell (p := ⟨gr, 5, none⟩) HR.out.base _).setCell (p := ⟨mb, vn, none⟩) HR.out.memBase.1 _
 have HS0 : Hid (Since (fun k => k = gr ∨ k = mb) X X.drew ∧ X.drew.cell? ⟨gr, 9, none⟩ = some (.slice (some ⟨mb, 0, none⟩) mem.length mc)) := ⟨(Since.refl _ X).drew, qcb HRX.out.block 9⟩
 have HS1 : Hid (Since (fun k => k = gr ∨ k = mb) X (X.drew.setCell ⟨gr, 5, none⟩ (.slice xa rest.length xc)) ∧ (X.drew.setCell ⟨gr, 5, none⟩ (.slice xa rest.length xc)).cell? ⟨gr, 9, none⟩ = some (.slice (some ⟨mb, 0, none⟩) mem.length mc)) := ⟨Since.setCell (p := ⟨gr, 5, none⟩) HS0.out.1 (.inl (.inl rfl)) _, qcb HRB.out.block 9⟩
 have HS2 : Hid (Since (fun k => k = gr ∨ k = mb) X ((X.drew.setCell ⟨gr, 5, none⟩ (.slice xa rest.length xc)).setCell ⟨mb, vn, none⟩ (.int .i64 tn)) ∧ ((X.drew.setCell ⟨gr, 5, none⟩ (.slice xa rest.length xc)).setCell ⟨mb, vn, none⟩ (.int .i64 tn)).cell? ⟨gr, 9, none⟩ = some (.slice (some ⟨mb, 0, none⟩) mem.length mc)) := ⟨Since.setCell (p := ⟨mb, vn, none⟩) HS1.out.1 (.inl (.inr rfl)) _, by
  have := qcb HRC.out.block 9
  rw [List.length_set] at this
  exact this⟩
 have C4 : Hid (∀ x, (Since (fun k => k = gr ∨ k = mb) X x ∧ x.cell? ⟨gr, 9, none⟩ = some (.slice (some ⟨mb, 0, none⟩) mem.length mc)) → x.cell? ⟨gr, 9, none⟩ = some (.slice (some ⟨mb, 0, none⟩) mem.length mc) ∧ x.cell? ⟨gx, 0, none⟩ = some (.int .i64 (vn : Int)) ∧ x.cell? ⟨gx, 1, none⟩ = some (.int .i64 tn)) := fun x hx => ⟨hx.2, (hx.1.cell (p := ⟨gx, 0, none⟩) (qlb HX.out) (fun e => e.elim HG.out.1 HG.out.2)).trans (qcb HX.out 0), (hx.1.cell (p := ⟨gx, 1, none⟩) (qlb HX.out) (fun e => e.elim HG.out.1 HG.out.2)).trans (qcb HX.out 1)⟩
 have q0 : X.drew.cell? ⟨gr, 5, none⟩ = some (.slice ua un uc) := qcb HRX.out.block 5
 have q1 : X.drew.frozen? ⟨gr, 5, none⟩ = false := qfb HRX.out.block 5
 refine wp_region_noPanic ?_
 refine wp_region_held_drew (S := fun x => Since (fun k => k = gr ∨ k = mb) X x ∧ x.cell? ⟨gr, 9, none⟩ = some (.slice (some ⟨mb, 0, none⟩) mem.length mc)) (by kernel_rfl) (HS0.out) (fun hS => ?_)
 refine qta 0 33 ?vu1 rfl ?hyu1 ?_
 case hyu1 => (intro x h; have e := C4.out x h; go_simp <;> rfl)
 simp only [Act.put, qz1, qz2, qz3]
 refine qta 1 34 ?vu2 rfl ?hyu2 ?_
 case hyu2 => (intro x h; have e := C4.out x h; go_simp <;> rfl)
 simp only [Act.put, qz1, qz2, qz3]
 refine qta 2 35 ?vu3 rfl ?hyu3 ?_
 case hyu3 => (intro x h; have e := C4.out x h; go_simp <;> rfl)
 simp only [Act.put, qz1, qz2, qz3]
 refine qta 3 36 ?vu4 rfl ?hyu4 ?_
 case hyu4 => (intro x h; have e := C4.out x h; go_simp <;> rfl)
 simp only [Act.put, qz1, qz2, qz3]
 refine qta 4 37 ?vu5 rfl ?hyu5 ?_
 case hyu5 => (intro x h; have e := C4.out x h; go_simp <;> rfl)
 simp only [Act.put, qz1, qz2, qz3]
 refine qta 5 38 ?vu6 rfl ?hyu6 ?_
 case hyu6 => (intro x h; have e := C4.out x h; go_simp <;> rfl)
 simp only [Act.put, qz1, qz2, qz3]
 refine qta 6 39 ?vu7 rfl ?hyu7 ?_
 case hyu7 => (intro x h; have e := C4.out x h; go_simp <;> rfl)
 simp only [Act.put, qz1, qz2, qz3]
 refine qta 7 40 ?vu8 rfl ?hyu8 ?_
 case hyu8 => (intro x h; have e := C4.out x h; go_simp <;> rfl)
 simp only [Act.put, qz1, qz2, qz3]
 refine qta 8 41 ?vu9 rfl ?hyu9 ?_
 case hyu9 => (intro x h; have e := C4.out x h; go_simp <;> rfl)
 simp only [Act.put, qz1, qz2, qz3]
 refine qta 9 42 ?vu10 rfl ?hyu10 ?_
 case hyu10 => (intro x h; have e := C4.out x h; go_simp <;> rfl)
 simp only [Act.put, qz1, qz2, qz3]
 refine qta 10 43 ?vu11 rfl ?hyu11 ?_
 case hyu11 => (intro x h; have e := C4.out x h; go_simp <;> rfl)
 simp only [Act.put, qz1, qz2, qz3]
 refine qta 11 44 ?vu12 rfl ?hyu12 ?_
 case hyu12 => (intro x h; have e := C4.out x h; go_simp <;> rfl)
 simp only [Act.put, qz1, qz2, qz3]
 refine qta 12 45 ?vu13 rfl ?hyu13 ?_
 case hyu13 => (intro x h; have e := C4.out x h; go_simp <;> rfl)
 simp only [Act.put, qz1, qz2, qz3]
 refine qrH 13 rfl (fun K hK => ?_)
 go_simp
 have hSs13 := HS1.out
 clear q0 q1
 have q2 : (X.setCell ⟨gr, 5, none⟩ (.slice xa rest.length xc)).cell? ⟨mb, vn, none⟩ = some (.int .i64 (mem.getD vn 0)) := (HRB.out.memCell hvn).1
 have q3 : X.frozen? ⟨mb, vn, none⟩ = false := ((HR.out.below HWX.out).memCell hvn).2
 refine hK.out _ _ hSs13 (fun _ => ?_)
 clear hK K hS
 refine qta 14 46 ?vu14 rfl ?hyu14 ?_
 case hyu14 => (intro x h; have e := C4.out x h; go_simp <;> rfl)
 simp only [Act.put, qz1, qz2, qz3]
 refine qrH 15 rfl (fun K hK => ?_)
 go_simp
 have hSs15 := HS2.out
 clear q2 q3
 refine hK.out _ _ hSs15 (fun _ => ?_)
 clear hK K hSs13
 refine wpAnyH_done (by kernel_rfl) ?_ _
 refine NoPanic.normal ?_
 go_wp2_with fail
 go_ret
 rw [HRES.out]
 exact way_some HRC.out HBC.out
end Go.Proofs.YtliajkheeniljaaGreatDoor
