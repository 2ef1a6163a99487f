/- Programs by numbers: what picks numbers; expressions. Programs by numbers: expressions. Programs by numbers: a statement, its parts' answers given. Programs by numbers: a statement: the walk. Programs by numbers: statements: the walk. -/
import Derived.Deep.RegionLaw
import Derived.IntWalk
import Derived.Test.YtliajkheeniljaaGreatDoorQExpQ
import Derived.Test.YtliajkheeniljaaGreatDoorQFits
import Derived.Test.YtliajkheeniljaaGreatDoorQTreeR
import Derived.Test.YtliajkheeniljaaGreatDoorQShort
set_option linter.all false
namespace Go.Proofs.YtliajkheeniljaaGreatDoor
open Go.RowKit
set_option maxRecDepth 100000
set_option maxHeartbeats 16000000
structure MkAt (W0 X : World) (g : Nat) (lv : Value) (a : Nat) : Prop where
 below : Below W0.heap.size W0 X
 lo : W0.heap.size ≤ g
 box : X.heap[g]? = some (.cells #[lv, .int .i64 a] 132 (0, 0))
theorem MkAt.later {W0 X Y : World} {g : Nat} {lv : Value} {a : Nat} (h : MkAt W0 X g lv a) (hb : Below X.heap.size X Y) : MkAt W0 Y g lv a := ⟨qbt h.below hb, h.lo, (hb.block _ (qlb h.box)).trans h.box⟩
theorem MkAt.since {W0 X Y : World} {g : Nat} {lv : Value} {a : Nat} {F : Nat → Prop} (h : MkAt W0 X g lv a) (hs : Since F X Y) (hF : ∀ k, F k → W0.heap.size ≤ k ∧ k ≠ g) : MkAt W0 Y g lv a :=
 ⟨h.below.trans (hs.below h.below.size (fun k hk => (hF k hk).1)), h.lo, (hs.block _ (qlb h.box) (fun e => (hF _ e).2 rfl)).trans h.box⟩
theorem MkAt.take {W0 X : World} {g : Nat} {lv : Value} {a : Nat} (h : MkAt W0 X g lv a) (b : Nat) : MkAt W0 (X.setCell ⟨g, 1, none⟩ (.int .i64 b)) g lv b := by
 refine ⟨h.below.trans ((Since.setCell (F := fun k => k = g) (p := ⟨g, 1, none⟩) (Since.refl _ X) (.inl rfl) _).below h.below.size (fun k hk => by have := h.lo; omega)), h.lo, ?_⟩
 have := set_of_block h.box 1 (.int .i64 b); simpa using this
def PickEnd (W0 : World) (g : Nat) (lv : Value) (a n : Nat) (w : World) (e : Ending) (w' : World) : Prop := ∃ r : Nat, r < n ∧ e = .returned (.int .i64 r) ∧ MkAt W0 w' g lv (a + 1) ∧ Since (fun k => k = g) w w'
theorem pick_any (W0 w : World) (g : Nat) (lv : Value) (l : List Int) (a n : Nat) (h : MkAt W0 w g lv a) (hn : NumsAt W0 .u8 lv l) (n1 : 1 ≤ n) (n2 : n ≤ 100) (ha : a ≤ 1000000) :
  Calls Tryz.prog 77 #[.pointer (some ⟨g, 0, none⟩), .int .i64 n] w (PickEnd W0 g lv a n w) := by
 obtain ⟨la, lc, rfl, hll, hwf, hcell⟩ := hn
 have hst := h.take (a + 1)
 have hsi : Since (fun k => k = g) w (w.setCell ⟨g, 1, none⟩ (.int .i64 ((a + 1 : Nat) : Int))) := Since.setCell (F := fun k => k = g) (p := ⟨g, 1, none⟩) (Since.refl _ _) (.inl rfl) _
 have hat : w.cell? ⟨g, 1, none⟩ = some (.int .i64 a) := qcb h.box 1
 have hfz : w.frozen? ⟨g, 1, none⟩ = false := qfb h.box 1
 rw [show ((a + 1 : Nat) : Int) = (a : Int) + 1 by omega] at hst hsi
 have HS := qh hst
 have HI := qh hsi
 clear hst hsi h
 go_enter Tryz.func77, Tryz.ntmps77
 go_upto_region 2 with fail
 generalize hV : World.setCell w _ _ = V at HS HI ⊢
 clear hV hat hfz
 have hat : V.cell? ⟨g, 1, none⟩ = some (.int .i64 ((a : Int) + 1)) := by
  have := qcb HS.out.box 1
  simpa using this
 have hlv : V.cell? ⟨g, 0, none⟩ = some (.slice la l.length lc) := qcb HS.out.box 0
 by_cases hc : a < l.length
 rotate_left
 ·have hcl : decide ((l.length : Int) < (a : Int) + 1) = true := by rw [decide_eq_true_iff]; omega
  clear hwf hcell
  go_quiet (fail)
  go_wp2_with fail
  go_ret
  exact ⟨0, by omega, rfl, HS.out.later (drewN_below (Below.refl _ _) _), Since.drewN _ _ HI.out⟩
 obtain ⟨b, off, rfl, hb, hx⟩ := hcell a hc
 have hx2 := (HS.out.below.cell (p := ⟨b, off + a, none⟩) hb).trans hx
 obtain ⟨x, hxd⟩ : ∃ x, x = l.getD a 0 := ⟨_, rfl⟩
 rw [← hxd] at hx2
 have hxw : (Lit.int .u8 x).wf = true := by
  rw [hxd, List.getD_eq_getElem?_getD, List.getElem?_eq_getElem hc]
  exact hwf _ (List.getElem_mem hc)
 have hx0 : 0 ≤ x := by simp [Lit.wf, IntKind.min, IntKind.max, IntKind.signed] at hxw; omega
 have hx1 : x ≤ 255 := by simp [Lit.wf, IntKind.min, IntKind.max, IntKind.signed, IntKind.bits] at hxw; omega
 have hcl : decide ((l.length : Int) < (a : Int) + 1) = false := by rw [decide_eq_false_iff_not]; omega
 have hal : (a : Int) < l.length := by omega
 clear hx hxd hxw hwf hcell
 go_quiet (fail)
 go_upto_region 4 with fail
 go_quiet (fail)
 go_wp2_with fail
 go_ret
 have hm0 := Int.emod_nonneg x (show (n : Int) ≠ 0 by omega)
 have hm1 := Int.emod_lt_of_pos x (show (0 : Int) < (n : Int) by omega)
 refine ⟨(x % (n : Int)).toNat, ?_, ?_, HS.out.later (drewN_below (drewN_below (Below.refl _ _) _) _), Since.drewN _ _ (Since.drewN _ _ HI.out)⟩
 ·generalize x % (n : Int) = q at hm0 hm1 ⊢
  omega
 ·show Ending.returned (.int .i64 (x % (n : Int))) = _
  rw [Int.toNat_of_nonneg hm0]
end Go.Proofs.YtliajkheeniljaaGreatDoor
namespace Go.Proofs.YtliajkheeniljaaGreatDoor
open Go.RowKit
set_option maxRecDepth 100000
set_option maxHeartbeats 16000000
theorem expr_size : (Tryz.prog.info? 62).map (·.size) = some 4 := by kernel_rfl
theorem num2_any (w : World) (n : Int) : Calls Tryz.prog 154 #[.int .i64 n] w fun e w' => e = .returned (.agg #[.int .i64 1, .int .i64 n, .int .u8 0, .slice none 0 0]) ∧ Below w.heap.size w w' := by
 have HB := qh ((Below.refl w.heap.size w).alloc (Nat.le_refl _) (.cells #[.int .i64 1, .int .i64 n, .int .u8 0, .slice none 0 0] 62))
 have HG := qh (qhn w (.cells #[.int .i64 1, .int .i64 n, .int .u8 0, .slice none 0 0] 62))
 go_enter Tryz.func154, Tryz.ntmps154
 go_wp2_with fail
 refine bodyPost_ret (results_cell rfl _ _ w.heap.size 62 _ (0, 0) _ rfl HG.out Tryz.underlying62 rfl expr_size) rfl ?_
 exact ⟨rfl, HB.out⟩
def exprK : Nat → Nat
 | 0 => 2
 | d + 1 => 2 + 2 * exprK d
def ExprEnd (W0 : World) (g : Nat) (lv : Value) (dom : Int) (d a : Nat) (w : World) (e : Ending) (w' : World) : Prop := ∃ (x : ExprT) (ka : Option Addr) (kc a' : Nat), e = .returned (.agg #[.int .i64 x.kind, .int .i64 x.n, .int .u8 x.op, .slice ka x.kids.length kc]) ∧ exprOk dom (d + 1) x = true ∧
 Away (fun k => k < w.heap.size) w' (fun y => ExprAt (d + 2) y x (.slice ka x.kids.length kc)) ∧ MkAt W0 w' g lv a' ∧ a' ≤ a + exprK d ∧ Since (fun k => k = g) w w'
def ExprSays (W0 : World) (g : Nat) (lv : Value) (dom : Int) (d : Nat) : Prop := ∀ (w : World) (a : Nat), MkAt W0 w g lv a → a + exprK d ≤ 1000000 → Calls Tryz.prog 122 #[.pointer (some ⟨g, 0, none⟩), .int .i64 d, .int .i64 dom] w (ExprEnd W0 g lv dom d a w)
theorem exprA_leaf (n : Nat) (F : Nat → Prop) (X : World) (k m o : Int) : Away F X (fun y => ExprAt (n + 1) y (.mk k m o []) (.slice none 0 0)) := fun _ _ => ⟨none, 0, rfl, by simp [ExprT.kids], fun j hj => by simp [ExprT.kids] at hj⟩
theorem sign_ix (r : Nat) (h : r < (⟨#[43, 45, 42, 60, 38, 124, 61, 33]⟩ : ByteArray).size) : isSign (((⟨#[43, 45, 42, 60, 38, 124, 61, 33]⟩ : ByteArray)[r]'h).toNat : Int) = true := by
 have h8 : r < 8 := h
 match r, h8 with
 | 0, _ => rfl
 | 1, _ => rfl
 | 2, _ => rfl
 | 3, _ => rfl
 | 4, _ => rfl
 | 5, _ => rfl
 | 6, _ => rfl
 | 7, _ => rfl
theorem exprEnd_of {W0 w X : World} {g gx d a a' kc : Nat} {lv : Value} {dom : Int} {x : ExprT} {ka : Option Addr} (hm : MkAt W0 X g lv a') (hs : Since (fun k => k = g) w X) (hgx : gx = w.heap.size) (hne : gx ≠ g) (hlo : W0.heap.size ≤ gx)
  (hx : Away (fun k => k < w.heap.size ∨ k = gx) X (fun y => ExprAt (d + 2) y x (.slice ka x.kids.length kc))) (hok : exprOk dom (d + 1) x = true) (ha : a' ≤ a + exprK d) :
  ExprEnd W0 g lv dom d a w (.returned (.agg #[.int .i64 x.kind, .int .i64 x.n, .int .u8 x.op, .slice ka x.kids.length kc])) (setAll X gx 0 [.int .i64 x.kind, .int .i64 x.n, .int .u8 x.op, .slice ka x.kids.length kc]) := by
 have s1 := setAll_since (g := gx) [.int .i64 x.kind, .int .i64 x.n, .int .u8 x.op, .slice ka x.kids.length kc] X 0
 exact ⟨x, ka, kc, a', rfl, hok, hx.step s1 (fun k hk => .inl (.inr hk)) (fun k hk => .inl (.inl hk)), hm.since s1 (fun k hk => by subst hk; exact ⟨hlo, hne⟩), ha, hs.trans s1 (fun k hk => .inr (by omega))⟩
theorem two_at {n g2 : Nat} {y : World} {x2 x3 : ExprT} {k2 k3 : Value} {o : Int} {t : TypeId} (h : y.heap[g2]? = some (.cells (x2.cells k2 ++ x3.cells k3).toArray t (0, 0))) (h2 : ExprAt n y x2 k2) (h3 : ExprAt n y x3 k3) : ExprAt (n + 1) y (.mk 3 0 o [x2, x3]) (.slice (some ⟨g2, 0, none⟩) 2 2) := by
 refine ⟨_, 2, rfl, by simp [ExprT.kids], fun j hj => ?_⟩
 have hj2 : j = 0 ∨ j = 1 := by simp [ExprT.kids] at hj; omega
 rcases hj2 with rfl | rfl
 ·refine ⟨g2, 0, x2.cells k2, rfl, qlb h, rfl, fun i hi => ?_, k2, rfl, h2⟩
  rw [qcb h]
  match i, hi with
  | 0, _ => rfl
  | 1, _ => rfl
  | 2, _ => rfl
  | 3, _ => rfl
 ·refine ⟨g2, 0, x3.cells k3, rfl, qlb h, rfl, fun i hi => ?_, k3, rfl, h3⟩
  rw [qcb h]
  match i, hi with
  | 0, _ => rfl
  | 1, _ => rfl
  | 2, _ => rfl
  | 3, _ => rfl
theorem two_away {n g g2 : Nat} {F F1 F2 : Nat → Prop} {Y2 Y3 X : World} {x2 x3 : ExprT} {k2 k3 : Value} {o : Int} {t : TypeId} (h2 : Away F1 Y2 (fun y => ExprAt n y x2 k2)) (h3 : Away F2 Y3 (fun y => ExprAt n y x3 k3)) (s2 : Since (fun k => k = g) Y2 X) (s3 : Since (fun k => k = g) Y3 X)
  (hb : X.heap[g2]? = some (.cells (x2.cells k2 ++ x3.cells k3).toArray t (0, 0))) (hF1 : ∀ k, F k ∨ k = g → F1 k) (hF2 : ∀ k, F k ∨ k = g → F2 k) (hg2 : ¬ F g2) : Away F X (fun y => ExprAt (n + 1) y (.mk 3 0 o [x2, x3]) (.slice (some ⟨g2, 0, none⟩) 2 2)) := fun y hy =>
 two_at ((hy.block _ (qlb hb) hg2).trans hb) ((h2.step s2 (F' := F) (fun k hk => .inl (hF1 k (.inr hk))) (fun k hk => .inl (hF1 k (.inl hk)))) y hy) ((h3.step s3 (F' := F) (fun k hk => .inl (hF2 k (.inr hk))) (fun k hk => .inl (hF2 k (.inl hk)))) y hy)
theorem num_ok {dom : Int} {d n : Nat} (h : (n : Int) < dom) : exprOk dom (d + 1) (.mk 1 n 0 []) = true := by
 unfold exprOk
 simp only [ExprT.kind, ExprT.n, ExprT.op, ExprT.kids]
 simp [h]
theorem reg_ok {dom : Int} {d n : Nat} (h : n < 4) : exprOk dom (d + 1) (.mk 2 n 0 []) = true := by
 have h2 : (n : Int) < 4 := by omega
 unfold exprOk
 simp only [ExprT.kind, ExprT.n, ExprT.op, ExprT.kids]
 simp [h2]
theorem two_ok {dom o : Int} {d : Nat} {x y : ExprT} (ho : isSign o = true) (hx : exprOk dom d x = true) (hy : exprOk dom d y = true) : exprOk dom (d + 1) (.mk 3 0 o [x, y]) = true := by
 unfold exprOk
 simp only [ExprT.kind, ExprT.n, ExprT.op, ExprT.kids]
 simp [ho, hx, hy]
theorem pick_lit (W0 w : World) (g : Nat) (lv : Value) (l : List Int) (a n : Nat) (ni : Int) (hni : ni = n) (h : MkAt W0 w g lv a) (hn : NumsAt W0 .u8 lv l) (n1 : 1 ≤ n) (n2 : n ≤ 100) (ha : a ≤ 1000000) :
  Calls Tryz.prog 77 #[.pointer (some ⟨g, 0, none⟩), .int .i64 ni] w (PickEnd W0 g lv a n w) := by subst hni; exact pick_any W0 w g lv l a n h hn n1 n2 ha
theorem wrap_pred (d : Nat) (h1 : 1 ≤ d) (h2 : d ≤ 10) : IntKind.i64.wrap ((d : Int) - 1) = (d : Int) - 1 := IntWalk.i64_in _ (by omega)
theorem makeE_of (W0 : World) (g : Nat) (lv : Value) (l : List Int) (hn : NumsAt W0 .u8 lv l) (dom : Nat) (hd1 : 2 ≤ dom) (hd2 : dom ≤ 16) (d : Nat) (hd : d ≤ 10) (ih : 1 ≤ d → ExprSays W0 g lv dom (d - 1)) : ExprSays W0 g lv dom d := by
 intro w a hmk ha
 have hK : 2 ≤ exprK d := by cases d <;> simp [exprK]
 have hpick := fun W a n ni hni h n1 n2 ha => pick_lit W0 W g lv l a n ni hni h hn n1 n2 ha
 have hbx := (Below.refl w.heap.size w).alloc (Nat.le_refl _) (.cells #[.int .i64 0, .int .i64 0, .int .u8 0, .slice none 0 0] 62)
 have hm1 := hmk.later hbx
 have hg1 := qhn w (.cells #[.int .i64 0, .int .i64 0, .int .u8 0, .slice none 0 0] 62)
 have hglt := qlb hmk.box
 have HLO := qh hmk.below.size
 have HPICK := qh hpick
 have HBX := qh hbx
 have HM1 := qh hm1
 have HG1 := qh hg1
 have IH := qh ih
 clear hpick hbx hm1 hg1 ih hmk hn
 go_enter Tryz.func122, Tryz.ntmps122
 go_upto_region 1 with fail
 generalize World.alloc w _ = W at HBX HM1 HG1 ⊢
 obtain ⟨gx, hgx⟩ : ∃ gx, gx = w.heap.size := ⟨_, rfl⟩
 rw [← hgx] at HG1 ⊢
 have HGX := qh hgx
 have hgne : gx ≠ g := by omega
 clear hgx hglt
 go_upto_region 2 with (go_at_call 77; go_must (refine (HPICK.out W a 5 5 rfl HM1.out (by omega) (by omega) (by omega)).mono ?_); rintro en V ⟨r, hr, rfl, hmk, hsi⟩; (have HM2 := qh hmk); (have HS2 := qh ((since_of (fun k => k = g) HBX.out).trans hsi (fun _ h => .inl h))); (have HG2 := qh ((hsi.block _ (qlb HG1.out) (by omega)).trans HG1.out)); clear hmk hsi HM1 HG1 HBX)
 by_cases hc : r < 2 ∨ d = 0
 ·have hgv : V.heap.size ≤ V.heap.size := Nat.le_refl _
  clear IH
  go_cut [10] (fun s10 w' => s10 = .bool true ∧ w' = V)
  case first =>
   by_cases hr2 : r < 2
   ·have hr2I : ((r : Int)) < 2 := by omega
    go_wp2_with fail
    go_meet
    case rel => exact ⟨by first | rfl | simp, rfl⟩
   ·obtain rfl : d = 0 := by omega
    have hr2I : decide ((r : Int) < 2) = false := by rw [decide_eq_false_iff_not]; omega
    go_wp2_with fail
    go_meet
    case rel => exact ⟨by first | rfl | simp, rfl⟩
  case rest =>
   obtain ⟨rfl, hwv⟩ := hcut
   obtain rfl : V = wc := hwv.symm
   go_wp2_with (first | (go_at_call 154; go_must (refine (num2_any V2 _).mono ?_); rintro en V3 ⟨rfl, hb⟩; (have HM4 := qh (HM3.out.later hb)); (have HS4 := qh (HS3.out.trans (since_of (fun k => k = g) hb) (fun _ h => .inl h))); (have HG4 := qh ((hb.block _ (qlb HG3.out)).trans HG3.out)); clear hb HM3 HS3 HG3; have f0 := qfb HG4.out 0; have f1 := qfb HG4.out 1; have f2 := qfb HG4.out 2; have f3 := qfb HG4.out 3; have c0 := qcb HG4.out 0; have c1 := qcb HG4.out 1; have c2 := qcb HG4.out 2; have c3 := qcb HG4.out 3) | (go_at_call 77; go_must (refine (HPICK.out V _ dom dom rfl HM2.out (by omega) (by omega) (by omega)).mono ?_); rintro en V2 ⟨r2, hr2, rfl, hmk, hsi⟩; (have HM3 := qh hmk); (have HS3 := qh (HS2.out.trans hsi (fun _ h => .inl h))); (have HG3 := qh ((hsi.block _ (qlb HG2.out) (by omega)).trans HG2.out)); clear hmk hsi HM2 HS2 HG2))
   have hend := exprEnd_of (x := .mk 1 r2 0 []) (d := d) (dom := dom) (a := a) (ka := none) (kc := 0) HM4.out HS4.out HGX.out hgne (by have := HM4.out.below.size; have := HGX.out; have := HLO.out; omega) (exprA_leaf _ _ _ _ _ _) (num_ok (by omega)) (by omega)
   refine bodyPost_ret (results_cell rfl _ _ gx 62 _ (0, 0) _ rfl (setAll_new (cs := [.int .i64 0, .int .i64 0, .int .u8 0, .slice none 0 0]) [.int .i64 1, .int .i64 r2, .int .u8 0, .slice none 0 0] rfl HG4.out) Tryz.underlying62 rfl expr_size) rfl ?_
   exact hend
 have hd1 : 1 ≤ d := by omega
 have hr2I : decide ((r : Int) < 2) = false := by rw [decide_eq_false_iff_not]; omega
 have hd0I : decide ((d : Int) < 1) = false := by rw [decide_eq_false_iff_not]; omega
 by_cases hr4 : r < 4
 ·have hr4I : (r : Int) < 4 := by omega
  clear IH
  go_wp2_with (go_at_call 77; go_must (refine (HPICK.out V _ 2 2 rfl HM2.out (by omega) (by omega) (by omega)).mono ?_); rintro en V4 ⟨r2, hr2, rfl, hmk, hsi⟩; (have HM4 := qh hmk); (have HS4 := qh (HS2.out.trans hsi (fun _ h => .inl h))); (have HG4 := qh ((hsi.block _ (qlb HG2.out) (by omega)).trans HG2.out)); clear hmk hsi HM2 HS2 HG2; have f0 := qfb HG4.out 0; have f1 := qfb HG4.out 1; have f2 := qfb HG4.out 2; have f3 := qfb HG4.out 3; have c0 := qcb HG4.out 0; have c1 := qcb HG4.out 1; have c2 := qcb HG4.out 2; have c3 := qcb HG4.out 3)
  have hend := exprEnd_of (x := .mk 2 r2 0 []) (d := d) (dom := dom) (a := a) (ka := none) (kc := 0) HM4.out HS4.out HGX.out hgne (by have := HGX.out; have := HLO.out; omega) (exprA_leaf _ _ _ _ _ _) (reg_ok (by omega)) (by omega)
  refine bodyPost_ret (results_cell rfl _ _ gx 62 _ (0, 0) _ rfl (setAll_new (cs := [.int .i64 0, .int .i64 0, .int .u8 0, .slice none 0 0]) [.int .i64 2, .int .i64 r2, .int .u8 0, .slice none 0 0] rfl HG4.out) Tryz.underlying62 rfl expr_size) rfl ?_
  exact hend
 have hr4I : decide ((r : Int) < 4) = false := by rw [decide_eq_false_iff_not]; omega
 have ih := IH.out hd1
 obtain ⟨K, hKd⟩ : ∃ K, K = exprK (d - 1) := ⟨_, rfl⟩
 have hK2 : exprK d = 2 + 2 * K := by rw [hKd]; cases d with | zero => omega | succ d => rfl
 unfold ExprSays at ih
 rw [← hKd, show ((d - 1 : Nat) : Int) = (d : Int) - 1 by omega] at ih
 have hd1I : (1 : Int) ≤ (d : Int) := by omega
 have hd10 : (d : Int) ≤ 10 := by omega
 have IH2 := qh ih
 clear ih IH
 go_upto_region 6 with fail
 have hw1 := wrap_pred d hd1 hd
 go_region_law (first | (go_simp; go_at_call 122; (with_reducible refine (IH2.out Y2 _ hm2 (by omega)).mono ?_); rintro en Y3 ⟨x3, ka3, kc3, a3, rfl, hok3, haw3, hm3, ha3, hsi3⟩; have hg3 := (hsi3.block _ (qlb hg2) (by omega)).trans hg2; have hgA := fun o => (Below.heap_alloc Y3 o _ (qlb hg3)).trans hg3; have c0 := fun o => qcb (hgA o) 0; have c1 := fun o => qcb (hgA o) 1; have c2 := fun o => qcb (hgA o) 2; have c3 := fun o => qcb (hgA o) 3; have f0 := fun o => qfb (hgA o) 0; have f1 := fun o => qfb (hgA o) 1; have f2 := fun o => qfb (hgA o) 2; have f3 := fun o => qfb (hgA o) 3; simp only [List.getElem?_toArray, List.getElem?_cons_zero, List.getElem?_cons_succ] at c0 c1 c2 c3) | (go_simp; go_at_call 122; (with_reducible refine (IH2.out Y1 _ hm1 (by omega)).mono ?_); rintro en Y2 ⟨x2, ka2, kc2, a2, rfl, hok2, haw2, hm2, ha2, hsi2⟩; have hg2 := (hsi2.block _ (qlb hg1) (by omega)).trans hg1) | (go_simp; go_at_call 77; (with_reducible refine (HPICK.out V.drew _ 8 8 rfl (HM2.out.later (Below.refl _ _).drew) (by omega) (by omega) (by omega)).mono ?_); rintro en Y1 ⟨r1, hr1, rfl, hm1, hsi1⟩; have hg1 := (hsi1.block (w := V.drew) _ (qlb (w := V) HG2.out) (by omega)).trans HG2.out; have hr1I : (r1 : Int) < 8 := by omega))
 all_goals
  have hsz : r1 < (⟨#[43, 45, 42, 60, 38, 124, 61, 33]⟩ : ByteArray).size := hr1
  have hsg := sign_ix r1 hsz
  have hS2 := hsi3.alloc (.cells #[.int .i64 x2.kind, .int .i64 x2.n, .int .u8 x2.op, .slice ka2 x2.kids.length kc2, .int .i64 x3.kind, .int .i64 x3.n, .int .u8 x3.op, .slice ka3 x3.kids.length kc3] 62)
  have hS3 := (Since.refl (fun k => k = g) Y3).alloc (.cells #[.int .i64 x2.kind, .int .i64 x2.n, .int .u8 x2.op, .slice ka2 x2.kids.length kc2, .int .i64 x3.kind, .int .i64 x3.n, .int .u8 x3.op, .slice ka3 x3.kids.length kc3] 62)
  have hbl := qhn Y3 (.cells #[.int .i64 x2.kind, .int .i64 x2.n, .int .u8 x2.op, .slice ka2 x2.kids.length kc2, .int .i64 x3.kind, .int .i64 x3.n, .int .u8 x3.op, .slice ka3 x3.kids.length kc3] 62)
  have hgl := qlb hm1.box
  have hgxl := qlb hg1
  have hgl2 := qlb hm2.box
  have hgxl2 := qlb hg2
  have hgxl3 := qlb hg3
  have hwl : w.heap.size = gx := HGX.out.symm
  have haw := two_away (F := fun k => k < w.heap.size ∨ k = gx) (o := ((((⟨#[43, 45, 42, 60, 38, 124, 61, 33]⟩ : ByteArray)[r1]'hsz).toNat : Nat) : Int)) haw2 haw3 hS2 hS3 hbl (fun k hk => by rcases hk with (hk | hk) | hk <;> omega) (fun k hk => by rcases hk with (hk | hk) | hk <;> omega) (by omega)
  have hall : Since (fun k => k = g) w (Y3.alloc (.cells #[.int .i64 x2.kind, .int .i64 x2.n, .int .u8 x2.op, .slice ka2 x2.kids.length kc2, .int .i64 x3.kind, .int .i64 x3.n, .int .u8 x3.op, .slice ka3 x3.kids.length kc3] 62)) := (((HS2.out.trans ((Since.drew _ (Since.refl _ V)).trans hsi1 (fun _ h => .inl h)) (fun _ h => .inl h)).trans hsi2 (fun _ h => .inl h)).trans hsi3 (fun _ h => .inl h)).alloc _
  have hdd : d - 1 + 2 + 1 = d + 2 := by omega
  have hdd2 : d - 1 + 1 = d := by omega
  rw [hdd] at haw
  rw [hdd2] at hok2 hok3
  have hend := exprEnd_of (d := d) (dom := dom) (a := a) (hm3.later ((Below.refl _ _).alloc (Nat.le_refl _) _)) hall HGX.out hgne (by have := HLO.out; omega) haw (two_ok hsg hok2 hok3) (by omega)
  have hset := setAll_new (cs := [.int .i64 0, .int .i64 0, .int .u8 0, .slice none 0 0]) [.int .i64 3, .int .i64 0, .int .u8 ((((⟨#[43, 45, 42, 60, 38, 124, 61, 33]⟩ : ByteArray)[r1]'hsz).toNat : Nat) : Int), .slice (some ⟨Y3.heap.size, 0, none⟩) 2 2] rfl (hgA (.cells #[.int .i64 x2.kind, .int .i64 x2.n, .int .u8 x2.op, .slice ka2 x2.kids.length kc2, .int .i64 x3.kind, .int .i64 x3.n, .int .u8 x3.op, .slice ka3 x3.kids.length kc3] 62))
  have HEND := qh hend
  have HSET := qh hset
  clear hend hset haw hall hS2 hS3 hbl hsg hg1 hg2 hg3 hgA hok2 hok3 haw2 haw3 hm1 hm2 hm3 hsi1 hsi2 hsi3 hw1
  go_wp2_with fail
  refine bodyPost_ret (results_cell rfl _ _ gx 62 _ (0, 0) _ rfl HSET.out Tryz.underlying62 rfl expr_size) rfl ?_
  exact HEND.out
theorem makeE_any (W0 : World) (g : Nat) (lv : Value) (l : List Int) (hn : NumsAt W0 .u8 lv l) (dom : Nat) (hd1 : 2 ≤ dom) (hd2 : dom ≤ 16) (d : Nat) (hd : d ≤ 10) : ExprSays W0 g lv dom d := by
 induction d with
 | zero => exact makeE_of W0 g lv l hn dom hd1 hd2 0 (by omega) (fun h => by omega)
 | succ d ih => exact makeE_of W0 g lv l hn dom hd1 hd2 (d + 1) hd (fun _ => ih (by omega))
end Go.Proofs.YtliajkheeniljaaGreatDoor
namespace Go.Proofs.YtliajkheeniljaaGreatDoor
open Go.RowKit
set_option maxRecDepth 100000
set_option maxHeartbeats 16000000
def stmtK : Nat → Nat
 | 0 => 20
 | d + 1 => 20 + 3 * stmtK d
def manyS : Nat → Nat
 | 0 => 1
 | d + 1 => 1 + 3 * manyS d
theorem exprOk_more {dom : Int} : ∀ (d : Nat) (x : ExprT), exprOk dom d x = true → exprOk dom (d + 1) x = true := by
 intro d
 induction d with
 | zero => intro x h; cases h
 | succ d ih =>
  intro x h
  unfold exprOk at h ⊢
  split
  ·rename_i h1; rw [if_pos h1] at h; exact h
  ·rename_i h1; rw [if_neg h1] at h
   split
   ·rename_i h2; rw [if_pos h2] at h; exact h
   ·rename_i h2; rw [if_neg h2] at h
    split
    ·rename_i h3; rw [if_pos h3] at h
     simp only [Bool.and_eq_true] at h ⊢
     exact ⟨⟨h.1.1, ih _ h.1.2⟩, ih _ h.2⟩
    ·rename_i h3; rw [if_neg h3] at h; cases h
theorem exprOk_le {dom : Int} {d e : Nat} {x : ExprT} (h : exprOk dom d x = true) (hl : d ≤ e) : exprOk dom e x = true := by
 induction hl with
 | refl => exact h
 | step _ ih => exact exprOk_more _ _ ih
theorem partA_yes {k dom : Int} {x : ExprT} (h : hasA k = true) (hx : exprOk dom 2 x = true) : partA k x dom = true := by unfold partA; rw [if_pos h]; exact exprOk_le hx (by omega)
theorem partA_no {k dom : Int} (h : hasA k = false) : partA k default dom = true := by unfold partA; rw [if_neg (by rw [h]; decide)]; rfl
theorem partB_yes {k dom : Int} {x : ExprT} (h : hasB k = true) (hx : exprOk dom 2 x = true) : partB k x dom = true := by unfold partB; rw [if_pos h]; exact exprOk_le hx (by omega)
theorem partB_no {k dom : Int} (h : hasB k = false) : partB k default dom = true := by unfold partB; rw [if_neg (by rw [h]; decide)]; rfl
theorem partR_yes {k : Int} {r : Nat} (h : hasR k = true) (hr : r < 2) : partR k r = true := by unfold partR; rw [if_pos h]; simp; omega
theorem partR_no {k : Int} (h : hasR k = false) : partR k ((0 : Nat) : Int) = true := by unfold partR; rw [if_neg (by rw [h]; decide)]; rfl
theorem partV_yes {k : Int} {v n : Nat} (h : hasV k = true) (hr : v < n) : partV k v n = true := by unfold partV; rw [if_pos h]; simp; omega
theorem partV_no {k : Int} {n : Nat} (h : hasV k = false) : partV k ((0 : Nat) : Int) n = true := by unfold partV; rw [if_neg (by rw [h]; decide)]; rfl
def ListEnd (W0 : World) (g : Nat) (lv : Value) (vars dom : Int) (d N a : Nat) (w : World) (e : Ending) (w' : World) : Prop := ∃ (L : List StmtT) (va : Option Addr) (vc a' : Nat), e = .returned (.slice va L.length vc) ∧ stmtsOk vars dom L (d + 1) = true ∧ stmtsN L ≤ N * manyS d ∧
 Away (fun k => k < w.heap.size) w' (fun y => StmtsAt 3 (d + 2) y L (.slice va L.length vc)) ∧ MkAt W0 w' g lv a' ∧ a' ≤ a + N * stmtK d ∧ Since (fun k => k = g) w w'
def ListSays (W0 : World) (g : Nat) (lv kv : Value) (vars dom : Int) (d : Nat) : Prop := ∀ (w : World) (a n N : Nat) (ni : Int), ni = n → MkAt W0 w g lv a → n ≤ N → N ≤ 10 → a + N * stmtK d ≤ 1000000 → Calls Tryz.prog 78 #[.pointer (some ⟨g, 0, none⟩), .int .i64 ni, .int .i64 d, .int .i64 vars, .int .i64 dom, kv] w (ListEnd W0 g lv vars dom d N a w)
def StmtEnd (W0 : World) (g : Nat) (lv : Value) (vars dom : Int) (d a : Nat) (w : World) (e : Ending) (w' : World) : Prop := ∃ (x : StmtT) (ka kb yv nv : Value) (a' : Nat), e = .returned (stmtV x ka kb yv nv) ∧ stmtOk vars dom x (d + 1) = true ∧ stmtN x ≤ manyS d ∧
 Away (fun k => k < w.heap.size) w' (fun y => ExprAt 3 y x.a ka ∧ ExprAt 3 y x.b kb ∧ StmtsAt 3 (d + 1) y x.yes yv ∧ StmtsAt 3 (d + 1) y x.no nv) ∧ MkAt W0 w' g lv a' ∧ a' ≤ a + stmtK d ∧ Since (fun k => k = g) w w'
def StmtMSays (W0 : World) (g : Nat) (lv kv : Value) (vars dom : Int) (d : Nat) : Prop := ∀ (w : World) (a : Nat), MkAt W0 w g lv a → a + stmtK d ≤ 1000000 → Calls Tryz.prog 104 #[.pointer (some ⟨g, 0, none⟩), .int .i64 d, .int .i64 vars, .int .i64 dom, kv] w (StmtEnd W0 g lv vars dom d a w)
def zeroS : List Value := [.int .i64 0, .int .i64 0, .int .i64 0, .int .i64 0, .int .i64 0, .int .u8 0, .slice none 0 0, .int .i64 0, .int .i64 0, .int .u8 0, .slice none 0 0, .slice none 0 0, .slice none 0 0]
def stC (k r v ak an ao : Int) (ka : Value) (bk bn bo : Int) (kb yv nv : Value) : List Value := [.int .i64 k, .int .i64 r, .int .i64 v, .int .i64 ak, .int .i64 an, .int .u8 ao, ka, .int .i64 bk, .int .i64 bn, .int .u8 bo, kb, yv, nv]
structure StL (W0 w X : World) (g gb gr : Nat) (lv : Value) (a : Nat) (cs : List Value) : Prop where
 mkr : MkAt W0 X g lv a
 since : Since (fun k => k = g) w X
 box : X.heap[gb]? = some (.cells cs.toArray 165 (0, 0))
 res : X.heap[gr]? = some (.cells zeroS.toArray 165 (0, 0))
 lo : w.heap.size ≤ gb ∧ w.heap.size ≤ gr ∧ gb ≠ gr ∧ g < w.heap.size ∧ W0.heap.size ≤ w.heap.size
section
variable {W0 w X Y : World} {g gb gr : Nat} {lv : Value} {a b : Nat} {cs : List Value}
theorem StL.put (h : StL W0 w X g gb gr lv a cs) (j : Nat) (u : Value) : StL W0 w (X.setCell ⟨gb, j, none⟩ u) g gb gr lv a (cs.set j u) := by
 have s : Since (fun k => k = gb) X (X.setCell ⟨gb, j, none⟩ u) := Since.setCell (F := fun k => k = gb) (p := ⟨gb, j, none⟩) (Since.refl _ _) (.inl rfl) _
 have hlo := h.lo
 refine ⟨h.mkr.since s (fun k hk => by omega), h.since.trans s (fun k hk => .inr (by omega)), ?_, (s.block _ (qlb h.res) (by omega)).trans h.res, hlo⟩
 rw [set_of_block h.box j u, List.setIfInBounds_toArray]
theorem StL.call (h : StL W0 w X g gb gr lv a cs) (hm : MkAt W0 Y g lv b) (hs : Since (fun k => k = g) X Y) : StL W0 w Y g gb gr lv b cs := by
 have hlo := h.lo
 exact ⟨hm, h.since.trans hs (fun _ h => .inl h), (hs.block _ (qlb h.box) (by omega)).trans h.box, (hs.block _ (qlb h.res) (by omega)).trans h.res, hlo⟩
def SF (w : World) (gb gr k : Nat) : Prop := k < w.heap.size ∨ k = gb ∨ k = gr
theorem keep_put {P : World → Prop} (j : Nat) (u : Value) (hp : Away (SF w gb gr) X P) : Away (SF w gb gr) (X.setCell ⟨gb, j, none⟩ u) P :=
 hp.step (G := fun k => k = gb) (Since.setCell (F := fun k => k = gb) (p := ⟨gb, j, none⟩) (Since.refl _ _) (.inl rfl) _) (fun _ hk => .inl (.inr (.inl hk))) (fun _ hk => .inl hk)
theorem keep_call {P : World → Prop} (hs : Since (fun k => k = g) X Y) (hg : g < w.heap.size) (hp : Away (SF w gb gr) X P) : Away (SF w gb gr) Y P :=
 hp.step hs (fun k hk => .inl (.inl (by omega))) (fun k hk => .inl hk)
theorem StL.made {P : World → Prop} (h : StL W0 w X g gb gr lv a cs) (_hs : Since (fun k => k = g) X Y) (hp : Away (fun k => k < X.heap.size) Y P) : Away (SF w gb gr) Y P := by
 have h1 := qlb h.box
 have h2 := qlb h.res
 have h3 := h.since.size
 exact hp.step (Since.refl (fun _ => False) Y) (fun _ h => h.elim) (fun k hk => by rcases hk with hk | hk | hk <;> (left; omega))
end
theorem stmtEnd_of {W0 w X : World} {g gb gr : Nat} {lv : Value} {a a' d : Nat} {vars dom : Int} {x : StmtT} {ka kb yv nv : Value} (h : StL W0 w X g gb gr lv a' (x.cells ka kb yv nv)) (hok : stmtOk vars dom x (d + 1) = true) (hN : stmtN x ≤ manyS d) (h1 : Away (SF w gb gr) X (fun y => ExprAt 3 y x.a ka)) (h2 : Away (SF w gb gr) X (fun y => ExprAt 3 y x.b kb))
  (h3 : Away (SF w gb gr) X (fun y => StmtsAt 3 (d + 1) y x.yes yv)) (h4 : Away (SF w gb gr) X (fun y => StmtsAt 3 (d + 1) y x.no nv)) (ha : a' ≤ a + stmtK d) :
  StmtEnd W0 g lv vars dom d a w (.returned (stmtV x ka kb yv nv)) (setAll X gr 0 (x.cells ka kb yv nv)) ∧ (setAll X gr 0 (x.cells ka kb yv nv)).heap[gr]? = some (.cells (x.cells ka kb yv nv).toArray 165 (0, 0)) := by
 have hlo := h.lo
 have s := setAll_since (g := gr) (x.cells ka kb yv nv) X 0
 have hall : ∀ {P : World → Prop}, Away (SF w gb gr) X P → Away (fun k => k < w.heap.size) (setAll X gr 0 (x.cells ka kb yv nv)) P := fun hp => hp.step s (fun k hk => .inl (.inr (.inr hk))) (fun k hk => .inl (.inl hk))
 exact ⟨⟨x, ka, kb, yv, nv, a', rfl, hok, hN, fun y hy => ⟨hall h1 y hy, hall h2 y hy, hall h3 y hy, hall h4 y hy⟩, h.mkr.since s (fun k hk => by omega), ha, h.since.trans s (fun k hk => .inr (by omega))⟩, setAll_new (cs := zeroS) _ rfl h.res⟩
def PartsOk (vars dom k : Int) (d M : Nat) (l : List StmtT) (least : Int) : Prop := stmtsOk vars dom l d = true ∧ stmtsN l ≤ M ∧ (k < least → l = [])
theorem parts_none (vars dom k : Int) (d M : Nat) (least : Int) : PartsOk vars dom k d M [] least := ⟨by rw [stmtsOk], Nat.zero_le _, fun _ => rfl⟩
theorem stmt_made {vars dom k r v : Int} {a b : ExprT} {yes no : List StmtT} {d M : Nat} (k1 : 1 ≤ k) (k2 : k ≤ 11) (hr : partR k r = true) (hv : partV k v vars = true) (ha : partA k a dom = true) (hb : partB k b dom = true) (hy : PartsOk vars dom k d (2 * M) yes 10) (hn : PartsOk vars dom k d M no 10) (hn2 : k = 11 → no = []) :
  stmtOk vars dom (.mk k r v a b yes no) (d + 1) = true ∧ stmtN (.mk k r v a b yes no) ≤ 1 + 3 * M := by
 constructor
 ·unfold stmtOk headOk partOk
  simp only [Bool.and_eq_true, Bool.or_eq_true, decide_eq_true_eq, Nat.add_sub_cancel]
  refine ⟨⟨⟨by omega, ⟨⟨k1, k2⟩, ⟨⟨hr, hv⟩, ha⟩, hb⟩, ?_⟩, hy.1⟩, hn.1⟩
  by_cases h10 : k = 10
  ·exact .inl h10
  ·by_cases h11 : k = 11
   ·exact .inr ⟨by rw [hn2 h11]; rfl, .inl h11⟩
   ·exact .inr ⟨by rw [hn.2.2 (by omega)]; rfl, .inr (by rw [hy.2.2 (by omega)]; rfl)⟩
 ·rw [stmtN]
  have := hy.2.1
  have := hn.2.1
  omega
theorem none_away (F : Nat → Prop) (X : World) : Away F X (fun y => ExprAt 3 y default (.slice none 0 0)) := fun _ _ => ⟨none, 0, rfl, by simp [ExprT.kids, default], fun j hj => by simp [ExprT.kids, default] at hj⟩
theorem nil_away (F : Nat → Prop) (X : World) (d : Nat) : Away F X (fun y => StmtsAt 3 (d + 1) y [] (.slice none 0 0)) := fun _ _ => ⟨none, 0, rfl, by simp, fun j hj => by simp at hj⟩
end Go.Proofs.YtliajkheeniljaaGreatDoor
namespace Go.Proofs.YtliajkheeniljaaGreatDoor
open Go.RowKit
set_option maxRecDepth 100000
set_option maxHeartbeats 16000000
theorem ne_beq {k j : Int} (h : ¬ k = j) : (k == j) = false := by rw [beq_eq_false_iff_ne]; exact h
theorem hasR_no {k : Int} (h : ¬ (k = 1 ∨ k = 3 ∨ k = 6)) : hasR k = false := by unfold hasR; rw [decide_eq_false_iff_not]; exact h
theorem hasR_yes {k : Int} (h : k = 1 ∨ k = 3 ∨ k = 6) : hasR k = true := by unfold hasR; rw [decide_eq_true_iff]; exact h
theorem hasV_no {k : Int} (h : ¬ (k = 1 ∨ k = 2 ∨ k = 6 ∨ k = 7 ∨ k = 8)) : hasV k = false := by unfold hasV; rw [decide_eq_false_iff_not]; exact h
theorem hasV_yes {k : Int} (h : k = 1 ∨ k = 2 ∨ k = 6 ∨ k = 7 ∨ k = 8) : hasV k = true := by unfold hasV; rw [decide_eq_true_iff]; exact h
theorem hasA_no {k : Int} (h : ¬ (k = 2 ∨ k = 3 ∨ k = 6 ∨ k = 9 ∨ k = 10 ∨ k = 11)) : hasA k = false := by unfold hasA; rw [decide_eq_false_iff_not]; exact h
theorem hasA_yes {k : Int} (h : k = 2 ∨ k = 3 ∨ k = 6 ∨ k = 9 ∨ k = 10 ∨ k = 11) : hasA k = true := by unfold hasA; rw [decide_eq_true_iff]; exact h
theorem hasB_no {k : Int} (h : ¬ k = 6) : hasB k = false := by unfold hasB; rw [decide_eq_false_iff_not]; exact h
theorem hasB_yes {k : Int} (h : k = 6) : hasB k = true := by unfold hasB; rw [decide_eq_true_iff]; exact h
theorem stmt_size : (Tryz.prog.info? 165).map (·.size) = some 13 := by kernel_rfl
theorem makeS_of (W0 : World) (g : Nat) (lv : Value) (l : List Int) (hn : NumsAt W0 .u8 lv l) (kv : Value) (ks : List Int) (hks : IntsAt W0 kv ks) (hk1 : 1 ≤ ks.length) (hk2 : ks.length ≤ 100) (hk3 : ∀ k ∈ ks, 1 ≤ k ∧ k ≤ 11) (vars dom : Nat) (hv1 : 1 ≤ vars) (hv2 : vars ≤ 10) (hd1 : 2 ≤ dom) (hd2 : dom ≤ 16) (d : Nat) (hd : d ≤ 10)
  (ih : 1 ≤ d → ListSays W0 g lv kv vars dom (d - 1)) : StmtMSays W0 g lv kv vars dom d := by
 intro w a hmk ha
 have hK : 20 ≤ stmtK d := by cases d <;> simp [stmtK]
 have hpick := fun W a n ni hni h n1 n2 ha => pick_lit W0 W g lv l a n ni hni h hn n1 n2 ha
 have hexpr := makeE_any W0 g lv l hn dom hd1 hd2 1 (by omega)
 unfold ExprSays at hexpr
 rw [show exprK 1 = 6 from rfl, show ((1 : Nat) : Int) = 1 from rfl] at hexpr
 obtain ⟨ka, kc, rfl, -⟩ := SliceR.slice hks
 obtain ⟨kn, hkn⟩ : ∃ n, n = ks.length := ⟨_, rfl⟩
 rw [← hkn] at hks hk1 hk2 ih ⊢
 have hkget : ∀ r, r < kn → 1 ≤ ks.getD r 0 ∧ ks.getD r 0 ≤ 11 := fun r hr => hk3 _ (getD_mem (by omega))
 have hbx := (Below.refl w.heap.size w).alloc (Nat.le_refl _) (.cells zeroS.toArray 165)
 have hm1 := hmk.later hbx
 have hg1 := qhn w (.cells zeroS.toArray 165)
 have hglt := qlb hmk.box
 have hlo := hmk.below.size
 have HPICK := qh hpick
 have HEXPR := qh hexpr
 have HKS := qh hks
 have HKN := qh hkn
 have HKGET := qh hkget
 have HBX := qh hbx
 have HM1 := qh hm1
 have HG1 := qh hg1
 have IH := qh ih
 clear hpick hexpr hks hkn hkget hbx hm1 hg1 ih hmk hn hk3
 go_enter Tryz.func104, Tryz.ntmps104
 go_upto_region 1 with fail
 unfold zeroS at HBX HM1 HG1
 generalize World.alloc w _ = W at HBX HM1 HG1 ⊢
 obtain ⟨gr, hgr⟩ : ∃ gr, gr = w.heap.size := ⟨_, rfl⟩
 rw [← hgr] at HG1 ⊢
 have HGR := qh hgr
 have hgne : gr ≠ g := by omega
 clear hgr
 go_upto_region 2 with (go_at_call 77; go_must (refine (HPICK.out W a kn kn rfl HM1.out hk1 hk2 (by omega)).mono ?_); rintro en V ⟨r, hr, rfl, hmk, hsi⟩; (have hrI : (r : Int) < (kn : Int) := by omega); (obtain ⟨kb, ko, hka, hkb, hkc⟩ := IntsAt.part HKS.out r (by rw [← HKN.out]; exact hr)); subst hka; (have hkc2 := (hmk.below.cell (p := ⟨kb, ko + r, none⟩) hkb).trans hkc); (obtain ⟨k1, k2⟩ := HKGET.out r hr); generalize ks.getD r 0 = k at hkc hkc2 k1 k2; (have HM2 := qh hmk); (have HS2 := qh ((since_of (fun k => k = g) HBX.out).trans hsi (fun _ h => .inl h))); (have HG2 := qh ((hsi.block _ (qlb HG1.out) (by omega)).trans HG1.out)); clear hmk hsi HM1 HG1 HBX hkb hkc)
 have hL : StL W0 w (V.alloc (.cells #[.int .i64 k, .int .i64 0, .int .i64 0, .int .i64 0, .int .i64 0, .int .u8 0, .slice none 0 0, .int .i64 0, .int .i64 0, .int .u8 0, .slice none 0 0, .slice none 0 0, .slice none 0 0] 165)) g V.heap.size gr lv (a + 1) (stC k (0 : Nat) (0 : Nat) 0 0 0 (.slice none 0 0) 0 0 0 (.slice none 0 0) (.slice none 0 0) (.slice none 0 0)) := by
  have h1 := qlb HG2.out
  have h2 := HGR.out
  have h3 := HS2.out.size
  exact ⟨HM2.out.later ((Below.refl _ _).alloc (Nat.le_refl _) _), HS2.out.alloc _, qhn _ _, (Below.heap_alloc _ _ _ h1).trans HG2.out, ⟨h3, by omega, by omega, hglt, hlo⟩⟩
 have hML : Hid (stmtK d = 20 + 3 * (if d = 0 then 0 else stmtK (d - 1)) ∧ manyS d = 1 + 3 * (if d = 0 then 0 else manyS (d - 1))) := by
  cases d with
  | zero => exact ⟨rfl, rfl⟩
  | succ d => exact ⟨rfl, rfl⟩
 generalize World.alloc V _ = X at hL ⊢
 generalize V.heap.size = gb at hL ⊢
 clear HM2 HS2 HG2 hkc2 hgne
 have HL := qh hL
 clear hL
 have c0 : X.cell? ⟨gb, 0, none⟩ = some (.int .i64 k) := qcb HL.out.box 0
 go_cut [26] (fun s26 w' => ∃ b : Bool, s26 = .bool b ∧ w' = X ∧ Hid (b = true → d = 0) ∧ Hid (b = false → d = 0 → k ≤ 9))
 case first =>
  by_cases hd0 : d = 0
  ·have hdI : decide ((d : Int) < 1) = true := by rw [decide_eq_true_iff]; omega
   have HD0 := qh hd0
   clear hd0
   by_cases h10 : 10 ≤ k
   ·go_wp2_with fail
    go_meet
    case rel => exact ⟨true, by first | rfl | simp, rfl, fun _ => HD0.out, fun h => by cases h⟩
   ·go_wp2_with fail
    go_meet
    case rel => exact ⟨false, by first | rfl | simp, rfl, (fun h => by cases h), fun _ _ => by omega⟩
  ·have hdI : decide ((d : Int) < 1) = false := by rw [decide_eq_false_iff_not]; omega
   have HD0 := qh hd0
   clear hd0
   go_wp2_with fail
   go_meet
   case rel => exact ⟨false, by first | rfl | simp, rfl, (fun h => by cases h), fun _ h => absurd h HD0.out⟩
 case rest =>
 obtain ⟨b, rfl, hwv, HB1, HB2⟩ := hcut
 obtain rfl : X = wc := hwv.symm
 go_upto_if 26 with fail
 go_cut [26] (fun _s26 w' => ∃ k2 : Int, 1 ≤ k2 ∧ k2 ≤ 11 ∧ Hid (d = 0 → k2 ≤ 9) ∧ Hid (StL W0 w w' g gb gr lv (a + 1) (stC k2 (0 : Nat) (0 : Nat) 0 0 0 (.slice none 0 0) 0 0 0 (.slice none 0 0) (.slice none 0 0) (.slice none 0 0))))
 case first =>
  cases b with
  | true =>
   have f0 := qfb HL.out.box 0
   go_wp2_with fail
   go_meet
   case rel => exact ⟨4, by omega, by omega, fun _ => by omega, HL.out.put 0 _⟩
  | false =>
   have HB3 : Hid (d = 0 → k ≤ 9) := HB2.out (by trivial)
   clear HB1 HB2
   go_wp2_with fail
   go_meet
   case rel => exact ⟨k, k1, k2, HB3.out, HL.out⟩
 case rest =>
 obtain ⟨q, q1, q2, HD9, HL2⟩ := hcut
 clear c0 HL k1 k2 HB1 HB2
 obtain ⟨X2, rfl⟩ : ∃ x : World, x = wc := ⟨_, rfl⟩
 have c0 : X2.cell? ⟨gb, 0, none⟩ = some (.int .i64 q) := qcb HL2.out.box 0
 go_upto_block 0 with fail
 go_cut [30] (fun _s30 w' => ∃ reg a2 : Nat, a2 ≤ a + 2 ∧ Hid (partR q reg = true) ∧ Hid (StL W0 w w' g gb gr lv a2 (stC q reg (0 : Nat) 0 0 0 (.slice none 0 0) 0 0 0 (.slice none 0 0) (.slice none 0 0) (.slice none 0 0))))
 case first =>
  by_cases hh : q = 1 ∨ q = 3 ∨ q = 6
  rotate_left
  ·have HP := qh (partR_no (hasR_no hh))
   have e1 := ne_beq (fun h => hh (.inl h))
   have e3 := ne_beq (fun h => hh (.inr (.inl h)))
   have e6 := ne_beq (fun h => hh (.inr (.inr h)))
   clear hh
   go_wp2_with fail
   go_meet
   case rel => exact ⟨0, _, by omega, HP.out, HL2.out⟩
  have hp : ∀ r2 : Nat, r2 < 2 → partR q r2 = true := fun r2 h => partR_yes (hasR_yes hh) h
  have HP := qh hp
  clear hp
  rcases hh with rfl | rfl | rfl
  all_goals
   go_wp2_with (go_at_call 77; go_must (refine (HPICK.out X2 _ 2 2 rfl HL2.out.mkr (by omega) (by omega) (by omega)).mono ?_); rintro en Y ⟨r2, hr2, rfl, hmk, hsi⟩; (have HLY := qh (HL2.out.call hmk hsi)); clear hmk hsi c0; (have y1 : Y.cell? ⟨gb, 1, none⟩ = some (.int .i64 (0 : Nat)) := qcb HLY.out.box 1); (have f1 := qfb HLY.out.box 1))
   go_meet
   case rel => exact ⟨r2, _, by omega, HP.out r2 hr2, HLY.out.put 1 _⟩
 case rest =>
 obtain ⟨reg, a2, ha2, HPR, HL3⟩ := hcut
 clear c0 HL2
 obtain ⟨X3, rfl⟩ : ∃ x : World, x = wc := ⟨_, rfl⟩
 have c0 : X3.cell? ⟨gb, 0, none⟩ = some (.int .i64 q) := qcb HL3.out.box 0
 go_upto_block 1 with fail
 go_cut [39] (fun _s39 w' => ∃ var a3 : Nat, a3 ≤ a + 3 ∧ Hid (partV q var vars = true) ∧ Hid (StL W0 w w' g gb gr lv a3 (stC q reg var 0 0 0 (.slice none 0 0) 0 0 0 (.slice none 0 0) (.slice none 0 0) (.slice none 0 0))))
 case first =>
  by_cases hh : q = 1 ∨ q = 2 ∨ q = 6 ∨ q = 7 ∨ q = 8
  ·have hp : ∀ r2 : Nat, r2 < vars → partV q r2 vars = true := fun r2 h => partV_yes (hasV_yes hh) h
   have HP := qh hp
   clear hp
   rcases hh with rfl | rfl | rfl | rfl | rfl
   all_goals
    go_wp2_with (go_at_call 77; go_must (refine (HPICK.out X3 _ vars vars rfl HL3.out.mkr (by omega) (by omega) (by omega)).mono ?_); rintro en Y ⟨r2, hr2, rfl, hmk, hsi⟩; (have HLY := qh (HL3.out.call hmk hsi)); clear hmk hsi c0; (have y1 : Y.cell? ⟨gb, 2, none⟩ = some (.int .i64 (0 : Nat)) := qcb HLY.out.box 2); (have f1 := qfb HLY.out.box 2))
    go_meet
    case rel => exact ⟨r2, _, by omega, HP.out r2 hr2, HLY.out.put 2 _⟩
  have HP := qh (partV_no (n := vars) (hasV_no hh))
  have e1 := ne_beq (fun h => hh (.inl h))
  have e2 := ne_beq (fun h => hh (.inr (.inl h)))
  have e6 := ne_beq (fun h => hh (.inr (.inr (.inl h))))
  have e7 := ne_beq (fun h => hh (.inr (.inr (.inr (.inl h)))))
  have e8 := ne_beq (fun h => hh (.inr (.inr (.inr (.inr h)))))
  clear hh
  go_wp2_with fail
  go_meet
  case rel => exact ⟨0, _, by omega, HP.out, HL3.out⟩
 case rest =>
 obtain ⟨var, a3, ha3, HPV, HL4⟩ := hcut
 clear c0 HL3 ha2
 obtain ⟨X4, rfl⟩ : ∃ x : World, x = wc := ⟨_, rfl⟩
 have c0 : X4.cell? ⟨gb, 0, none⟩ = some (.int .i64 q) := qcb HL4.out.box 0
 go_upto_block 2 with fail
 go_cut [51] (fun _s51 w' => ∃ (xa : ExprT) (aa : Option Addr) (ac a4 : Nat), a4 ≤ a + 9 ∧ Hid (partA q xa dom = true) ∧ Hid (Away (SF w gb gr) w' (fun y => ExprAt 3 y xa (.slice aa xa.kids.length ac))) ∧ Hid (StL W0 w w' g gb gr lv a4 (stC q reg var xa.kind xa.n xa.op (.slice aa xa.kids.length ac) 0 0 0 (.slice none 0 0) (.slice none 0 0) (.slice none 0 0))))
 case first =>
  by_cases hh : q = 2 ∨ q = 3 ∨ q = 6 ∨ q = 9 ∨ q = 10 ∨ q = 11
  ·have hp : ∀ x, exprOk dom 2 x = true → partA q x dom = true := fun x h => partA_yes (hasA_yes hh) h
   have HP := qh hp
   clear hp
   rcases hh with rfl | rfl | rfl | rfl | rfl | rfl
   all_goals
    go_wp2_with (go_at_call 122; go_must (refine (HEXPR.out X4 _ HL4.out.mkr (by omega)).mono ?_); rintro en Y ⟨xa, aa, ac, a4, rfl, hok, haw, hmk, ha4, hsi⟩; (have HLY := qh (HL4.out.call hmk hsi)); (have HAW := qh (HL4.out.made hsi haw)); (have HOK := qh hok); clear hmk hsi hok haw c0; (have y3 : Y.cell? ⟨gb, 3, none⟩ = some (.int .i64 0) := qcb HLY.out.box 3); (have f3 := qfb HLY.out.box 3); (have y4 : Y.cell? ⟨gb, 4, none⟩ = some (.int .i64 0) := qcb HLY.out.box 4); (have f4 := qfb HLY.out.box 4); (have y5 : Y.cell? ⟨gb, 5, none⟩ = some (.int .u8 0) := qcb HLY.out.box 5); (have f5 := qfb HLY.out.box 5); (have y6 : Y.cell? ⟨gb, 6, none⟩ = some (.slice none 0 0) := qcb HLY.out.box 6); (have f6 := qfb HLY.out.box 6))
    go_meet
    case rel => exact ⟨xa, aa, ac, a4, by simp only [exprK] at ha4; omega, HP.out xa HOK.out, keep_put 6 _ (keep_put 5 _ (keep_put 4 _ (keep_put 3 _ HAW.out))), (((HLY.out.put 3 _).put 4 _).put 5 _).put 6 _⟩
  have HP := qh (partA_no (dom := dom) (hasA_no hh))
  have e2 := ne_beq (fun h => hh (.inl h))
  have e3 := ne_beq (fun h => hh (.inr (.inl h)))
  have e6 := ne_beq (fun h => hh (.inr (.inr (.inl h))))
  have e9 := ne_beq (fun h => hh (.inr (.inr (.inr (.inl h)))))
  have e10 := ne_beq (fun h => hh (.inr (.inr (.inr (.inr (.inl h))))))
  have e11 := ne_beq (fun h => hh (.inr (.inr (.inr (.inr (.inr h))))))
  clear hh
  go_wp2_with fail
  go_meet
  case rel => exact ⟨default, none, 0, _, by omega, HP.out, none_away _ _, HL4.out⟩
 case rest =>
 obtain ⟨xa, aa, ac, a4, ha4, HPA, HAA, HL5⟩ := hcut
 clear c0 HL4 ha3
 obtain ⟨X5, rfl⟩ : ∃ x : World, x = wc := ⟨_, rfl⟩
 have c0 : X5.cell? ⟨gb, 0, none⟩ = some (.int .i64 q) := qcb HL5.out.box 0
 go_upto_if 64 with fail
 go_cut [64] (fun _s64 w' => ∃ (xb : ExprT) (ba : Option Addr) (bc a5 : Nat), a5 ≤ a + 15 ∧ Hid (partB q xb dom = true) ∧ Hid (Away (SF w gb gr) w' (fun y => ExprAt 3 y xa (.slice aa xa.kids.length ac))) ∧ Hid (Away (SF w gb gr) w' (fun y => ExprAt 3 y xb (.slice ba xb.kids.length bc))) ∧ Hid (StL W0 w w' g gb gr lv a5 (stC q reg var xa.kind xa.n xa.op (.slice aa xa.kids.length ac) xb.kind xb.n xb.op (.slice ba xb.kids.length bc) (.slice none 0 0) (.slice none 0 0))))
 case first =>
  by_cases hh : q = 6
  rotate_left
  ·have HP := qh (partB_no (dom := dom) (hasB_no hh))
   have e6 := ne_beq hh
   clear hh
   go_wp2_with fail
   go_meet
   case rel => exact ⟨default, none, 0, _, by omega, HP.out, HAA.out, none_away _ _, HL5.out⟩
  have hp : ∀ x, exprOk dom 2 x = true → partB q x dom = true := fun x h => partB_yes (hasB_yes hh) h
  have HP := qh hp
  clear hp
  subst hh
  go_wp2_with (go_at_call 122; go_must (refine (HEXPR.out X5 _ HL5.out.mkr (by omega)).mono ?_); rintro en Y ⟨xb, ba, bc, a5, rfl, hok, haw, hmk, ha5, hsi⟩; (have HLY := qh (HL5.out.call hmk hsi)); (have HAW := qh (HL5.out.made hsi haw)); (have HAA2 := qh (keep_call hsi hglt HAA.out)); (have HOK := qh hok); clear hmk hsi hok haw c0; (have y3 : Y.cell? ⟨gb, 7, none⟩ = some (.int .i64 0) := qcb HLY.out.box 7); (have f3 := qfb HLY.out.box 7); (have y4 : Y.cell? ⟨gb, 8, none⟩ = some (.int .i64 0) := qcb HLY.out.box 8); (have f4 := qfb HLY.out.box 8); (have y5 : Y.cell? ⟨gb, 9, none⟩ = some (.int .u8 0) := qcb HLY.out.box 9); (have f5 := qfb HLY.out.box 9); (have y6 : Y.cell? ⟨gb, 10, none⟩ = some (.slice none 0 0) := qcb HLY.out.box 10); (have f6 := qfb HLY.out.box 10))
  go_meet
  case rel => exact ⟨xb, ba, bc, a5, by simp only [exprK] at ha5; omega, HP.out xb HOK.out, keep_put 10 _ (keep_put 9 _ (keep_put 8 _ (keep_put 7 _ HAA2.out))), keep_put 10 _ (keep_put 9 _ (keep_put 8 _ (keep_put 7 _ HAW.out))), (((HLY.out.put 7 _).put 8 _).put 9 _).put 10 _⟩
 case rest =>
 obtain ⟨xb, ba, bc, a5, ha5, HPB, HAA5, HAB5, HL6⟩ := hcut
 clear c0 HL5 HAA ha4
 obtain ⟨X6, rfl⟩ : ∃ x : World, x = wc := ⟨_, rfl⟩
 have c0 : X6.cell? ⟨gb, 0, none⟩ = some (.int .i64 q) := qcb HL6.out.box 0
 obtain ⟨K, hKe⟩ : ∃ K, K = (if d = 0 then 0 else stmtK (d - 1)) := ⟨_, rfl⟩
 obtain ⟨M, hMe⟩ : ∃ M, M = (if d = 0 then 0 else manyS (d - 1)) := ⟨_, rfl⟩
 have hml := hML.out
 rw [← hKe, ← hMe] at hml
 have hKK := hml.1
 have HMM := qh hml.2
 have hls : 1 ≤ d → ∀ (w : World) (a n N : Nat) (ni : Int), ni = n → MkAt W0 w g lv a → n ≤ N → N ≤ 10 → a + N * K ≤ 1000000 → Calls Tryz.prog 78 #[.pointer (some ⟨g, 0, none⟩), .int .i64 ni, .int .i64 ((d : Int) - 1), .int .i64 vars, .int .i64 dom, .slice (some ⟨kb, ko, none⟩) kn kc] w (fun e w' => ∃ (L : List StmtT) (va : Option Addr) (vc a' : Nat), e = .returned (.slice va L.length vc) ∧ stmtsOk vars dom L d = true ∧ stmtsN L ≤ N * M ∧
   Away (fun k => k < w.heap.size) w' (fun y => StmtsAt 3 (d + 1) y L (.slice va L.length vc)) ∧ MkAt W0 w' g lv a' ∧ a' ≤ a + N * K ∧ Since (fun k => k = g) w w') := by
  intro h1 w2 a2 n N ni hni hm hn hN ha2
  have h := IH.out h1
  rw [if_neg (by omega)] at hKe hMe
  rw [hKe] at ha2
  have := h w2 a2 n N ni hni hm hn hN ha2
  unfold ListEnd at this
  rw [show ((d - 1 : Nat) : Int) = (d : Int) - 1 by omega, show d - 1 + 1 = d by omega, show d - 1 + 2 = d + 1 by omega, ← hKe, ← hMe] at this
  exact this
 have HLS := qh hls
 have HKK := qh hKK
 clear hls hml hKe hMe hML IH hKK
 have haK : a + 20 + 3 * K ≤ 1000000 := by have := HKK.out; omega
 go_upto_if 71 with fail
 go_cut [71] (fun _s71 w' => ∃ (L1 : List StmtT) (ya : Option Addr) (yc a6 : Nat), a6 ≤ a + 16 + 2 * K ∧ Hid (PartsOk vars dom q d (2 * M) L1 10) ∧ Hid (Away (SF w gb gr) w' (fun y => ExprAt 3 y xa (.slice aa xa.kids.length ac))) ∧ Hid (Away (SF w gb gr) w' (fun y => ExprAt 3 y xb (.slice ba xb.kids.length bc))) ∧ Hid (Away (SF w gb gr) w' (fun y => StmtsAt 3 (d + 1) y L1 (.slice ya L1.length yc))) ∧
  Hid (StL W0 w w' g gb gr lv a6 (stC q reg var xa.kind xa.n xa.op (.slice aa xa.kids.length ac) xb.kind xb.n xb.op (.slice ba xb.kids.length bc) (.slice ya L1.length yc) (.slice none 0 0))))
 case first =>
  by_cases hh : 10 ≤ q
  rotate_left
  ·go_wp2_with fail
   go_meet
   case rel => exact ⟨[], none, 0, _, by omega, parts_none _ _ _ _ _ _, HAA5.out, HAB5.out, nil_away _ _ _, HL6.out⟩
  have hd1' : 1 ≤ d := by
   rcases Nat.eq_zero_or_pos d with h | h
   ·have := HD9.out h; omega
   ·exact h
  have hdI : (1 : Int) ≤ (d : Int) := by omega
  have hdJ : (d : Int) ≤ 10 := by omega
  have HQ := qh hh
  go_wp2_with (first | (go_at_call 78; go_must (refine (HLS.out hd1' Y _ (1 + r1) 2 (1 + (r1 : Int)) (by omega) HLY.out.mkr (by omega) (by omega) (by omega)).mono ?_); rintro en Z ⟨L1, ya, yc, a6, rfl, hok, hN, haw, hmk, ha6, hsi⟩; (have HLZ := qh (HLY.out.call hmk hsi)); (have HAW := qh (HLY.out.made hsi haw)); (have HAA7 := qh (keep_call hsi hglt HAA6.out)); (have HAB7 := qh (keep_call hsi hglt HAB6.out)); (have HOK := qh (show PartsOk vars dom q d (2 * M) L1 10 from ⟨hok, hN, fun h => by have := HQ.out; omega⟩)); clear hmk hsi hok haw hN; (have y3 : Z.cell? ⟨gb, 11, none⟩ = some (.slice none 0 0) := qcb HLZ.out.box 11); (have f3 := qfb HLZ.out.box 11)) | (go_at_call 77; go_must (refine (HPICK.out X6 _ 2 2 rfl HL6.out.mkr (by omega) (by omega) (by omega)).mono ?_); rintro en Y ⟨r1, hr1, rfl, hmk, hsi⟩; (have hr1I : (r1 : Int) < 2 := by omega); (have HLY := qh (HL6.out.call hmk hsi)); (have HAA6 := qh (keep_call hsi hglt HAA5.out)); (have HAB6 := qh (keep_call hsi hglt HAB5.out)); clear hmk hsi c0))
  go_meet
  case rel => exact ⟨L1, ya, yc, a6, by omega, HOK.out, keep_put 11 _ HAA7.out, keep_put 11 _ HAB7.out, keep_put 11 _ HAW.out, HLZ.out.put 11 _⟩
 case rest =>
 obtain ⟨L1, ya, yc, a6, ha6, HP1, HAA7, HAB7, HAY7, HL7⟩ := hcut
 clear c0 HL6 HAA5 HAB5 ha5
 obtain ⟨X7, rfl⟩ : ∃ x : World, x = wc := ⟨_, rfl⟩
 have c0 : X7.cell? ⟨gb, 0, none⟩ = some (.int .i64 q) := qcb HL7.out.box 0
 go_upto_if 85 with fail
 go_cut [85] (fun _s85 w' => ∃ (L2 : List StmtT) (na : Option Addr) (nc a7 : Nat), a7 ≤ a + 17 + 3 * K ∧ Hid (PartsOk vars dom q d M L2 10) ∧ Hid (q = 11 → L2 = []) ∧ Hid (Away (SF w gb gr) w' (fun y => ExprAt 3 y xa (.slice aa xa.kids.length ac))) ∧ Hid (Away (SF w gb gr) w' (fun y => ExprAt 3 y xb (.slice ba xb.kids.length bc))) ∧ Hid (Away (SF w gb gr) w' (fun y => StmtsAt 3 (d + 1) y L1 (.slice ya L1.length yc))) ∧ Hid (Away (SF w gb gr) w' (fun y => StmtsAt 3 (d + 1) y L2 (.slice na L2.length nc))) ∧
  Hid (StL W0 w w' g gb gr lv a7 (stC q reg var xa.kind xa.n xa.op (.slice aa xa.kids.length ac) xb.kind xb.n xb.op (.slice ba xb.kids.length bc) (.slice ya L1.length yc) (.slice na L2.length nc))))
 case first =>
  by_cases hh : q = 10
  rotate_left
  ·have e10 := ne_beq hh
   clear hh
   go_wp2_with fail
   go_meet
   case rel => exact ⟨[], none, 0, _, by omega, parts_none _ _ _ _ _ _, fun _ => rfl, HAA7.out, HAB7.out, HAY7.out, nil_away _ _ _, HL7.out⟩
  have hd1' : 1 ≤ d := by
   rcases Nat.eq_zero_or_pos d with h | h
   ·have := HD9.out h; omega
   ·exact h
  have hdI : (1 : Int) ≤ (d : Int) := by omega
  have hdJ : (d : Int) ≤ 10 := by omega
  subst hh
  go_wp2_with (first | (go_at_call 78; go_must (refine (HLS.out hd1' Y _ r1 1 (r1 : Int) rfl HLY.out.mkr (by omega) (by omega) (by omega)).mono ?_); rintro en Z ⟨L2, na, nc, a7, rfl, hok, hN, haw, hmk, ha7, hsi⟩; (have HLZ := qh (HLY.out.call hmk hsi)); (have HAW := qh (HLY.out.made hsi haw)); (have HAA9 := qh (keep_call hsi hglt HAA8.out)); (have HAB9 := qh (keep_call hsi hglt HAB8.out)); (have HAY9 := qh (keep_call hsi hglt HAY8.out)); (have HOK := qh (show PartsOk vars dom 10 d M L2 10 from ⟨hok, by omega, fun h => absurd h (by decide)⟩)); clear hmk hsi hok haw hN; (have y3 : Z.cell? ⟨gb, 12, none⟩ = some (.slice none 0 0) := qcb HLZ.out.box 12); (have f3 := qfb HLZ.out.box 12)) | (go_at_call 77; go_must (refine (HPICK.out X7 _ 2 2 rfl HL7.out.mkr (by omega) (by omega) (by omega)).mono ?_); rintro en Y ⟨r1, hr1, rfl, hmk, hsi⟩; (have HLY := qh (HL7.out.call hmk hsi)); (have HAA8 := qh (keep_call hsi hglt HAA7.out)); (have HAB8 := qh (keep_call hsi hglt HAB7.out)); (have HAY8 := qh (keep_call hsi hglt HAY7.out)); clear hmk hsi c0))
  go_meet
  case rel => exact ⟨L2, na, nc, a7, by omega, HOK.out, (fun h => absurd h (by decide)), keep_put 12 _ HAA9.out, keep_put 12 _ HAB9.out, keep_put 12 _ HAY9.out, keep_put 12 _ HAW.out, HLZ.out.put 12 _⟩
 case rest =>
 obtain ⟨L2, na, nc, a7, ha7, HP2, HP3, HAA9, HAB9, HAY9, HAN9, HL8⟩ := hcut
 clear c0 HL7 HAA7 HAB7 HAY7 ha6
 obtain ⟨X8, rfl⟩ : ∃ x : World, x = wc := ⟨_, rfl⟩
 obtain ⟨hmo, hmn⟩ := stmt_made (r := reg) (v := var) q1 q2 HPR.out HPV.out HPA.out HPB.out HP1.out HP2.out HP3.out
 rw [← HMM.out] at hmn
 obtain ⟨hend, hset⟩ := stmtEnd_of (x := .mk q reg var xa xb L1 L2) (a := a) HL8.out hmo hmn HAA9.out HAB9.out HAY9.out HAN9.out (by have := HKK.out; omega)
 have HEND := qh hend
 have HSET := qh hset
 clear hend hset hmo hmn
 have b0 : X8.cell? ⟨gb, 0, none⟩ = some (.int .i64 q) := qcb HL8.out.box 0
 have b1 : X8.cell? ⟨gb, 1, none⟩ = some (.int .i64 reg) := qcb HL8.out.box 1
 have b2 : X8.cell? ⟨gb, 2, none⟩ = some (.int .i64 var) := qcb HL8.out.box 2
 have b3 : X8.cell? ⟨gb, 3, none⟩ = some (.int .i64 xa.kind) := qcb HL8.out.box 3
 have b4 : X8.cell? ⟨gb, 4, none⟩ = some (.int .i64 xa.n) := qcb HL8.out.box 4
 have b5 : X8.cell? ⟨gb, 5, none⟩ = some (.int .u8 xa.op) := qcb HL8.out.box 5
 have b6 : X8.cell? ⟨gb, 6, none⟩ = some (.slice aa xa.kids.length ac) := qcb HL8.out.box 6
 have b7 : X8.cell? ⟨gb, 7, none⟩ = some (.int .i64 xb.kind) := qcb HL8.out.box 7
 have b8 : X8.cell? ⟨gb, 8, none⟩ = some (.int .i64 xb.n) := qcb HL8.out.box 8
 have b9 : X8.cell? ⟨gb, 9, none⟩ = some (.int .u8 xb.op) := qcb HL8.out.box 9
 have b10 : X8.cell? ⟨gb, 10, none⟩ = some (.slice ba xb.kids.length bc) := qcb HL8.out.box 10
 have b11 : X8.cell? ⟨gb, 11, none⟩ = some (.slice ya L1.length yc) := qcb HL8.out.box 11
 have b12 : X8.cell? ⟨gb, 12, none⟩ = some (.slice na L2.length nc) := qcb HL8.out.box 12
 have z0 : X8.cell? ⟨gr, 0, none⟩ = some (.int .i64 0) := qcb HL8.out.res 0
 have z1 : X8.cell? ⟨gr, 1, none⟩ = some (.int .i64 0) := qcb HL8.out.res 1
 have z2 : X8.cell? ⟨gr, 2, none⟩ = some (.int .i64 0) := qcb HL8.out.res 2
 have z3 : X8.cell? ⟨gr, 3, none⟩ = some (.int .i64 0) := qcb HL8.out.res 3
 have z4 : X8.cell? ⟨gr, 4, none⟩ = some (.int .i64 0) := qcb HL8.out.res 4
 have z5 : X8.cell? ⟨gr, 5, none⟩ = some (.int .u8 0) := qcb HL8.out.res 5
 have z6 : X8.cell? ⟨gr, 6, none⟩ = some (.slice none 0 0) := qcb HL8.out.res 6
 have z7 : X8.cell? ⟨gr, 7, none⟩ = some (.int .i64 0) := qcb HL8.out.res 7
 have z8 : X8.cell? ⟨gr, 8, none⟩ = some (.int .i64 0) := qcb HL8.out.res 8
 have z9 : X8.cell? ⟨gr, 9, none⟩ = some (.int .u8 0) := qcb HL8.out.res 9
 have z10 : X8.cell? ⟨gr, 10, none⟩ = some (.slice none 0 0) := qcb HL8.out.res 10
 have z11 : X8.cell? ⟨gr, 11, none⟩ = some (.slice none 0 0) := qcb HL8.out.res 11
 have z12 : X8.cell? ⟨gr, 12, none⟩ = some (.slice none 0 0) := qcb HL8.out.res 12
 have zf : ∀ j, X8.frozen? ⟨gr, j, none⟩ = false := fun j => qfb HL8.out.res j
 go_wp2_with fail
 refine bodyPost_ret (results_cell rfl _ _ gr 165 _ (0, 0) _ rfl HSET.out Tryz.underlying165 rfl stmt_size) rfl ?_
 exact HEND.out
end Go.Proofs.YtliajkheeniljaaGreatDoor
namespace Go.Proofs.YtliajkheeniljaaGreatDoor
open Go.RowKit
set_option maxRecDepth 100000
set_option maxHeartbeats 16000000
theorem stmt_info : (Tryz.prog.info? 165).map (fun i => (i.zero, i.size, i.bytes)) = some (some (.agg #[.int .i64 0, .int .i64 0, .int .i64 0, .int .i64 0, .int .i64 0, .int .u8 0, .slice none 0 0, .int .i64 0, .int .i64 0, .int .u8 0, .slice none 0 0, .slice none 0 0, .slice none 0 0]), 13, 168) := by kernel_rfl
structure ListL (W0 w X : World) (g : Nat) (lv : Value) (vars dom : Int) (d a i : Nat) (va : Value) (L : List StmtT) (css : List (List Value)) : Prop where
 mkr : ∃ a', MkAt W0 X g lv a' ∧ a' ≤ a + i * stmtK d
 since : Since (fun k => k = g) w X
 len : L.length = i
 ok : stmtsOk vars dom L (d + 1) = true
 many : stmtsN L ≤ i * manyS d
 row : ThingsC (fun k => k < w.heap.size ∨ va.ownBlock = some k) X (StmtR 3 (d + 1)) 13 w.heap.size 165 va L css
theorem stmtsOk_app {vars dom : Int} {l r : List StmtT} {d : Nat} (h1 : stmtsOk vars dom l d = true) (h2 : stmtsOk vars dom r d = true) : stmtsOk vars dom (l ++ r) d = true := by
 rw [stmtsOk_all] at h1 h2 ⊢
 intro x hx
 rcases List.mem_append.1 hx with hx | hx
 ·exact h1 x hx
 ·exact h2 x hx
theorem ListL.push {W0 w X Y Z : World} {g d a i oc xc a' : Nat} {lv : Value} {vars dom : Int} {oa xa : Option Addr} {L : List StmtT} {css : List (List Value)} {x : StmtT} {ka kb yv nv : Value} {o : Obj} (h : ListL W0 w X g lv vars dom d a i (.slice oa i oc) L css) (hg : g < w.heap.size) (hW : W0.heap.size ≤ w.heap.size)
  (hok : stmtOk vars dom x (d + 1) = true) (hN : stmtN x ≤ manyS d) (haw : Away (fun k => k < X.heap.size) Y (fun y => ExprAt 3 y x.a ka ∧ ExprAt 3 y x.b kb ∧ StmtsAt 3 (d + 1) y x.yes yv ∧ StmtsAt 3 (d + 1) y x.no nv)) (hm : MkAt W0 Y g lv a') (ha : a' ≤ a + i * stmtK d + stmtK d) (hs : Since (fun k => k = g) X Y)
  (h1 : Z.ownsRow w.heap.size 165 13 (.slice xa (i + 1) xc) (i + 1) (css.flatten ++ x.cells ka kb yv nv)) (h4 : Since (fun k => (Value.slice oa i oc).ownBlock = some k) (Y.alloc o) Z) (h5 : ∀ k, (Value.slice xa (i + 1) xc).ownBlock = some k → (Value.slice oa i oc).ownBlock = some k ∨ k = (Y.alloc o).heap.size) :
  ListL W0 w Z g lv vars dom d a (i + 1) (.slice xa (i + 1) xc) (L ++ [x]) (css ++ [x.cells ka kb yv nv]) := by
 have s1 : Since (fun k => (Value.slice oa i oc).ownBlock = some k) Y Z := ((Since.refl _ Y).alloc o).trans h4 (fun k hk => .inl hk)
 have hlt := fun k hk => h.row.row.lt k hk
 have hrow := h.row.step (F' := fun k => k < w.heap.size ∨ (Value.slice oa i oc).ownBlock = some k) hs (fun k hk e => by have := (hlt k hk).1; omega) (fun k hk => .inl (.inl (by omega))) (fun k hk => .inl hk)
 have hX := h.since.size
 refine ⟨⟨a', hm.since s1 (fun k hk => by have := (hlt k hk).1; omega), by rw [Nat.add_mul, Nat.one_mul]; omega⟩, (h.since.trans hs (fun _ h => .inl h)).trans s1 (fun k hk => .inr (hlt k hk).1), by simp [h.len], stmtsOk_app h.ok (by rw [stmtsOk, hok, stmtsOk]; rfl), ?_, ?_⟩
 ·rw [stmtsN_app, Nat.add_mul, Nat.one_mul]
  have := h.many
  simp only [stmtsN]; omega
 ·refine hrow.push s1 (fun k hk => .inl (.inr hk)) (fun k hk => ?_) (fun y hy => ?_) rfl (by rw [h.len]; exact h1)
  ·rcases hk with hk | hk
   ·exact .inl (.inl hk)
   ·rcases h5 k hk with e | e
    ·exact .inl (.inr e)
    ·exact .inr (by simp at e; omega)
  ·exact ⟨ka, kb, yv, nv, rfl, haw y (hy.mono (fun k _ hk => by rcases hk with hk | hk; omega; have := (hlt k hk).2; omega))⟩
theorem listEnd_of {W0 w X : World} {g d a i N oc : Nat} {lv : Value} {vars dom : Int} {oa : Option Addr} {L : List StmtT} {css : List (List Value)} (h : ListL W0 w X g lv vars dom d a i (.slice oa i oc) L css) (hi : i ≤ N) : ListEnd W0 g lv vars dom d N a w (.returned (.slice oa i oc)) X := by
 obtain ⟨a', hm, ha⟩ := h.mkr
 have h1 := Nat.mul_le_mul_right (stmtK d) hi
 have h2 := Nat.mul_le_mul_right (manyS d) hi
 have hl := h.len
 refine ⟨L, oa, oc, a', by rw [hl], h.ok, Nat.le_trans h.many h2, fun y hy => ?_, hm, by omega, h.since⟩
 rw [hl]
 exact (h.row.step (F' := fun _ => False) hy (fun k hk e => by have := (h.row.row.lt k hk).1; omega) (fun k hk => .inl (.inl hk)) (fun _ h => h.elim)).slice
theorem makeL_of (W0 : World) (g : Nat) (lv kv : Value) (vars dom : Nat) (d : Nat) (hs : StmtMSays W0 g lv kv vars dom d) (ka : Option Addr) (kn kc : Nat) (hkv : kv = .slice ka kn kc) : ListSays W0 g lv kv vars dom d := by
 intro w a n N ni hni hmk hn hN ha
 subst hni
 subst hkv
 have hKN : ∀ i, i < n → a + i * stmtK d + stmtK d ≤ 1000000 := fun i hi => by
  have := Nat.mul_le_mul_right (stmtK d) (show i + 1 ≤ N by omega)
  rw [Nat.add_mul, Nat.one_mul] at this
  omega
 have hcall : ∀ (X : World) (i : Nat) (va : Value) (L : List StmtT) (css : List (List Value)), i < n → ListL W0 w X g lv vars dom d a i va L css → Calls Tryz.prog 104 #[.pointer (some ⟨g, 0, none⟩), .int .i64 d, .int .i64 vars, .int .i64 dom, .slice ka kn kc] X fun e w' => ∃ (x : StmtT) (ka kb yv nv : Value) (a' : Nat), e = .returned (stmtV x ka kb yv nv) ∧ stmtOk vars dom x (d + 1) = true ∧ stmtN x ≤ manyS d ∧
   Away (fun k => k < X.heap.size) w' (fun y => ExprAt 3 y x.a ka ∧ ExprAt 3 y x.b kb ∧ StmtsAt 3 (d + 1) y x.yes yv ∧ StmtsAt 3 (d + 1) y x.no nv) ∧ MkAt W0 w' g lv a' ∧ a' ≤ a + i * stmtK d + stmtK d ∧ Since (fun k => k = g) X w' := fun X i va L css hi hL => by
  obtain ⟨a2, hm, ha2⟩ := hL.mkr
  refine (hs X a2 hm (by have := hKN i hi; omega)).mono ?_
  rintro e w' ⟨x, ka, kb, yv, nv, a', h1, h2, h3, h4, h5, h6, h7⟩
  exact ⟨x, ka, kb, yv, nv, a', h1, h2, h3, h4, h5, by omega, h7⟩
 have hglt := qlb hmk.box
 have hlo := hmk.below.size
 have hL0 : ListL W0 w w g lv vars dom d a 0 (.slice none 0 0) [] [] := ⟨⟨a, hmk, by omega⟩, Since.refl _ _, rfl, by rw [stmtsOk], by simp [stmtsN], ThingsC.nil _ _ _ _ _ _⟩
 have HCALL := qh hcall
 have HL0 := qh hL0
 clear hcall hL0 hs hmk hKN
 have hnI : n ≤ 10 := by omega
 go_enter Tryz.func78, Tryz.ntmps78
 go_wp2_with fail
 go_loopg [13, 14] n (fun gg s13 s14 wr => ∃ (i : Nat) (oa : Option Addr) (oc : Nat) (L : List StmtT) (css : List (List Value)), i ≤ n ∧ Hid (gg = n - i) ∧ s13 = .slice oa i oc ∧ s14 = .int .i64 i ∧ Hid (ListL W0 w wr g lv vars dom d a i (.slice oa i oc) L css))
 case atStart => exact ⟨0, none, 0, [], [], Nat.zero_le _, rfl, rfl, rfl, HL0.out⟩
 case round =>
  obtain ⟨i, oa, oc, L, css, hi, HG, rfl, rfl, HL⟩ := hrel
  by_cases hlt : i < n
  rotate_left
  ·obtain rfl : n = i := by omega
   go_wp2_with fail
   go_ret
   exact listEnd_of HL.out hn
  have hltI : (i : Int) < (n : Int) := by omega
  go_wp2_with (first | (at_builtin; go_must (refine wpList_append_at_ (Y.alloc (.cells #[.int .i64 x.kind, .int .i64 x.reg, .int .i64 x.var, .int .i64 x.a.kind, .int .i64 x.a.n, .int .u8 x.a.op, .slice aa x.a.kids.length ac, .int .i64 x.b.kind, .int .i64 x.b.n, .int .u8 x.b.op, .slice ba x.b.kids.length bc, .slice ya x.yes.length yc, .slice na x.no.length nc] 165)) rfl _ _ 129 rfl 165 (.agg #[.int .i64 0, .int .i64 0, .int .i64 0, .int .i64 0, .int .i64 0, .int .u8 0, .slice none 0 0, .int .i64 0, .int .i64 0, .int .u8 0, .slice none 0 0, .slice none 0 0, .slice none 0 0]) 13 168 Tryz.underlying129 stmt_info rfl (by decide) w.heap.size (.slice oa i oc) i (css.flatten) rfl (HROW.out.alloc _) ⟨Y.heap.size, 0, none⟩ 1 1 [.int .i64 x.kind, .int .i64 x.reg, .int .i64 x.var, .int .i64 x.a.kind, .int .i64 x.a.n, .int .u8 x.a.op, .slice aa x.a.kids.length ac, .int .i64 x.b.kind, .int .i64 x.b.n, .int .u8 x.b.op, .slice ba x.b.kids.length bc, .slice ya x.yes.length yc, .slice na x.no.length nc] rfl rfl (row_new _ _ _) (by simp [Value.oneCell']) (by unfold maxLen; omega) (by omega) (by have := HSY.out.size; simp; omega) ?_); intro ja jc Z e1 e2 e3 e4 e5 e6; have HP := qh (HL.out.push hglt hlo HOK.out.1 HOK.out.2.1 HOK.out.2.2.1 HOK.out.2.2.2.1 HOK.out.2.2.2.2.1 HOK.out.2.2.2.2.2 e1 e4 e5); clear e1 e2 e3 e4 e5 e6) | (go_at_call 104; go_must (refine (HCALL.out wr i _ L css hlt HL.out).mono ?_); rintro en Y ⟨x, xka, xkb, xyv, xnv, a', rfl, h2, h3, h4, h5, h6, h7⟩; (obtain ⟨aa, ac, rfl, -⟩ := h4.now.1.slice); (obtain ⟨ba, bc, rfl, -⟩ := h4.now.2.1.slice); (obtain ⟨ya, yc, rfl, -⟩ := h4.now.2.2.1.slice); (obtain ⟨na, nc, rfl, -⟩ := h4.now.2.2.2.slice); (have hrow := h7.row HL.out.row.row (fun k hk e => by have := (HL.out.row.row.lt k hk).1; omega)); rw [HL.out.len] at hrow; (have HROW := qh hrow); (have HSY := qh (HL.out.since.trans h7 (fun _ h => .inl h))); (have HOK := qh (And.intro h2 (And.intro h3 (And.intro h4 (And.intro h5 (And.intro h6 h7)))))); clear h2 h3 h4 h5 h6 h7 hrow; simp only [stmtV, StmtT.cells]))
  go_roundg (n - (i + 1))
  case measure => rw [HG.out]; omega
  case rel => exact ⟨i + 1, ja, jc, _, _, by omega, rfl, rfl, by simp, HP.out⟩
end Go.Proofs.YtliajkheeniljaaGreatDoor
