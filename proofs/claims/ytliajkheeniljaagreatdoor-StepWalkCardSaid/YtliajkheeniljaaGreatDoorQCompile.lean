/- A program that may be as code: the document's answer: the walk. Code by numbers: the walks. Code by numbers, of few statements: the walk. Code by numbers, of few statements: the walk. All states that are come to: the document's answer: the walk. A machine by a number. What is so of all states that are come to: plain Lean. States that lie elsewhere than in a box of nothing. The numbers that came in: as many as there is room for. A move that may be keeps what fits: plain Lean. -/
import Derived.Deep.RegionLaw
import Derived.Test.YtliajkheeniljaaGreatDoorQBlocks
import Derived.Test.YtliajkheeniljaaGreatDoorQData
import Derived.Test.YtliajkheeniljaaGreatDoorQDo
import Derived.Test.YtliajkheeniljaaGreatDoorQExpQ
import Derived.Test.YtliajkheeniljaaGreatDoorQMade2
import Derived.Test.YtliajkheeniljaaGreatDoorQSame7
import Derived.Test.YtliajkheeniljaaGreatDoorQStart
import Derived.Test.YtliajkheeniljaaGreatDoorQTreeR
import Derived.Test.YtliajkheeniljaaGreatDoorQShort
set_option linter.all false
namespace Go.Proofs.YtliajkheeniljaaGreatDoor
open Go.RowKit
set_option maxRecDepth 100000
set_option maxHeartbeats 16000000
theorem code_size3 : (Tryz.prog.info? 24).map (·.size) = some 3 := by kernel_rfl
theorem instrs_info : (Tryz.prog.info? 59).map (fun i => (i.zero, i.size, i.bytes)) = some (some (.slice none 0 0), 1, 24) := by kernel_rfl
def CF (va : Value) (gb gr : Nat) (k : Nat) : Prop := va.ownBlock = some k ∨ k = gb ∨ k = gr
theorem rowV_away {e B : Nat} {V Y : World} {F : Nat → Prop} {t : TypeId} {v : Value} {l : List InstrD} {css : List (List Value)} (h : RowV V B Y (InstrR e) 12 t v l css) (hb : Below V.heap.size V Y) (hF : ∀ k, F k → V.heap.size ≤ k) (hFB : ∀ k, F k → k < B) : Away F Y (fun y => RowR e y l [v]) := fun y hy =>
 ⟨v, rfl, RowV.slice (V := V) (B := B) (e := t) (css := css) ⟨h.len, h.part, hy.row h.row (fun k hk hf => by have := (h.row.lt k hk).1; have := hFB k hf; omega)⟩ (InstrR.stays e) (hb.trans (hy.below hb.size hF))⟩
structure CompL (e : Nat) (w X : World) (gb gr : Nat) (vn dom : Int) (va : Value) (cl : List (List InstrD)) (css : List (List Value)) : Prop where
 below : Below w.heap.size w X
 box : X.heap[gb]? = some (.cells #[.int .i64 vn, .int .i64 dom, va] 24 (0, 0))
 res : X.heap[gr]? = some (.cells #[.int .i64 0, .int .i64 0, .slice none 0 0] 24 (0, 0))
 lo : w.heap.size ≤ gb ∧ w.heap.size ≤ gr ∧ gr ≠ gb
 row : ThingsC (CF va gb gr) X (RowR e) 1 w.heap.size 59 va cl css
theorem CompL.own_ne {e : Nat} {w X : World} {gb gr : Nat} {vn dom : Int} {va : Value} {cl : List (List InstrD)} {css : List (List Value)} (h : CompL e w X gb gr vn dom va cl css) : ∀ k, va.ownBlock = some k → k ≠ gb ∧ k ≠ gr := fun k hk =>
 ⟨fun e => by subst e; exact row_type h.row.row hk h.box (by decide), fun e => by subst e; exact row_type h.row.row hk h.res (by decide)⟩
theorem CompL.lt {e : Nat} {w X : World} {gb gr : Nat} {vn dom : Int} {va : Value} {cl : List (List InstrD)} {css : List (List Value)} (h : CompL e w X gb gr vn dom va cl css) : ∀ k, CF va gb gr k → k < X.heap.size := fun k hk => by
 rcases hk with hk | rfl | rfl
 ·exact (h.row.row.lt k hk).2
 ·exact qlb h.box
 ·exact qlb h.res
theorem CompL.ge {e : Nat} {w X : World} {gb gr : Nat} {vn dom : Int} {va : Value} {cl : List (List InstrD)} {css : List (List Value)} (h : CompL e w X gb gr vn dom va cl css) : ∀ k, CF va gb gr k → w.heap.size ≤ k := fun k hk => by
 have := h.lo
 rcases hk with hk | rfl | rfl
 ·exact (h.row.row.lt k hk).1
 ·omega
 ·omega
theorem CompL.later {e : Nat} {w X Y : World} {gb gr : Nat} {vn dom : Int} {va : Value} {cl : List (List InstrD)} {css : List (List Value)} (h : CompL e w X gb gr vn dom va cl css) (hb : Below X.heap.size X Y) : CompL e w Y gb gr vn dom va cl css :=
 ⟨qbt h.below hb, (hb.block _ (qlb h.box)).trans h.box, (hb.block _ (qlb h.res)).trans h.res, h.lo, h.row.step (since_of (fun _ => False) hb) (fun _ _ h => h) (fun _ h => h.elim) (fun _ hk => .inl hk)⟩
theorem CompL.push {e i ln rc xc : Nat} {w Y X3 : World} {gb gr : Nat} {vn dom : Int} {oa ra xa : Option Addr} {oc B : Nat} {cl : List (List InstrD)} {css css2 : List (List Value)} {t : TypeId} {l : List InstrD} {o : Obj} (h : CompL e w Y gb gr vn dom (.slice oa i oc) cl css) (hi : cl.length = i)
  (hr : RowV w B Y (InstrR e) 12 t (.slice ra ln rc) l css2) (hB : ∀ k, CF (.slice oa i oc) gb gr k → k < B) (h1 : X3.ownsRow w.heap.size 59 1 (.slice xa (i + 1) xc) (i + 1) (css.flatten ++ [.slice ra ln rc]))
  (hs : Since (fun k => (Value.slice oa i oc).ownBlock = some k) (Y.alloc o) X3) (hloc : ∀ k, (Value.slice xa (i + 1) xc).ownBlock = some k → (Value.slice oa i oc).ownBlock = some k ∨ k = (Y.alloc o).heap.size) :
  X3.heap[gb]? = some (.cells #[.int .i64 vn, .int .i64 dom, .slice oa i oc] 24 (0, 0)) ∧ CompL e w (X3.setCell ⟨gb, 2, none⟩ (.slice xa (i + 1) xc)) gb gr vn dom (.slice xa (i + 1) xc) (cl ++ [l]) (css ++ [[.slice ra ln rc]]) ∧ Since (fun k => (Value.slice oa i oc).ownBlock = some k ∨ k = gb) Y (X3.setCell ⟨gb, 2, none⟩ (.slice xa (i + 1) xc)) := by
 have hlo := h.lo
 have hne := h.own_ne
 have s1 : Since (fun k => (Value.slice oa i oc).ownBlock = some k) Y X3 := ((Since.refl _ Y).alloc o).trans hs (fun k hk => .inl hk)
 have hbox := (s1.block _ (qlb h.box) (fun e => (hne _ e).1 rfl)).trans h.box
 have hres := (s1.block _ (qlb h.res) (fun e => (hne _ e).2 rfl)).trans h.res
 have s2 : Since (fun k => k = gb) X3 (X3.setCell ⟨gb, 2, none⟩ (.slice xa (i + 1) xc)) := Since.setCell (F := fun k => k = gb) (p := ⟨gb, 2, none⟩) (Since.refl _ _) (.inl rfl) _
 have s3 : Since (fun k => (Value.slice oa i oc).ownBlock = some k ∨ k = gb) Y (X3.setCell ⟨gb, 2, none⟩ (.slice xa (i + 1) xc)) := (s1.mono (fun k _ hk => .inl hk)).trans s2 (fun k hk => .inl (.inr hk))
 have hnew : ∀ k, (Value.slice xa (i + 1) xc).ownBlock = some k → k ≠ gb := fun k hk e => by
  rcases hloc k hk with h1 | h1
  ·exact (hne k h1).1 e
  ·have := qlb h.box; simp at h1; omega
 refine ⟨hbox, ⟨h.below.trans (s3.below h.below.size (fun k hk => by rcases hk with hk | hk; exact (h.row.row.lt k hk).1; omega)), ?_, ?_, hlo, ?_⟩, s3⟩
 ·have := set_of_block hbox 2 (.slice xa (i + 1) xc); simpa using this
 ·exact (s2.block _ (qlb hres) (by omega)).trans hres
 ·refine h.row.push s3 (fun k hk => ?_) (fun k hk => ?_) (rowV_away hr h.below h.ge hB) rfl ?_
  ·rcases hk with hk | hk
   ·exact .inl (.inl hk)
   ·exact .inl (.inr (.inl hk))
  ·rcases hk with hk | hk | hk
   ·rcases hloc k hk with h1 | h1
    ·exact .inl (.inl h1)
    ·exact .inr (by simp at h1; omega)
   ·exact .inl (.inr (.inl hk))
   ·exact .inl (.inr (.inr hk))
  ·rw [hi]; exact s2.row h1 hnew
def CompileEnd (e : Nat) (w : World) (c : CodeD) (en : Ending) (w' : World) : Prop := (∃ ta tc css, en = .returned (.tuple #[codeV c (.slice ta c.threads.length tc), .int .i64 0]) ∧ ThingsC (fun k => (Value.slice ta c.threads.length tc).ownBlock = some k) w' (RowR e) 1 w.heap.size 59 (.slice ta c.threads.length tc) c.threads css) ∧ Below w.heap.size w w'
theorem compileEnd_of {e n tc : Nat} {w X Z : World} {c : CodeD} {gb gr : Nat} {ta : Option Addr} {css : List (List Value)} (h : CompL e w X gb gr c.vars c.domain (.slice ta n tc) c.threads css) (hn : c.threads.length = n) (hs : Since (fun k => k = gr) X Z) :
  CompileEnd e w c (.returned (.tuple #[.agg #[.int .i64 c.vars, .int .i64 c.domain, .slice ta n tc], .int .i64 0])) Z := by
 subst hn
 refine ⟨⟨ta, tc, css, rfl, h.row.step hs (fun k hk e => (h.own_ne k hk).2 e) (fun k hk => .inl (.inr (.inr hk))) (fun k hk => .inl (.inl hk))⟩, h.below.trans (hs.below h.below.size (fun k hk => by have := h.lo; omega))⟩
theorem compile_any (e d : Nat) (w : World) (p : ProgD) (hp : GoodP p) (vv tv : Value) (h : ProgAt e d w p vv tv) : Calls Tryz.prog 47 #[progV p vv tv] w (CompileEnd e w (compileS p)) := by
 have hright := fun y (hy : Below w.heap.size w y) => treeRight_any e d y p hp vv tv (h.below hy)
 obtain ⟨va, vc, rfl, -⟩ := SliceR.slice h.vars
 obtain ⟨ta, tc, rfl, -⟩ := SliceR.slice h.threads
 have hgood : ∀ l ∈ p.threads, (blockC l 0).length ≤ 600 := fun l hl => by
  have h1 := (blockC_good p.vars.length p.domain l 20 0 (by omega) (hp.ok l hl)).1
  have h2 := hp.one hl
  omega
 obtain ⟨C, hC⟩ : ∃ C, C = compileS p := ⟨_, rfl⟩
 have hC1 : C = ⟨p.vars.length, p.domain, p.threads.map (fun l => blockC l 0)⟩ := hC
 have hm3 := hp.many.2
 have hthr := h.threads
 rw [← hC]
 unfold progV at hright ⊢
 generalize p.domain = dom at hright hC1 ⊢
 generalize p.vars.length = vn at hright hC1 ⊢
 generalize p.threads = T at hright hC1 hgood hm3 hthr ⊢
 obtain ⟨tn, htn⟩ : ∃ n, n = T.length := ⟨_, rfl⟩
 rw [← htn] at hright hthr hm3 ⊢
 have hct : ∀ i, i < tn → (C.threads.take (i + 1)) = C.threads.take i ++ [blockC (T.getD i []) 0] := fun i hi => by
  have hi2 : i < T.length := by omega
  rw [hC1, List.take_succ_eq_append_getElem (by simpa using hi2)]
  simp [List.getD_eq_getElem?_getD, List.getElem?_eq_getElem hi2]
 have hcl : C.threads.length = tn := by rw [hC1, htn]; simp
 have hgd : ∀ i, i < tn → (blockC (T.getD i []) 0).length ≤ 600 := fun i hi => hgood _ (getD_mem (by omega))
 have hbl : ∀ i, i < tn → ∀ v, StmtsAt e d w (T.getD i []) v → ∀ y, Below w.heap.size w y → Calls Tryz.prog 76 #[v, .int .i64 0] y (BlockEnd e w y (blockC (T.getD i []) 0)) := fun i hi v hv y hy =>
  block_any e d w y hy _ v hv 0 (by omega) (by have := hgd i hi; omega)
 have hvars : C.vars = vn := by rw [hC1]
 have hdom : C.domain = dom := by rw [hC1]
 have hB := ((Below.refl w.heap.size w).alloc (Nat.le_refl _) (.cells #[.slice va vn vc, .int .i64 dom, .slice ta tn tc] 92)).alloc (by simp) (.cells #[.int .i64 0, .int .i64 0, .slice none 0 0] 24)
 have H1 := qh (boxes_first w (.cells #[.slice va vn vc, .int .i64 dom, .slice ta tn tc] 92) (.cells #[.int .i64 0, .int .i64 0, .slice none 0 0] 24))
 have H2 := qh (boxes_second w (.cells #[.slice va vn vc, .int .i64 dom, .slice ta tn tc] 92) (.cells #[.int .i64 0, .int .i64 0, .slice none 0 0] 24))
 have HB := qh hB
 have HTN := qh htn
 have HTHR := qh hthr
 have HRIGHT := qh hright
 have HCT := qh hct
 have HCL := qh hcl
 have HGD := qh hgd
 have HBL := qh hbl
 have HVARS := qh hvars
 have HDOM := qh hdom
 clear h hp hright hgood hC hC1 htn hthr hct hcl hgd hbl hvars hdom hB
 go_enter Tryz.func47, Tryz.ntmps47
 go_upto_region 1 with fail
 generalize World.alloc (World.alloc w _) _ = W at HB H1 H2 ⊢
 obtain ⟨gx, hgx⟩ : ∃ gx, gx = w.heap.size := ⟨_, rfl⟩
 rw [← hgx] at H1 H2 ⊢
 have HGX := qh hgx
 clear hgx
 have c0 := qcb H1.out 0
 have c1 := qcb H1.out 1
 have c2 := qcb H1.out 2
 go_upto_region 3 with (go_at_call 75; go_must (refine (HRIGHT.out W HB.out).mono ?_); rintro en W1 ⟨rfl, hb⟩; (have HB1 := qh (qbt HB.out hb)); (have K1 := qh ((hb.block _ (qlb H1.out)).trans H1.out)); (have K2 := qh ((hb.block _ (qlb H2.out)).trans H2.out)); clear hb c0 c1 c2)
 have c0 := qcb K1.out 0
 have c1 := qcb K1.out 1
 go_upto_region 4 with fail
 have hL : CompL e w (W1.alloc (.cells #[.int .i64 vn, .int .i64 dom, .slice none 0 0] 24)) W1.heap.size (gx + 1) vn dom (.slice none 0 0) [] [] := by
  have hk := qlb K2.out
  exact ⟨HB1.out.alloc HB1.out.size _, qhn _ _, (Below.heap_alloc _ _ _ hk).trans K2.out, ⟨HB1.out.size, by have := HGX.out; omega, by omega⟩, ThingsC.nil _ _ _ _ _ _⟩
 have HK1 := qh ((Below.heap_alloc W1 (.cells #[.int .i64 vn, .int .i64 dom, .slice none 0 0] 24) _ (qlb K1.out)).trans K1.out)
 have hlt1 := qlb K1.out
 clear c0 c1 K1 K2 H1 H2 HB HRIGHT
 generalize World.alloc W1 _ = V at hL HK1 ⊢
 generalize W1.heap.size = gb at hL hlt1 ⊢
 have HL0 := qh hL
 have hgb : gx ≠ gb := by omega
 clear hL hlt1 HB1
 go_wp2_with fail
 go_loopg [5] tn (fun gg s5 wr => ∃ (i : Nat) (oa : Option Addr) (oc : Nat) (css : List (List Value)), i ≤ tn ∧ Hid (gg = tn - i) ∧ s5 = .int .i64 i ∧ Hid (CompL e w wr gb (gx + 1) vn dom (.slice oa i oc) (C.threads.take i) css) ∧ Hid (wr.heap[gx]? = some (.cells #[.slice va vn vc, .int .i64 dom, .slice ta tn tc] 92 (0, 0))))
 case atStart => exact ⟨0, none, 0, [], Nat.zero_le _, rfl, rfl, HL0.out, HK1.out⟩
 case round =>
  obtain ⟨i, oa, oc, css, hi, HG, rfl, HL, HK⟩ := hrel
  have c2 := qcb HK.out 2
  by_cases hlt : i < tn
  rotate_left
  ·obtain rfl : tn = i := by omega
   have z0 := qcb HL.out.box 0
   have z1 := qcb HL.out.box 1
   have z2 := qcb HL.out.box 2
   have r0 := qcb HL.out.res 0
   have r1 := qcb HL.out.res 1
   have r2 := qcb HL.out.res 2
   have f0 := qfb HL.out.res 0
   have f1 := qfb HL.out.res 1
   have f2 := qfb HL.out.res 2
   have hall : C.threads.take tn = C.threads := List.take_of_length_le (by rw [HCL.out]; exact Nat.le_refl _)
   have hend := HL.out
   rw [hall] at hend
   have hset : (setAll wr (gx + 1) 0 [.int .i64 vn, .int .i64 dom, .slice oa tn oc]).heap[gx + 1]? = some (.cells #[.int .i64 vn, .int .i64 dom, .slice oa tn oc] 24 (0, 0)) := setAll_new (cs := [.int .i64 0, .int .i64 0, .slice none 0 0]) _ rfl hend.res
   have hend2 : CompileEnd e w C (.returned (.tuple #[.agg #[.int .i64 vn, .int .i64 dom, .slice oa tn oc], .int .i64 0])) (setAll wr (gx + 1) 0 [.int .i64 vn, .int .i64 dom, .slice oa tn oc]) := by
    have := compileEnd_of (by rw [HVARS.out, HDOM.out]; exact hend) HCL.out (setAll_since [.int .i64 vn, .int .i64 dom, .slice oa tn oc] wr 0)
    rw [HVARS.out, HDOM.out] at this
    exact this
   have HSET := qh hset
   have HE := qh hend2
   clear hset hend hend2 hall
   go_wp2_with fail
   refine bodyPost_ret (results_cell1 rfl _ _ (gx + 1) 24 _ (0, 0) _ rfl HSET.out Tryz.underlying24 rfl code_size3) rfl ?_
   exact HE.out
  have hltI : (i : Int) < (tn : Int) := by omega
  obtain ⟨b, off, ka, kc, hea, -, x0, hst⟩ := ThrsAt.part HTHR.out i (by rw [← HTN.out]; exact hlt)
  subst hea
  have hbl := HBL.out i hlt _ hst
  have hct := HCT.out i hlt
  have hgd := HGD.out i hlt
  have hci : (C.threads.take i).length = i := by rw [List.length_take, HCL.out]; omega
  generalize T.getD i [] = l at x0 hbl hct hgd hst
  have y0 := qck HL.out.below _ _ x0
  generalize l.length = ln at y0 hbl
  generalize blockC l 0 = bc at hbl hct hgd
  have z2 := qcb HL.out.box 2
  have zf := qfb HL.out.box 2
  have hB0 := hbl wr.drew HL.out.below.drew
  have HLD := qh (HL.out.later (Y := wr.drew) (Below.refl _ _).drew)
  have HB0 := qh hB0
  have HCI := qh hci
  have HCT1 := qh hct
  have HGD1 := qh hgd
  have HLT := qh (show ∀ k, CF (.slice oa i oc) gb (gx + 1) k → k < wr.drew.heap.size from HL.out.lt)
  clear hst x0 hbl hct hgd hci hB0
  go_upto_region 7 with fail
  go_region_law (first | (refine step_append_where_ (Y.alloc (.cells #[.slice ra bc.length rc] 59)) (by rfl) (.tmp 24) (.tmp 31) 22 rfl 59 (.slice none 0 0) 1 24 Tryz.underlying22 instrs_info rfl (by decide) w.heap.size (.slice oa i oc) i (css.flatten) (by simp [Act.eval]) (hrow.alloc _) ⟨Y.heap.size, 0, none⟩ 1 1 [.slice ra bc.length rc] (by simp [Act.eval]) rfl (row_new Y _ _) (by simp [Value.oneCell']) (by unfold maxLen; omega) (by omega) (by simp; omega) ?_; intro xa xc X3 hx3 hxc1 hxc2 hS3 hloc3; have hp := HLY.push HCI.out hr HLT.out hx3 hS3 hloc3; have v2 := qcb hp.1 2; have v2f := qfb hp.1 2; simp only [List.getElem?_toArray, List.getElem?_cons_zero, List.getElem?_cons_succ] at v2) | (go_simp; go_at_call 76; refine HB0.out.mono ?_; rintro en Y ⟨⟨ra, rc, css2, rfl, hr⟩, hb⟩; have HLY := HLD.out.later hb; have hrow := HLY.row.row; rw [HCI.out] at hrow; have hYs := HLY.below.size; have v2b := qcb HLY.box 2; simp only [List.getElem?_toArray, List.getElem?_cons_zero, List.getElem?_cons_succ] at v2b; have v2c := fun o => (Below.cell ((Below.refl _ _).alloc (Nat.le_refl _) o) (World.block_lt_of_cell? Y _ v2b)).trans v2b))
  all_goals
   have hky := (hb.block gx (qlb (w := wr) HK.out)).trans HK.out
   have hk4 := (hp.2.2.block gx (qlb hky) (fun e => by rcases e with e | e; exact row_type hrow e hky (by decide); exact hgb e)).trans hky
   have HP := qh hp.2.1
   have HK4 := qh hk4
   clear hky hk4 hp hr hb HLY hrow hYs v2b hx3 hS3 hloc3 v2 v2f y0 z2 zf c2
   go_wp2_with fail
   go_roundg (tn - (i + 1))
   case measure => rw [HG.out]; omega
   case rel => exact ⟨i + 1, xa, xc, _, by omega, rfl, by simp, by rw [Hid, HCT1.out]; exact HP.out, HK4.out⟩
end Go.Proofs.YtliajkheeniljaaGreatDoor
namespace Go.Proofs.YtliajkheeniljaaGreatDoor
open Go.RowKit
set_option maxRecDepth 100000
set_option maxHeartbeats 16000000
theorem slice_thin {α : Type} [Inhabited α] {R : World → α → List Value → Prop} {size g : Nat} {X Z : World} {v : Value} {l : List α} (hsz : 4 ≤ size) (hs : Since (fun k => k = g) X Z) (ht : ∀ j, 3 ≤ j → X.cell? ⟨g, j, none⟩ = none) (hR : ∀ x cs, R X x cs → R Z x cs) (h : SliceR R size X v l) : SliceR R size Z v l := by
 obtain ⟨a, cap, h1, h2, h4⟩ := h
 refine ⟨a, cap, h1, h2, fun j hj => ?_⟩
 obtain ⟨b, off, cs, h5, h6, h7, h8, h9⟩ := h4 j hj
 have hne : b ≠ g := fun e => by
  subst e
  have h := h8 (size - 1) (by omega)
  rw [ht _ (by omega), List.getElem?_eq_getElem (by omega)] at h
  cases h
 exact ⟨b, off, cs, h5, Nat.lt_of_lt_of_le h6 hs.size, h7, fun i hi => (hs.cell (p := ⟨b, off + j * size + i, none⟩) h6 hne).trans (h8 i hi), hR _ _ h9⟩
theorem expr_thin {d g : Nat} {X Z : World} (hs : Since (fun k => k = g) X Z) (ht : ∀ j, 3 ≤ j → X.cell? ⟨g, j, none⟩ = none) {x : ExprT} {kv : Value} (h : ExprAt d X x kv) : ExprAt d Z x kv := by
 induction d generalizing x kv with
 | zero => exact h.elim
 | succ d ih => exact slice_thin (by omega) hs ht (fun y cs ⟨kv', e, h'⟩ => ⟨kv', e, ih h'⟩) h
theorem row_thin {d g : Nat} {X Z : World} (hs : Since (fun k => k = g) X Z) (ht : ∀ j, 3 ≤ j → X.cell? ⟨g, j, none⟩ = none) {l : List InstrD} {cs : List Value} (h : RowR d X l cs) : RowR d Z l cs := by
 obtain ⟨v, rfl, h⟩ := h
 exact ⟨v, rfl, slice_thin (by omega) hs ht (fun y cs ⟨ka, kb, e, h1, h2⟩ => ⟨ka, kb, e, expr_thin hs ht h1, expr_thin hs ht h2⟩) h⟩
theorem thin_of {X : World} {g : Nat} {a b c : Value} {t : TypeId} {f : Nat × Nat} (h : X.heap[g]? = some (.cells #[a, b, c] t f)) : ∀ j, 3 ≤ j → X.cell? ⟨g, j, none⟩ = none := fun j hj => by
 rw [qcb h]; exact Array.getElem?_eq_none (by simpa using hj)
theorem away_thin {F : Nat → Prop} {X Z : World} {g d : Nat} {a b c : Value} {t : TypeId} {f : Nat × Nat} {l : List InstrD} {cs : List Value} (h : Away F X (fun y => RowR d y l cs)) (hg : X.heap[g]? = some (.cells #[a, b, c] t f)) (hF : ¬ F g) (hs : Since (fun k => k = g) X Z) : Away F Z (fun y => RowR d y l cs) := fun y hy => by
 have hgl := qlb hg
 have hz := hs.size
 have hyz := hy.size
 have hy0 : ({y with heap := y.heap.setIfInBounds g (.cells #[a, b, c] t f)} : World).heap[g]? = some (.cells #[a, b, c] t f) := by
  simp [Array.getElem?_setIfInBounds_self_of_lt (show g < y.heap.size by omega)]
 have hk : ∀ k, k ≠ g → ({y with heap := y.heap.setIfInBounds g (.cells #[a, b, c] t f)} : World).heap[k]? = y.heap[k]? := fun k hne => by
  simp [Array.getElem?_setIfInBounds_ne (Ne.symm hne)]
 have h0 : Since F X ({y with heap := y.heap.setIfInBounds g (.cells #[a, b, c] t f)} : World) :=
  ⟨hy.os.trans hs.os, hy.tape.trans hs.tape, hy.output.trans hs.output, by simp; omega, fun k hkl hkF => by
   by_cases e : k = g
   ·subst e; rw [hy0]; exact hg.symm
   ·rw [hk k e, hy.block k (by omega) hkF, hs.block k hkl e]⟩
 have h1 : Since (fun k => k = g) ({y with heap := y.heap.setIfInBounds g (.cells #[a, b, c] t f)} : World) y := ⟨rfl, rfl, rfl, by simp, fun k _ hne => (hk k hne).symm⟩
 exact row_thin h1 (thin_of hy0) (h _ h0)
def CodeEnd (w : World) (en : Ending) (w' : World) : Prop := (∃ c ta tc css, en = .returned (codeV c (.slice ta c.threads.length tc)) ∧ codeOk c = true ∧ ThingsC (fun k => (Value.slice ta c.threads.length tc).ownBlock = some k) w' (RowR 3) 1 w.heap.size 59 (.slice ta c.threads.length tc) c.threads css) ∧ Below w.heap.size w w'
theorem kinds_ok : ∀ k ∈ kindsL, 1 ≤ k ∧ k ≤ 11 := by decide
theorem made4_any (w : World) (sv : Value) (l : List Int) (hn : NumsAt w .u8 sv l) (kv : Value) (ks : List Int) (hks : IntsAt w kv ks) (hk1 : 1 ≤ ks.length) (hk2 : ks.length ≤ 100) (hk3 : ∀ k ∈ ks, 1 ≤ k ∧ k ≤ 11) :
  Calls Tryz.prog 20 #[sv, kv] w (CodeEnd w) := by
 have hb1 := (Below.refl w.heap.size w).alloc (Nat.le_refl _) (.cells #[.int .i64 0, .int .i64 0, .slice none 0 0] 24)
 have hg1 := qhn w (.cells #[.int .i64 0, .int .i64 0, .slice none 0 0] 24)
 have hmade := made2_any _ sv l (hn.below hb1) kv ks (SliceR.below IntR.stays hks hb1) hk1 hk2 hk3
 obtain ⟨sa, sc, rfl, -⟩ : ∃ a c, sv = .slice a l.length c ∧ True := by obtain ⟨a, c, h, -⟩ := hn; exact ⟨a, c, h, trivial⟩
 obtain ⟨ka, kc, rfl, -⟩ := SliceR.slice hks
 generalize l.length = ln at hmade ⊢
 generalize ks.length = kn at hmade ⊢
 have HB1 := qh hb1
 have HG1 := qh hg1
 have HMADE := qh hmade
 clear hb1 hg1 hmade hn hks hk1 hk2 hk3
 go_enter Tryz.func20, Tryz.ntmps20
 go_upto_region 1 with fail
 generalize World.alloc w _ = W at HB1 HG1 HMADE ⊢
 obtain ⟨gr, hgr⟩ : ∃ gr, gr = w.heap.size := ⟨_, rfl⟩
 rw [← hgr] at HG1 ⊢
 have HGR := qh hgr
 clear hgr
 go_upto_region 2 with (first | (go_at_call 47; go_must (refine (HCOMP.out).mono ?_); rintro en W3 ⟨⟨ta, tc, css, rfl, hrow⟩, hb⟩; (have HROW := qh hrow); (have HB3 := qh (qbt HB2.out hb)); (have HG3 := qh ((hb.block _ (qlb HG2.out)).trans HG2.out)); (have HW3 := qh hb.size); clear hrow hb; unfold codeV) | (go_at_call 48; go_must (refine (HMADE.out).mono ?_); rintro en W2 ⟨⟨p, vv, tv, rfl, hp, hpa⟩, hb⟩; (have HCOMP := qh (compile_any 3 4 W2 p hp vv tv hpa)); (have HOK := qh (compile_ok hp)); (have HB2 := qh (HB1.out.trans (hb.mono HB1.out.size))); (have HG2 := qh ((hb.block _ (qlb HG1.out)).trans HG1.out)); clear hb hp hpa; generalize compileS p = c at HCOMP HOK; unfold progV at HCOMP ⊢))
 generalize hcv : c.vars = vars
 generalize hcd : c.domain = dom
 generalize hcl : c.threads.length = cn
 have HCV := qh hcv
 have HCD := qh hcd
 have HCL := qh hcl
 clear hcv hcd hcl
 have hb4 := HB3.out.alloc HB3.out.size (.cells #[.int .i64 vars, .int .i64 dom, .slice ta cn tc] 24)
 have hg4 := (Below.heap_alloc W3 (.cells #[.int .i64 vars, .int .i64 dom, .slice ta cn tc] 24) _ (qlb HG3.out)).trans HG3.out
 have hn4 := qhn W3 (.cells #[.int .i64 vars, .int .i64 dom, .slice ta cn tc] 24)
 have hs4 := (Since.refl (fun _ => False) W3).alloc (.cells #[.int .i64 vars, .int .i64 dom, .slice ta cn tc] 24)
 generalize World.alloc W3 _ = X at hb4 hg4 hn4 hs4 ⊢
 generalize W3.heap.size = gc at hn4 ⊢
 have s := setAll_since (g := gr) [.int .i64 vars, .int .i64 dom, .slice ta cn tc] X 0
 have hset : (setAll X gr 0 [.int .i64 vars, .int .i64 dom, .slice ta cn tc]).heap[gr]? = _ := setAll_new (cs := [.int .i64 0, .int .i64 0, .slice none 0 0]) _ rfl hg4
 have hend : CodeEnd w (.returned (.agg #[.int .i64 vars, .int .i64 dom, .slice ta cn tc])) (setAll X gr 0 [.int .i64 vars, .int .i64 dom, .slice ta cn tc]) := by
  have h1 := HROW.out
  rw [HCL.out] at h1
  have hlt := HW3.out
  have hge := HB2.out.size
  refine ⟨⟨c, ta, tc, css, by unfold codeV; rw [HCV.out, HCD.out, HCL.out], HOK.out, ?_⟩, (hb4.trans (s.below hb4.size (fun k hk => by have := HGR.out; omega)))⟩
  rw [HCL.out]
  have h2 : ThingsC (fun k => (Value.slice ta cn tc).ownBlock = some k) W3 (RowR 3) 1 w.heap.size 59 (.slice ta cn tc) c.threads css := ⟨h1.len, h1.part, row_mono h1.row hge⟩
  have hown : ∀ k, (Value.slice ta cn tc).ownBlock = some k → k ≠ gr := fun k hk e => by have := (h1.row.lt k hk).1; have := qlb HG2.out; omega
  have hgr : ¬ (Value.slice ta cn tc).ownBlock = some gr := fun e => hown gr e rfl
  exact ⟨h2.len, fun j hj => ⟨(h2.part j hj).1, away_thin ((h2.part j hj).2.step hs4 (fun _ h => h.elim) (fun k hk => .inl hk)) hg4 hgr s⟩, s.row (hs4.row h2.row (fun _ _ h => h)) hown⟩
 have HEND := qh hend
 have HSET := qh hset
 have c0 := qcb hn4 0
 have c1 := qcb hn4 1
 have c2 := qcb hn4 2
 have z0 := qcb hg4 0
 have z1 := qcb hg4 1
 have z2 := qcb hg4 2
 have f0 := qfb hg4 0
 have f1 := qfb hg4 1
 have f2 := qfb hg4 2
 clear hend hset s hg4 hn4 hs4 hb4
 go_wp2_with fail
 refine bodyPost_ret (results_cell rfl _ _ gr 24 _ (0, 0) _ rfl HSET.out Tryz.underlying24 rfl code_size3) rfl ?_
 exact HEND.out
end Go.Proofs.YtliajkheeniljaaGreatDoor
namespace Go.Proofs.YtliajkheeniljaaGreatDoor
open Go.RowKit
set_option maxRecDepth 100000
set_option maxHeartbeats 16000000
def specI (vars : Int) : List InstrD := [⟨2, 0, 0, .mk 1 1 0 [], default, 0⟩, ⟨1, 0, vars - 1, default, default, 0⟩, ⟨9, 0, 0, .mk 2 0 0 [], default, 0⟩]
def specC (vars : Int) : List Value := [.int .i64 2, .int .i64 0, .int .i64 0, .int .i64 1, .int .i64 1, .int .u8 0, .slice none 0 0, .int .i64 0, .int .i64 0, .int .u8 0, .slice none 0 0, .int .i64 0,
 .int .i64 1, .int .i64 0, .int .i64 (vars - 1), .int .i64 0, .int .i64 0, .int .u8 0, .slice none 0 0, .int .i64 0, .int .i64 0, .int .u8 0, .slice none 0 0, .int .i64 0,
 .int .i64 9, .int .i64 0, .int .i64 0, .int .i64 2, .int .i64 0, .int .u8 0, .slice none 0 0, .int .i64 0, .int .i64 0, .int .u8 0, .slice none 0 0, .int .i64 0]
structure SmallL (w X : World) (gc gr g : Nat) (vars dom : Int) (n cap : Nat) (cl : List (List InstrD)) : Prop where
 below : Below w.heap.size w X
 box : X.heap[gc]? = some (.cells #[.int .i64 vars, .int .i64 dom, .slice (some ⟨g, 0, none⟩) n cap] 24 (0, 0))
 res : X.heap[gr]? = some (.cells #[.int .i64 0, .int .i64 0, .slice none 0 0] 24 (0, 0))
 lo : w.heap.size ≤ gc ∧ w.heap.size ≤ gr ∧ w.heap.size ≤ g ∧ gc ≠ gr ∧ g ≠ gc ∧ g ≠ gr
 row : ∃ cur : Array Value, X.heap[g]? = some (.cells cur 59 (0, 0)) ∧ n ≤ cur.size ∧ ∀ j, j < n → ∃ a c, cur[j]? = some (.slice a (cl.getD j []).length c) ∧ Away (fun k => k = g) X (fun y => RowR 3 y (cl.getD j []) [.slice a (cl.getD j []).length c])
 len : cl.length = n
 ok : ∀ j, j < n → rowOk vars dom (cl.getD j []) = true
 room : n ≤ cap ∧ cap ≤ 9223372036854775807
section
variable {w X : World} {gc gr g n cap : Nat} {vars dom : Int} {cl : List (List InstrD)}
end
end Go.Proofs.YtliajkheeniljaaGreatDoor
namespace Go.Proofs.YtliajkheeniljaaGreatDoor
open Go.RowKit
set_option maxRecDepth 100000
set_option maxHeartbeats 16000000
end Go.Proofs.YtliajkheeniljaaGreatDoor
namespace Go.Proofs.YtliajkheeniljaaGreatDoor
open Go.RowKit
set_option maxRecDepth 100000
set_option maxHeartbeats 16000000
def SpaceAt (w : World) (s : SpaceD) (sv mv nv : Value) : Prop := StatesAt w sv s.states ∧ SliceR MovesR 1 w mv s.moves ∧ SliceR IntsR 1 w nv s.next
section
variable {W X X1 : World} {g r : Nat} {sv mv nv xv : Value} {sl : List StateD} {ml : List (List MoveD)} {nl : List (List Int)} {xl : List Int} {sc mc nc : List (List Value)}
end
end Go.Proofs.YtliajkheeniljaaGreatDoor
namespace Go.Proofs.YtliajkheeniljaaGreatDoor
open Go.RowKit
set_option maxRecDepth 100000
set_option maxHeartbeats 16000000
def machS (n : Int) : MachD := ⟨n % 3, 1 + n / 3 % 3⟩
theorem machine_any (w : World) (n : Int) (h0 : 0 ≤ n) (h1 : n ≤ 255) : Calls Tryz.prog 22 #[.int .u8 n] w fun e w' => e = .returned (machV (machS n)) ∧ Below w.heap.size w w' := by
 unfold machV machS
 go_enter Tryz.func22, Tryz.ntmps22
 go_wp2
 exact bodyPost_ret (v := .agg #[.int .i64 (n % 3), .int .i64 (1 + n / 3 % 3)]) (by simp [results, Tryz.results22, go_sem]) rfl ⟨rfl, (Below.refl _ _).alloc (Nat.le_refl _) _⟩
end Go.Proofs.YtliajkheeniljaaGreatDoor
namespace Go.Proofs.YtliajkheeniljaaGreatDoor
open Go.RowKit
set_option maxRecDepth 100000
set_option maxHeartbeats 16000000
theorem moves_mem {c : CodeD} {m : MachD} {s : StateD} {d : Nat} {x : MoveD} (h : x ∈ movesS c m s d) : fitsOk c m s = true ∧ ∃ i, i < s.threads.length ∧ ((x = ⟨1, i, 0⟩ ∧ ∃ t, stepS c m s i d = some t) ∨ ∃ v, x = ⟨2, i, v⟩ ∧ v ∈ headsB (s.threads.getD i default).buf m.model) := by
 unfold movesS at h
 split at h
 ·rename_i hf
  refine ⟨hf, ?_⟩
  obtain ⟨i, hi, hx⟩ := List.mem_flatMap.1 h
  refine ⟨i, List.mem_range.1 hi, ?_⟩
  unfold movesT at hx
  rcases List.mem_append.1 hx with hx | hx
  ·split at hx
   ·rename_i hs
    rw [List.mem_singleton] at hx
    exact .inl ⟨hx, Option.isSome_iff_exists.1 hs⟩
   ·simp at hx
  ·obtain ⟨v, hv, rfl⟩ := List.mem_map.1 hx
   exact .inr ⟨v, rfl, hv⟩
 ·simp at h
theorem do_moves {c : CodeD} {m : MachD} {s : StateD} {d : Nat} {x : MoveD} (h : x ∈ movesS c m s d) : ∃ i, i < s.threads.length ∧ ((x = ⟨1, i, 0⟩ ∧ ∃ t, stepS c m s i d = some t ∧ doS c m s x d = (t, 0)) ∨ ∃ v, x = ⟨2, i, v⟩ ∧ v ∈ headsB (s.threads.getD i default).buf m.model ∧ doS c m s x d = (flushS s i v, 0)) := by
 obtain ⟨hf, i, hi, hx⟩ := moves_mem h
 refine ⟨i, hi, ?_⟩
 rcases hx with ⟨rfl, t, ht⟩ | ⟨v, rfl, hv⟩
 ·refine .inl ⟨rfl, t, ht, ?_⟩
  unfold doS
  rw [if_pos hf, if_pos ⟨by show (0 : Int) ≤ (i : Int); omega, by show (i : Int) < _; omega⟩, if_pos ⟨rfl, rfl⟩]
  rw [show (⟨1, (i : Int), 0⟩ : MoveD).thread.toNat = i from Int.toNat_natCast i, ht]
 ·refine .inr ⟨v, rfl, hv, ?_⟩
  unfold doS
  rw [if_pos hf, if_pos ⟨by show (0 : Int) ≤ (i : Int); omega, by show (i : Int) < _; omega⟩, if_neg (by rintro ⟨h, -⟩; exact absurd (show (2 : Int) = 1 from h) (by decide))]
  rw [show (⟨2, (i : Int), v⟩ : MoveD).thread.toNat = i from Int.toNat_natCast i, if_pos ⟨rfl, hv⟩]
section
variable {c : CodeD} {m : MachD} {d R : Nat} {P : StateD → Prop}
end
end Go.Proofs.YtliajkheeniljaaGreatDoor
namespace Go.Proofs.YtliajkheeniljaaGreatDoor
open Go.RowKit Go.ChangeShapes Go.WideShapes Go.ChangeAt
set_option maxRecDepth 100000
set_option maxHeartbeats 16000000
section
variable {X Z : World} {g : Nat}
end
structure Sp (V X : World) (mb : Option Nat) : Prop where
 below : Below V.heap.size V X
 box : ∀ b, mb = some b → X.heap[b]? = some (.cells #[.slice none 0 0, .slice none 0 0, .slice none 0 0] 71 (0, 0)) ∧ V.heap.size ≤ b
section
variable {V X Y : World} {mb : Option Nat}
end
end Go.Proofs.YtliajkheeniljaaGreatDoor
namespace Go.Proofs.YtliajkheeniljaaGreatDoor
open Go.RowKit
set_option maxRecDepth 100000
set_option maxHeartbeats 16000000
theorem u8_in {x : Int} (h : (Lit.int .u8 x).wf = true) : 0 ≤ x ∧ x ≤ 255 := by
 constructor
 ·simp [Lit.wf, IntKind.min, IntKind.max, IntKind.signed] at h; omega
 ·simp [Lit.wf, IntKind.min, IntKind.max, IntKind.signed, IntKind.bits] at h; omega
theorem wrap_u8 {x : Int} (h0 : 0 ≤ x) (h1 : x ≤ 255) : IntKind.i64.wrap x = x := IntWalk.i64_in _ (by omega)
end Go.Proofs.YtliajkheeniljaaGreatDoor
