/- A drawn region whose loads are stable up to its first store: a condition on the world that holds until that store comes. Programs by numbers: what lies in memory while one is made. Programs by numbers: the walk. -/
import Derived.Deep.RegionHeld3
import Derived.IntWalk
import Derived.Lib.Hide
import Derived.Test.YtliajkheeniljaaGreatDoorQBase
import Derived.Test.YtliajkheeniljaaGreatDoorQMakerL
import Derived.Test.YtliajkheeniljaaGreatDoorQTreeR
import Derived.Test.YtliajkheeniljaaGreatDoorQShort
set_option linter.all false
namespace Go.Proofs.YtliajkheeniljaaGreatDoor
open Go.RowKit
set_option maxRecDepth 100000
set_option maxHeartbeats 16000000
theorem makerAll (W0 : World) (g : Nat) (lv : Value) (l : List Int) (hn : NumsAt W0 .u8 lv l) (kv : Value) (ks : List Int) (hks : IntsAt W0 kv ks) (hk1 : 1 ≤ ks.length) (hk2 : ks.length ≤ 100) (hk3 : ∀ k ∈ ks, 1 ≤ k ∧ k ≤ 11) (vars dom : Nat) (hv1 : 1 ≤ vars) (hv2 : vars ≤ 10) (hd1 : 2 ≤ dom) (hd2 : dom ≤ 16) (d : Nat) (hd : d ≤ 10) :
  ListSays W0 g lv kv vars dom d := by
 obtain ⟨ka, kc, hkv, -⟩ := SliceR.slice hks
 induction d with
 | zero => exact makeL_of W0 g lv kv vars dom 0 (makeS_of W0 g lv l hn kv ks hks hk1 hk2 hk3 vars dom hv1 hv2 hd1 hd2 0 (by omega) (fun h => by omega)) ka _ kc hkv
 | succ d ih => exact makeL_of W0 g lv kv vars dom (d + 1) (makeS_of W0 g lv l hn kv ks hks hk1 hk2 hk3 vars dom hv1 hv2 hd1 hd2 (d + 1) hd (fun _ => ih (by omega))) ka _ kc hkv
def kindsL : List Int := [1, 2, 1, 2, 3, 4, 5, 6, 7, 8, 9, 10, 11]
theorem kinds_any (w : World) : Calls Tryz.prog 21 #[] w fun e w' => (∃ kv, e = .returned kv ∧ IntsAt w' kv kindsL) ∧ Below w.heap.size w w' := by
 have hb := (Below.refl w.heap.size w).alloc (Nat.le_refl _) (.cells #[.int .i64 1, .int .i64 2, .int .i64 1, .int .i64 2, .int .i64 3, .int .i64 4, .int .i64 5, .int .i64 6, .int .i64 7, .int .i64 8, .int .i64 9, .int .i64 10, .int .i64 11] 3)
 have hg := qhn w (.cells #[.int .i64 1, .int .i64 2, .int .i64 1, .int .i64 2, .int .i64 3, .int .i64 4, .int .i64 5, .int .i64 6, .int .i64 7, .int .i64 8, .int .i64 9, .int .i64 10, .int .i64 11] 3)
 have hr := ints_of (w := w.alloc (.cells #[.int .i64 1, .int .i64 2, .int .i64 1, .int .i64 2, .int .i64 3, .int .i64 4, .int .i64 5, .int .i64 6, .int .i64 7, .int .i64 8, .int .i64 9, .int .i64 10, .int .i64 11] 3)) (l := kindsL) (B := 0) (sv := .slice (some ⟨w.heap.size, 0, none⟩) 13 13) (row_of_block (n := 13) (cs := flatC intC kindsL) hg (Nat.zero_le _) rfl (by decide))
 have HB := qh hb
 have HR := qh hr
 clear hb hg hr
 go_enter Tryz.func21, Tryz.ntmps21
 go_wp2_with fail
 go_ret
 exact ⟨⟨_, rfl, HR.out⟩, HB.out⟩
def namesC : List Value := [.string ⟨#[120]⟩, .string ⟨#[121]⟩, .string ⟨#[122]⟩]
theorem names_at {X : World} {gv n : Nat} (h : X.heap[gv]? = some (.cells namesC.toArray 9 (0, 0))) (hn : n ≤ 3) : VarsAt X (.slice (some ⟨gv, 0, none⟩) n 3) (xyz.take n) := by
 have hl : (xyz.take n).length = n := by rw [List.length_take]; simp [xyz]; omega
 refine ⟨_, 3, by rw [hl], by rw [hl]; omega, fun j hj => ?_⟩
 rw [hl] at hj
 have e : (xyz.take n).getD j default = xyz.getD j default := by simp only [List.getD_eq_getElem?_getD, List.getElem?_take_of_lt hj]
 have hj3 : j = 0 ∨ j = 1 ∨ j = 2 := by omega
 rw [e]
 rcases hj3 with rfl | rfl | rfl
 ·refine ⟨gv, 0, [.string ⟨#[120]⟩], rfl, qlb h, rfl, fun i hi => ?_, rfl⟩
  obtain rfl : i = 0 := by omega
  rw [qcb h]; rfl
 ·refine ⟨gv, 0, [.string ⟨#[121]⟩], rfl, qlb h, rfl, fun i hi => ?_, rfl⟩
  obtain rfl : i = 0 := by omega
  rw [qcb h]; rfl
 ·refine ⟨gv, 0, [.string ⟨#[122]⟩], rfl, qlb h, rfl, fun i hi => ?_, rfl⟩
  obtain rfl : i = 0 := by omega
  rw [qcb h]; rfl
def PF (va : Value) (g gp gr : Nat) (k : Nat) : Prop := va.ownBlock = some k ∨ k = g ∨ k = gp ∨ k = gr
structure MadeL (w X : World) (g gv gp gr : Nat) (sv : Value) (n dm i : Nat) (va : Value) (T : List (List StmtT)) (css : List (List Value)) : Prop where
 mkr : ∃ a', MkAt w X g sv a' ∧ a' ≤ 10 + i * 5000
 box : X.heap[gp]? = some (.cells #[.slice (some ⟨gv, 0, none⟩) n 3, .int .i64 dm, va] 92 (0, 0))
 vars : X.heap[gv]? = some (.cells namesC.toArray 9 (0, 0))
 res : X.heap[gr]? = some (.cells #[.slice none 0 0, .int .i64 0, .slice none 0 0] 92 (0, 0))
 lo : w.heap.size ≤ g ∧ w.heap.size ≤ gv ∧ w.heap.size ≤ gp ∧ w.heap.size ≤ gr ∧ g ≠ gp ∧ g ≠ gr ∧ gp ≠ gr ∧ gv ≠ g ∧ gv ≠ gp ∧ gv ≠ gr
 len : T.length = i
 ok : ∀ l ∈ T, stmtsOk n dm l 20 = true ∧ stmtsN l ≤ 52
 row : ThingsC (PF va g gp gr) X (ThrR 3 4) 1 w.heap.size 129 va T css
section
variable {w X Y : World} {g gv gp gr : Nat} {sv : Value} {n dm i : Nat} {va : Value} {T : List (List StmtT)} {css : List (List Value)}
theorem MadeL.own_ne (h : MadeL w X g gv gp gr sv n dm i va T css) : ∀ k, va.ownBlock = some k → k ≠ g ∧ k ≠ gp ∧ k ≠ gr ∧ k ≠ gv := fun k hk => by
 obtain ⟨a', hm, -⟩ := h.mkr
 exact ⟨fun e => by subst e; exact row_type h.row.row hk hm.box (by decide), fun e => by subst e; exact row_type h.row.row hk h.box (by decide), fun e => by subst e; exact row_type h.row.row hk h.res (by decide), fun e => by subst e; exact row_type h.row.row hk h.vars (by decide)⟩
theorem MadeL.lt (h : MadeL w X g gv gp gr sv n dm i va T css) : ∀ k, PF va g gp gr k → k < X.heap.size := fun k hk => by
 obtain ⟨a', hm, -⟩ := h.mkr
 rcases hk with hk | rfl | rfl | rfl
 ·exact (h.row.row.lt k hk).2
 ·exact qlb hm.box
 ·exact qlb h.box
 ·exact qlb h.res
theorem MadeL.push {xc ln rc a1 oc : Nat} {Z : World} {oa ra xa : Option Addr} {l : List StmtT} {o : Obj} (h : MadeL w X g gv gp gr sv n dm i (.slice oa i oc) T css) (hs : Since (fun k => k = g) X Y) (hm : MkAt w Y g sv a1) (ha : a1 ≤ 10 + i * 5000 + 5000) (hok : stmtsOk n dm l 20 = true ∧ stmtsN l ≤ 52) (hlen : l.length = ln)
  (haw : Away (fun k => k < X.heap.size) Y (fun y => StmtsAt 3 4 y l (.slice ra ln rc))) (h1 : Z.ownsRow w.heap.size 129 1 (.slice xa (i + 1) xc) (i + 1) (css.flatten ++ [.slice ra ln rc])) (h4 : Since (fun k => (Value.slice oa i oc).ownBlock = some k) (Y.alloc o) Z) (h5 : ∀ k, (Value.slice xa (i + 1) xc).ownBlock = some k → (Value.slice oa i oc).ownBlock = some k ∨ k = (Y.alloc o).heap.size) :
  Z.heap[gp]? = some (.cells #[.slice (some ⟨gv, 0, none⟩) n 3, .int .i64 dm, .slice oa i oc] 92 (0, 0)) ∧ MadeL w (Z.setCell ⟨gp, 2, none⟩ (.slice xa (i + 1) xc)) g gv gp gr sv n dm (i + 1) (.slice xa (i + 1) xc) (T ++ [l]) (css ++ [[.slice ra ln rc]]) := by
 have hlo := h.lo
 have hne := h.own_ne
 have hlt := h.lt
 have s1 : Since (fun k => (Value.slice oa i oc).ownBlock = some k) Y Z := ((Since.refl _ Y).alloc o).trans h4 (fun k hk => .inl hk)
 have s2 : Since (fun k => k = gp) Z (Z.setCell ⟨gp, 2, none⟩ (.slice xa (i + 1) xc)) := Since.setCell (F := fun k => k = gp) (p := ⟨gp, 2, none⟩) (Since.refl _ _) (.inl rfl) _
 have s3 : Since (fun k => (Value.slice oa i oc).ownBlock = some k ∨ k = gp) Y (Z.setCell ⟨gp, 2, none⟩ (.slice xa (i + 1) xc)) := (s1.mono (fun k _ hk => .inl hk)).trans s2 (fun k hk => .inl (.inr hk))
 have ybox := (hs.block _ (qlb h.box) (by omega)).trans h.box
 have yvars := (hs.block _ (qlb h.vars) (by omega)).trans h.vars
 have yres := (hs.block _ (qlb h.res) (by omega)).trans h.res
 have hbox := (s1.block _ (qlb ybox) (fun e => (hne _ e).2.1 rfl)).trans ybox
 have hvars := (s1.block _ (qlb yvars) (fun e => (hne _ e).2.2.2 rfl)).trans yvars
 have hres := (s1.block _ (qlb yres) (fun e => (hne _ e).2.2.1 rfl)).trans yres
 have hnew : ∀ k, (Value.slice xa (i + 1) xc).ownBlock = some k → k ≠ gp := fun k hk e => by
  rcases h5 k hk with h1 | h1
  ·exact (hne k h1).2.1 e
  ·have := qlb ybox; simp at h1; omega
 refine ⟨hbox, ⟨⟨a1, hm.since s3 (fun k hk => ?_), by omega⟩, ?_, (s2.block _ (qlb hvars) (by omega)).trans hvars, (s2.block _ (qlb hres) (by omega)).trans hres, hlo, by simp [h.len], fun y hy => ?_, ?_⟩⟩
 ·rcases hk with hk | hk
  ·have := (h.row.row.lt k hk).1; have := (hne k hk).1; omega
  ·omega
 ·have := set_of_block hbox 2 (.slice xa (i + 1) xc); simpa using this
 ·rcases List.mem_append.1 hy with hy | hy
  ·exact h.ok y hy
  ·rw [List.mem_singleton] at hy; subst hy; exact hok
 ·have hrow := h.row.step (F' := PF (.slice oa i oc) g gp gr) hs (fun k hk e => (hne k hk).1 e) (fun k hk => .inl (.inr (.inl hk))) (fun k hk => .inl hk)
  refine hrow.push s3 (fun k hk => ?_) (fun k hk => ?_) (fun y hy => ⟨_, rfl, haw y (hy.mono (fun k _ hk => hlt k hk))⟩) rfl ?_
  ·rcases hk with hk | hk
   ·exact .inl (.inl hk)
   ·exact .inl (.inr (.inr (.inl hk)))
  ·rcases hk with hk | hk | hk | hk
   ·rcases h5 k hk with h1 | h1
    ·exact .inl (.inl h1)
    ·exact .inr (by simp at h1; omega)
   ·exact .inl (.inr (.inl hk))
   ·exact .inl (.inr (.inr (.inl hk)))
   ·exact .inl (.inr (.inr (.inr hk)))
  ·rw [h.len]; exact s2.row h1 hnew
end
def MadeEnd (w : World) (en : Ending) (w' : World) : Prop := (∃ p vv tv, en = .returned (progV p vv tv) ∧ GoodP p ∧ ProgAt 3 4 w' p vv tv) ∧ Below w.heap.size w w'
theorem sum_52 {T : List (List StmtT)} (h : ∀ l ∈ T, stmtsN l ≤ 52) : (T.map stmtsN).sum ≤ T.length * 52 := by
 induction T with
 | nil => simp
 | cons l T ih =>
  have h1 := h l (by simp)
  have h2 := ih (fun x hx => h x (by simp [hx]))
  simp only [List.map_cons, List.sum_cons, List.length_cons]; omega
theorem madeEnd_of {w X : World} {g gv gp gr : Nat} {sv : Value} {n dm i oc : Nat} {oa : Option Addr} {T : List (List StmtT)} {css : List (List Value)} (h : MadeL w X g gv gp gr sv n dm i (.slice oa i oc) T css) (hn1 : 1 ≤ n) (hn3 : n ≤ 3) (hd1 : 2 ≤ dm) (hd2 : dm ≤ 16) (hi1 : 1 ≤ i) (hi3 : i ≤ 3) :
  MadeEnd w (.returned (.agg #[.slice (some ⟨gv, 0, none⟩) n 3, .int .i64 dm, .slice oa i oc])) (setAll X gr 0 [.slice (some ⟨gv, 0, none⟩) n 3, .int .i64 dm, .slice oa i oc]) ∧
  (setAll X gr 0 [.slice (some ⟨gv, 0, none⟩) n 3, .int .i64 dm, .slice oa i oc]).heap[gr]? = some (.cells #[.slice (some ⟨gv, 0, none⟩) n 3, .int .i64 dm, .slice oa i oc] 92 (0, 0)) := by
 have hlo := h.lo
 have s := setAll_since (g := gr) [.slice (some ⟨gv, 0, none⟩) n 3, .int .i64 dm, .slice oa i oc] X 0
 have hvl : (xyz.take n).length = n := by rw [List.length_take]; simp [xyz]; omega
 obtain ⟨a', hm, -⟩ := h.mkr
 have hl := h.len
 refine ⟨⟨⟨⟨xyz.take n, dm, T⟩, .slice (some ⟨gv, 0, none⟩) n 3, .slice oa i oc, rfl, ⟨⟨n, hn1, hn3, rfl⟩, ⟨by show (2 : Int) ≤ (dm : Int); omega, by show (dm : Int) ≤ 16; omega⟩, ⟨by show 1 ≤ T.length; omega, by show T.length ≤ 3; omega⟩, fun l hl => ?_, ?_⟩, ⟨?_, ?_⟩⟩, hm.below.trans (s.below hm.below.size (fun k hk => by omega))⟩, ?_⟩
 ·show stmtsOk ((xyz.take n).length : Nat) dm l 20 = true
  rw [hvl]; exact (h.ok l hl).1
 ·have := sum_52 (fun l hl => (h.ok l hl).2)
  show (T.map stmtsN).sum ≤ 200
  omega
 ·exact names_at ((s.block _ (qlb h.vars) (by omega)).trans h.vars) hn3
 ·exact (h.row.step (F' := fun _ => False) s (fun k hk e => (h.own_ne k hk).2.2.1 e) (fun k hk => .inl (.inr (.inr (.inr hk)))) (fun _ h => h.elim)).slice
 ·exact setAll_new (cs := [.slice none 0 0, .int .i64 0, .slice none 0 0]) _ rfl h.res
end Go.Proofs.YtliajkheeniljaaGreatDoor
namespace Go.Proofs.YtliajkheeniljaaGreatDoor
open Go.RowKit
set_option maxRecDepth 100000
set_option maxHeartbeats 16000000
structure R2 (w X : World) (g gr : Nat) (sv : Value) (a : Nat) (mv mp : Option Nat) : Prop where
 mkr : MkAt w X g sv a
 res : X.heap[gr]? = some (.cells #[.slice none 0 0, .int .i64 0, .slice none 0 0] 92 (0, 0))
 lo : w.heap.size ≤ gr ∧ g ≠ gr
 vars : ∀ b, mv = some b → X.heap[b]? = some (.cells namesC.toArray 9 (0, 0)) ∧ w.heap.size ≤ b ∧ b ≠ g ∧ b ≠ gr
 prog : ∀ b, mp = some b → X.heap[b]? = some (.cells #[.slice none 0 0, .int .i64 0, .slice none 0 0] 92 (0, 0)) ∧ w.heap.size ≤ b ∧ b ≠ g ∧ b ≠ gr
 ne : ∀ b c, mv = some b → mp = some c → b ≠ c
section
variable {w X Y : World} {g gr a b : Nat} {sv : Value} {mv mp : Option Nat}
theorem R2.pick (h : R2 w X g gr sv a mv mp) (hm : MkAt w Y g sv b) (hs : Since (fun k => k = g) X Y) : R2 w Y g gr sv b mv mp :=
 ⟨hm, (hs.block _ (qlb h.res) (fun e => h.lo.2 e.symm)).trans h.res, h.lo, fun c hc => ⟨(hs.block _ (qlb (h.vars c hc).1) (h.vars c hc).2.2.1).trans (h.vars c hc).1, (h.vars c hc).2⟩, fun c hc => ⟨(hs.block _ (qlb (h.prog c hc).1) (h.prog c hc).2.2.1).trans (h.prog c hc).1, (h.prog c hc).2⟩, h.ne⟩
theorem R2.names (h : R2 w X g gr sv a none mp) : R2 w (X.alloc (.cells namesC.toArray 9)) g gr sv a (some X.heap.size) mp := by
 have hb := (Below.refl X.heap.size X).alloc (Nat.le_refl _) (.cells namesC.toArray 9)
 have h1 := h.mkr.below.size
 have h2 := qlb h.mkr.box
 have h3 := qlb h.res
 refine ⟨h.mkr.later hb, (hb.block _ h3).trans h.res, h.lo, fun c hc => ?_, fun c hc => ⟨(hb.block _ (qlb (h.prog c hc).1)).trans (h.prog c hc).1, (h.prog c hc).2⟩, fun c e hc he => ?_⟩
 ·cases hc; exact ⟨qhn X _, h1, by omega, by omega⟩
 ·cases hc; have := qlb (h.prog e he).1; omega
theorem R2.box (h : R2 w X g gr sv a mv none) : R2 w (X.alloc (.cells #[.slice none 0 0, .int .i64 0, .slice none 0 0] 92)) g gr sv a mv (some X.heap.size) := by
 have hb := (Below.refl X.heap.size X).alloc (Nat.le_refl _) (.cells #[.slice none 0 0, .int .i64 0, .slice none 0 0] 92)
 have h1 := h.mkr.below.size
 have h2 := qlb h.mkr.box
 have h3 := qlb h.res
 refine ⟨h.mkr.later hb, (hb.block _ h3).trans h.res, h.lo, fun c hc => ⟨(hb.block _ (qlb (h.vars c hc).1)).trans (h.vars c hc).1, (h.vars c hc).2⟩, fun c hc => ?_, fun c e hc he => ?_⟩
 ·cases hc; exact ⟨qhn X _, h1, by omega, by omega⟩
 ·cases he; have := qlb (h.vars c hc).1; omega
theorem R2.done {gv gp n dm : Nat} (h : R2 w X g gr sv a (some gv) (some gp)) (ha : a ≤ 9) : MadeL w (setAll X gp 0 [.slice (some ⟨gv, 0, none⟩) n 3, .int .i64 dm, .slice none 0 0]) g gv gp gr sv n dm 0 (.slice none 0 0) [] [] ∧ ∃ a, MkAt w (setAll X gp 0 [.slice (some ⟨gv, 0, none⟩) n 3, .int .i64 dm, .slice none 0 0]) g sv a ∧ a ≤ 9 := by
 obtain ⟨v1, v2, v3, v4⟩ := h.vars gv rfl
 obtain ⟨p1, p2, p3, p4⟩ := h.prog gp rfl
 have hne := h.ne gv gp rfl rfl
 have hlo := h.lo
 have hg := h.mkr.lo
 have s := setAll_since (g := gp) [.slice (some ⟨gv, 0, none⟩) n 3, .int .i64 dm, .slice none 0 0] X 0
 exact ⟨⟨⟨a, h.mkr.since s (fun k hk => by omega), by omega⟩, setAll_new (cs := [.slice none 0 0, .int .i64 0, .slice none 0 0]) _ rfl p1, (s.block _ (qlb v1) hne).trans v1, (s.block _ (qlb h.res) (by omega)).trans h.res, ⟨hg, v2, p2, hlo.1, by omega, by omega, by omega, by omega, by omega, by omega⟩, rfl, fun l hl => by simp at hl, ThingsC.nil _ _ _ _ _ _⟩, a, h.mkr.since s (fun k hk => by omega), ha⟩
end
theorem MadeL.picked {w X Y : World} {g gv gp gr n dm i b : Nat} {sv va : Value} {T : List (List StmtT)} {css : List (List Value)} (h : MadeL w X g gv gp gr sv n dm i va T css) (hs : Since (fun k => k = g) X Y) (hm : MkAt w Y g sv b) (hb : b ≤ 10 + i * 5000) : MadeL w Y g gv gp gr sv n dm i va T css := by
 have hlo := h.lo
 exact ⟨⟨b, hm, hb⟩, (hs.block _ (qlb h.box) (by omega)).trans h.box, (hs.block _ (qlb h.vars) (by omega)).trans h.vars, (hs.block _ (qlb h.res) (by omega)).trans h.res, hlo, h.len, h.ok, h.row.step hs (fun k hk e => (h.own_ne k hk).1 e) (fun k hk => .inl (.inr (.inl hk))) (fun k hk => .inl hk)⟩
theorem MadeL.drew {w X : World} {g gv gp gr n dm i : Nat} {sv va : Value} {T : List (List StmtT)} {css : List (List Value)} (h : MadeL w X g gv gp gr sv n dm i va T css) : MadeL w X.drew g gv gp gr sv n dm i va T css := by
 obtain ⟨a, hm, ha⟩ := h.mkr
 exact h.picked (Since.drew _ (Since.refl _ X)) (hm.later (Below.refl _ _).drew) ha
theorem program_size : (Tryz.prog.info? 92).map (·.size) = some 3 := by kernel_rfl
theorem stmts_info : (Tryz.prog.info? 129).map (fun i => (i.zero, i.size, i.bytes)) = some (some (.slice none 0 0), 1, 24) := by kernel_rfl
theorem wrapN (n : Nat) (h : n ≤ 100) : IntKind.i64.wrap (n : Int) = (n : Int) := IntWalk.i64_in _ (by omega)
theorem made2_any (w : World) (sv : Value) (l : List Int) (hn : NumsAt w .u8 sv l) (kv : Value) (ks : List Int) (hks : IntsAt w kv ks) (hk1 : 1 ≤ ks.length) (hk2 : ks.length ≤ 100) (hk3 : ∀ k ∈ ks, 1 ≤ k ∧ k ≤ 11) :
  Calls Tryz.prog 48 #[sv, kv] w (MadeEnd w) := by
 have hpick := fun W g a n ni hni h n1 n2 ha => pick_lit w W g sv l a n ni hni h hn n1 n2 ha
 have hlist := fun g vars dom hv1 hv2 hd1 hd2 => makerAll w g sv l hn kv ks hks hk1 hk2 hk3 vars dom hv1 hv2 hd1 hd2 2 (by omega)
 have hst2 : 4 * stmtK 2 = 1040 := rfl
 have hmn2 : 4 * manyS 2 = 52 := rfl
 have hlist2 : ∀ (g vars dom : Nat), 1 ≤ vars → vars ≤ 10 → 2 ≤ dom → dom ≤ 16 → ∀ (W : World) (a n : Nat), MkAt w W g sv a → n ≤ 4 → a ≤ 100000 → Calls Tryz.prog 78 #[.pointer (some ⟨g, 0, none⟩), .int .i64 n, .int .i64 2, .int .i64 vars, .int .i64 dom, kv] W fun e w' => ∃ (L : List StmtT) (va : Option Addr) (vc a' : Nat), e = .returned (.slice va L.length vc) ∧ (stmtsOk vars dom L 20 = true ∧ stmtsN L ≤ 52) ∧
   Away (fun k => k < W.heap.size) w' (fun y => StmtsAt 3 4 y L (.slice va L.length vc)) ∧ MkAt w w' g sv a' ∧ a' ≤ a + 1040 ∧ Since (fun k => k = g) W w' := fun g vars dom hv1 hv2 hd1 hd2 W a n hm hn4 ha => by
  refine (hlist g vars dom hv1 hv2 hd1 hd2 W a n 4 n rfl hm hn4 (by omega) (by omega)).mono ?_
  rintro e w' ⟨L, va, vc, a', h1, h2, h3, h4, h5, h6, h7⟩
  exact ⟨L, va, vc, a', h1, ⟨stmtsOk_le h2 (by omega), by omega⟩, h4, h5, by omega, h7⟩
 obtain ⟨sa, sc, rfl, -⟩ : ∃ a c, sv = .slice a l.length c ∧ True := by obtain ⟨a, c, h, -⟩ := hn; exact ⟨a, c, h, trivial⟩
 obtain ⟨ka, kc, rfl, -⟩ := SliceR.slice hks
 generalize l.length = ln at hpick hlist2 ⊢
 generalize ks.length = kn at hlist2 ⊢
 have HPICK := qh hpick
 have HLIST := qh hlist2
 clear hpick hlist hlist2 hst2 hmn2 hn hks hk1 hk2 hk3
 have hB := ((Below.refl w.heap.size w).alloc (Nat.le_refl _) (.cells #[.slice none 0 0, .int .i64 0, .slice none 0 0] 92)).alloc (by simp) (.cells #[.slice sa ln sc, .int .i64 0] 132)
 have H1 := boxes_first w (.cells #[.slice none 0 0, .int .i64 0, .slice none 0 0] 92) (.cells #[.slice sa ln sc, .int .i64 0] 132)
 have H2 := boxes_second w (.cells #[.slice none 0 0, .int .i64 0, .slice none 0 0] 92) (.cells #[.slice sa ln sc, .int .i64 0] 132)
 have HR : Hid (R2 w ((w.alloc (.cells #[.slice none 0 0, .int .i64 0, .slice none 0 0] 92)).alloc (.cells #[.slice sa ln sc, .int .i64 0] 132)) (w.heap.size + 1) w.heap.size (.slice sa ln sc) 0 none none) := ⟨⟨hB, by omega, H2⟩, H1, ⟨Nat.le_refl _, by omega⟩, (fun _ h => by cases h), (fun _ h => by cases h), (fun _ _ h => by cases h)⟩
 clear hB H1 H2
 go_enter Tryz.func48, Tryz.ntmps48
 go_upto_region 2 with fail
 generalize World.alloc (World.alloc w _) _ = V at HR ⊢
 generalize w.heap.size + 1 = g at HR ⊢
 obtain ⟨gr, hgr⟩ : ∃ gr, gr = w.heap.size := ⟨_, rfl⟩
 rw [← hgr] at HR ⊢
 have HGR := qh hgr
 clear hgr
 go_cut [6] (fun s6 w' => ∃ gv gp n dm : Nat, s6 = .pointer (some ⟨gp, 0, none⟩) ∧ 1 ≤ n ∧ n ≤ 3 ∧ 2 ≤ dm ∧ dm ≤ 4 ∧ Hid (MadeL w w' g gv gp gr (.slice sa ln sc) n dm 0 (.slice none 0 0) [] []) ∧ Hid (∃ a, MkAt w w' g (.slice sa ln sc) a ∧ a ≤ 9))
 case first =>
  have hT0 : Hid (R2 w V.drew g w.heap.size (.slice sa ln sc) 0 none none) := by have h := HR.out; rw [HGR.out] at h; exact h.pick (h.mkr.later (Below.refl _ _).drew) (Since.drew _ (Since.refl _ _))
  rw [← HGR.out] at hT0
  clear HR
  refine wp_region_noPanic ?_
  refine wp_region_held_drew (S := fun x => Below w.heap.size w x) (by kernel_rfl) hT0.out.mkr.below (fun _ => ?_)
  obtain ⟨V1, hV1⟩ : ∃ V1, V1 = V.drew := ⟨_, rfl⟩
  rw [← hV1]
  rw [← hV1] at hT0
  clear hV1
  refine qtk 1 12 ?vp1 rfl ?hyp1 (hT0.out.mkr.below) ?_
  case hyp1 => (intro _ _; go_simp <;> rfl)
  simp only [Act.put, qz1, qz2, qz3]
  refine qtk 5 16 ?vp2 rfl ?hyp2 (hT0.out.mkr.below) ?_
  case hyp2 => (intro _ _; go_simp <;> rfl)
  simp only [Act.put, qz1, qz2, qz3]
  refine wpAnyH_ready (rs := [0, 2, 9]) (by kernel_rfl) (by simp) ?_
  refine AllReadyH.cons rfl (fun K hK => ?_) (AllReadyH.cons rfl (fun K hK => ?_) (AllReadyH.cons rfl (fun K hK => ?_) AllReadyH.nil))
  ·skip
   go_simp
   have hTp1 := hT0.out.names
   unfold namesC at hTp1
   refine hK.out _ _ hTp1.mkr.below (fun _ => ?_)
   obtain ⟨gv, hgv⟩ : ∃ n, n = V1.heap.size := ⟨_, rfl⟩
   rw [← hgv] at hTp1 ⊢
   clear hgv
   generalize World.alloc V1 _ = Xp2 at hTp1 ⊢
   replace hTp1 := qh hTp1
   clear hK K
   refine wpAnyH_ready (rs := [2, 9]) (by kernel_rfl) (by simp) ?_
   refine AllReadyH.cons rfl (fun K hK => ?_) (AllReadyH.cons rfl (fun K hK => ?_) AllReadyH.nil)
   ·skip
    go_simp
    refine (HPICK.out Xp2 g _ 3 3 rfl hTp1.out.mkr (by omega) (by omega) (by omega)).mono ?_
    rintro en Xp4 ⟨r1, hr1, rfl, hmk, hsi⟩
    have hTp3 := qh (hTp1.out.pick hmk hsi)
    clear hmk hsi
    refine hK.out _ _ hTp3.out.mkr.below (fun _ => ?_)
    obtain ⟨n, hn⟩ : ∃ n : Nat, (1 : Int) + (r1 : Int) = (n : Int) := ⟨1 + r1, by omega⟩
    have bn1 : 1 ≤ n := by omega
    have bn2 : n ≤ 3 := by omega
    have wn := wrapN n (by omega)
    have zn : (0 : Int) ≤ (n : Int) := by omega
    have yn : (n : Int) ≤ 3 := by omega
    clear hK K
    refine qtk 3 14 ?vp3 rfl ?hyp3 (hTp3.out.mkr.below) ?_
    case hyp3 => (intro _ _; go_simp <;> rfl)
    simp only [Act.put, qz1, qz2, qz3]
    refine qtk 4 15 ?vp4 rfl ?hyp4 (hTp3.out.mkr.below) ?_
    case hyp4 => (intro _ _; go_simp <;> rfl)
    simp only [Act.put, qz1, qz2, qz3]
    refine wpAnyH_ready (rs := [6, 9]) (by kernel_rfl) (by simp) ?_
    refine AllReadyH.cons rfl (fun K hK => ?_) (AllReadyH.cons rfl (fun K hK => ?_) AllReadyH.nil)
    ·skip
     go_simp
     refine (HPICK.out Xp4 g _ 3 3 rfl hTp3.out.mkr (by omega) (by omega) (by omega)).mono ?_
     rintro en Xp6 ⟨r2, hr2, rfl, hmk, hsi⟩
     have hTp5 := qh (hTp3.out.pick hmk hsi)
     clear hmk hsi
     refine hK.out _ _ hTp5.out.mkr.below (fun _ => ?_)
     obtain ⟨dm, hdm⟩ : ∃ n : Nat, (2 : Int) + (r2 : Int) = (n : Int) := ⟨2 + r2, by omega⟩
     have bdm1 : 2 ≤ dm := by omega
     have bdm2 : dm ≤ 4 := by omega
     have wdm := wrapN dm (by omega)
     have zdm : (0 : Int) ≤ (dm : Int) := by omega
     skip
     clear hK K
     refine qtk 7 18 ?vp5 rfl ?hyp5 (hTp5.out.mkr.below) ?_
     case hyp5 => (intro _ _; go_simp <;> rfl)
     simp only [Act.put, qz1, qz2, qz3]
     refine qtk 8 19 ?vp6 rfl ?hyp6 (hTp5.out.mkr.below) ?_
     case hyp6 => (intro _ _; go_simp <;> rfl)
     simp only [Act.put, qz1, qz2, qz3]
     refine qrH 9 rfl (fun K hK => ?_)
     go_simp
     have hTp7 := hTp5.out.box
     refine hK.out _ _ hTp7.mkr.below (fun _ => ?_)
     obtain ⟨gp, hgp⟩ : ∃ n, n = Xp6.heap.size := ⟨_, rfl⟩
     rw [← hgp] at hTp7 ⊢
     clear hgp
     generalize World.alloc Xp6 _ = Xp8 at hTp7 ⊢
     replace hTp7 := qh hTp7
     clear hK K
     refine qrH 10 rfl (fun K hK => ?_)
     obtain ⟨hp, -, -, -⟩ := hTp7.out.prog gp rfl
     have q0 : Xp8.cell? ⟨gp, 0, none⟩ = some (.slice none 0 0) := qcb hp 0
     have f0 := qfb hp 0
     have q1 : Xp8.cell? ⟨gp, 1, none⟩ = some (.int .i64 0) := qcb hp 1
     have f1 := qfb hp 1
     have q2 : Xp8.cell? ⟨gp, 2, none⟩ = some (.slice none 0 0) := qcb hp 2
     have f2 := qfb hp 2
     clear hp
     go_simp
     have hend := hTp7.out.done (n := n) (dm := dm) (by omega)
     have HEND := qh hend
     refine hK.out _ _ (by obtain ⟨a', hm, -⟩ := hend.2; exact hm.below) (fun _ => ?_)
     clear hend q0 q1 q2 f0 f1 f2
     clear hK K
     refine wpAnyH_done (by kernel_rfl) ?_ _
     refine NoPanic.normal ?_
     clear hn hdm wn wdm
     go_wp2_with fail
     go_meet
     case rel => exact ⟨gv, gp, n, dm, rfl, by omega, by omega, by omega, by omega, HEND.out.1, HEND.out.2⟩
    ·skip
     go_simp
     have hTp9 := hTp3.out.box
     refine hK.out _ _ hTp9.mkr.below (fun _ => ?_)
     obtain ⟨gp, hgp⟩ : ∃ n, n = Xp4.heap.size := ⟨_, rfl⟩
     rw [← hgp] at hTp9 ⊢
     clear hgp
     generalize World.alloc Xp4 _ = Xp10 at hTp9 ⊢
     replace hTp9 := qh hTp9
     clear hK K
     refine qrH 6 rfl (fun K hK => ?_)
     go_simp
     refine (HPICK.out Xp10 g _ 3 3 rfl hTp9.out.mkr (by omega) (by omega) (by omega)).mono ?_
     rintro en Xp12 ⟨r2, hr2, rfl, hmk, hsi⟩
     have hTp11 := qh (hTp9.out.pick hmk hsi)
     clear hmk hsi
     refine hK.out _ _ hTp11.out.mkr.below (fun _ => ?_)
     obtain ⟨dm, hdm⟩ : ∃ n : Nat, (2 : Int) + (r2 : Int) = (n : Int) := ⟨2 + r2, by omega⟩
     have bdm1 : 2 ≤ dm := by omega
     have bdm2 : dm ≤ 4 := by omega
     have wdm := wrapN dm (by omega)
     have zdm : (0 : Int) ≤ (dm : Int) := by omega
     skip
     clear hK K
     refine qtk 7 18 ?vp7 rfl ?hyp7 (hTp11.out.mkr.below) ?_
     case hyp7 => (intro _ _; go_simp <;> rfl)
     simp only [Act.put, qz1, qz2, qz3]
     refine qtk 8 19 ?vp8 rfl ?hyp8 (hTp11.out.mkr.below) ?_
     case hyp8 => (intro _ _; go_simp <;> rfl)
     simp only [Act.put, qz1, qz2, qz3]
     refine qrH 10 rfl (fun K hK => ?_)
     obtain ⟨hp, -, -, -⟩ := hTp11.out.prog gp rfl
     have q0 : Xp12.cell? ⟨gp, 0, none⟩ = some (.slice none 0 0) := qcb hp 0
     have f0 := qfb hp 0
     have q1 : Xp12.cell? ⟨gp, 1, none⟩ = some (.int .i64 0) := qcb hp 1
     have f1 := qfb hp 1
     have q2 : Xp12.cell? ⟨gp, 2, none⟩ = some (.slice none 0 0) := qcb hp 2
     have f2 := qfb hp 2
     clear hp
     go_simp
     have hend := hTp11.out.done (n := n) (dm := dm) (by omega)
     have HEND := qh hend
     refine hK.out _ _ (by obtain ⟨a', hm, -⟩ := hend.2; exact hm.below) (fun _ => ?_)
     clear hend q0 q1 q2 f0 f1 f2
     clear hK K
     refine wpAnyH_done (by kernel_rfl) ?_ _
     refine NoPanic.normal ?_
     clear hn hdm wn wdm
     go_wp2_with fail
     go_meet
     case rel => exact ⟨gv, gp, n, dm, rfl, by omega, by omega, by omega, by omega, HEND.out.1, HEND.out.2⟩
   ·skip
    go_simp
    have hTp13 := hTp1.out.box
    refine hK.out _ _ hTp13.mkr.below (fun _ => ?_)
    obtain ⟨gp, hgp⟩ : ∃ n, n = Xp2.heap.size := ⟨_, rfl⟩
    rw [← hgp] at hTp13 ⊢
    clear hgp
    generalize World.alloc Xp2 _ = Xp14 at hTp13 ⊢
    replace hTp13 := qh hTp13
    clear hK K
    refine qrH 2 rfl (fun K hK => ?_)
    go_simp
    refine (HPICK.out Xp14 g _ 3 3 rfl hTp13.out.mkr (by omega) (by omega) (by omega)).mono ?_
    rintro en Xp16 ⟨r1, hr1, rfl, hmk, hsi⟩
    have hTp15 := qh (hTp13.out.pick hmk hsi)
    clear hmk hsi
    refine hK.out _ _ hTp15.out.mkr.below (fun _ => ?_)
    obtain ⟨n, hn⟩ : ∃ n : Nat, (1 : Int) + (r1 : Int) = (n : Int) := ⟨1 + r1, by omega⟩
    have bn1 : 1 ≤ n := by omega
    have bn2 : n ≤ 3 := by omega
    have wn := wrapN n (by omega)
    have zn : (0 : Int) ≤ (n : Int) := by omega
    have yn : (n : Int) ≤ 3 := by omega
    clear hK K
    refine qtk 3 14 ?vp9 rfl ?hyp9 (hTp15.out.mkr.below) ?_
    case hyp9 => (intro _ _; go_simp <;> rfl)
    simp only [Act.put, qz1, qz2, qz3]
    refine qtk 4 15 ?vp10 rfl ?hyp10 (hTp15.out.mkr.below) ?_
    case hyp10 => (intro _ _; go_simp <;> rfl)
    simp only [Act.put, qz1, qz2, qz3]
    refine qrH 6 rfl (fun K hK => ?_)
    go_simp
    refine (HPICK.out Xp16 g _ 3 3 rfl hTp15.out.mkr (by omega) (by omega) (by omega)).mono ?_
    rintro en Xp18 ⟨r2, hr2, rfl, hmk, hsi⟩
    have hTp17 := qh (hTp15.out.pick hmk hsi)
    clear hmk hsi
    refine hK.out _ _ hTp17.out.mkr.below (fun _ => ?_)
    obtain ⟨dm, hdm⟩ : ∃ n : Nat, (2 : Int) + (r2 : Int) = (n : Int) := ⟨2 + r2, by omega⟩
    have bdm1 : 2 ≤ dm := by omega
    have bdm2 : dm ≤ 4 := by omega
    have wdm := wrapN dm (by omega)
    have zdm : (0 : Int) ≤ (dm : Int) := by omega
    skip
    clear hK K
    refine qtk 7 18 ?vp11 rfl ?hyp11 (hTp17.out.mkr.below) ?_
    case hyp11 => (intro _ _; go_simp <;> rfl)
    simp only [Act.put, qz1, qz2, qz3]
    refine qtk 8 19 ?vp12 rfl ?hyp12 (hTp17.out.mkr.below) ?_
    case hyp12 => (intro _ _; go_simp <;> rfl)
    simp only [Act.put, qz1, qz2, qz3]
    refine qrH 10 rfl (fun K hK => ?_)
    obtain ⟨hp, -, -, -⟩ := hTp17.out.prog gp rfl
    have q0 : Xp18.cell? ⟨gp, 0, none⟩ = some (.slice none 0 0) := qcb hp 0
    have f0 := qfb hp 0
    have q1 : Xp18.cell? ⟨gp, 1, none⟩ = some (.int .i64 0) := qcb hp 1
    have f1 := qfb hp 1
    have q2 : Xp18.cell? ⟨gp, 2, none⟩ = some (.slice none 0 0) := qcb hp 2
    have f2 := qfb hp 2
    clear hp
    go_simp
    have hend := hTp17.out.done (n := n) (dm := dm) (by omega)
    have HEND := qh hend
    refine hK.out _ _ (by obtain ⟨a', hm, -⟩ := hend.2; exact hm.below) (fun _ => ?_)
    clear hend q0 q1 q2 f0 f1 f2
    clear hK K
    refine wpAnyH_done (by kernel_rfl) ?_ _
    refine NoPanic.normal ?_
    clear hn hdm wn wdm
    go_wp2_with fail
    go_meet
    case rel => exact ⟨gv, gp, n, dm, rfl, by omega, by omega, by omega, by omega, HEND.out.1, HEND.out.2⟩
  ·skip
   go_simp
   refine (HPICK.out V1 g _ 3 3 rfl hT0.out.mkr (by omega) (by omega) (by omega)).mono ?_
   rintro en Xp20 ⟨r1, hr1, rfl, hmk, hsi⟩
   have hTp19 := qh (hT0.out.pick hmk hsi)
   clear hmk hsi
   refine hK.out _ _ hTp19.out.mkr.below (fun _ => ?_)
   obtain ⟨n, hn⟩ : ∃ n : Nat, (1 : Int) + (r1 : Int) = (n : Int) := ⟨1 + r1, by omega⟩
   have bn1 : 1 ≤ n := by omega
   have bn2 : n ≤ 3 := by omega
   have wn := wrapN n (by omega)
   have zn : (0 : Int) ≤ (n : Int) := by omega
   have yn : (n : Int) ≤ 3 := by omega
   clear hK K
   refine qtk 3 14 ?vp13 rfl ?hyp13 (hTp19.out.mkr.below) ?_
   case hyp13 => (intro _ _; go_simp <;> rfl)
   simp only [Act.put, qz1, qz2, qz3]
   refine wpAnyH_ready (rs := [0, 6, 9]) (by kernel_rfl) (by simp) ?_
   refine AllReadyH.cons rfl (fun K hK => ?_) (AllReadyH.cons rfl (fun K hK => ?_) (AllReadyH.cons rfl (fun K hK => ?_) AllReadyH.nil))
   ·skip
    go_simp
    have hTp21 := hTp19.out.names
    unfold namesC at hTp21
    refine hK.out _ _ hTp21.mkr.below (fun _ => ?_)
    obtain ⟨gv, hgv⟩ : ∃ n, n = Xp20.heap.size := ⟨_, rfl⟩
    rw [← hgv] at hTp21 ⊢
    clear hgv
    generalize World.alloc Xp20 _ = Xp22 at hTp21 ⊢
    replace hTp21 := qh hTp21
    clear hK K
    refine qtk 4 15 ?vp14 rfl ?hyp14 (hTp21.out.mkr.below) ?_
    case hyp14 => (intro _ _; go_simp <;> rfl)
    simp only [Act.put, qz1, qz2, qz3]
    refine wpAnyH_ready (rs := [6, 9]) (by kernel_rfl) (by simp) ?_
    refine AllReadyH.cons rfl (fun K hK => ?_) (AllReadyH.cons rfl (fun K hK => ?_) AllReadyH.nil)
    ·skip
     go_simp
     refine (HPICK.out Xp22 g _ 3 3 rfl hTp21.out.mkr (by omega) (by omega) (by omega)).mono ?_
     rintro en Xp24 ⟨r2, hr2, rfl, hmk, hsi⟩
     have hTp23 := qh (hTp21.out.pick hmk hsi)
     clear hmk hsi
     refine hK.out _ _ hTp23.out.mkr.below (fun _ => ?_)
     obtain ⟨dm, hdm⟩ : ∃ n : Nat, (2 : Int) + (r2 : Int) = (n : Int) := ⟨2 + r2, by omega⟩
     have bdm1 : 2 ≤ dm := by omega
     have bdm2 : dm ≤ 4 := by omega
     have wdm := wrapN dm (by omega)
     have zdm : (0 : Int) ≤ (dm : Int) := by omega
     skip
     clear hK K
     refine qtk 7 18 ?vp15 rfl ?hyp15 (hTp23.out.mkr.below) ?_
     case hyp15 => (intro _ _; go_simp <;> rfl)
     simp only [Act.put, qz1, qz2, qz3]
     refine qtk 8 19 ?vp16 rfl ?hyp16 (hTp23.out.mkr.below) ?_
     case hyp16 => (intro _ _; go_simp <;> rfl)
     simp only [Act.put, qz1, qz2, qz3]
     refine qrH 9 rfl (fun K hK => ?_)
     go_simp
     have hTp25 := hTp23.out.box
     refine hK.out _ _ hTp25.mkr.below (fun _ => ?_)
     obtain ⟨gp, hgp⟩ : ∃ n, n = Xp24.heap.size := ⟨_, rfl⟩
     rw [← hgp] at hTp25 ⊢
     clear hgp
     generalize World.alloc Xp24 _ = Xp26 at hTp25 ⊢
     replace hTp25 := qh hTp25
     clear hK K
     refine qrH 10 rfl (fun K hK => ?_)
     obtain ⟨hp, -, -, -⟩ := hTp25.out.prog gp rfl
     have q0 : Xp26.cell? ⟨gp, 0, none⟩ = some (.slice none 0 0) := qcb hp 0
     have f0 := qfb hp 0
     have q1 : Xp26.cell? ⟨gp, 1, none⟩ = some (.int .i64 0) := qcb hp 1
     have f1 := qfb hp 1
     have q2 : Xp26.cell? ⟨gp, 2, none⟩ = some (.slice none 0 0) := qcb hp 2
     have f2 := qfb hp 2
     clear hp
     go_simp
     have hend := hTp25.out.done (n := n) (dm := dm) (by omega)
     have HEND := qh hend
     refine hK.out _ _ (by obtain ⟨a', hm, -⟩ := hend.2; exact hm.below) (fun _ => ?_)
     clear hend q0 q1 q2 f0 f1 f2
     clear hK K
     refine wpAnyH_done (by kernel_rfl) ?_ _
     refine NoPanic.normal ?_
     clear hn hdm wn wdm
     go_wp2_with fail
     go_meet
     case rel => exact ⟨gv, gp, n, dm, rfl, by omega, by omega, by omega, by omega, HEND.out.1, HEND.out.2⟩
    ·skip
     go_simp
     have hTp27 := hTp21.out.box
     refine hK.out _ _ hTp27.mkr.below (fun _ => ?_)
     obtain ⟨gp, hgp⟩ : ∃ n, n = Xp22.heap.size := ⟨_, rfl⟩
     rw [← hgp] at hTp27 ⊢
     clear hgp
     generalize World.alloc Xp22 _ = Xp28 at hTp27 ⊢
     replace hTp27 := qh hTp27
     clear hK K
     refine qrH 6 rfl (fun K hK => ?_)
     go_simp
     refine (HPICK.out Xp28 g _ 3 3 rfl hTp27.out.mkr (by omega) (by omega) (by omega)).mono ?_
     rintro en Xp30 ⟨r2, hr2, rfl, hmk, hsi⟩
     have hTp29 := qh (hTp27.out.pick hmk hsi)
     clear hmk hsi
     refine hK.out _ _ hTp29.out.mkr.below (fun _ => ?_)
     obtain ⟨dm, hdm⟩ : ∃ n : Nat, (2 : Int) + (r2 : Int) = (n : Int) := ⟨2 + r2, by omega⟩
     have bdm1 : 2 ≤ dm := by omega
     have bdm2 : dm ≤ 4 := by omega
     have wdm := wrapN dm (by omega)
     have zdm : (0 : Int) ≤ (dm : Int) := by omega
     skip
     clear hK K
     refine qtk 7 18 ?vp17 rfl ?hyp17 (hTp29.out.mkr.below) ?_
     case hyp17 => (intro _ _; go_simp <;> rfl)
     simp only [Act.put, qz1, qz2, qz3]
     refine qtk 8 19 ?vp18 rfl ?hyp18 (hTp29.out.mkr.below) ?_
     case hyp18 => (intro _ _; go_simp <;> rfl)
     simp only [Act.put, qz1, qz2, qz3]
     refine qrH 10 rfl (fun K hK => ?_)
     obtain ⟨hp, -, -, -⟩ := hTp29.out.prog gp rfl
     have q0 : Xp30.cell? ⟨gp, 0, none⟩ = some (.slice none 0 0) := qcb hp 0
     have f0 := qfb hp 0
     have q1 : Xp30.cell? ⟨gp, 1, none⟩ = some (.int .i64 0) := qcb hp 1
     have f1 := qfb hp 1
     have q2 : Xp30.cell? ⟨gp, 2, none⟩ = some (.slice none 0 0) := qcb hp 2
     have f2 := qfb hp 2
     clear hp
     go_simp
     have hend := hTp29.out.done (n := n) (dm := dm) (by omega)
     have HEND := qh hend
     refine hK.out _ _ (by obtain ⟨a', hm, -⟩ := hend.2; exact hm.below) (fun _ => ?_)
     clear hend q0 q1 q2 f0 f1 f2
     clear hK K
     refine wpAnyH_done (by kernel_rfl) ?_ _
     refine NoPanic.normal ?_
     clear hn hdm wn wdm
     go_wp2_with fail
     go_meet
     case rel => exact ⟨gv, gp, n, dm, rfl, by omega, by omega, by omega, by omega, HEND.out.1, HEND.out.2⟩
   ·skip
    go_simp
    refine (HPICK.out Xp20 g _ 3 3 rfl hTp19.out.mkr (by omega) (by omega) (by omega)).mono ?_
    rintro en Xp32 ⟨r2, hr2, rfl, hmk, hsi⟩
    have hTp31 := qh (hTp19.out.pick hmk hsi)
    clear hmk hsi
    refine hK.out _ _ hTp31.out.mkr.below (fun _ => ?_)
    obtain ⟨dm, hdm⟩ : ∃ n : Nat, (2 : Int) + (r2 : Int) = (n : Int) := ⟨2 + r2, by omega⟩
    have bdm1 : 2 ≤ dm := by omega
    have bdm2 : dm ≤ 4 := by omega
    have wdm := wrapN dm (by omega)
    have zdm : (0 : Int) ≤ (dm : Int) := by omega
    skip
    clear hK K
    refine qtk 7 18 ?vp19 rfl ?hyp19 (hTp31.out.mkr.below) ?_
    case hyp19 => (intro _ _; go_simp <;> rfl)
    simp only [Act.put, qz1, qz2, qz3]
    refine wpAnyH_ready (rs := [0, 9]) (by kernel_rfl) (by simp) ?_
    refine AllReadyH.cons rfl (fun K hK => ?_) (AllReadyH.cons rfl (fun K hK => ?_) AllReadyH.nil)
    ·skip
     go_simp
     have hTp33 := hTp31.out.names
     unfold namesC at hTp33
     refine hK.out _ _ hTp33.mkr.below (fun _ => ?_)
     obtain ⟨gv, hgv⟩ : ∃ n, n = Xp32.heap.size := ⟨_, rfl⟩
     rw [← hgv] at hTp33 ⊢
     clear hgv
     generalize World.alloc Xp32 _ = Xp34 at hTp33 ⊢
     replace hTp33 := qh hTp33
     clear hK K
     refine qtk 4 15 ?vp20 rfl ?hyp20 (hTp33.out.mkr.below) ?_
     case hyp20 => (intro _ _; go_simp <;> rfl)
     simp only [Act.put, qz1, qz2, qz3]
     refine qtk 8 19 ?vp21 rfl ?hyp21 (hTp33.out.mkr.below) ?_
     case hyp21 => (intro _ _; go_simp <;> rfl)
     simp only [Act.put, qz1, qz2, qz3]
     refine qrH 9 rfl (fun K hK => ?_)
     go_simp
     have hTp35 := hTp33.out.box
     refine hK.out _ _ hTp35.mkr.below (fun _ => ?_)
     obtain ⟨gp, hgp⟩ : ∃ n, n = Xp34.heap.size := ⟨_, rfl⟩
     rw [← hgp] at hTp35 ⊢
     clear hgp
     generalize World.alloc Xp34 _ = Xp36 at hTp35 ⊢
     replace hTp35 := qh hTp35
     clear hK K
     refine qrH 10 rfl (fun K hK => ?_)
     obtain ⟨hp, -, -, -⟩ := hTp35.out.prog gp rfl
     have q0 : Xp36.cell? ⟨gp, 0, none⟩ = some (.slice none 0 0) := qcb hp 0
     have f0 := qfb hp 0
     have q1 : Xp36.cell? ⟨gp, 1, none⟩ = some (.int .i64 0) := qcb hp 1
     have f1 := qfb hp 1
     have q2 : Xp36.cell? ⟨gp, 2, none⟩ = some (.slice none 0 0) := qcb hp 2
     have f2 := qfb hp 2
     clear hp
     go_simp
     have hend := hTp35.out.done (n := n) (dm := dm) (by omega)
     have HEND := qh hend
     refine hK.out _ _ (by obtain ⟨a', hm, -⟩ := hend.2; exact hm.below) (fun _ => ?_)
     clear hend q0 q1 q2 f0 f1 f2
     clear hK K
     refine wpAnyH_done (by kernel_rfl) ?_ _
     refine NoPanic.normal ?_
     clear hn hdm wn wdm
     go_wp2_with fail
     go_meet
     case rel => exact ⟨gv, gp, n, dm, rfl, by omega, by omega, by omega, by omega, HEND.out.1, HEND.out.2⟩
    ·skip
     go_simp
     have hTp37 := hTp31.out.box
     refine hK.out _ _ hTp37.mkr.below (fun _ => ?_)
     obtain ⟨gp, hgp⟩ : ∃ n, n = Xp32.heap.size := ⟨_, rfl⟩
     rw [← hgp] at hTp37 ⊢
     clear hgp
     generalize World.alloc Xp32 _ = Xp38 at hTp37 ⊢
     replace hTp37 := qh hTp37
     clear hK K
     refine qrH 0 rfl (fun K hK => ?_)
     go_simp
     have hTp39 := hTp37.out.names
     unfold namesC at hTp39
     refine hK.out _ _ hTp39.mkr.below (fun _ => ?_)
     obtain ⟨gv, hgv⟩ : ∃ n, n = Xp38.heap.size := ⟨_, rfl⟩
     rw [← hgv] at hTp39 ⊢
     clear hgv
     generalize World.alloc Xp38 _ = Xp40 at hTp39 ⊢
     replace hTp39 := qh hTp39
     clear hK K
     refine qtk 4 15 ?vp22 rfl ?hyp22 (hTp39.out.mkr.below) ?_
     case hyp22 => (intro _ _; go_simp <;> rfl)
     simp only [Act.put, qz1, qz2, qz3]
     refine qtk 8 19 ?vp23 rfl ?hyp23 (hTp39.out.mkr.below) ?_
     case hyp23 => (intro _ _; go_simp <;> rfl)
     simp only [Act.put, qz1, qz2, qz3]
     refine qrH 10 rfl (fun K hK => ?_)
     obtain ⟨hp, -, -, -⟩ := hTp39.out.prog gp rfl
     have q0 : Xp40.cell? ⟨gp, 0, none⟩ = some (.slice none 0 0) := qcb hp 0
     have f0 := qfb hp 0
     have q1 : Xp40.cell? ⟨gp, 1, none⟩ = some (.int .i64 0) := qcb hp 1
     have f1 := qfb hp 1
     have q2 : Xp40.cell? ⟨gp, 2, none⟩ = some (.slice none 0 0) := qcb hp 2
     have f2 := qfb hp 2
     clear hp
     go_simp
     have hend := hTp39.out.done (n := n) (dm := dm) (by omega)
     have HEND := qh hend
     refine hK.out _ _ (by obtain ⟨a', hm, -⟩ := hend.2; exact hm.below) (fun _ => ?_)
     clear hend q0 q1 q2 f0 f1 f2
     clear hK K
     refine wpAnyH_done (by kernel_rfl) ?_ _
     refine NoPanic.normal ?_
     clear hn hdm wn wdm
     go_wp2_with fail
     go_meet
     case rel => exact ⟨gv, gp, n, dm, rfl, by omega, by omega, by omega, by omega, HEND.out.1, HEND.out.2⟩
   ·skip
    go_simp
    have hTp41 := hTp19.out.box
    refine hK.out _ _ hTp41.mkr.below (fun _ => ?_)
    obtain ⟨gp, hgp⟩ : ∃ n, n = Xp20.heap.size := ⟨_, rfl⟩
    rw [← hgp] at hTp41 ⊢
    clear hgp
    generalize World.alloc Xp20 _ = Xp42 at hTp41 ⊢
    replace hTp41 := qh hTp41
    clear hK K
    refine wpAnyH_ready (rs := [0, 6]) (by kernel_rfl) (by simp) ?_
    refine AllReadyH.cons rfl (fun K hK => ?_) (AllReadyH.cons rfl (fun K hK => ?_) AllReadyH.nil)
    ·skip
     go_simp
     have hTp43 := hTp41.out.names
     unfold namesC at hTp43
     refine hK.out _ _ hTp43.mkr.below (fun _ => ?_)
     obtain ⟨gv, hgv⟩ : ∃ n, n = Xp42.heap.size := ⟨_, rfl⟩
     rw [← hgv] at hTp43 ⊢
     clear hgv
     generalize World.alloc Xp42 _ = Xp44 at hTp43 ⊢
     replace hTp43 := qh hTp43
     clear hK K
     refine qtk 4 15 ?vp24 rfl ?hyp24 (hTp43.out.mkr.below) ?_
     case hyp24 => (intro _ _; go_simp <;> rfl)
     simp only [Act.put, qz1, qz2, qz3]
     refine qrH 6 rfl (fun K hK => ?_)
     go_simp
     refine (HPICK.out Xp44 g _ 3 3 rfl hTp43.out.mkr (by omega) (by omega) (by omega)).mono ?_
     rintro en Xp46 ⟨r2, hr2, rfl, hmk, hsi⟩
     have hTp45 := qh (hTp43.out.pick hmk hsi)
     clear hmk hsi
     refine hK.out _ _ hTp45.out.mkr.below (fun _ => ?_)
     obtain ⟨dm, hdm⟩ : ∃ n : Nat, (2 : Int) + (r2 : Int) = (n : Int) := ⟨2 + r2, by omega⟩
     have bdm1 : 2 ≤ dm := by omega
     have bdm2 : dm ≤ 4 := by omega
     have wdm := wrapN dm (by omega)
     have zdm : (0 : Int) ≤ (dm : Int) := by omega
     skip
     clear hK K
     refine qtk 7 18 ?vp25 rfl ?hyp25 (hTp45.out.mkr.below) ?_
     case hyp25 => (intro _ _; go_simp <;> rfl)
     simp only [Act.put, qz1, qz2, qz3]
     refine qtk 8 19 ?vp26 rfl ?hyp26 (hTp45.out.mkr.below) ?_
     case hyp26 => (intro _ _; go_simp <;> rfl)
     simp only [Act.put, qz1, qz2, qz3]
     refine qrH 10 rfl (fun K hK => ?_)
     obtain ⟨hp, -, -, -⟩ := hTp45.out.prog gp rfl
     have q0 : Xp46.cell? ⟨gp, 0, none⟩ = some (.slice none 0 0) := qcb hp 0
     have f0 := qfb hp 0
     have q1 : Xp46.cell? ⟨gp, 1, none⟩ = some (.int .i64 0) := qcb hp 1
     have f1 := qfb hp 1
     have q2 : Xp46.cell? ⟨gp, 2, none⟩ = some (.slice none 0 0) := qcb hp 2
     have f2 := qfb hp 2
     clear hp
     go_simp
     have hend := hTp45.out.done (n := n) (dm := dm) (by omega)
     have HEND := qh hend
     refine hK.out _ _ (by obtain ⟨a', hm, -⟩ := hend.2; exact hm.below) (fun _ => ?_)
     clear hend q0 q1 q2 f0 f1 f2
     clear hK K
     refine wpAnyH_done (by kernel_rfl) ?_ _
     refine NoPanic.normal ?_
     clear hn hdm wn wdm
     go_wp2_with fail
     go_meet
     case rel => exact ⟨gv, gp, n, dm, rfl, by omega, by omega, by omega, by omega, HEND.out.1, HEND.out.2⟩
    ·skip
     go_simp
     refine (HPICK.out Xp42 g _ 3 3 rfl hTp41.out.mkr (by omega) (by omega) (by omega)).mono ?_
     rintro en Xp48 ⟨r2, hr2, rfl, hmk, hsi⟩
     have hTp47 := qh (hTp41.out.pick hmk hsi)
     clear hmk hsi
     refine hK.out _ _ hTp47.out.mkr.below (fun _ => ?_)
     obtain ⟨dm, hdm⟩ : ∃ n : Nat, (2 : Int) + (r2 : Int) = (n : Int) := ⟨2 + r2, by omega⟩
     have bdm1 : 2 ≤ dm := by omega
     have bdm2 : dm ≤ 4 := by omega
     have wdm := wrapN dm (by omega)
     have zdm : (0 : Int) ≤ (dm : Int) := by omega
     skip
     clear hK K
     refine qtk 7 18 ?vp27 rfl ?hyp27 (hTp47.out.mkr.below) ?_
     case hyp27 => (intro _ _; go_simp <;> rfl)
     simp only [Act.put, qz1, qz2, qz3]
     refine qrH 0 rfl (fun K hK => ?_)
     go_simp
     have hTp49 := hTp47.out.names
     unfold namesC at hTp49
     refine hK.out _ _ hTp49.mkr.below (fun _ => ?_)
     obtain ⟨gv, hgv⟩ : ∃ n, n = Xp48.heap.size := ⟨_, rfl⟩
     rw [← hgv] at hTp49 ⊢
     clear hgv
     generalize World.alloc Xp48 _ = Xp50 at hTp49 ⊢
     replace hTp49 := qh hTp49
     clear hK K
     refine qtk 4 15 ?vp28 rfl ?hyp28 (hTp49.out.mkr.below) ?_
     case hyp28 => (intro _ _; go_simp <;> rfl)
     simp only [Act.put, qz1, qz2, qz3]
     refine qtk 8 19 ?vp29 rfl ?hyp29 (hTp49.out.mkr.below) ?_
     case hyp29 => (intro _ _; go_simp <;> rfl)
     simp only [Act.put, qz1, qz2, qz3]
     refine qrH 10 rfl (fun K hK => ?_)
     obtain ⟨hp, -, -, -⟩ := hTp49.out.prog gp rfl
     have q0 : Xp50.cell? ⟨gp, 0, none⟩ = some (.slice none 0 0) := qcb hp 0
     have f0 := qfb hp 0
     have q1 : Xp50.cell? ⟨gp, 1, none⟩ = some (.int .i64 0) := qcb hp 1
     have f1 := qfb hp 1
     have q2 : Xp50.cell? ⟨gp, 2, none⟩ = some (.slice none 0 0) := qcb hp 2
     have f2 := qfb hp 2
     clear hp
     go_simp
     have hend := hTp49.out.done (n := n) (dm := dm) (by omega)
     have HEND := qh hend
     refine hK.out _ _ (by obtain ⟨a', hm, -⟩ := hend.2; exact hm.below) (fun _ => ?_)
     clear hend q0 q1 q2 f0 f1 f2
     clear hK K
     refine wpAnyH_done (by kernel_rfl) ?_ _
     refine NoPanic.normal ?_
     clear hn hdm wn wdm
     go_wp2_with fail
     go_meet
     case rel => exact ⟨gv, gp, n, dm, rfl, by omega, by omega, by omega, by omega, HEND.out.1, HEND.out.2⟩
  ·skip
   go_simp
   have hTp51 := hT0.out.box
   refine hK.out _ _ hTp51.mkr.below (fun _ => ?_)
   obtain ⟨gp, hgp⟩ : ∃ n, n = V1.heap.size := ⟨_, rfl⟩
   rw [← hgp] at hTp51 ⊢
   clear hgp
   generalize World.alloc V1 _ = Xp52 at hTp51 ⊢
   replace hTp51 := qh hTp51
   clear hK K
   refine wpAnyH_ready (rs := [0, 2]) (by kernel_rfl) (by simp) ?_
   refine AllReadyH.cons rfl (fun K hK => ?_) (AllReadyH.cons rfl (fun K hK => ?_) AllReadyH.nil)
   ·skip
    go_simp
    have hTp53 := hTp51.out.names
    unfold namesC at hTp53
    refine hK.out _ _ hTp53.mkr.below (fun _ => ?_)
    obtain ⟨gv, hgv⟩ : ∃ n, n = Xp52.heap.size := ⟨_, rfl⟩
    rw [← hgv] at hTp53 ⊢
    clear hgv
    generalize World.alloc Xp52 _ = Xp54 at hTp53 ⊢
    replace hTp53 := qh hTp53
    clear hK K
    refine qrH 2 rfl (fun K hK => ?_)
    go_simp
    refine (HPICK.out Xp54 g _ 3 3 rfl hTp53.out.mkr (by omega) (by omega) (by omega)).mono ?_
    rintro en Xp56 ⟨r1, hr1, rfl, hmk, hsi⟩
    have hTp55 := qh (hTp53.out.pick hmk hsi)
    clear hmk hsi
    refine hK.out _ _ hTp55.out.mkr.below (fun _ => ?_)
    obtain ⟨n, hn⟩ : ∃ n : Nat, (1 : Int) + (r1 : Int) = (n : Int) := ⟨1 + r1, by omega⟩
    have bn1 : 1 ≤ n := by omega
    have bn2 : n ≤ 3 := by omega
    have wn := wrapN n (by omega)
    have zn : (0 : Int) ≤ (n : Int) := by omega
    have yn : (n : Int) ≤ 3 := by omega
    clear hK K
    refine qtk 3 14 ?vp30 rfl ?hyp30 (hTp55.out.mkr.below) ?_
    case hyp30 => (intro _ _; go_simp <;> rfl)
    simp only [Act.put, qz1, qz2, qz3]
    refine qtk 4 15 ?vp31 rfl ?hyp31 (hTp55.out.mkr.below) ?_
    case hyp31 => (intro _ _; go_simp <;> rfl)
    simp only [Act.put, qz1, qz2, qz3]
    refine qrH 6 rfl (fun K hK => ?_)
    go_simp
    refine (HPICK.out Xp56 g _ 3 3 rfl hTp55.out.mkr (by omega) (by omega) (by omega)).mono ?_
    rintro en Xp58 ⟨r2, hr2, rfl, hmk, hsi⟩
    have hTp57 := qh (hTp55.out.pick hmk hsi)
    clear hmk hsi
    refine hK.out _ _ hTp57.out.mkr.below (fun _ => ?_)
    obtain ⟨dm, hdm⟩ : ∃ n : Nat, (2 : Int) + (r2 : Int) = (n : Int) := ⟨2 + r2, by omega⟩
    have bdm1 : 2 ≤ dm := by omega
    have bdm2 : dm ≤ 4 := by omega
    have wdm := wrapN dm (by omega)
    have zdm : (0 : Int) ≤ (dm : Int) := by omega
    skip
    clear hK K
    refine qtk 7 18 ?vp32 rfl ?hyp32 (hTp57.out.mkr.below) ?_
    case hyp32 => (intro _ _; go_simp <;> rfl)
    simp only [Act.put, qz1, qz2, qz3]
    refine qtk 8 19 ?vp33 rfl ?hyp33 (hTp57.out.mkr.below) ?_
    case hyp33 => (intro _ _; go_simp <;> rfl)
    simp only [Act.put, qz1, qz2, qz3]
    refine qrH 10 rfl (fun K hK => ?_)
    obtain ⟨hp, -, -, -⟩ := hTp57.out.prog gp rfl
    have q0 : Xp58.cell? ⟨gp, 0, none⟩ = some (.slice none 0 0) := qcb hp 0
    have f0 := qfb hp 0
    have q1 : Xp58.cell? ⟨gp, 1, none⟩ = some (.int .i64 0) := qcb hp 1
    have f1 := qfb hp 1
    have q2 : Xp58.cell? ⟨gp, 2, none⟩ = some (.slice none 0 0) := qcb hp 2
    have f2 := qfb hp 2
    clear hp
    go_simp
    have hend := hTp57.out.done (n := n) (dm := dm) (by omega)
    have HEND := qh hend
    refine hK.out _ _ (by obtain ⟨a', hm, -⟩ := hend.2; exact hm.below) (fun _ => ?_)
    clear hend q0 q1 q2 f0 f1 f2
    clear hK K
    refine wpAnyH_done (by kernel_rfl) ?_ _
    refine NoPanic.normal ?_
    clear hn hdm wn wdm
    go_wp2_with fail
    go_meet
    case rel => exact ⟨gv, gp, n, dm, rfl, by omega, by omega, by omega, by omega, HEND.out.1, HEND.out.2⟩
   ·skip
    go_simp
    refine (HPICK.out Xp52 g _ 3 3 rfl hTp51.out.mkr (by omega) (by omega) (by omega)).mono ?_
    rintro en Xp60 ⟨r1, hr1, rfl, hmk, hsi⟩
    have hTp59 := qh (hTp51.out.pick hmk hsi)
    clear hmk hsi
    refine hK.out _ _ hTp59.out.mkr.below (fun _ => ?_)
    obtain ⟨n, hn⟩ : ∃ n : Nat, (1 : Int) + (r1 : Int) = (n : Int) := ⟨1 + r1, by omega⟩
    have bn1 : 1 ≤ n := by omega
    have bn2 : n ≤ 3 := by omega
    have wn := wrapN n (by omega)
    have zn : (0 : Int) ≤ (n : Int) := by omega
    have yn : (n : Int) ≤ 3 := by omega
    clear hK K
    refine qtk 3 14 ?vp34 rfl ?hyp34 (hTp59.out.mkr.below) ?_
    case hyp34 => (intro _ _; go_simp <;> rfl)
    simp only [Act.put, qz1, qz2, qz3]
    refine wpAnyH_ready (rs := [0, 6]) (by kernel_rfl) (by simp) ?_
    refine AllReadyH.cons rfl (fun K hK => ?_) (AllReadyH.cons rfl (fun K hK => ?_) AllReadyH.nil)
    ·skip
     go_simp
     have hTp61 := hTp59.out.names
     unfold namesC at hTp61
     refine hK.out _ _ hTp61.mkr.below (fun _ => ?_)
     obtain ⟨gv, hgv⟩ : ∃ n, n = Xp60.heap.size := ⟨_, rfl⟩
     rw [← hgv] at hTp61 ⊢
     clear hgv
     generalize World.alloc Xp60 _ = Xp62 at hTp61 ⊢
     replace hTp61 := qh hTp61
     clear hK K
     refine qtk 4 15 ?vp35 rfl ?hyp35 (hTp61.out.mkr.below) ?_
     case hyp35 => (intro _ _; go_simp <;> rfl)
     simp only [Act.put, qz1, qz2, qz3]
     refine qrH 6 rfl (fun K hK => ?_)
     go_simp
     refine (HPICK.out Xp62 g _ 3 3 rfl hTp61.out.mkr (by omega) (by omega) (by omega)).mono ?_
     rintro en Xp64 ⟨r2, hr2, rfl, hmk, hsi⟩
     have hTp63 := qh (hTp61.out.pick hmk hsi)
     clear hmk hsi
     refine hK.out _ _ hTp63.out.mkr.below (fun _ => ?_)
     obtain ⟨dm, hdm⟩ : ∃ n : Nat, (2 : Int) + (r2 : Int) = (n : Int) := ⟨2 + r2, by omega⟩
     have bdm1 : 2 ≤ dm := by omega
     have bdm2 : dm ≤ 4 := by omega
     have wdm := wrapN dm (by omega)
     have zdm : (0 : Int) ≤ (dm : Int) := by omega
     skip
     clear hK K
     refine qtk 7 18 ?vp36 rfl ?hyp36 (hTp63.out.mkr.below) ?_
     case hyp36 => (intro _ _; go_simp <;> rfl)
     simp only [Act.put, qz1, qz2, qz3]
     refine qtk 8 19 ?vp37 rfl ?hyp37 (hTp63.out.mkr.below) ?_
     case hyp37 => (intro _ _; go_simp <;> rfl)
     simp only [Act.put, qz1, qz2, qz3]
     refine qrH 10 rfl (fun K hK => ?_)
     obtain ⟨hp, -, -, -⟩ := hTp63.out.prog gp rfl
     have q0 : Xp64.cell? ⟨gp, 0, none⟩ = some (.slice none 0 0) := qcb hp 0
     have f0 := qfb hp 0
     have q1 : Xp64.cell? ⟨gp, 1, none⟩ = some (.int .i64 0) := qcb hp 1
     have f1 := qfb hp 1
     have q2 : Xp64.cell? ⟨gp, 2, none⟩ = some (.slice none 0 0) := qcb hp 2
     have f2 := qfb hp 2
     clear hp
     go_simp
     have hend := hTp63.out.done (n := n) (dm := dm) (by omega)
     have HEND := qh hend
     refine hK.out _ _ (by obtain ⟨a', hm, -⟩ := hend.2; exact hm.below) (fun _ => ?_)
     clear hend q0 q1 q2 f0 f1 f2
     clear hK K
     refine wpAnyH_done (by kernel_rfl) ?_ _
     refine NoPanic.normal ?_
     clear hn hdm wn wdm
     go_wp2_with fail
     go_meet
     case rel => exact ⟨gv, gp, n, dm, rfl, by omega, by omega, by omega, by omega, HEND.out.1, HEND.out.2⟩
    ·skip
     go_simp
     refine (HPICK.out Xp60 g _ 3 3 rfl hTp59.out.mkr (by omega) (by omega) (by omega)).mono ?_
     rintro en Xp66 ⟨r2, hr2, rfl, hmk, hsi⟩
     have hTp65 := qh (hTp59.out.pick hmk hsi)
     clear hmk hsi
     refine hK.out _ _ hTp65.out.mkr.below (fun _ => ?_)
     obtain ⟨dm, hdm⟩ : ∃ n : Nat, (2 : Int) + (r2 : Int) = (n : Int) := ⟨2 + r2, by omega⟩
     have bdm1 : 2 ≤ dm := by omega
     have bdm2 : dm ≤ 4 := by omega
     have wdm := wrapN dm (by omega)
     have zdm : (0 : Int) ≤ (dm : Int) := by omega
     skip
     clear hK K
     refine qtk 7 18 ?vp38 rfl ?hyp38 (hTp65.out.mkr.below) ?_
     case hyp38 => (intro _ _; go_simp <;> rfl)
     simp only [Act.put, qz1, qz2, qz3]
     refine qrH 0 rfl (fun K hK => ?_)
     go_simp
     have hTp67 := hTp65.out.names
     unfold namesC at hTp67
     refine hK.out _ _ hTp67.mkr.below (fun _ => ?_)
     obtain ⟨gv, hgv⟩ : ∃ n, n = Xp66.heap.size := ⟨_, rfl⟩
     rw [← hgv] at hTp67 ⊢
     clear hgv
     generalize World.alloc Xp66 _ = Xp68 at hTp67 ⊢
     replace hTp67 := qh hTp67
     clear hK K
     refine qtk 4 15 ?vp39 rfl ?hyp39 (hTp67.out.mkr.below) ?_
     case hyp39 => (intro _ _; go_simp <;> rfl)
     simp only [Act.put, qz1, qz2, qz3]
     refine qtk 8 19 ?vp40 rfl ?hyp40 (hTp67.out.mkr.below) ?_
     case hyp40 => (intro _ _; go_simp <;> rfl)
     simp only [Act.put, qz1, qz2, qz3]
     refine qrH 10 rfl (fun K hK => ?_)
     obtain ⟨hp, -, -, -⟩ := hTp67.out.prog gp rfl
     have q0 : Xp68.cell? ⟨gp, 0, none⟩ = some (.slice none 0 0) := qcb hp 0
     have f0 := qfb hp 0
     have q1 : Xp68.cell? ⟨gp, 1, none⟩ = some (.int .i64 0) := qcb hp 1
     have f1 := qfb hp 1
     have q2 : Xp68.cell? ⟨gp, 2, none⟩ = some (.slice none 0 0) := qcb hp 2
     have f2 := qfb hp 2
     clear hp
     go_simp
     have hend := hTp67.out.done (n := n) (dm := dm) (by omega)
     have HEND := qh hend
     refine hK.out _ _ (by obtain ⟨a', hm, -⟩ := hend.2; exact hm.below) (fun _ => ?_)
     clear hend q0 q1 q2 f0 f1 f2
     clear hK K
     refine wpAnyH_done (by kernel_rfl) ?_ _
     refine NoPanic.normal ?_
     clear hn hdm wn wdm
     go_wp2_with fail
     go_meet
     case rel => exact ⟨gv, gp, n, dm, rfl, by omega, by omega, by omega, by omega, HEND.out.1, HEND.out.2⟩
 case rest =>
  obtain ⟨gv, gp, n, dm, rfl, hn1, hn3, hd2, hd4, HL, HMA⟩ := hcut
  clear HR
  obtain ⟨X, rfl⟩ : ∃ x : World, x = wc := ⟨_, rfl⟩
  obtain ⟨a0, hmk0, ha0⟩ := HMA.out
  have HMK0 := qh hmk0
  clear hmk0
  go_upto_region 4 with (go_at_call 77; go_must (refine (HPICK.out X g _ 3 3 rfl HMK0.out (by omega) (by omega) (by omega)).mono ?_); rintro en X2 ⟨r3, hr3, rfl, hmk, hsi⟩; (have HL2 := qh (HL.out.picked hsi hmk (by omega))); clear hmk hsi HL HMK0)
  obtain ⟨m, hm⟩ : ∃ m : Nat, (1 : Int) + (r3 : Int) = (m : Int) := ⟨1 + r3, by omega⟩
  have hm1 : 1 ≤ m := by omega
  have hm3 : m ≤ 3 := by omega
  rw [hm]
  clear hm hr3
  go_loopg [7] m (fun gg s7 wr => ∃ (j k : Nat) (oa : Option Addr) (oc : Nat) (T : List (List StmtT)) (css : List (List Value)), s7 = .int .i64 k ∧ Hid (j + k = m) ∧ Hid (gg = k) ∧ Hid (MadeL w wr g gv gp gr (.slice sa ln sc) n dm j (.slice oa j oc) T css))
  case atStart => exact ⟨0, m, none, 0, [], [], rfl, by rw [Hid]; omega, rfl, HL2.out⟩
  case round =>
   obtain ⟨j, k', oa, oc, T, css, rfl, HJK, HG, HL⟩ := hrel
   clear HL2
   have hj3 : j ≤ 3 := by have := HJK.out; omega
   have hk3 : k' ≤ 3 := by have := HJK.out; omega
   by_cases hk0 : 0 < k'
   rotate_left
   ·obtain rfl : k' = 0 := by omega
    have hj1 : j = m := by have := HJK.out; omega
    obtain ⟨hend, hset⟩ := madeEnd_of HL.out hn1 hn3 hd2 (by omega) (by omega) hj3
    have HEND := qh hend
    have HSET := qh hset
    clear hend hset hj1
    have c0 : wr.cell? ⟨gp, 0, none⟩ = some (.slice (some ⟨gv, 0, none⟩) n 3) := qcb HL.out.box 0
    have c1 : wr.cell? ⟨gp, 1, none⟩ = some (.int .i64 dm) := qcb HL.out.box 1
    have c2 : wr.cell? ⟨gp, 2, none⟩ = some (.slice oa j oc) := qcb HL.out.box 2
    have z0 : wr.cell? ⟨gr, 0, none⟩ = some (.slice none 0 0) := qcb HL.out.res 0
    have z1 : wr.cell? ⟨gr, 1, none⟩ = some (.int .i64 0) := qcb HL.out.res 1
    have z2 : wr.cell? ⟨gr, 2, none⟩ = some (.slice none 0 0) := qcb HL.out.res 2
    have f0 := qfb HL.out.res 0
    have f1 := qfb HL.out.res 1
    have f2 := qfb HL.out.res 2
    go_wp2_with fail
    refine bodyPost_ret (results_cell rfl _ _ gr 92 _ (0, 0) _ rfl HSET.out Tryz.underlying92 rfl program_size) rfl ?_
    exact HEND.out
   obtain ⟨k, rfl⟩ : ∃ k, k' = k + 1 := ⟨k' - 1, by omega⟩
   have hkI : (0 : Int) < (k : Int) + 1 := by omega
   have CC : Hid (∀ x, Since (fun y => (Value.slice oa j oc).ownBlock = some y ∨ y = g) wr x → x.cell? ⟨gp, 0, none⟩ = some (.slice (some ⟨gv, 0, none⟩) n 3) ∧ x.cell? ⟨gp, 1, none⟩ = some (.int .i64 dm) ∧ x.cell? ⟨gp, 2, none⟩ = some (.slice oa j oc)) := fun x hx => by
    have h := (hx.block _ (qlb HL.out.box) (fun e => by rcases e with e | e; exact (HL.out.own_ne _ e).2.1 rfl; have := HL.out.lo; omega)).trans HL.out.box
    exact ⟨qcb h 0, qcb h 1, qcb h 2⟩
   go_upto_region 6 with fail
   refine wp_region_noPanic ?_
   refine wp_region_tail (n0 := 15) (S := fun x => Since (fun y => (Value.slice oa j oc).ownBlock = some y ∨ y = g) wr x) (by kernel_rfl) (Since.drew _ (Since.refl _ wr)) (fun _ => ?_)
   obtain ⟨V1, hV1⟩ : ∃ V1, V1 = wr.drew := ⟨_, rfl⟩
   have hT0 : Hid (Since (fun y => (Value.slice oa j oc).ownBlock = some y ∨ y = g) wr V1) := by rw [hV1]; exact Since.drew _ (Since.refl _ wr)
   have hl2 : MadeL w V1 g gv gp gr (.slice sa ln sc) n dm j (.slice oa j oc) T css := by rw [hV1]; exact HL.out.drew
   rw [← hV1]
   clear hV1
   have HL2 := qh hl2
   have hrow0 := hl2.row.row
   rw [hl2.len] at hrow0
   have HROW0 := qh hrow0
   have HOWN : Hid (∀ k, (Value.slice oa j oc).ownBlock = some k → k ≠ g) := fun k hk => (hl2.own_ne k hk).1
   obtain ⟨a1, hmk, ha1⟩ := hl2.mkr
   have HBW := qh hmk.below.size
   have HMK := qh (And.intro hmk ha1)
   clear hl2 hrow0 hmk ha1
   refine qtF 0 27 ?vz1 rfl ?hyz1 (fun _ => hT0.out) ?_
   case hyz1 => (intro _ _; go_simp <;> rfl)
   simp only [Act.put, qz1, qz2, qz3]
   refine qtT [13, 14, 15] 1 28 ?vz2 rfl ?hyz2 (hT0.out) ?_
   case hyz2 => (intro x h; have e := CC.out x h; go_simp <;> rfl)
   simp only [Act.put, qz1, qz2, qz3]
   refine qtF 2 29 ?vz3 rfl ?hyz3 (fun _ => hT0.out) ?_
   case hyz3 => (intro _ _; go_simp <;> rfl)
   simp only [Act.put, qz1, qz2, qz3]
   refine qtF 3 30 ?vz4 rfl ?hyz4 (fun _ => hT0.out) ?_
   case hyz4 => (intro _ _; go_simp <;> rfl)
   simp only [Act.put, qz1, qz2, qz3]
   refine qtF 5 32 ?vz5 rfl ?hyz5 (fun _ => hT0.out) ?_
   case hyz5 => (intro _ _; go_simp <;> rfl)
   simp only [Act.put, qz1, qz2, qz3]
   refine qtT [7, 11, 12, 13, 14, 15] 6 33 ?vz6 rfl ?hyz6 (hT0.out) ?_
   case hyz6 => (intro x h; have e := CC.out x h; go_simp <;> rfl)
   simp only [Act.put, qz1, qz2, qz3]
   refine qtF 7 34 ?vz7 rfl ?hyz7 (fun _ => hT0.out) ?_
   case hyz7 => (intro _ _; go_simp <;> rfl)
   simp only [Act.put, qz1, qz2, qz3]
   refine qtF 8 35 ?vz8 rfl ?hyz8 (fun _ => hT0.out) ?_
   case hyz8 => (intro _ _; go_simp <;> rfl)
   simp only [Act.put, qz1, qz2, qz3]
   refine qtT [11, 12, 13, 14, 15] 9 36 ?vz9 rfl ?hyz9 (hT0.out) ?_
   case hyz9 => (intro x h; have e := CC.out x h; go_simp <;> rfl)
   simp only [Act.put, qz1, qz2, qz3]
   refine qtF 10 37 ?vz10 rfl ?hyz10 (fun _ => hT0.out) ?_
   case hyz10 => (intro _ _; go_simp <;> rfl)
   simp only [Act.put, qz1, qz2, qz3]
   refine qrT 4 rfl (fun K hK => ?_)
   go_simp
   refine (HPICK.out V1 g _ 5 5 rfl HMK.out.1 (by omega) (by omega) (by have h5 := HMK.out.2; omega)).mono ?_
   rintro en V2 ⟨r5, hr5, rfl, hmk, hsi⟩
   have HMK2 := qh hmk
   have HSI2 := qh hsi
   have hT1 := qh (hT0.out.trans hsi (fun y hy => .inl (.inr hy)))
   clear hmk hsi
   refine hK.out _ _ (fun _ _ => hT1.out) ?_
   clear hK K
   refine qrT 11 rfl (fun K hK => ?_)
   go_simp
   refine (HLIST.out g n dm (by omega) (by omega) (by omega) (by omega) V2 _ r5 HMK2.out (by omega) (by have h5 := HMK.out.2; omega)).mono ?_
   rintro en V3 ⟨L, na, nc, a2, rfl, hok, haw, hmk, ha2, hsi⟩
   have HMK3 := qh hmk
   have HOK3 := qh (And.intro hok haw)
   have HSI3 := qh (HSI2.out.trans hsi (fun _ h => .inl h))
   have HSZ := qh hsi.size
   have hT2 := qh (hT1.out.trans hsi (fun y hy => .inl (.inr hy)))
   have hrow := HSI3.out.row HROW0.out (fun k hk e => (HOWN.out k hk) e)
   have HROW3 := qh hrow
   clear hmk hsi hok haw hrow
   refine hK.out _ _ (fun _ _ => hT2.out) ?_
   clear hK K
   refine qrT 12 rfl (fun K hK => ?_)
   go_simp
   have hT3 := qh (hT2.out.alloc (.cells #[.slice na L.length nc] 129))
   refine hK.out _ _ (fun _ _ => hT3.out) ?_
   clear hK K
   refine qrT 13 rfl (fun K hK => ?_)
   refine step_append_where_ (V3.alloc (.cells #[.slice na L.length nc] 129)) (by rfl) (.tmp 28) (.tmp 39) 90 rfl 129 (.slice none 0 0) 1 24 Tryz.underlying90 stmts_info rfl (by decide) w.heap.size (.slice oa j oc) j (css.flatten) (by rfl) (HROW3.out.alloc _) ⟨V3.heap.size, 0, none⟩ 1 1 [.slice na L.length nc] (by rfl) rfl (row_new V3 _ _) (by simp [Value.oneCell']) (by unfold maxLen; omega) (by omega) (by have h5 := HBW.out; have h6 := HSI3.out.size; simp; omega) ?_
   intro xa xc V4 e1 e2 e3 e4 e5
   have hT4 := qh (hT3.out.trans e4 (fun y hy => .inl (.inl hy)))
   have hp := HL2.out.push HSI3.out HMK3.out (by have := HMK.out.2; omega) HOK3.out.1 rfl (HOK3.out.2.step (Since.refl (fun _ => False) V3) (fun _ h => h.elim) (fun k hk => .inl (by have h5 := HSI2.out.size; omega))) e1 e4 e5
   have HP := qh hp
   clear e1 e2 e3 e4 e5 hp
   refine hK.out _ _ (fun _ _ => hT4.out) ?_
   clear hK K
   change wpAnyT _ _ _ _ _ _ _ _ (Act.put _ (some 40) _) _
   simp only [Act.put, qz1, qz2, qz3]
   refine qtF 14 41 ?vz11 rfl ?hyz11 (fun _ => hT4.out) ?_
   case hyz11 => (intro _ _; go_simp <;> rfl)
   simp only [Act.put, qz1, qz2, qz3]
   refine qrT 15 rfl (fun K hK => ?_)
   have q2 : V4.cell? ⟨gp, 2, none⟩ = some (.slice oa j oc) := qcb HP.out.1 2
   have f2 := qfb HP.out.1 2
   go_simp
   refine hK.out _ _ (fun h => absurd rfl h) ?_
   clear q2 f2
   have hT5 := hT4
   clear hK K
   refine wpAnyT_done (by kernel_rfl) ?_ _
   refine NoPanic.normal ?_
   have HP2 := qh HP.out.2
   clear HP HMK2 HMK3 HOK3 HSI2 HSI3 HROW3 HROW0 HOWN CC
   go_wp2_with fail
   go_roundg k
   case measure => rw [HG.out]; omega
   case rel => exact ⟨j + 1, k, xa, xc, _, _, (by first | rfl | simp), by have := HJK.out; rw [Hid]; omega, rfl, HP2.out⟩
end Go.Proofs.YtliajkheeniljaaGreatDoor
