/- The teller of package word: what lasts, and what is told place by place. -/
import Derived.Test.YtidnpdkibndpkaaRepeat
namespace Go.Proofs.Ytidnpdkibndpkaa
open Go.RowKit

/-- A teller in memory. -/
def TellerAt (w : World) (tb : Nat) (lv : Value) (back : Nat) (pv : Value) : Prop := w.heap[tb]? = some (.cells #[lv, .int .i64 back, pv] 55 (0, 0))
theorem TellerAt.below {w w' : World} {tb : Nat} {lv : Value} {back : Nat} {pv : Value} (h : TellerAt w tb lv back pv) (hb : Below w.heap.size w w') : TellerAt w' tb lv back pv := (hb.block _ (lt_of_block h)).trans h

set_option maxHeartbeats 1000000 in
theorem next_any (w : World) (tb : Nat) (la : Option Addr) (n lc back : Nat) (pv : Value) (h : TellerAt w tb (.slice la n lc) back pv) (hn : n ≤ 1000000000) (i : Nat) (hi : i < n) :
    Calls Try.prog 50 #[.pointer (some ⟨tb, 0, none⟩), .int .i64 i] w fun e w' => e = .returned (.int .i64 (nx n back i)) ∧ w = w' := by
  have c0 := cell_of_block h 0
  have c1 := cell_of_block h 1
  simp only [List.getElem?_toArray, List.getElem?_cons_zero, List.getElem?_cons_succ] at c0 c1
  clear h
  by_cases hl : i + 1 < n
  · have hx : nx n back i = i + 1 := by unfold nx; rw [if_pos hl]
    rw [hx]
    have hl' : (i : Int) + 1 < n := by omega
    clear hx
    go_enter Try.func50, Try.ntmps50
    go_wp2
    go_ret
    exact ⟨by simp, rfl⟩
  · have hx : nx n back i = back := by unfold nx; rw [if_neg hl]
    rw [hx]
    have hl' : ¬ (i : Int) + 1 < n := by omega
    clear hx
    go_enter Try.func50, Try.ntmps50
    go_wp2
    go_ret
    exact ⟨rfl, rfl⟩

set_option maxHeartbeats 1000000 in
theorem each_any (w : World) (tb : Nat) (la : Option Addr) (n lc back : Nat) (pv : Value) (h : TellerAt w tb (.slice la n lc) back pv) (hn : n ≤ 1000000000) (fn : FuncId) (first captured : Array Value) (r : Nat → Bool)
    (hfn : ∀ args W, (callFunc fn args).run Try.prog W = .ok (.enter fn args) W)
    (hcall : ∀ i W, i < n → Below w.heap.size w W → Calls Try.prog fn (first.push (.int .i64 (i : Nat)) ++ captured) W fun e W' => e = .returned (.bool (r i)) ∧ Below W.heap.size W W') :
    Calls Try.prog 36 #[.pointer (some ⟨tb, 0, none⟩), .func (.func fn) first captured] w (TellsBools ((List.range n).map r) w) := by
  have c0 := cell_of_block h 0
  simp only [List.getElem?_toArray, List.getElem?_cons_zero] at c0
  have hl := list_any n hn fn first captured r w hfn hcall
  have HL := Lib.hid hl
  clear h hl hcall hfn
  go_enter Try.func36, Try.ntmps36
  go_wp2_with fail
  refine HL.out.mono ?_
  rintro e w2 ⟨sv, rfl, ho, hb⟩
  have HP : Hid (w2.ownsRow w.heap.size 4 1 sv ((List.range n).map r).length (((List.range n).map r).map Value.bool) ∧ Below w.heap.size w w2) := ⟨ho, hb⟩
  clear ho hb HL
  go_wp2
  go_ret
  exact ⟨sv, rfl, HP.out⟩

/-- What a pass has done. -/
structure Passed (n back : Nat) (is : Nat → Bool → Bool) (l0 : List Bool) (k : Nat) (l : List Bool) : Prop where
  len : l.length = n
  old : ∀ j, j < k → l.getD j false = l0.getD j false
  last : k < n → l.getD (n - 1) false = is (n - 1) (l0.getD back false)
  step : ∀ j, k ≤ j → j + 1 < n → l.getD j false = is j (l.getD (j + 1) false)
theorem Passed.done {n back : Nat} {is : Nat → Bool → Bool} {l0 l : List Bool} (hb : back < n) (h : Passed n back is l0 0 l) : Pass n back is (l0.getD back false) (fun i => l.getD i false) := ⟨h.last (by omega), fun i hi => h.step i (Nat.zero_le _) hi⟩
theorem getD_set (l : List Bool) (i j : Nat) (x : Bool) (hi : i < l.length) : (l.set i x).getD j false = if i = j then x else l.getD j false := by
  rw [List.getD_eq_getElem?_getD, List.getElem?_set, List.getD_eq_getElem?_getD]
  split
  · rename_i h; subst h; simp_all
  · rfl
theorem Passed.next {n back : Nat} {is : Nat → Bool → Bool} {l0 l : List Bool} {i : Nat} (hb : back < n) (hi : i < n) (h : Passed n back is l0 (i + 1) l) : Passed n back is l0 i (l.set i (is i (l.getD (nx n back i) false))) := by
  have hg := fun j => getD_set l i j (is i (l.getD (nx n back i) false)) (by rw [h.len]; exact hi)
  refine ⟨by rw [List.length_set]; exact h.len, fun j hj => ?_, fun _ => ?_, fun j hj hj2 => ?_⟩
  · rw [hg, if_neg (by omega)]; exact h.old j (by omega)
  · rw [hg]
    by_cases he : i = n - 1
    · rw [if_pos he]
      have : nx n back i = back := by unfold nx; rw [if_neg (by omega)]
      rw [this, h.old back (by omega), he]
    · rw [if_neg he]; exact h.last (by omega)
  · rw [hg, hg, if_neg (show ¬ i = j + 1 by omega)]
    by_cases he : i = j
    · rw [if_pos he]
      have : nx n back i = i + 1 := by unfold nx; rw [if_pos (by omega)]
      rw [this, he]
    · rw [if_neg he]; exact h.step j (by omega) hj2
/-- What so many passes have done. -/
def Passes (n back : Nat) (is : Nat → Bool → Bool) (all : Bool) (q : Nat) (l : List Bool) : Prop :=
  l.length = n ∧ (q = 0 → l = List.replicate n all) ∧ (q = 1 → Pass n back is all (fun i => l.getD i false)) ∧ (q = 2 → ∃ o1, Pass n back is all o1 ∧ Pass n back is (o1 back) (fun i => l.getD i false))
theorem Passes.next {n back : Nat} {is : Nat → Bool → Bool} {all : Bool} {q : Nat} {l0 l : List Bool} (hb : back < n) (h : Passes n back is all q l0) (hq : q < 2) (hp : Passed n back is l0 0 l) : Passes n back is all (q + 1) l := by
  have hd := hp.done hb
  refine ⟨hp.len, fun h => by omega, fun hq1 => ?_, fun hq2 => ?_⟩
  · have := h.2.1 (by omega)
    subst this
    rw [show (List.replicate n all).getD back false = all from by simp [List.getD_eq_getElem?_getD, hb]] at hd
    exact hd
  · exact ⟨_, h.2.2.1 (by omega), hd⟩

/-- What lasts is told. -/
def TellsLasts (n back : Nat) (is : Nat → Bool → Bool) (all : Bool) (w : World) (e : Ending) (w' : World) : Prop :=
  ∃ sv l, e = .returned sv ∧ w'.ownsRow w.heap.size 4 1 sv l.length (l.map Value.bool) ∧ Below w.heap.size w w' ∧ Passes n back is all 2 l
set_option maxRecDepth 100000 in
set_option maxHeartbeats 4000000 in
theorem lasts_any (w : World) (tb : Nat) (la : Option Addr) (n lc back : Nat) (pv : Value) (h : TellerAt w tb (.slice la n lc) back pv) (hn1 : 1 ≤ n) (hn : n ≤ 1000000000) (hb : back < n) (all : Bool) (fn : FuncId) (first captured : Array Value) (is : Nat → Bool → Bool)
    (hfn : ∀ args W, (callFunc fn args).run Try.prog W = .ok (.enter fn args) W)
    (hcall : ∀ i x W, i < n → Below w.heap.size w W → Calls Try.prog fn (first ++ (#[.int .i64 (i : Nat), .bool x] ++ captured)) W fun e W' => e = .returned (.bool (is i x)) ∧ Below W.heap.size W W') :
    Calls Try.prog 51 #[.pointer (some ⟨tb, 0, none⟩), .bool all, .func (.func fn) first captured] w (TellsLasts n back is all w) := by
  have htb := lt_of_block h
  have c0 : ∀ o, (w.alloc o).cell? ⟨tb, 0, none⟩ = some (.slice la n lc) := fun o => (Below.cell ((Below.refl _ _).alloc (Nat.le_refl _) o) (p := ⟨tb, 0, none⟩) htb).trans (cell_of_block h 0)
  have hB0 : ∀ o, Below w.heap.size w (w.alloc o) := fun o => (Below.refl _ _).alloc (Nat.le_refl _) o
  have HT := Lib.hid h
  have HC := Lib.hid hcall
  have hrep := fun (W : World) (a : Addr) (hc : W.cell? a = some (.bool all)) (ha : a.block < W.heap.size ∧ a.spot = none) => repeat_any all n hn1 hn W a hc ha.1 ha.2
  have HR := Lib.hid hrep
  have HB0 := Lib.hid hB0
  clear h hcall hrep hB0
  go_enter Try.func51, Try.ntmps51
  go_wp2_with fail
  refine (HR.out _ _ (cell_of_block (heap_alloc_new w _) 0) ⟨by simp, rfl⟩).mono ?_
  rintro e w2 ⟨sv, rfl, ho, hb2⟩
  obtain ⟨g, cap, rfl, hc1, hc2⟩ := row_some ho (by simp; omega)
  unfold maxLen at hc2
  rw [List.length_replicate] at ho hc1
  have HO : Hid (w2.ownsRow w.heap.size 4 1 (.slice (some ⟨g, 0, none⟩) n cap) n ((List.replicate n all).map Value.bool)) := row_mono ho (by simp)
  have HB2 : Hid (Below w.heap.size w w2) := (HB0.out _).trans (hb2.mono (by simp))
  rw [List.length_replicate]
  clear ho hb2 c0 HR
  go_wp2_with fail
  go_loopg [18] 2 (fun gg s18 wr => ∃ (q : Nat) (l : List Bool), q ≤ 2 ∧ Hid (gg = 2 - q) ∧ s18 = .int .i64 q ∧ Hid (wr.ownsRow w.heap.size 4 1 (.slice (some ⟨g, 0, none⟩) n cap) n (l.map Value.bool)) ∧ Hid (Below w.heap.size w wr) ∧ Hid (Passes n back is all q l))
  case atStart =>
    exact ⟨0, List.replicate n all, by omega, rfl, rfl, HO.out, HB2.out, ⟨by simp, fun _ => rfl, (fun h => by cases h), (fun h => by cases h)⟩⟩
  case round =>
    obtain ⟨q, l0, hq, HG, rfl, HOW, HBW, HP⟩ := hrel
    obtain ⟨wo, rfl⟩ : ∃ wo : World, wo = wr := ⟨_, rfl⟩
    by_cases hq2 : q < 2
    · have hqd : decide ((q : Int) < 2) = true := decide_eq_true (by omega)
      have HQ2 := Lib.hid hq2
      clear hq2
      go_wp2_with fail
      go_loopg [8] n (fun gg s8 wx => ∃ (z : Int) (k : Nat) (l : List Bool), k ≤ n ∧ Hid (gg = k) ∧ s8 = .int .i64 z ∧ Hid (z = (k : Int) - 1) ∧ Hid (wx.ownsRow w.heap.size 4 1 (.slice (some ⟨g, 0, none⟩) n cap) n (l.map Value.bool)) ∧ Hid (Below w.heap.size w wx) ∧ Hid (Passed n back is l0 k l))
      case atStart =>
        exact ⟨(n : Int) - 1, n, l0, Nat.le_refl _, rfl, rfl, rfl, HOW.out, HBW.out, ⟨HP.out.1, fun _ _ => rfl, fun h => by omega, fun j h1 h2 => by omega⟩⟩
      case round =>
        obtain ⟨z, k, l, hk, HG2, rfl, HZ, HOX, HBX, HPX⟩ := hrel
        obtain ⟨wx, rfl⟩ : ∃ wx : World, wx = wr := ⟨_, rfl⟩
        by_cases hz : 0 ≤ z
        · obtain ⟨i, rfl⟩ : ∃ i : Nat, z = i := ⟨z.toNat, by omega⟩
          have hki : k = i + 1 := by have := HZ.out; omega
          have hin : i < n := by omega
          have HPX2 : Hid (Passed n back is l0 (i + 1) l) := by rw [← hki]; exact HPX.out
          have hnl := nx_lt hb i
          obtain ⟨m, hm⟩ : ∃ m, m = nx n back i := ⟨_, rfl⟩
          rw [← hm] at hnl
          obtain ⟨x, hx⟩ : ∃ x, x = l.getD m false := ⟨_, rfl⟩
          have hcx : wx.cell? ⟨g, m, none⟩ = some (.bool x) := by
            rw [HOX.out.cellAt m (by omega), List.getElem?_map, hx, List.getD_eq_getElem?_getD, List.getElem?_eq_getElem (by rw [HPX.out.len]; exact hnl)]
            rfl
          have hnext := next_any wx tb la n lc back pv (HT.out.below HBX.out) hn i hin
          rw [← hm] at hnext
          have HN := Lib.hid hnext
          have HM := Lib.hid hm
          have HX := Lib.hid hx
          clear hnext hm hx
          have hzb := HBX.out.size
          go_wp2_with fail
          refine HN.out.mono ?_
          rintro e w' ⟨rfl, rfl⟩
          go_wp2_with fail
          refine (HC.out i x _ hin HBX.out).mono ?_
          rintro e w3 ⟨rfl, hb3⟩
          have ho3 := row_below HOX.out hb3
          have hce : ∃ v, w3.cell? ⟨g, i, none⟩ = some v := by
            rw [ho3.cellAt i (by omega)]
            have := HPX.out.len
            simp [this, hin]
          obtain ⟨v0, hce⟩ := hce
          have hfz : w3.frozen? ⟨g, i, none⟩ = false := ho3.frozenAt i
          have HO3 := Lib.hid ho3
          have HB3 : Hid (Below w.heap.size w w3) := HBX.out.trans (hb3.mono hzb)
          clear ho3 hb3 hcx
          go_wp2
          go_roundg i
          case measure => have := HG2.out; omega
          case rel =>
            refine ⟨(i : Int) - 1, i, l.set i (is i x), by omega, rfl, by simp, rfl, ?_, ?_, ?_⟩
            · have := (HO3.out.stored i (.bool (is i x))).1
              rw [Hid, List.map_set]
              exact this
            · exact HB3.out.setCell (by have := HO3.out.lt g rfl; exact this.1) _
            · have := HPX2.out.next hb hin
              rw [← HM.out, ← HX.out] at this
              exact this
        · have hk0 : k = 0 := by have := HZ.out; omega
          have HP0 : Hid (Passed n back is l0 0 l) := by rw [← hk0]; exact HPX.out
          go_wp2
          go_roundg (2 - (q + 1))
          case measure => have := HG.out; have := HQ2.out; omega
          case rel => exact ⟨q + 1, l, Nat.succ_le_of_lt HQ2.out, rfl, by simp, HOX.out, HBX.out, HP.out.next hb HQ2.out HP0.out⟩
    · obtain rfl : q = 2 := by omega
      go_wp2
      go_ret
      refine ⟨_, l0, rfl, ?_, HBW.out, HP.out⟩
      rw [HP.out.1]; exact HOW.out
end Go.Proofs.Ytidnpdkibndpkaa
