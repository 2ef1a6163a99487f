/- What the laws of words share: the walks. -/
import Derived.Test.YtidnpdkibndpkaaRTruth
namespace Go.Proofs.Ytidnpdkibndpkaa
open Go.RowKit

def tl (f : Form) (ls : List (List Bool)) (bk : Int) : List Bool := if mayOk f ls bk then f.truth f.props ls bk.toNat else []
def tc (f : Form) (ls : List (List Bool)) (bk : Int) : Int := if mayOk f ls bk then 0 else 1
/-- What Truth tells, in one form. -/
def TellsRes (l : List Bool) (c : Int) (w : World) (e : Ending) (w' : World) : Prop := ∃ sv, e = .returned (.tuple #[sv, .int .i64 c]) ∧ BoolsAt w' sv l ∧ Below w.heap.size w w'
theorem boolsAt_nil (w : World) : BoolsAt w (.slice none 0 0) [] := ⟨none, 0, rfl, by simp, fun j hj => by simp at hj⟩
theorem TellsTruth.res {f : Form} {ls : List (List Bool)} {bk : Int} {w w' : World} {e : Ending} (h : TellsTruth f ls bk w e w') : TellsRes (tl f ls bk) (tc f ls bk) w e w' := by
  obtain ⟨hB, ⟨hm, sv, rfl, ho⟩ | ⟨hm, rfl⟩⟩ := h
  · refine ⟨sv, by simp [tc, hm], ?_, hB⟩
    have := BoolsAt.of_row ho
    simpa [tl, hm] using this
  · exact ⟨.slice none 0 0, by simp [tc, hm], by simpa [tl, hm] using boolsAt_nil w', hB⟩

theorem same_list {la lb : List Bool} {n : Nat} (ha : la.length = n) (hb : lb.length = n) (h : ∀ j, j < n → la.getD j false = lb.getD j false) : la = lb := by
  apply List.ext_getElem?
  intro i
  by_cases hi : i < n
  · have := h i hi
    rw [List.getD_eq_getElem?_getD, List.getD_eq_getElem?_getD, List.getElem?_eq_getElem (by omega), List.getElem?_eq_getElem (by omega), Option.getD_some, Option.getD_some] at this
    rw [List.getElem?_eq_getElem (by omega), List.getElem?_eq_getElem (by omega), this]
  · rw [List.getElem?_eq_none (by omega), List.getElem?_eq_none (by omega)]

set_option maxHeartbeats 1000000 in
/-- Two lists are held against each other. -/
theorem sameL_any (w : World) (av bv : Value) (la lb : List Bool) (ha : BoolsAt w av la) (hb : BoolsAt w bv lb) :
    Calls Try.prog 16 #[av, bv] w fun e w' => e = .returned (.bool (decide (la = lb))) ∧ Below w.heap.size w w' := by
  obtain ⟨aa, ac, rfl, hal⟩ := ha.slice
  obtain ⟨ba, bc, rfl, hbl⟩ := hb.slice
  obtain ⟨n, hn⟩ : ∃ n, n = la.length := ⟨_, rfl⟩
  obtain ⟨m, hm⟩ : ∃ m, m = lb.length := ⟨_, rfl⟩
  rw [← hn] at hal ha ⊢
  rw [← hm] at hbl hb ⊢
  obtain ⟨eq, heq⟩ : ∃ eq, eq = decide (la = lb) := ⟨_, rfl⟩
  rw [← heq]
  have HN := Lib.hid hn
  have HM := Lib.hid hm
  have HE := Lib.hid heq
  have HA := Lib.hid ha
  have HB := Lib.hid hb
  clear hn hm heq ha hb
  by_cases hnm : n = m
  · have HNM := Lib.hid hnm
    have hne : ((n : Int) != (m : Int)) = false := by simp [hnm]
    clear hnm
    go_enter Try.func16, Try.ntmps16
    go_wp2
    go_loopg [5] n (fun g s5 wr => ∃ i k : Nat, i ≤ n ∧ Hid (g = n - i) ∧ s5 = .int .i64 i ∧ wr = w.drewN k ∧ Hid (∀ j, j < i → la.getD j false = lb.getD j false))
    case atStart => exact ⟨0, 0, Nat.zero_le _, rfl, rfl, rfl, fun j hj => by omega⟩
    case round =>
      obtain ⟨i, k, hi, HG, rfl, rfl, HJ⟩ := hrel
      by_cases hlt : i < n
      · have him : i < m := by have := HNM.out; omega
        obtain ⟨han, b, off, rfl, hb, hx⟩ := HA.out.part i (by rw [← HN.out]; exact hlt)
        obtain ⟨hbn, b2, off2, rfl, hb2, hy⟩ := HB.out.part i (by rw [← HM.out]; exact him)
        obtain ⟨x, hxd⟩ : ∃ x, x = la.getD i false := ⟨_, rfl⟩
        obtain ⟨y, hyd⟩ : ∃ y, y = lb.getD i false := ⟨_, rfl⟩
        rw [← hxd] at hx
        rw [← hyd] at hy
        have HX := Lib.hid hxd
        have HY := Lib.hid hyd
        clear hxd hyd han hbn
        have hli : (i : Int) < (n : Int) := by omega
        have hmi : (i : Int) < (m : Int) := by omega
        cases x <;> cases y
        · go_wp2
          go_quiet (fail)
          go_wp2
          go_roundg (n - (i + 1))
          case measure => rw [HG.out]; omega
          case rel => exact ⟨i + 1, _, by omega, rfl, by simp, rfl, fun j hj => by
            by_cases he : j = i
            · subst he; rw [← HX.out, ← HY.out]
            · exact HJ.out j (by omega)⟩
        · have he : eq = false := by
            rw [HE.out, decide_eq_false_iff_not]
            intro e; subst e; have := HX.out.trans HY.out.symm; cases this
          subst he
          go_wp2
          go_quiet (fail)
          go_wp2
          go_ret
          exact ⟨rfl, drewN_below (drewN_below (Below.refl _ _) _) _⟩
        · have he : eq = false := by
            rw [HE.out, decide_eq_false_iff_not]
            intro e; subst e; have := HX.out.trans HY.out.symm; cases this
          subst he
          go_wp2
          go_quiet (fail)
          go_wp2
          go_ret
          exact ⟨rfl, drewN_below (drewN_below (Below.refl _ _) _) _⟩
        · go_wp2
          go_quiet (fail)
          go_wp2
          go_roundg (n - (i + 1))
          case measure => rw [HG.out]; omega
          case rel => exact ⟨i + 1, _, by omega, rfl, by simp, rfl, fun j hj => by
            by_cases he : j = i
            · subst he; rw [← HX.out, ← HY.out]
            · exact HJ.out j (by omega)⟩
      · have he : eq = true := by
          rw [HE.out, decide_eq_true_iff]
          exact same_list HN.out.symm (by rw [← HM.out]; exact HNM.out.symm) (fun j hj => HJ.out j (by omega))
        subst he
        go_wp2
        go_ret
        exact ⟨rfl, drewN_below (Below.refl _ _) _⟩
  · have hne : ((n : Int) != (m : Int)) = true := by rw [bne_iff_ne]; omega
    have he : eq = false := by
      rw [HE.out, decide_eq_false_iff_not]
      intro e; subst e; exact hnm (HN.out.trans HM.out.symm)
    subst he
    clear hnm
    go_enter Try.func16, Try.ntmps16
    go_wp2
    go_ret
    exact ⟨rfl, Below.refl _ _⟩
end Go.Proofs.Ytidnpdkibndpkaa
