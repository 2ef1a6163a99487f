/- Where a formula is so: package word's answer. -/
import Derived.Test.YtidnpdkibndpkaaOf
import Derived.Test.YtidnpdkibndpkaaRProps
namespace Go.Proofs.Ytidnpdkibndpkaa
open Go.RowKit

/-- Are all letters so wide? -/
def wideOk (ls : List (List Bool)) (m : Nat) : Bool := ls.all (fun l => decide (l.length = m))
/-- May a word be one for a formula? -/
def mayOk (f : Form) (ls : List (List Bool)) (bk : Int) : Bool := f.fits && decide (1 ≤ ls.length) && decide (ls.length ≤ 100000) && decide (0 ≤ bk) && decide (bk < ls.length) && wideOk ls f.props.length
/-- What Truth tells. -/
def TellsTruth (f : Form) (ls : List (List Bool)) (bk : Int) (w : World) (e : Ending) (w' : World) : Prop :=
  Below w.heap.size w w' ∧ ((mayOk f ls bk = true ∧ ∃ sv, e = .returned (.tuple #[sv, .int .i64 0]) ∧ w'.ownsRow w.heap.size 4 1 sv (f.truth f.props ls bk.toNat).length ((f.truth f.props ls bk.toNat).map Value.bool)) ∨ (mayOk f ls bk = false ∧ e = .returned (.tuple #[.slice none 0 0, .int .i64 1])))

set_option maxHeartbeats 1000000 in
theorem odd1_any (w : World) (sv : Value) (l : List Bool) (hl : BoolsAt w sv l) (st tb : Nat) (lv : Value) (back : Int) (pa : Option Addr) (m pc : Nat) (hst : w.cell? ⟨st, 0, none⟩ = some (.pointer (some ⟨tb, 0, none⟩)))
    (ht : w.heap[tb]? = some (.cells #[lv, .int .i64 back, .slice pa m pc] 55 (0, 0))) (r : Bool) (hr : r = !decide (l.length = m)) :
    Calls Try.prog 27 #[sv, .pointer (some ⟨st, 0, none⟩)] w fun e w' => e = .returned (.bool r) ∧ w = w' := by
  obtain ⟨a, cap, rfl, hn⟩ := hl.slice
  have c2 := cell_of_block ht 2
  simp only [List.getElem?_toArray, List.getElem?_cons_zero, List.getElem?_cons_succ] at c2
  clear hl ht
  obtain ⟨n, hnl⟩ : ∃ n, n = l.length := ⟨_, rfl⟩
  rw [← hnl] at hr hn ⊢
  clear hnl
  by_cases h : n = m
  · subst h
    have hr2 : r = false := by rw [hr]; simp
    subst hr2
    clear hr
    go_enter Try.func27, Try.ntmps27
    go_wp2
    go_ret
    exact ⟨by simp, rfl⟩
  · have hr2 : r = true := by rw [hr]; simp [h]
    subst hr2
    clear hr
    have h1 : ((n : Int) != (m : Int)) = true := by rw [bne_iff_ne]; omega
    clear h
    go_enter Try.func27, Try.ntmps27
    go_wp2
    go_ret
    exact ⟨by first | rfl | simp [h1], rfl⟩

theorem wideOk_at {ls : List (List Bool)} {m i : Nat} (hi : i < ls.length) (h : wideOk ls m = true) : (ls.getD i []).length = m := by
  unfold wideOk at h
  rw [List.all_eq_true] at h
  have := h ls[i] (List.getElem_mem hi)
  rw [List.getD_eq_getElem?_getD, List.getElem?_eq_getElem hi]
  simpa using this
theorem wideOk_of {ls : List (List Bool)} {m : Nat} (h : ∀ i, i < ls.length → (ls.getD i []).length = m) : wideOk ls m = true := by
  unfold wideOk
  rw [List.all_eq_true]
  intro l hl
  obtain ⟨i, hi, rfl⟩ := List.getElem_of_mem hl
  have := h i hi
  rw [List.getD_eq_getElem?_getD, List.getElem?_eq_getElem hi] at this
  simpa using this

set_option maxHeartbeats 1000000 in
theorem indexOdd_any (w : World) (sv : Value) (ls : List (List Bool)) (hl : LettersAt w sv ls) (st tb : Nat) (lv : Value) (back : Int) (pa : Option Addr) (m pc : Nat) (hst : w.cell? ⟨st, 0, none⟩ = some (.pointer (some ⟨tb, 0, none⟩)))
    (ht : w.heap[tb]? = some (.cells #[lv, .int .i64 back, .slice pa m pc] 55 (0, 0))) :
    Calls Try.prog 35 #[sv, .func (.func 27) #[] #[.pointer (some ⟨st, 0, none⟩)]] w fun e w' => ∃ r : Int, e = .returned (.int .i64 r) ∧ w = w' ∧ -1 ≤ r ∧ decide (0 ≤ r) = !wideOk ls m := by
  obtain ⟨a, cap, rfl, hn, hc⟩ := hl
  have hodd := fun (i : Nat) (sv : Value) (h : BoolsAt w sv (ls.getD i [])) => odd1_any w sv _ h st tb lv back pa m pc hst ht _ rfl
  have HO := Lib.hid hodd
  have HC := Lib.hid hc
  clear hodd hc ht hst
  go_enter Try.func35, Try.ntmps35
  go_wp2
  go_loopg [8] ls.length (fun g s8 wr => ∃ i : Nat, i ≤ ls.length ∧ Hid (g = ls.length - i) ∧ s8 = .int .i64 i ∧ w = wr ∧ Hid (∀ j, j < i → (ls.getD j []).length = m))
  case atStart => exact ⟨0, Nat.zero_le _, rfl, rfl, rfl, fun j hj => by omega⟩
  case round =>
    obtain ⟨i, hi, HG, rfl, rfl, HJ⟩ := hrel
    by_cases hlt : i < ls.length
    · obtain ⟨b, off, kv, rfl, hb, hkv, hbo⟩ := HC.out i hlt
      have hcall := HO.out i kv hbo
      obtain ⟨lx, hlx⟩ : ∃ lx, lx = ls.getD i [] := ⟨_, rfl⟩
      rw [← hlx] at hbo hcall
      obtain ⟨x, hx⟩ : ∃ x, x = !decide (lx.length = m) := ⟨_, rfl⟩
      rw [← hx] at hcall
      obtain ⟨ba, bc, rfl, hbl⟩ := hbo.slice
      have HCA := Lib.hid hcall
      have HX := Lib.hid hx
      have HLX := Lib.hid hlx
      clear hcall hx hbo hlx
      go_wp2_with fail
      refine HCA.out.mono ?_
      rintro e w' ⟨rfl, rfl⟩
      cases x
      · have hw : (ls.getD i []).length = m := by rw [← HLX.out]; have := HX.out; simpa using this
        have HW := Lib.hid hw
        clear hw
        go_wp2
        go_roundg (ls.length - (i + 1))
        case measure => rw [HG.out]; omega
        case rel => exact ⟨i + 1, by omega, rfl, by go_num, rfl, fun j hj => by
          by_cases he : j = i
          · subst he; exact HW.out
          · exact HJ.out j (by omega)⟩
      · go_wp2
        go_ret
        refine ⟨i, rfl, rfl, by omega, ?_⟩
        have h1 : wideOk ls m = false := by
          cases h : wideOk ls m with
          | false => rfl
          | true => have := wideOk_at hlt h; rw [← HLX.out] at this; have h2 := HX.out; rw [decide_eq_true this] at h2; cases h2
        rw [h1]; simp
    · go_wp2
      go_ret
      refine ⟨-1, rfl, rfl, by omega, ?_⟩
      rw [wideOk_of (fun j hj => HJ.out j (by omega))]; rfl
set_option maxHeartbeats 1000000 in
theorem containsOdd_any (w : World) (sv : Value) (ls : List (List Bool)) (hl : LettersAt w sv ls) (st tb : Nat) (lv : Value) (back : Int) (pa : Option Addr) (m pc : Nat) (hst : w.cell? ⟨st, 0, none⟩ = some (.pointer (some ⟨tb, 0, none⟩)))
    (ht : w.heap[tb]? = some (.cells #[lv, .int .i64 back, .slice pa m pc] 55 (0, 0))) :
    Calls Try.prog 26 #[sv, .func (.func 27) #[] #[.pointer (some ⟨st, 0, none⟩)]] w fun e w' => e = .returned (.bool (!wideOk ls m)) ∧ w = w' := by
  have h := indexOdd_any w sv ls hl st tb lv back pa m pc hst ht
  obtain ⟨la, lc, rfl, -⟩ := hl.slice
  have H := Lib.hid h
  clear h hst ht hl
  go_enter Try.func26, Try.ntmps26
  go_wp2_with fail
  refine H.out.mono ?_
  rintro e w' ⟨r, rfl, rfl, hr1, hr⟩
  have HR := Lib.hid hr
  clear hr
  go_wp2
  go_ret
  exact ⟨by rw [← HR.out]; rfl, rfl⟩
end Go.Proofs.Ytidnpdkibndpkaa
