/- The document's words: the next place, an atom's place. -/
import Derived.Test.YtidnpdkibndpkaaTruth2
namespace Go.Proofs.Ytidnpdkibndpkaa
open Go.RowKit

set_option maxHeartbeats 1000000 in
theorem rnext_any (w : World) (la : Option Addr) (n lc back : Nat) (hn : n ≤ 1000000000) (i : Nat) (hi : i < n) :
    Calls Try.prog 44 #[.agg #[.slice la n lc, .int .i64 back], .int .i64 i] w fun e w' => e = .returned (.int .i64 (nx n back i)) ∧ Below w.heap.size w w' := by
  by_cases hl : i + 1 < n
  · have hx : nx n back i = i + 1 := by unfold nx; rw [if_pos hl]
    rw [hx]
    have hl' : (i : Int) + 1 < n := by omega
    clear hx
    go_enter Try.func44, Try.ntmps44
    go_wp2
    go_ret
    exact ⟨by simp, (Below.refl _ _).alloc (Nat.le_refl _) _⟩
  · have hx : nx n back i = back := by unfold nx; rw [if_neg hl]
    rw [hx]
    have hl' : ¬ (i : Int) + 1 < n := by omega
    clear hx
    go_enter Try.func44, Try.ntmps44
    go_wp2
    go_ret
    exact ⟨rfl, (Below.refl _ _).alloc (Nat.le_refl _) _⟩

set_option maxRecDepth 100000 in
set_option maxHeartbeats 1000000 in
theorem place_any (w : World) (sv : Value) (l : List PropD) (hl : PropsAt w sv l) (p : PropD) (r : Int) (hr : PlaceIs l p r) :
    Calls Try.prog 43 #[sv, p.val] w fun e w' => e = .returned (.int .i64 r) ∧ Below w.heap.size w w' := by
  obtain ⟨a, cap, rfl, hn, hc⟩ := hl
  obtain ⟨p1, p2, p3, p4⟩ := p
  unfold PropD.val
  go_enter Try.func43, Try.ntmps43
  go_wp2
  go_loopg [5] l.length (fun g s8 wr => Below w.heap.size w wr ∧ wr.heap[w.heap.size]? = some (.cells #[.int .i64 p1, .int .i64 p2, .int .i64 p3, .int .i64 p4] 23 (0, 0)) ∧ ∃ i : Nat, i ≤ l.length ∧ Hid (g = l.length - i) ∧ s8 = .int .i64 i ∧ Hid (∀ j, j < i → l.getD j ⟨0, 0, 0, 0⟩ ≠ ⟨p1, p2, p3, p4⟩))
  case atStart => exact ⟨(Below.refl _ _).alloc (Nat.le_refl _) _, heap_alloc_new _ _, 0, Nat.zero_le _, rfl, rfl, fun j hj => by omega⟩
  case round =>
    obtain ⟨hB, hbox, i, hi, HG, rfl, HJ⟩ := hrel
    have hx0 : wr.cell? ⟨w.heap.size, 0, none⟩ = some (.int .i64 p1) := cell_of_block hbox 0
    have hx1 : wr.cell? ⟨w.heap.size, 1, none⟩ = some (.int .i64 p2) := cell_of_block hbox 1
    have hx2 : wr.cell? ⟨w.heap.size, 2, none⟩ = some (.int .i64 p3) := cell_of_block hbox 2
    have hx3 : wr.cell? ⟨w.heap.size, 3, none⟩ = some (.int .i64 p4) := cell_of_block hbox 3
    by_cases hlt : i < l.length
    · obtain ⟨b, off, rfl, hb, hcell⟩ := hc i hlt
      obtain ⟨q, hq⟩ : ∃ q, q = l.getD i ⟨0, 0, 0, 0⟩ := ⟨_, rfl⟩
      rw [← hq] at hcell
      have HQ := Lib.hid hq
      clear hq hc
      obtain ⟨q1, q2, q3, q4⟩ := q
      have hy0 := (hB.cell (p := ⟨b, off + i * 4 + 0, none⟩) hb).trans (hcell 0 (by omega))
      have hy1 := (hB.cell (p := ⟨b, off + i * 4 + 1, none⟩) hb).trans (hcell 1 (by omega))
      have hy2 := (hB.cell (p := ⟨b, off + i * 4 + 2, none⟩) hb).trans (hcell 2 (by omega))
      have hy3 := (hB.cell (p := ⟨b, off + i * 4 + 3, none⟩) hb).trans (hcell 3 (by omega))
      simp only [PropD.cells, List.getElem?_cons_zero, List.getElem?_cons_succ, Nat.add_zero] at hy0 hy1 hy2 hy3
      have HBX := Lib.hid hbox
      have hli : (i : Int) < l.length := by omega
      clear hcell hbox
      have hgd := prop_guard
      by_cases he : (⟨q1, q2, q3, q4⟩ : PropD) = ⟨p1, p2, p3, p4⟩
      · have heq := prop_eq true (decide_eq_true he)
        have HE := Lib.hid he
        clear he
        go_wp2
        go_quiet (fail)
        go_wp2
        go_ret
        refine ⟨?_, drewN_below hB _⟩
        rcases hr with ⟨k, h1, h2, rfl, h3⟩ | ⟨rfl, h3⟩
        · have : k = i := by
            rcases Nat.lt_trichotomy k i with h | h | h
            · exact absurd h2 (HJ.out k h)
            · exact h
            · exact absurd (by rw [← HE.out, HQ.out]) (h3 i h)
          subst this; rfl
        · exact absurd (by rw [← HE.out, HQ.out]) (h3 i hlt)
      · have heq := prop_eq false (decide_eq_false he)
        have HE := Lib.hid he
        clear he
        go_wp2
        go_quiet (fail)
        go_wp2
        go_roundg (gk - 1)
        case measure => rw [HG.out]; omega
        case rel =>
          refine ⟨drewN_below hB _, HBX.out, i + 1, by omega, by rw [HG.out]; simp [Hid]; omega, by go_num, ?_⟩
          intro j hj
          rcases Nat.lt_or_eq_of_le (Nat.le_of_lt_succ hj) with h1 | rfl
          · exact HJ.out j h1
          · rw [← HQ.out]; exact fun e => HE.out e
    · have hr1 : r = -1 := by
        rcases hr with ⟨k, h1, h2, rfl, h3⟩ | ⟨rfl, h3⟩
        · exact absurd h2 (HJ.out k (by omega))
        · rfl
      subst hr1
      clear hbox hr
      go_wp2
      go_ret
      exact ⟨rfl, hB⟩

/-- What the document's way is asked with. -/
structure AskedR (w : World) (lv : Value) (ls : List (List Bool)) (back : Nat) (pv : Value) (ps : List PropD) : Prop where
  letters : LettersAt w lv ls
  props : PropsAt w pv ps
  long : 1 ≤ ls.length
  short : ls.length ≤ 1000000000
  back : back < ls.length
  wide : ∀ i, i < ls.length → (ls.getD i []).length = ps.length
theorem AskedR.below {w w' : World} {lv : Value} {ls : List (List Bool)} {back : Nat} {pv : Value} {ps : List PropD} (h : AskedR w lv ls back pv ps) (hb : Below w.heap.size w w') : AskedR w' lv ls back pv ps :=
  ⟨h.letters.below hb, h.props.below hb, h.long, h.short, h.back, h.wide⟩
theorem soFar_skip {r : Nat → Bool} {n i : Nat} (h : r i = false) : soFar r n (i + 1) = soFar r n i := by
  unfold soFar
  apply List.map_congr_left
  intro j hj
  by_cases he : j = i
  · subst he; simp [h]
  · have : (j < i + 1) ↔ (j < i) := by omega
    simp [this]
end Go.Proofs.Ytidnpdkibndpkaa
