/- Package logic: the walks. -/
import Derived.Test.YtidnpdkibndpkaaForm
namespace Go.Proofs.Ytidnpdkibndpkaa
open Go.RowKit

theorem prop_guard : Try.prog.eqGuardType Try.prog.depth 23 = false := by kernel_rfl
theorem prop_held : Try.prog.stoodInHeld 23 = false := by kernel_rfl
theorem prop_fields : Try.prog.underlying 23 = some (.struct (Try.prog.fieldsOf 23)) := by kernel_rfl
theorem prop_eqIn (p1 p2 p3 p4 q1 q2 q3 q4 : Int) (w : World) : (Op.equalIn 10000 23 (.agg #[.int .i64 p1, .int .i64 p2, .int .i64 p3, .int .i64 p4]) (.agg #[.int .i64 q1, .int .i64 q2, .int .i64 q3, .int .i64 q4])).run Try.prog w =
    .ok (decide ((⟨p1, p2, p3, p4⟩ : PropD) = ⟨q1, q2, q3, q4⟩)) w := by
  rw [run_equalIn_struct w 9999 23 _ _ prop_fields prop_held]
  simp [Op.eqFields, Program.fieldsOf, Try.underlying23, Try.underlying3, go_sem]
  by_cases h1 : p1 = q1 <;> by_cases h2 : p2 = q2 <;> by_cases h3 : p3 = q3 <;> by_cases h4 : p4 = q4 <;> simp [h1, h2, h3, h4]

theorem prop_eq {p1 p2 p3 p4 q1 q2 q3 q4 : Int} (b : Bool) (h : decide ((⟨p1, p2, p3, p4⟩ : PropD) = ⟨q1, q2, q3, q4⟩) = b) (w : World) : (Op.equalIn 10000 23 (.agg #[.int .i64 p1, .int .i64 p2, .int .i64 p3, .int .i64 p4]) (.agg #[.int .i64 q1, .int .i64 q2, .int .i64 q3, .int .i64 q4])).run Try.prog w =
    .ok b w := by rw [← h]; exact prop_eqIn ..

set_option maxRecDepth 100000 in
set_option maxHeartbeats 400000 in
theorem index_any (w : World) (sv : Value) (l : List PropD) (hl : PropsAt w sv l) (p : PropD) (r : Int) (hr : PlaceIs l p r) :
    Calls Try.prog 38 #[sv, p.val] w fun e w' => e = .returned (.int .i64 r) ∧ Below w.heap.size w w' := by
  obtain ⟨a, cap, rfl, hn, hc⟩ := hl
  obtain ⟨p1, p2, p3, p4⟩ := p
  unfold PropD.val
  go_enter Try.func38, Try.ntmps38
  go_wp2
  go_loopg [8] l.length (fun g s8 wr => Below w.heap.size w wr ∧ wr.heap[w.heap.size]? = some (.cells #[.int .i64 p1, .int .i64 p2, .int .i64 p3, .int .i64 p4] 23 (0, 0)) ∧ ∃ i : Nat, i ≤ l.length ∧ Hid (g = l.length - i) ∧ s8 = .int .i64 i ∧ Hid (∀ j, j < i → l.getD j ⟨0, 0, 0, 0⟩ ≠ ⟨p1, p2, p3, p4⟩))
  case atStart => exact ⟨(Below.refl _ _).alloc (Nat.le_refl _) _, heap_alloc_new _ _, 0, Nat.zero_le _, rfl, rfl, fun j hj => by omega⟩
  case round =>
    obtain ⟨hB, hbox, i, hi, HG, rfl, HJ⟩ := hrel
    have hx0 : wr.cell? ⟨w.heap.size, 0, none⟩ = some (.int .i64 p1) := cell_of_block hbox 0
    have hx1 : wr.cell? ⟨w.heap.size, 1, none⟩ = some (.int .i64 p2) := cell_of_block hbox 1
    have hx2 : wr.cell? ⟨w.heap.size, 2, none⟩ = some (.int .i64 p3) := cell_of_block hbox 2
    have hx3 : wr.cell? ⟨w.heap.size, 3, none⟩ = some (.int .i64 p4) := cell_of_block hbox 3
    by_cases hlt : i < l.length
    · obtain ⟨b, off, rfl, hb, hcell⟩ := hc i hlt
      obtain ⟨q, hq⟩ : ∃ q, q = l.getD i ⟨0, 0, 0, 0⟩ := ⟨_, rfl⟩
      rw [← hq] at hcell
      have HQ := Lib.hid hq
      clear hq hc
      obtain ⟨q1, q2, q3, q4⟩ := q
      have hy0 := (hB.cell (p := ⟨b, off + i * 4 + 0, none⟩) hb).trans (hcell 0 (by omega))
      have hy1 := (hB.cell (p := ⟨b, off + i * 4 + 1, none⟩) hb).trans (hcell 1 (by omega))
      have hy2 := (hB.cell (p := ⟨b, off + i * 4 + 2, none⟩) hb).trans (hcell 2 (by omega))
      have hy3 := (hB.cell (p := ⟨b, off + i * 4 + 3, none⟩) hb).trans (hcell 3 (by omega))
      simp only [PropD.cells, List.getElem?_cons_zero, List.getElem?_cons_succ, Nat.add_zero] at hy0 hy1 hy2 hy3
      have HBX := Lib.hid hbox
      clear hcell hbox
      have hgd := prop_guard
      by_cases he : (⟨p1, p2, p3, p4⟩ : PropD) = ⟨q1, q2, q3, q4⟩
      · have heq := prop_eq true (decide_eq_true he)
        have HE := Lib.hid he
        clear he
        go_wp2
        go_quiet (fail)
        go_wp2
        go_ret
        refine ⟨?_, hB.trans ⟨rfl, rfl, rfl, Nat.le_refl _, fun _ _ => rfl⟩⟩
        rcases hr with ⟨k, h1, h2, rfl, h3⟩ | ⟨rfl, h3⟩
        · have : k = i := by
            rcases Nat.lt_trichotomy k i with h | h | h
            · exact absurd h2 (HJ.out k h)
            · exact h
            · exact absurd (by rw [HE.out, HQ.out]) (h3 i h)
          subst this; rfl
        · exact absurd (by rw [HE.out, HQ.out]) (h3 i hlt)
      · have heq := prop_eq false (decide_eq_false he)
        have HE := Lib.hid he
        clear he
        go_wp2
        go_quiet (fail)
        go_wp2
        go_roundg (gk - 1)
        case measure => rw [HG.out]; omega
        case rel =>
          refine ⟨hB.trans ⟨rfl, rfl, rfl, Nat.le_refl _, fun _ _ => rfl⟩, HBX.out, i + 1, by omega, by rw [HG.out]; simp [Hid]; omega, by go_num, ?_⟩
          intro j hj
          rcases Nat.lt_or_eq_of_le (Nat.le_of_lt_succ hj) with h1 | rfl
          · exact HJ.out j h1
          · rw [← HQ.out]; exact fun e => HE.out e.symm
    · have hr1 : r = -1 := by
        rcases hr with ⟨k, h1, h2, rfl, h3⟩ | ⟨rfl, h3⟩
        · exact absurd h2 (HJ.out k (by omega))
        · rfl
      subst hr1
      clear hbox hr
      go_wp2
      go_ret
      exact ⟨rfl, hB⟩
end Go.Proofs.Ytidnpdkibndpkaa
