/- May a graph be: the document's answer. -/
import Derived.Test.YtoojalcfojflhaaGRight
namespace Go.Proofs.Ytoojalcfojflhaa
open Go.RowKit

theorem all_yes_of {α : Type} [Inhabited α] (l : List α) (d : α) (p : α → Bool) (h : ∀ j, j < l.length → p (l.getD j d) = true) : l.all p = true := by
  rw [List.all_eq_true]
  intro x hx
  obtain ⟨j, hj, rfl⟩ := List.getElem_of_mem hx
  have := h j hj
  rwa [List.getD_eq_getElem?_getD, List.getElem?_eq_getElem hj] at this
theorem all_no_of {α : Type} [Inhabited α] (l : List α) (d : α) (p : α → Bool) (j : Nat) (hj : j < l.length) (h : p (l.getD j d) = false) : l.all p = false := by
  rw [List.all_eq_false]
  rw [List.getD_eq_getElem?_getD, List.getElem?_eq_getElem hj] at h
  exact ⟨l[j], List.getElem_mem hj, by simpa using h⟩
def nodeB (n : Nat) (i : Int) : Bool := decide (0 ≤ i ∧ i < (n : Int))
set_option maxRecDepth 100000 in
set_option maxHeartbeats 4000000 in
theorem refRight_any (w : World) (g : GraphD) (ev iv : Value) (h : GraphAt w g ev iv) : Calls Try.prog 15 #[graphV g ev iv] w fun e w' => e = .returned (.bool g.right) ∧ Below w.heap.size w w' := by
  obtain ⟨ea, ec, rfl, hel⟩ := h.edges.slice
  obtain ⟨ia, ic, rfl, hil⟩ := h.initial.slice
  obtain ⟨es, is, m⟩ := g
  simp only [] at hel hil h ⊢
  have hbw : ∀ o, Below w.heap.size w (w.alloc o) := fun o => (Below.refl _ _).alloc (Nat.le_refl _) o
  have h1 := fun o => h.edges.below (hbw o)
  have h2 := fun o => h.initial.below (hbw o)
  simp only [] at h1 h2
  obtain ⟨n, hn⟩ : ∃ n, n = es.length := ⟨_, rfl⟩
  obtain ⟨k, hk⟩ : ∃ k, k = is.length := ⟨_, rfl⟩
  have hres : GraphD.right ⟨es, is, m⟩ = (decide (n ≤ 1000000) && decide (0 ≤ m) && decide (m ≤ 40) && es.all (fun l => l.all (fun e => nodeB n e.to)) && is.all (nodeB n)) := by
    unfold GraphD.right GraphD.node
    simp only []
    rw [← hn]; rfl
  rw [hres]
  obtain ⟨r, hr⟩ : ∃ r, r = (decide (n ≤ 1000000) && decide (0 ≤ m) && decide (m ≤ 40) && es.all (fun l => l.all (fun e => nodeB n e.to)) && is.all (nodeB n)) := ⟨_, rfl⟩
  rw [← hr]
  unfold graphV
  simp only []
  rw [← hn] at hel h1 ⊢
  rw [← hk] at hil h2 ⊢
  have HR := Lib.hid hr
  have HN := Lib.hid hn
  have HK := Lib.hid hk
  have HE := Lib.hid (h1 (.cells #[.slice ea n ec, .slice ia k ic, .int .i64 m] 25))
  have HI := Lib.hid (h2 (.cells #[.slice ea n ec, .slice ia k ic, .int .i64 m] 25))
  have HB := Lib.hid (hbw (.cells #[.slice ea n ec, .slice ia k ic, .int .i64 m] 25))
  have H1 := Lib.hid (heap_alloc_new w (.cells #[.slice ea n ec, .slice ia k ic, .int .i64 m] 25))
  clear hr hn hk hres h h1 h2 hbw
  go_enter Try.func15, Try.ntmps15
  go_upto_region 1 with fail
  generalize World.alloc _ _ = W at HB H1 HE HI ⊢
  obtain ⟨b, hb⟩ : ∃ b, b = w.heap.size := ⟨_, rfl⟩
  rw [← hb] at H1 ⊢
  clear hb
  have c0 := cell_of_block H1.out 0
  have c1 := cell_of_block H1.out 1
  have c2 := cell_of_block H1.out 2
  simp only [List.getElem?_toArray, List.getElem?_cons_zero, List.getElem?_cons_succ] at c0 c1 c2
  by_cases a1 : 1000000 < (n : Int)
  · obtain rfl : r = false := by rw [HR.out, show decide (n ≤ 1000000) = false from by simp; omega]; simp
    clear HR
    go_wp2_with fail
    go_ret
    exact ⟨by first | rfl | simp, HB.out⟩
  · have e1 : decide (n ≤ 1000000) = true := by simp; omega
    by_cases a2 : m < 0
    · obtain rfl : r = false := by rw [HR.out, show decide (0 ≤ m) = false from by simp; omega]; simp
      clear HR
      go_wp2_with fail
      go_ret
      exact ⟨by first | rfl | simp, HB.out⟩
    · have e2 : decide (0 ≤ m) = true := by simp; omega
      by_cases a3 : 40 < m
      · obtain rfl : r = false := by rw [HR.out, show decide (m ≤ 40) = false from by simp; omega]; simp
        clear HR
        go_wp2_with fail
        go_ret
        exact ⟨by first | rfl | simp, HB.out⟩
      · have e3 : decide (m ≤ 40) = true := by simp; omega
        have hr3 : r = (es.all (fun l => l.all (fun e => nodeB n e.to)) && is.all (nodeB n)) := by rw [HR.out, e1, e2, e3]; simp
        have HR3 := Lib.hid hr3
        clear hr3 HR e1 e2 e3
        go_wp2_with fail
        go_loopg [4] n (fun gg s4 wr => ∃ i : Nat, i ≤ n ∧ Hid (gg = n - i) ∧ s4 = .int .i64 i ∧ wr = W ∧ Hid (∀ j, j < i → (es.getD j []).all (fun e => nodeB n e.to) = true))
        case atStart => exact ⟨0, Nat.zero_le _, rfl, rfl, rfl, fun j hj => by omega⟩
        case round =>
          obtain ⟨i, hi, HG, rfl, hwr, HJ⟩ := hrel
          obtain rfl : W = wr := hwr.symm
          by_cases hlt : i < n
          · have hlt' : (i : Int) < (n : Int) := by omega
            obtain ⟨-, eb, eo, ka, kc, rfl, heb, hec, hel2⟩ := HE.out.part i (by rw [← HN.out]; exact hlt)
            obtain ⟨l, hl⟩ : ∃ l, l = es.getD i [] := ⟨_, rfl⟩
            rw [← hl] at hec hel2
            obtain ⟨ln, hln⟩ : ∃ ln, ln = l.length := ⟨_, rfl⟩
            rw [← hln] at hec hel2
            have hlb : ln ≤ 9223372036854775807 := by obtain ⟨_, _, _, h⟩ := hel2.slice; omega
            have HL := Lib.hid hl
            have HLN := Lib.hid hln
            have HEL := Lib.hid hel2
            clear hl hln hel2 heb
            go_wp2_with fail
            go_loopg [5] ln (fun gg s5 wr => ∃ q : Nat, q ≤ ln ∧ Hid (gg = ln - q) ∧ s5 = .int .i64 q ∧ wr = W ∧ Hid (∀ j, j < q → nodeB n (l.getD j default).to = true))
            case atStart => exact ⟨0, Nat.zero_le _, rfl, rfl, rfl, fun j hj => by omega⟩
            case round =>
              obtain ⟨q, hq, HG2, rfl, hwr, HJ2⟩ := hrel
              obtain rfl : W = wr := hwr.symm
              by_cases hlq : q < ln
              · have hlq' : (q : Int) < (ln : Int) := by omega
                obtain ⟨-, qb, qo, rfl, hqb, hqc, hqd⟩ := HEL.out.part q (by rw [← HLN.out]; exact hlq)
                obtain ⟨x, hx⟩ : ∃ x, x = l.getD q default := ⟨_, rfl⟩
                rw [← hx] at hqc hqd
                obtain ⟨t, ht⟩ : ∃ t, t = x.to := ⟨_, rfl⟩
                rw [← ht] at hqc
                have HX : Hid (t = (l.getD q default).to) := by rw [Hid, ht, hx]
                clear hx ht hqd hqb
                by_cases b1 : t < 0
                · obtain rfl : r = false := by
                    rw [HR3.out, all_no_of es [] (fun l => l.all (fun e => nodeB n e.to)) i (by rw [← HN.out]; exact hlt) (by rw [← HL.out]; exact all_no_of l default (fun e => nodeB n e.to) q (by rw [← HLN.out]; exact hlq) (by show nodeB n _ = false; rw [← HX.out]; unfold nodeB; simp; omega))]; simp
                  clear HR3
                  go_wp2_with fail
                  go_ret
                  exact ⟨by first | rfl | simp, HB.out⟩
                · by_cases b2 : (n : Int) ≤ t
                  · obtain rfl : r = false := by
                      rw [HR3.out, all_no_of es [] (fun l => l.all (fun e => nodeB n e.to)) i (by rw [← HN.out]; exact hlt) (by rw [← HL.out]; exact all_no_of l default (fun e => nodeB n e.to) q (by rw [← HLN.out]; exact hlq) (by show nodeB n _ = false; rw [← HX.out]; unfold nodeB; simp; omega))]; simp
                    clear HR3
                    go_wp2_with fail
                    go_ret
                    exact ⟨by first | rfl | simp, HB.out⟩
                  · have b3 : ¬ t ≥ (n : Int) := b2
                    have b4 : t < (n : Int) := by omega
                    go_wp2_with fail
                    go_roundg (ln - (q + 1))
                    case measure => rw [HG2.out]; omega
                    case rel => exact ⟨q + 1, by omega, rfl, by simp, rfl, fun j hj => by
                      by_cases he : j = q
                      · subst he; rw [← HX.out]; unfold nodeB; simp; omega
                      · exact HJ2.out j (by omega)⟩
              · obtain rfl : q = ln := by omega
                have hall := all_yes_of l default (fun e => nodeB n e.to) (fun j hj => HJ2.out j (by rw [HLN.out]; exact hj))
                have HALL := Lib.hid hall
                clear hall
                go_wp2_with fail
                go_roundg (n - (i + 1))
                case measure => rw [HG.out]; omega
                case rel => exact ⟨i + 1, by omega, rfl, by simp, rfl, fun j hj => by
                  by_cases he : j = i
                  · subst he; rw [← HL.out]; exact HALL.out
                  · exact HJ.out j (by omega)⟩
          · obtain rfl : i = n := by omega
            have hall := all_yes_of es [] (fun l => l.all (fun e => nodeB i e.to)) (fun j hj => HJ.out j (by rw [HN.out]; exact hj))
            have hr4 : r = is.all (nodeB i) := by rw [HR3.out, hall]; simp
            have HR4 := Lib.hid hr4
            clear hall hr4 HR3
            go_wp2_with fail
            go_loopg [6] k (fun gg s6 wr => ∃ q : Nat, q ≤ k ∧ Hid (gg = k - q) ∧ s6 = .int .i64 q ∧ wr = W ∧ Hid (∀ j, j < q → nodeB i (is.getD j 0) = true))
            case atStart => exact ⟨0, Nat.zero_le _, rfl, rfl, rfl, fun j hj => by omega⟩
            case round =>
              obtain ⟨q, hq, HG2, rfl, hwr, HJ2⟩ := hrel
              obtain rfl : W = wr := hwr.symm
              by_cases hlq : q < k
              · have hlq' : (q : Int) < (k : Int) := by omega
                obtain ⟨-, qb, qo, rfl, hqb, hqc, -⟩ := HI.out.part q (by rw [← HK.out]; exact hlq)
                obtain ⟨t, ht⟩ : ∃ t, t = is.getD q 0 := ⟨_, rfl⟩
                rw [← ht] at hqc
                have HX := Lib.hid ht
                clear ht hqb
                by_cases b1 : t < 0
                · obtain rfl : r = false := by
                    rw [HR4.out]; exact all_no_of is 0 (nodeB i) q (by rw [← HK.out]; exact hlq) (by rw [← HX.out]; unfold nodeB; simp; omega)
                  clear HR4
                  go_wp2_with fail
                  go_ret
                  exact ⟨by first | rfl | simp, HB.out⟩
                · by_cases b2 : (i : Int) ≤ t
                  · obtain rfl : r = false := by
                      rw [HR4.out]; exact all_no_of is 0 (nodeB i) q (by rw [← HK.out]; exact hlq) (by rw [← HX.out]; unfold nodeB; simp; omega)
                    clear HR4
                    go_wp2_with fail
                    go_ret
                    exact ⟨by first | rfl | simp, HB.out⟩
                  · have b3 : ¬ t ≥ (i : Int) := b2
                    have b4 : t < (i : Int) := by omega
                    go_wp2_with fail
                    go_roundg (k - (q + 1))
                    case measure => rw [HG2.out]; omega
                    case rel => exact ⟨q + 1, by omega, rfl, by simp, rfl, fun j hj => by
                      by_cases he : j = q
                      · subst he; rw [← HX.out]; unfold nodeB; simp; omega
                      · exact HJ2.out j (by omega)⟩
              · obtain rfl : q = k := by omega
                obtain rfl : r = true := by
                  rw [HR4.out]; exact all_yes_of is 0 (nodeB i) (fun j hj => HJ2.out j (by rw [HK.out]; exact hj))
                clear HR4
                go_wp2_with fail
                go_ret
                exact ⟨by first | rfl | simp, HB.out⟩
end Go.Proofs.Ytoojalcfojflhaa
