/- What a thread sees of its own stores; are two buffers the same: the document's answer: the walks. -/
import Derived.Test.YtnlkbboghcdpnaaBuf
namespace Go.Proofs.Ytnlkbboghcdpnaa
open Go.RowKit

/-- The last store to a variable among the first so many. -/
def scanB (l : List EntryD) (v : Int) : Nat → Option Int
  | 0 => none
  | k + 1 => if (l.getD k default).var = v then some (l.getD k default).n else scanB l v k
def lookB (l : List EntryD) (v : Int) : Option Int := scanB l v l.length
set_option maxRecDepth 100000 in
set_option maxHeartbeats 4000000 in
theorem look_any (w : World) (bv : Value) (l : List EntryD) (h : BufAt w bv l) (hl : l.length ≤ 1000000) (v : Int) :
    Calls Try.prog 61 #[bv, .int .i64 v] w fun e w' => e = .returned (.tuple #[.int .i64 ((lookB l v).getD 0), .bool (lookB l v).isSome]) ∧ Below w.heap.size w w' := by
  obtain ⟨ba, bc, rfl, -⟩ := SliceR.slice h
  obtain ⟨n, hn⟩ : ∃ n, n = l.length := ⟨_, rfl⟩
  obtain ⟨r, hr⟩ : ∃ r, r = lookB l v := ⟨_, rfl⟩
  rw [← hr]
  unfold lookB at hr
  rw [← hn] at h hl hr ⊢
  have HL := Lib.hid h
  have HN := Lib.hid hn
  have HR := Lib.hid hr
  clear h hn hr
  go_enter Try.func61, Try.ntmps61
  go_wp2_with fail
  go_loopg [6] n (fun gg s6 wr => ∃ (j : Nat) (z : Int), j ≤ n ∧ Hid (gg = j) ∧ s6 = .int .i64 z ∧ z = (j : Int) - 1 ∧ wr = w ∧ Hid (r = scanB l v j))
  case atStart => exact ⟨n, _, Nat.le_refl _, rfl, by first | rfl | simp, by first | rfl | (unfold wrap64; omega), rfl, HR.out⟩
  case round =>
    obtain ⟨j, z, hj, HG, rfl, hz, hwr, HS⟩ := hrel
    obtain rfl : w = wr := hwr.symm
    by_cases h0 : j = 0
    · obtain rfl : z = -1 := by omega
      subst h0
      have hrn : r = none := HS.out
      subst hrn
      clear hz HR
      go_wp2_with fail
      go_ret2
      exact ⟨by first | rfl | simp, Below.refl _ _⟩
    · obtain ⟨k, rfl⟩ : ∃ k, j = k + 1 := ⟨j - 1, by omega⟩
      obtain rfl : z = (k : Int) := by omega
      have hk : k < n := by omega
      have hkI : (k : Int) < (n : Int) := by omega
      have hk0 : ¬ (k : Int) < 0 := by omega
      obtain ⟨eb, eo, hea, -, he1, he2⟩ := HL.out.part k (by rw [← HN.out]; exact hk)
      subst hea
      obtain ⟨ev, hev⟩ : ∃ ev, ev = (l.getD k default).var := ⟨_, rfl⟩
      obtain ⟨en, hen⟩ : ∃ en, en = (l.getD k default).n := ⟨_, rfl⟩
      rw [← hev] at he1
      rw [← hen] at he2
      have HS2 : Hid (r = if ev = v then some en else scanB l v k) := by rw [Hid, hev, hen]; exact HS.out
      clear hev hen h0 hz
      by_cases a1 : ev = v
      · have a1b : ((ev : Int) == v) = true := by simp [a1]
        obtain rfl : r = some en := by rw [HS2.out, if_pos a1]
        clear a1 HR HS HS2
        go_wp2_with fail
        go_ret2
        exact ⟨by first | rfl | simp, Below.refl _ _⟩
      · have a1b : ((ev : Int) == v) = false := by simp [a1]
        have HS3 : Hid (r = scanB l v k) := by rw [Hid, HS2.out, if_neg a1]
        clear a1
        go_wp2_with fail
        go_roundg k
        case measure => rw [HG.out]; omega
        case rel => exact ⟨k, _, by omega, rfl, rfl, by first | rfl | (unfold wrap64; omega), rfl, HS3.out⟩
theorem entry_ext {a b : EntryD} (h1 : a.var = b.var) (h2 : a.n = b.n) : a = b := by cases a; cases b; simp_all
theorem list_ext_getD {α : Type} [Inhabited α] {a b : List α} (hl : a.length = b.length) (h : ∀ i, i < a.length → a.getD i default = b.getD i default) : a = b := by
  apply List.ext_getElem hl
  intro i h1 h2
  have := h i h1
  simpa [List.getD_eq_getElem?_getD, h1, h2] using this
set_option maxRecDepth 100000 in
set_option maxHeartbeats 4000000 in
theorem sameBuf_any (w : World) (av bv : Value) (a b : List EntryD) (ha : BufAt w av a) (hb : BufAt w bv b) :
    Calls Try.prog 67 #[av, bv] w fun e w' => e = .returned (.bool (decide (a = b))) ∧ Below w.heap.size w w' := by
  obtain ⟨aa, ac, rfl, hal⟩ := SliceR.slice ha
  obtain ⟨ba, bc, rfl, hbl⟩ := SliceR.slice hb
  obtain ⟨n, hn⟩ : ∃ n, n = a.length := ⟨_, rfl⟩
  obtain ⟨m, hm⟩ : ∃ m, m = b.length := ⟨_, rfl⟩
  obtain ⟨r, hr⟩ : ∃ r, r = decide (a = b) := ⟨_, rfl⟩
  rw [← hr]
  rw [← hn] at ha hal ⊢
  rw [← hm] at hb hbl ⊢
  have HA := Lib.hid ha
  have HB := Lib.hid hb
  have HN := Lib.hid hn
  have HM := Lib.hid hm
  have HR := Lib.hid hr
  clear ha hb hn hm hr
  go_enter Try.func67, Try.ntmps67
  by_cases hnm : n = m
  · have hnmI : ((n : Int) != (m : Int)) = false := by simp [hnm]
    subst hnm
    go_wp2_with fail
    go_loopg [5] n (fun gg s5 wr => ∃ i : Nat, i ≤ n ∧ Hid (gg = n - i) ∧ s5 = .int .i64 i ∧ Hid (∀ j, j < i → a.getD j default = b.getD j default) ∧ Hid (Below w.heap.size w wr))
    case atStart => exact ⟨0, Nat.zero_le _, rfl, rfl, fun j hj => by omega, Below.refl _ _⟩
    case round =>
      obtain ⟨i, hi, HG, rfl, HJ, HBR⟩ := hrel
      by_cases hlt : i < n
      · have hltI : (i : Int) < (n : Int) := by omega
        obtain ⟨eb, eo, hea, -, he1, he2⟩ := HA.out.part i (by rw [← HN.out]; exact hlt)
        subst hea
        obtain ⟨fb, fo, hfa, -, hf1, hf2⟩ := HB.out.part i (by rw [← HM.out]; exact hlt)
        subst hfa
        obtain ⟨x, hx⟩ : ∃ x, x = a.getD i default := ⟨_, rfl⟩
        obtain ⟨y, hy⟩ : ∃ y, y = b.getD i default := ⟨_, rfl⟩
        rw [← hx] at he1 he2
        rw [← hy] at hf1 hf2
        replace he1 := cells_kept HBR.out _ _ he1
        replace he2 := cells_kept HBR.out _ _ he2
        replace hf1 := cells_kept HBR.out _ _ hf1
        replace hf2 := cells_kept HBR.out _ _ hf2
        have HX := Lib.hid hx
        have HY := Lib.hid hy
        clear hx hy
        obtain ⟨x1, x2⟩ := x
        obtain ⟨y1, y2⟩ := y
        simp only [] at he1 he2 hf1 hf2
        by_cases a1 : x1 = y1 ∧ x2 = y2
        · obtain ⟨rfl, rfl⟩ := a1
          go_wp2_with fail
          go_quiet (fail)
          go_wp2_with fail
          go_roundg (n - (i + 1))
          case measure => rw [HG.out]; omega
          case rel => exact ⟨i + 1, by omega, rfl, by simp, fun j hj => by
            by_cases e : j = i
            · subst e; rw [← HX.out, ← HY.out]
            · exact HJ.out j (by omega), drewN_below HBR.out _⟩
        · have hrf : r = false := by
            rw [HR.out, decide_eq_false_iff_not]
            rintro rfl
            have h1 := HX.out.trans HY.out.symm
            cases h1
            exact a1 ⟨rfl, rfl⟩
          subst hrf
          clear HR HX HY
          by_cases a2 : x1 = y1
          · subst a2
            have a3 : ¬ x2 = y2 := fun e => a1 ⟨rfl, e⟩
            have a4 : ((x2 : Int) == y2) = false := by simp [a3]
            clear a1
            go_wp2_with fail
            go_quiet (fail)
            go_wp2_with fail
            go_ret
            exact ⟨by first | rfl | simp, drewN_below HBR.out _⟩
          · have a4 : ((x1 : Int) == y1) = false := by simp [a2]
            clear a1
            go_wp2_with fail
            go_quiet (fail)
            go_wp2_with fail
            go_ret
            exact ⟨by first | rfl | simp, drewN_below HBR.out _⟩
      · obtain rfl : n = i := by omega
        have hrt : r = true := by
          rw [HR.out, decide_eq_true_eq]
          exact list_ext_getD (by rw [← HN.out, ← HM.out]) (fun i hi => HJ.out i (by rw [HN.out]; exact hi))
        subst hrt
        clear HR
        go_wp2_with fail
        go_ret
        exact ⟨by first | rfl | simp, HBR.out⟩
  · have hnmI : ((n : Int) != (m : Int)) = true := by rw [bne_iff_ne]; omega
    have hrf : r = false := by
      rw [HR.out, decide_eq_false_iff_not]
      rintro rfl
      exact hnm (HN.out.trans HM.out.symm)
    subst hrf
    clear HR
    go_wp2_with fail
    go_ret
    exact ⟨by first | rfl | simp, Below.refl _ _⟩
end Go.Proofs.Ytnlkbboghcdpnaa
