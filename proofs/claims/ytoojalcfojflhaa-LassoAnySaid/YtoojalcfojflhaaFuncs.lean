/- Searches through slices by a function that only reads. -/
import Derived.Test.YtoojalcfojflhaaGraph
namespace Go.Proofs.Ytoojalcfojflhaa
open Go.RowKit

theorem any_first {n : Nat} {P : Nat → Bool} (i : Nat) (hi : i < n) (h : P i = true) : (List.range n).any P = true := by
  rw [List.any_eq_true]; exact ⟨i, by simpa using hi, h⟩
theorem any_none {n : Nat} {P : Nat → Bool} (h : ∀ j, j < n → P j = false) : (List.range n).any P = false := by
  rw [List.any_eq_false]; intro j hj; rw [h j (by simpa using hj)]; simp

/-- The first one of which a function says yes. -/
theorem indexInt_any (w : World) (sv : Value) (l : List Int) (hl : NumsAt w .i64 sv l) (fn : FuncId) (first captured : Array Value) (P : Nat → Bool) (hfn : ∀ args W, (callFunc fn args).run Try.prog W = .ok (.enter fn args) W)
    (hcall : ∀ j, j < l.length → ∀ (W : World), Below w.heap.size w W → Calls Try.prog fn (first.push (.int .i64 (l.getD j 0)) ++ captured) W fun e W' => e = .returned (.bool (P j)) ∧ Below W.heap.size W W') :
    Calls Try.prog 41 #[sv, .func (.func fn) first captured] w fun e w' => (∃ i : Nat, i < l.length ∧ e = .returned (.int .i64 i) ∧ P i = true ∧ Below w.heap.size w w') ∨ (e = .returned (.int .i64 (-1)) ∧ (∀ j, j < l.length → P j = false) ∧ Below w.heap.size w w') := by
  obtain ⟨a, cap, rfl, hn⟩ := hl.slice
  have HL := Lib.hid hl
  have HC := Lib.hid hcall
  clear hl hcall
  obtain ⟨n, hnd⟩ : ∃ n, n = l.length := ⟨_, rfl⟩
  rw [← hnd] at hn HL ⊢
  have HN := Lib.hid hnd
  clear hnd
  go_enter Try.func41, Try.ntmps41
  go_wp2
  go_loopg [8] n (fun g s8 wr => ∃ i : Nat, i ≤ n ∧ Hid (g = n - i) ∧ s8 = .int .i64 i ∧ Hid (∀ j, j < i → P j = false) ∧ Hid (Below w.heap.size w wr))
  case atStart => exact ⟨0, Nat.zero_le _, rfl, rfl, fun j hj => by omega, Below.refl _ _⟩
  case round =>
    obtain ⟨i, hi, HG, rfl, HJ, HB⟩ := hrel
    by_cases hlt : i < n
    · have hln : n = l.length := HN.out
      obtain ⟨-, b, off, rfl, hb, hc, -⟩ := NumsAt.part (HL.out.below HB.out) i (by omega)
      have hca := HC.out i (by omega) wr  HB.out
      clear hln
      obtain ⟨x, hx⟩ : ∃ x, x = l.getD i 0 := ⟨_, rfl⟩
      rw [← hx] at hc hca
      clear hx
      have HCA := Lib.hid hca
      clear hca
      go_wp2_with fail
      refine HCA.out.mono ?_
      rintro e w2 ⟨rfl, hb2⟩
      have HB2 : Hid (Below w.heap.size w w2) := HB.out.trans (hb2.mono HB.out.size)
      obtain ⟨r, hr⟩ : ∃ r, r = P i := ⟨_, rfl⟩
      rw [← hr]
      have HR := Lib.hid hr
      clear hb2 hr HCA hc
      cases r
      · go_wp2
        go_roundg (n - (i + 1))
        case measure => rw [HG.out]; omega
        case rel => exact ⟨i + 1, by omega, rfl, by go_num, fun j hj => by
          by_cases he : j = i
          · subst he; exact HR.out.symm
          · exact HJ.out j (by omega), HB2.out⟩
      · go_wp2
        go_ret
        exact .inl ⟨i, hlt, rfl, HR.out.symm, HB2.out⟩
    · have : i = n := by omega
      subst this
      go_wp2
      go_ret
      exact .inr ⟨rfl, HJ.out, HB.out⟩
theorem containsInt_any (w : World) (sv : Value) (l : List Int) (hl : NumsAt w .i64 sv l) (fn : FuncId) (first captured : Array Value) (P : Nat → Bool) (hfn : ∀ args W, (callFunc fn args).run Try.prog W = .ok (.enter fn args) W)
    (hcall : ∀ j, j < l.length → ∀ (W : World), Below w.heap.size w W → Calls Try.prog fn (first.push (.int .i64 (l.getD j 0)) ++ captured) W fun e W' => e = .returned (.bool (P j)) ∧ Below W.heap.size W W') :
    Calls Try.prog 26 #[sv, .func (.func fn) first captured] w fun e w' => e = .returned (.bool ((List.range l.length).any P)) ∧ Below w.heap.size w w' := by
  have hc := indexInt_any w sv l hl fn first captured P hfn hcall
  have HC := Lib.hid hc
  clear hc hcall hl hfn
  go_enter Try.func26, Try.ntmps26
  go_wp2_with fail
  refine HC.out.mono ?_
  rintro e w2 (⟨i, hi, rfl, hp, hb⟩ | ⟨rfl, hp, hb⟩)
  · have HB := Lib.hid hb
    have HP := Lib.hid hp
    clear hb HC hp
    go_wp2
    go_ret
    exact ⟨(by rw [any_first i hi HP.out]; rfl), HB.out⟩
  · have HB := Lib.hid hb
    have HP := Lib.hid hp
    clear hb HC hp
    go_wp2
    go_ret
    exact ⟨(by rw [any_none HP.out]; rfl), HB.out⟩

/-- The first one of which a function says yes. -/
theorem indexEdgeL_any (w : World) (sv : Value) (l : List (List EdgeD)) (hl : EdgesAt w sv l) (fn : FuncId) (first captured : Array Value) (P : Nat → Bool) (hfn : ∀ args W, (callFunc fn args).run Try.prog W = .ok (.enter fn args) W)
    (hcall : ∀ j, j < l.length → ∀ (W : World) (kv : Value) (_ : EdgeLAt W kv (l.getD j [])), Below w.heap.size w W → Calls Try.prog fn (first.push kv ++ captured) W fun e W' => e = .returned (.bool (P j)) ∧ Below W.heap.size W W') :
    Calls Try.prog 42 #[sv, .func (.func fn) first captured] w fun e w' => (∃ i : Nat, i < l.length ∧ e = .returned (.int .i64 i) ∧ P i = true ∧ Below w.heap.size w w') ∨ (e = .returned (.int .i64 (-1)) ∧ (∀ j, j < l.length → P j = false) ∧ Below w.heap.size w w') := by
  obtain ⟨a, cap, rfl, hn⟩ := hl.slice
  have HL := Lib.hid hl
  have HC := Lib.hid hcall
  clear hl hcall
  obtain ⟨n, hnd⟩ : ∃ n, n = l.length := ⟨_, rfl⟩
  rw [← hnd] at hn HL ⊢
  have HN := Lib.hid hnd
  clear hnd
  go_enter Try.func42, Try.ntmps42
  go_wp2
  go_loopg [8] n (fun g s8 wr => ∃ i : Nat, i ≤ n ∧ Hid (g = n - i) ∧ s8 = .int .i64 i ∧ Hid (∀ j, j < i → P j = false) ∧ Hid (Below w.heap.size w wr))
  case atStart => exact ⟨0, Nat.zero_le _, rfl, rfl, fun j hj => by omega, Below.refl _ _⟩
  case round =>
    obtain ⟨i, hi, HG, rfl, HJ, HB⟩ := hrel
    by_cases hlt : i < n
    · have hln : n = l.length := HN.out
      obtain ⟨-, b, off, ka, kc, rfl, hb, hc, hk⟩ := EdgesAt.part (HL.out.below HB.out) i (by omega)
      have hca := HC.out i (by omega) wr _ hk HB.out
      clear hln
      obtain ⟨m, hm⟩ : ∃ m, m = (l.getD i []).length := ⟨_, rfl⟩
      rw [← hm] at hc hca
      clear hm hk
      have HCA := Lib.hid hca
      clear hca
      go_wp2_with fail
      refine HCA.out.mono ?_
      rintro e w2 ⟨rfl, hb2⟩
      have HB2 : Hid (Below w.heap.size w w2) := HB.out.trans (hb2.mono HB.out.size)
      obtain ⟨r, hr⟩ : ∃ r, r = P i := ⟨_, rfl⟩
      rw [← hr]
      have HR := Lib.hid hr
      clear hb2 hr HCA hc
      cases r
      · go_wp2
        go_roundg (n - (i + 1))
        case measure => rw [HG.out]; omega
        case rel => exact ⟨i + 1, by omega, rfl, by go_num, fun j hj => by
          by_cases he : j = i
          · subst he; exact HR.out.symm
          · exact HJ.out j (by omega), HB2.out⟩
      · go_wp2
        go_ret
        exact .inl ⟨i, hlt, rfl, HR.out.symm, HB2.out⟩
    · have : i = n := by omega
      subst this
      go_wp2
      go_ret
      exact .inr ⟨rfl, HJ.out, HB.out⟩
theorem containsEdgeL_any (w : World) (sv : Value) (l : List (List EdgeD)) (hl : EdgesAt w sv l) (fn : FuncId) (first captured : Array Value) (P : Nat → Bool) (hfn : ∀ args W, (callFunc fn args).run Try.prog W = .ok (.enter fn args) W)
    (hcall : ∀ j, j < l.length → ∀ (W : World) (kv : Value) (_ : EdgeLAt W kv (l.getD j [])), Below w.heap.size w W → Calls Try.prog fn (first.push kv ++ captured) W fun e W' => e = .returned (.bool (P j)) ∧ Below W.heap.size W W') :
    Calls Try.prog 27 #[sv, .func (.func fn) first captured] w fun e w' => e = .returned (.bool ((List.range l.length).any P)) ∧ Below w.heap.size w w' := by
  have hc := indexEdgeL_any w sv l hl fn first captured P hfn hcall
  have HC := Lib.hid hc
  clear hc hcall hl hfn
  go_enter Try.func27, Try.ntmps27
  go_wp2_with fail
  refine HC.out.mono ?_
  rintro e w2 (⟨i, hi, rfl, hp, hb⟩ | ⟨rfl, hp, hb⟩)
  · have HB := Lib.hid hb
    have HP := Lib.hid hp
    clear hb HC hp
    go_wp2
    go_ret
    exact ⟨(by rw [any_first i hi HP.out]; rfl), HB.out⟩
  · have HB := Lib.hid hb
    have HP := Lib.hid hp
    clear hb HC hp
    go_wp2
    go_ret
    exact ⟨(by rw [any_none HP.out]; rfl), HB.out⟩

/-- The first one of which a function says yes. -/
theorem indexEdge_any (w : World) (sv : Value) (l : List EdgeD) (hl : EdgeLAt w sv l) (fn : FuncId) (first captured : Array Value) (P : Nat → Bool) (hfn : ∀ args W, (callFunc fn args).run Try.prog W = .ok (.enter fn args) W)
    (hcall : ∀ j, j < l.length → ∀ (W : World), Below w.heap.size w W → Calls Try.prog fn (first.push (l.getD j default).val ++ captured) W fun e W' => e = .returned (.bool (P j)) ∧ Below W.heap.size W W') :
    Calls Try.prog 43 #[sv, .func (.func fn) first captured] w fun e w' => (∃ i : Nat, i < l.length ∧ e = .returned (.int .i64 i) ∧ P i = true ∧ Below w.heap.size w w') ∨ (e = .returned (.int .i64 (-1)) ∧ (∀ j, j < l.length → P j = false) ∧ Below w.heap.size w w') := by
  obtain ⟨a, cap, rfl, hn⟩ := hl.slice
  have HL := Lib.hid hl
  have HC := Lib.hid hcall
  clear hl hcall
  obtain ⟨n, hnd⟩ : ∃ n, n = l.length := ⟨_, rfl⟩
  rw [← hnd] at hn HL ⊢
  have HN := Lib.hid hnd
  clear hnd
  go_enter Try.func43, Try.ntmps43
  go_wp2
  go_loopg [8] n (fun g s8 wr => ∃ i : Nat, i ≤ n ∧ Hid (g = n - i) ∧ s8 = .int .i64 i ∧ Hid (∀ j, j < i → P j = false) ∧ Hid (Below w.heap.size w wr))
  case atStart => exact ⟨0, Nat.zero_le _, rfl, rfl, fun j hj => by omega, Below.refl _ _⟩
  case round =>
    obtain ⟨i, hi, HG, rfl, HJ, HB⟩ := hrel
    by_cases hlt : i < n
    · have hln : n = l.length := HN.out
      obtain ⟨-, b, off, rfl, hb, hc, hd⟩ := EdgeLAt.part (HL.out.below HB.out) i (by omega)
      have hca := HC.out i (by omega) wr  HB.out
      clear hln
      obtain ⟨x, hx⟩ : ∃ x, x = l.getD i default := ⟨_, rfl⟩
      rw [← hx] at hc hd hca
      clear hx
      unfold EdgeD.val at hca
      have HCA := Lib.hid hca
      clear hca
      go_wp2_with fail
      refine HCA.out.mono ?_
      rintro e w2 ⟨rfl, hb2⟩
      have HB2 : Hid (Below w.heap.size w w2) := HB.out.trans (hb2.mono HB.out.size)
      obtain ⟨r, hr⟩ : ∃ r, r = P i := ⟨_, rfl⟩
      rw [← hr]
      have HR := Lib.hid hr
      clear hb2 hr HCA hc hd
      cases r
      · go_wp2
        go_roundg (n - (i + 1))
        case measure => rw [HG.out]; omega
        case rel => exact ⟨i + 1, by omega, rfl, by go_num, fun j hj => by
          by_cases he : j = i
          · subst he; exact HR.out.symm
          · exact HJ.out j (by omega), HB2.out⟩
      · go_wp2
        go_ret
        exact .inl ⟨i, hlt, rfl, HR.out.symm, HB2.out⟩
    · have : i = n := by omega
      subst this
      go_wp2
      go_ret
      exact .inr ⟨rfl, HJ.out, HB.out⟩
theorem containsEdge_any (w : World) (sv : Value) (l : List EdgeD) (hl : EdgeLAt w sv l) (fn : FuncId) (first captured : Array Value) (P : Nat → Bool) (hfn : ∀ args W, (callFunc fn args).run Try.prog W = .ok (.enter fn args) W)
    (hcall : ∀ j, j < l.length → ∀ (W : World), Below w.heap.size w W → Calls Try.prog fn (first.push (l.getD j default).val ++ captured) W fun e W' => e = .returned (.bool (P j)) ∧ Below W.heap.size W W') :
    Calls Try.prog 29 #[sv, .func (.func fn) first captured] w fun e w' => e = .returned (.bool ((List.range l.length).any P)) ∧ Below w.heap.size w w' := by
  have hc := indexEdge_any w sv l hl fn first captured P hfn hcall
  have HC := Lib.hid hc
  clear hc hcall hl hfn
  go_enter Try.func29, Try.ntmps29
  go_wp2_with fail
  refine HC.out.mono ?_
  rintro e w2 (⟨i, hi, rfl, hp, hb⟩ | ⟨rfl, hp, hb⟩)
  · have HB := Lib.hid hb
    have HP := Lib.hid hp
    clear hb HC hp
    go_wp2
    go_ret
    exact ⟨(by rw [any_first i hi HP.out]; rfl), HB.out⟩
  · have HB := Lib.hid hb
    have HP := Lib.hid hp
    clear hb HC hp
    go_wp2
    go_ret
    exact ⟨(by rw [any_none HP.out]; rfl), HB.out⟩
end Go.Proofs.Ytoojalcfojflhaa
