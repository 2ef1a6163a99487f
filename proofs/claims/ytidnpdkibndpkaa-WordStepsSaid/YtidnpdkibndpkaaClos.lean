/- The functions that word's teller tells places by: a contract each. -/
import Derived.Test.YtidnpdkibndpkaaTell
namespace Go.Proofs.Ytidnpdkibndpkaa
open Go.RowKit

theorem BoolsAt.get {w : World} {sv : Value} {l : List Bool} (h : BoolsAt w sv l) (i : Nat) (hi : i < l.length) :
    ∃ b off cap, sv = .slice (some ⟨b, off, none⟩) l.length cap ∧ l.length ≤ 9223372036854775807 ∧ w.cell? ⟨b, off + i, none⟩ = some (.bool (l.getD i false)) := by
  obtain ⟨a, cap, rfl, hn, hc⟩ := h
  obtain ⟨b, off, rfl, -, h2⟩ := hc i hi
  exact ⟨b, off, cap, rfl, hn, h2⟩
theorem one2_any (w : World) (sa : Nat) (av : Value) (la : List Bool) (hs : w.cell? ⟨sa, 0, none⟩ = some av) (ha : BoolsAt w av la) (i : Nat) (hi : i < la.length) (y : Bool) :
    Calls Try.prog 52 #[.int .i64 (i : Nat), .bool y, .pointer (some ⟨sa, 0, none⟩)] w fun e w' => e = .returned (.bool (la.getD i false && y)) ∧ w = w' := by
  obtain ⟨b, off, cap, rfl, hn, hc⟩ := ha.get i hi
  obtain ⟨x, hx⟩ : ∃ x, x = la.getD i false := ⟨_, rfl⟩
  rw [← hx] at hc ⊢
  clear hx ha
  cases x
  all_goals
    go_enter Try.func52, Try.ntmps52
    go_wp2
    go_ret
    exact ⟨rfl, rfl⟩
theorem one3_any (w : World) (sa : Nat) (av : Value) (la : List Bool) (hs : w.cell? ⟨sa, 0, none⟩ = some av) (ha : BoolsAt w av la) (i : Nat) (hi : i < la.length) (y : Bool) :
    Calls Try.prog 53 #[.int .i64 (i : Nat), .bool y, .pointer (some ⟨sa, 0, none⟩)] w fun e w' => e = .returned (.bool (la.getD i false || y)) ∧ w = w' := by
  obtain ⟨b, off, cap, rfl, hn, hc⟩ := ha.get i hi
  obtain ⟨x, hx⟩ : ∃ x, x = la.getD i false := ⟨_, rfl⟩
  rw [← hx] at hc ⊢
  clear hx ha
  cases x
  all_goals
    go_enter Try.func53, Try.ntmps53
    go_wp2
    go_ret
    exact ⟨rfl, rfl⟩
theorem one4_any (w : World) (sa : Nat) (av : Value) (la : List Bool) (hs : w.cell? ⟨sa, 0, none⟩ = some av) (ha : BoolsAt w av la) (i : Nat) (hi : i < la.length) :
    Calls Try.prog 54 #[.int .i64 (i : Nat), .pointer (some ⟨sa, 0, none⟩)] w fun e w' => e = .returned (.bool (!la.getD i false)) ∧ w = w' := by
  obtain ⟨b, off, cap, rfl, hn, hc⟩ := ha.get i hi
  obtain ⟨x, hx⟩ : ∃ x, x = la.getD i false := ⟨_, rfl⟩
  rw [← hx] at hc ⊢
  clear hx ha
  go_enter Try.func54, Try.ntmps54
  go_wp2
  go_ret
  exact ⟨rfl, rfl⟩
theorem two1_any (w : World) (sa sb : Nat) (av bv : Value) (la lb : List Bool) (hsa : w.cell? ⟨sa, 0, none⟩ = some av) (hsb : w.cell? ⟨sb, 0, none⟩ = some bv) (ha : BoolsAt w av la) (hb : BoolsAt w bv lb) (i : Nat) (hia : i < la.length) (hib : i < lb.length) :
    Calls Try.prog 55 #[.int .i64 (i : Nat), .pointer (some ⟨sa, 0, none⟩), .pointer (some ⟨sb, 0, none⟩)] w fun e w' => e = .returned (.bool (la.getD i false && lb.getD i false)) ∧ w = w' := by
  obtain ⟨b, off, cap, rfl, hn, hc⟩ := ha.get i hia
  obtain ⟨b2, off2, cap2, rfl, hn2, hc2⟩ := hb.get i hib
  obtain ⟨x, hx⟩ : ∃ x, x = la.getD i false := ⟨_, rfl⟩
  obtain ⟨z, hz⟩ : ∃ z, z = lb.getD i false := ⟨_, rfl⟩
  rw [← hx] at hc ⊢
  rw [← hz] at hc2 ⊢
  clear hx hz ha hb
  cases x <;> cases z
  all_goals
    go_enter Try.func55, Try.ntmps55
    go_wp2
    go_ret
    exact ⟨rfl, rfl⟩
theorem two2_any (w : World) (sa sb : Nat) (av bv : Value) (la lb : List Bool) (hsa : w.cell? ⟨sa, 0, none⟩ = some av) (hsb : w.cell? ⟨sb, 0, none⟩ = some bv) (ha : BoolsAt w av la) (hb : BoolsAt w bv lb) (i : Nat) (hia : i < la.length) (hib : i < lb.length) :
    Calls Try.prog 56 #[.int .i64 (i : Nat), .pointer (some ⟨sa, 0, none⟩), .pointer (some ⟨sb, 0, none⟩)] w fun e w' => e = .returned (.bool (la.getD i false || lb.getD i false)) ∧ w = w' := by
  obtain ⟨b, off, cap, rfl, hn, hc⟩ := ha.get i hia
  obtain ⟨b2, off2, cap2, rfl, hn2, hc2⟩ := hb.get i hib
  obtain ⟨x, hx⟩ : ∃ x, x = la.getD i false := ⟨_, rfl⟩
  obtain ⟨z, hz⟩ : ∃ z, z = lb.getD i false := ⟨_, rfl⟩
  rw [← hx] at hc ⊢
  rw [← hz] at hc2 ⊢
  clear hx hz ha hb
  cases x <;> cases z
  all_goals
    go_enter Try.func56, Try.ntmps56
    go_wp2
    go_ret
    exact ⟨rfl, rfl⟩
theorem two3_any (w : World) (sa sb : Nat) (av bv : Value) (la lb : List Bool) (hsa : w.cell? ⟨sa, 0, none⟩ = some av) (hsb : w.cell? ⟨sb, 0, none⟩ = some bv) (ha : BoolsAt w av la) (hb : BoolsAt w bv lb) (i : Nat) (hia : i < la.length) (hib : i < lb.length) (y : Bool) :
    Calls Try.prog 57 #[.int .i64 (i : Nat), .bool y, .pointer (some ⟨sb, 0, none⟩), .pointer (some ⟨sa, 0, none⟩)] w fun e w' => e = .returned (.bool (lb.getD i false || (la.getD i false && y))) ∧ w = w' := by
  obtain ⟨b, off, cap, rfl, hn, hc⟩ := ha.get i hia
  obtain ⟨b2, off2, cap2, rfl, hn2, hc2⟩ := hb.get i hib
  obtain ⟨x, hx⟩ : ∃ x, x = la.getD i false := ⟨_, rfl⟩
  obtain ⟨z, hz⟩ : ∃ z, z = lb.getD i false := ⟨_, rfl⟩
  rw [← hx] at hc ⊢
  rw [← hz] at hc2 ⊢
  clear hx hz ha hb
  cases x <;> cases z
  all_goals
    go_enter Try.func57, Try.ntmps57
    go_wp2
    go_ret
    exact ⟨rfl, rfl⟩
theorem two4_any (w : World) (sa sb : Nat) (av bv : Value) (la lb : List Bool) (hsa : w.cell? ⟨sa, 0, none⟩ = some av) (hsb : w.cell? ⟨sb, 0, none⟩ = some bv) (ha : BoolsAt w av la) (hb : BoolsAt w bv lb) (i : Nat) (hia : i < la.length) (hib : i < lb.length) (y : Bool) :
    Calls Try.prog 58 #[.int .i64 (i : Nat), .bool y, .pointer (some ⟨sb, 0, none⟩), .pointer (some ⟨sa, 0, none⟩)] w fun e w' => e = .returned (.bool (lb.getD i false && (la.getD i false || y))) ∧ w = w' := by
  obtain ⟨b, off, cap, rfl, hn, hc⟩ := ha.get i hia
  obtain ⟨b2, off2, cap2, rfl, hn2, hc2⟩ := hb.get i hib
  obtain ⟨x, hx⟩ : ∃ x, x = la.getD i false := ⟨_, rfl⟩
  obtain ⟨z, hz⟩ : ∃ z, z = lb.getD i false := ⟨_, rfl⟩
  rw [← hx] at hc ⊢
  rw [← hz] at hc2 ⊢
  clear hx hz ha hb
  cases x <;> cases z
  all_goals
    go_enter Try.func58, Try.ntmps58
    go_wp2
    go_ret
    exact ⟨rfl, rfl⟩
theorem two5_any (w : World) (sa sb : Nat) (av bv : Value) (la lb : List Bool) (hsa : w.cell? ⟨sa, 0, none⟩ = some av) (hsb : w.cell? ⟨sb, 0, none⟩ = some bv) (ha : BoolsAt w av la) (hb : BoolsAt w bv lb) (i : Nat) (hia : i < la.length) (hib : i < lb.length) :
    Calls Try.prog 59 #[.int .i64 (i : Nat), .pointer (some ⟨sa, 0, none⟩), .pointer (some ⟨sb, 0, none⟩)] w fun e w' => e = .returned (.bool (!la.getD i false || lb.getD i false)) ∧ w = w' := by
  obtain ⟨b, off, cap, rfl, hn, hc⟩ := ha.get i hia
  obtain ⟨b2, off2, cap2, rfl, hn2, hc2⟩ := hb.get i hib
  obtain ⟨x, hx⟩ : ∃ x, x = la.getD i false := ⟨_, rfl⟩
  obtain ⟨z, hz⟩ : ∃ z, z = lb.getD i false := ⟨_, rfl⟩
  rw [← hx] at hc ⊢
  rw [← hz] at hc2 ⊢
  clear hx hz ha hb
  cases x <;> cases z
  all_goals
    go_enter Try.func59, Try.ntmps59
    go_wp2
    go_ret
    exact ⟨rfl, rfl⟩
theorem one1_any (w : World) (sa st tb : Nat) (av : Value) (ad : Option Addr) (n lc back : Nat) (pv : Value) (la : List Bool) (hsa : w.cell? ⟨sa, 0, none⟩ = some av) (hst : w.cell? ⟨st, 0, none⟩ = some (.pointer (some ⟨tb, 0, none⟩))) (ha : BoolsAt w av la)
    (ht : TellerAt w tb (.slice ad n lc) back pv) (hn : n ≤ 1000000000) (hb : back < n) (hl : la.length = n) (i : Nat) (hi : i < n) :
    Calls Try.prog 49 #[.int .i64 (i : Nat), .pointer (some ⟨sa, 0, none⟩), .pointer (some ⟨st, 0, none⟩)] w fun e w' => e = .returned (.bool (la.getD (nx n back i) false)) ∧ Below w.heap.size w w' := by
  have hnx := nx_lt hb i
  have hnext := fun k => next_any (w.drewN k) tb ad n lc back pv ht hn i hi
  obtain ⟨m, hm⟩ : ∃ m, m = nx n back i := ⟨_, rfl⟩
  rw [← hm] at hnx hnext ⊢
  obtain ⟨b, off, cap, rfl, hn, hc⟩ := ha.get m (by omega)
  obtain ⟨x, hx⟩ : ∃ x, x = la.getD m false := ⟨_, rfl⟩
  rw [← hx] at hc ⊢
  have HN := Lib.hid hnext
  have hml : m < la.length := by omega
  clear hx ha hm ht hnext hl
  go_enter Try.func49, Try.ntmps49
  go_wp2
  go_quiet ((go_at_call 50; exact Calls.quiet_of_same ((HN.out _).mono (fun _ _ h => ⟨h.1, h.2.symm⟩))))
  go_wp2
  go_ret
  exact ⟨rfl, drewN_below (Below.refl _ _) _⟩
end Go.Proofs.Ytidnpdkibndpkaa
