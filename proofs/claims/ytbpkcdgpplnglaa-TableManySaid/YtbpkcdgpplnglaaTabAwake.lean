/- awake: the walk. -/
import Derived.Test.YtbpkcdgpplnglaaTabBoth
namespace Go.Proofs.Ytbpkcdgpplnglaa
open Go.RowKit

theorem aw1 : AddIs [] 2 ⟨#[97]⟩ 0 true [⟨#[97]⟩] := .inr (.inr ⟨.inr ⟨rfl, by simp⟩, by simp, rfl, rfl, rfl⟩)
theorem aw2 : AddIs [⟨#[97]⟩] 2 ⟨#[98]⟩ 1 true [⟨#[97]⟩, ⟨#[98]⟩] :=
  .inr (.inr ⟨.inr ⟨rfl, by intro i hi; have : i = 0 := (by simp at hi; omega); subst this; decide⟩, by simp, rfl, rfl, rfl⟩)
theorem aw3 : AddIs [⟨#[97]⟩, ⟨#[98]⟩] 2 ⟨#[97]⟩ 0 false [⟨#[97]⟩, ⟨#[98]⟩] := .inl ⟨.inl ⟨0, by simp, rfl, rfl, by omega⟩, by omega, rfl, rfl⟩
theorem aw4f : FindIs [⟨#[97]⟩, ⟨#[98]⟩] ⟨#[99]⟩ (-1) :=
  .inr ⟨rfl, by intro i hi; have : i = 0 ∨ i = 1 := (by simp at hi; omega); rcases this with rfl | rfl <;> decide⟩
theorem aw4 : AddIs [⟨#[97]⟩, ⟨#[98]⟩] 2 ⟨#[99]⟩ (-1) false [⟨#[97]⟩, ⟨#[98]⟩] := .inr (.inl ⟨aw4f, by simp, rfl, rfl, rfl⟩)
theorem aw5f : FindIs [⟨#[97]⟩, ⟨#[98]⟩] ⟨#[98]⟩ 1 :=
  .inl ⟨1, by simp, rfl, rfl, by intro j hj; have : j = 0 := (by omega); subst this; decide⟩
theorem small1 (a : UInt8) : (⟨#[a]⟩ : ByteArray).size ≤ maxLen := by unfold maxLen; show 1 ≤ _; omega

set_option maxHeartbeats 1000000 in
theorem awake_any (w : World) : Calls Try.prog 6 #[] w fun e w' => e = .returned (.bool true) ∧ Below w.heap.size w w' := by
  go_enter Try.func6, Try.ntmps6
  go_wp2_with fail
  refine (tv_new 2 w w.heap.size (Nat.le_refl _)).mono ?_
  rintro e w1 ⟨v, F1, rfl, h1, hF1, hS1⟩
  replace h1 : TV w1 w.heap.size F1 v [] 2 := by simpa using h1
  have hz1 := hS1.size
  go_wp2_with fail
  refine (tv_add h1 _ (small1 97) aw1 hz1).mono ?_
  rintro e w2 ⟨rfl, F2, h2, hF2, hS2⟩
  have hz2 := Nat.le_trans hz1 hS2.size
  go_wp2_with fail
  refine (tv_add h2 _ (small1 98) aw2 hz2).mono ?_
  rintro e w3 ⟨rfl, F3, h3, hF3, hS3⟩
  have hz3 := Nat.le_trans hz2 hS3.size
  go_wp2_with fail
  refine (tv_add h3 _ (small1 97) aw3 hz3).mono ?_
  rintro e w4 ⟨rfl, F4, h4, hF4, hS4⟩
  have hz4 := Nat.le_trans hz3 hS4.size
  go_wp2_with fail
  refine (tv_add h4 _ (small1 99) aw4 hz4).mono ?_
  rintro e w5 ⟨rfl, F5, h5, hF5, hS5⟩
  have hz5 := Nat.le_trans hz4 hS5.size
  have f1 : ∀ k, F1 k → w.heap.size ≤ k := fun k hk => (hF1 k hk).1
  have f2 : ∀ k, F2 k → w.heap.size ≤ k := fun k hk => (hF2 k hk).elim (f1 k) (fun h => Nat.le_trans hz1 h)
  have f3 : ∀ k, F3 k → w.heap.size ≤ k := fun k hk => (hF3 k hk).elim (f2 k) (fun h => Nat.le_trans hz2 h)
  have f4 : ∀ k, F4 k → w.heap.size ≤ k := fun k hk => (hF4 k hk).elim (f3 k) (fun h => Nat.le_trans hz3 h)
  have hB : Below w.heap.size w w5 := ((((hS1.below (Nat.le_refl _) (fun _ h => h.elim)).trans (hS2.below hz1 f1)).trans (hS3.below hz2 f2)).trans (hS4.below hz3 f3)).trans (hS5.below hz4 f4)
  clear hS1 hS2 hS3 hS4 hS5 hF1 hF2 hF3 hF4 hF5 f1 f2 f3 f4 h1 h2 h3 h4 hz1 hz2 hz3 hz4
  go_wp2_with fail
  refine (add_nil _ _).mono ?_
  rintro e w' ⟨rfl, n1, rfl⟩
  go_wp2_with fail
  refine (tv_len (h5.drewN _)).mono ?_
  rintro e w' ⟨rfl, rfl⟩
  go_wp2_with fail
  refine (tv_find (h5.drewN _) _ (small1 98) _ aw5f).mono ?_
  rintro e w' ⟨rfl, n2, rfl⟩
  go_wp2_with fail
  refine (tv_find (h5.drewN _) _ (small1 99) _ aw4f).mono ?_
  rintro e w' ⟨rfl, n3, rfl⟩
  go_wp2_with fail
  refine (tv_at (h5.drewN _) _).mono ?_
  rintro e w' ⟨rfl, rfl⟩
  rw [show atOf [⟨#[97]⟩, ⟨#[98]⟩] 1 = ⟨#[98]⟩ from rfl]
  go_wp2_with fail
  refine (tab_new_nil _ (by omega) _).mono ?_
  rintro e w' ⟨rfl, rfl⟩
  go_wp2_with fail
  refine (tab_new_nil _ (by omega) _).mono ?_
  rintro e w' ⟨rfl, rfl⟩
  go_wp2_with fail
  refine (len_nil _).mono ?_
  rintro e w' ⟨rfl, rfl⟩
  go_wp2_with fail
  refine (find_nil _ _).mono ?_
  rintro e w' ⟨rfl, rfl⟩
  go_wp2_with fail
  refine (at_nil _ _).mono ?_
  rintro e w' ⟨rfl, rfl⟩
  go_wp2_with fail
  go_ret
  exact ⟨rfl, hB.trans ⟨rfl, rfl, rfl, Nat.le_refl _, fun _ _ => rfl⟩⟩
end Go.Proofs.Ytbpkcdgpplnglaa
