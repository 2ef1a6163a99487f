/- Where formulas are so in words without an end: plain laws. -/
import Derived.Test.YtidnpdkibndpkaaForm
namespace Go.Proofs.Ytidnpdkibndpkaa

/-- The place behind one. -/
def nx (n back i : Nat) : Nat := if i + 1 < n then i + 1 else back
def itn (n back : Nat) : Nat → Nat → Nat
  | 0, i => i
  | k + 1, i => nx n back (itn n back k i)
/-- Is it found: so many steps on at most. -/
def scan (n back : Nat) (g s : Nat → Bool) : Nat → Nat → Bool
  | 0, i => g i
  | f + 1, i => g i || (s i && scan n back g s f (nx n back i))
def semU (n back : Nat) (g s : Nat → Bool) (i : Nat) : Bool := scan n back g s n i
def UP (n back : Nat) (g s : Nat → Bool) (i : Nat) : Prop := ∃ k, g (itn n back k i) = true ∧ ∀ j, j < k → s (itn n back j i) = true

theorem nx_lt {n back : Nat} (hb : back < n) (i : Nat) : nx n back i < n := by unfold nx; split <;> omega
theorem itn_lt {n back : Nat} (hb : back < n) (k i : Nat) (hi : i < n) : itn n back k i < n := by
  cases k with
  | zero => exact hi
  | succ k => exact nx_lt hb _
theorem itn_add (n back a b i : Nat) : itn n back (a + b) i = itn n back a (itn n back b i) := by
  induction a with
  | zero => rw [Nat.zero_add]; rfl
  | succ a ih => rw [Nat.succ_add]; show nx _ _ _ = nx _ _ _; rw [ih]
theorem itn_succ (n back k i : Nat) : itn n back (k + 1) i = itn n back k (nx n back i) := itn_add n back k 1 i
theorem itn_small (n back k i : Nat) (h : i + k < n) : itn n back k i = i + k := by
  induction k with
  | zero => rfl
  | succ k ih =>
    show nx _ _ _ = _
    rw [ih (by omega)]; unfold nx; rw [if_pos (by omega)]; omega
theorem itn_wrap (n back i : Nat) (h : i < n) : itn n back (n - i) i = back := by
  obtain ⟨k, hk⟩ : ∃ k, n - i = k + 1 := ⟨n - i - 1, by omega⟩
  rw [hk]; show nx _ _ _ = _
  rw [itn_small n back k i (by omega)]; unfold nx; rw [if_neg (by omega)]
theorem itn_n {n back : Nat} (hb : back < n) (i : Nat) (h : i < n) : itn n back n i = itn n back back i := by
  have e1 : itn n back n i = itn n back i back := by
    rw [show n = i + (n - i) from by omega, itn_add]
    rw [show i + (n - i) = n from by omega, itn_wrap n back i h]
  rw [e1]
  by_cases hc : i + back < n
  · rw [itn_small n back i back (by omega), itn_small n back back i hc]; omega
  · have h1 : itn n back i back = itn n back (i - (n - back)) back := by
      rw [show i = (i - (n - back)) + (n - back) from by omega, itn_add, itn_wrap n back back hb]
      rw [show i - (n - back) + (n - back) - (n - back) = i - (n - back) from by omega]
    rw [h1]
    have h2 : itn n back back i = itn n back (i - (n - back)) (itn n back (n - i) i) := by
      rw [← itn_add]; congr 1; omega
    rw [h2, itn_wrap n back i h]
theorem reach {n back : Nat} (hb : back < n) (i : Nat) (h : i < n) (m : Nat) : ∃ j, j < n ∧ itn n back m i = itn n back j i := by
  induction m with
  | zero => exact ⟨0, by omega, rfl⟩
  | succ m ih =>
    obtain ⟨j, hj, he⟩ := ih
    by_cases hc : j + 1 < n
    · exact ⟨j + 1, hc, by show nx _ _ _ = nx _ _ _; rw [he]⟩
    · refine ⟨back, hb, ?_⟩
      rw [← itn_n hb i h]
      obtain rfl : n = j + 1 := by omega
      show nx _ _ _ = nx _ _ _
      rw [he]
theorem UP_bound {n back : Nat} (hb : back < n) {g s : Nat → Bool} {i : Nat} (h : i < n) (hu : UP n back g s i) : ∃ k, k < n ∧ g (itn n back k i) = true ∧ ∀ j, j < k → s (itn n back j i) = true := by
  obtain ⟨k, h1, h2⟩ := hu
  by_cases hk : k < n
  · exact ⟨k, hk, h1, h2⟩
  · obtain ⟨j, hj, he⟩ := reach hb i h k
    exact ⟨j, hj, by rw [← he]; exact h1, fun m hm => h2 m (by omega)⟩
theorem scan_iff (n back : Nat) (g s : Nat → Bool) (f i : Nat) : scan n back g s f i = true ↔ ∃ k, k ≤ f ∧ g (itn n back k i) = true ∧ ∀ j, j < k → s (itn n back j i) = true := by
  induction f generalizing i with
  | zero =>
    constructor
    · exact fun h => ⟨0, Nat.le_refl _, h, fun j hj => by omega⟩
    · rintro ⟨k, hk, h1, -⟩
      obtain rfl : k = 0 := by omega
      exact h1
  | succ f ih =>
    simp only [scan, Bool.or_eq_true, Bool.and_eq_true, ih]
    constructor
    · rintro (h | ⟨h, k, hk, h1, h2⟩)
      · exact ⟨0, by omega, h, fun j hj => by omega⟩
      · refine ⟨k + 1, by omega, by rw [itn_succ]; exact h1, fun j hj => ?_⟩
        cases j with
        | zero => exact h
        | succ j => rw [itn_succ]; exact h2 j (by omega)
    · rintro ⟨k, hk, h1, h2⟩
      cases k with
      | zero => exact .inl h1
      | succ k => exact .inr ⟨h2 0 (by omega), k, by omega, by rw [← itn_succ]; exact h1, fun j hj => by rw [← itn_succ]; exact h2 (j + 1) (by omega)⟩
theorem semU_iff {n back : Nat} (hb : back < n) {g s : Nat → Bool} {i : Nat} (h : i < n) : semU n back g s i = true ↔ UP n back g s i := by
  unfold semU
  rw [scan_iff]
  constructor
  · rintro ⟨k, -, h1, h2⟩; exact ⟨k, h1, h2⟩
  · intro hu
    obtain ⟨k, hk, h1, h2⟩ := UP_bound hb h hu
    exact ⟨k, by omega, h1, h2⟩
theorem semU_unfold {n back : Nat} (hb : back < n) {g s : Nat → Bool} {i : Nat} (h : i < n) : semU n back g s i = (g i || (s i && semU n back g s (nx n back i))) := by
  rw [Bool.eq_iff_iff, semU_iff hb h, Bool.or_eq_true, Bool.and_eq_true, semU_iff hb (nx_lt hb i)]
  constructor
  · rintro ⟨k, h1, h2⟩
    cases k with
    | zero => exact .inl h1
    | succ k => exact .inr ⟨h2 0 (by omega), k, by rw [← itn_succ]; exact h1, fun j hj => by rw [← itn_succ]; exact h2 (j + 1) (by omega)⟩
  · rintro (h | ⟨h, k, h1, h2⟩)
    · exact ⟨0, h, fun j hj => by omega⟩
    · refine ⟨k + 1, by rw [itn_succ]; exact h1, fun j hj => ?_⟩
      cases j with
      | zero => exact h
      | succ j => rw [itn_succ]; exact h2 j (by omega)
theorem semU_congr {n back : Nat} (hb : back < n) {g s g' s' : Nat → Bool} (hg : ∀ i, i < n → g i = g' i) (hs : ∀ i, i < n → s i = s' i) {i : Nat} (h : i < n) : semU n back g s i = semU n back g' s' i := by
  rw [Bool.eq_iff_iff, semU_iff hb h, semU_iff hb h]
  constructor
  · rintro ⟨k, h1, h2⟩
    exact ⟨k, by rw [← hg _ (itn_lt hb k i h)]; exact h1, fun j hj => by rw [← hs _ (itn_lt hb j i h)]; exact h2 j hj⟩
  · rintro ⟨k, h1, h2⟩
    exact ⟨k, by rw [hg _ (itn_lt hb k i h)]; exact h1, fun j hj => by rw [hs _ (itn_lt hb j i h)]; exact h2 j hj⟩

/-- One pass from the last place to the first. -/
structure Pass (n back : Nat) (is : Nat → Bool → Bool) (a : Bool) (o : Nat → Bool) : Prop where
  last : o (n - 1) = is (n - 1) a
  step : ∀ i, i + 1 < n → o i = is i (o (i + 1))
theorem pass_sound {n back : Nat} (hb : back < n) {g s : Nat → Bool} {a : Bool} {o : Nat → Bool} (hp : Pass n back (fun i x => g i || (s i && x)) a o) (ha : a = true → UP n back g s back) (m : Nat) : ∀ i, i < n → n - 1 - i = m → o i = true → UP n back g s i := by
  induction m with
  | zero =>
    intro i hi hm ho
    obtain rfl : i = n - 1 := by omega
    rw [hp.last] at ho
    simp only [Bool.or_eq_true, Bool.and_eq_true] at ho
    rw [← semU_iff hb hi, semU_unfold hb hi, Bool.or_eq_true, Bool.and_eq_true]
    rcases ho with h | ⟨h1, h2⟩
    · exact .inl h
    · refine .inr ⟨h1, ?_⟩
      rw [semU_iff hb (nx_lt hb _), show nx n back (n - 1) = back from by unfold nx; rw [if_neg (by omega)]]
      exact ha h2
  | succ m ih =>
    intro i hi hm ho
    rw [hp.step i (by omega)] at ho
    simp only [Bool.or_eq_true, Bool.and_eq_true] at ho
    rw [← semU_iff hb hi, semU_unfold hb hi, Bool.or_eq_true, Bool.and_eq_true]
    rcases ho with h | ⟨h1, h2⟩
    · exact .inl h
    · refine .inr ⟨h1, ?_⟩
      rw [semU_iff hb (nx_lt hb _), show nx n back i = i + 1 from by unfold nx; rw [if_pos (by omega)]]
      exact ih (i + 1) (by omega) (by omega) h2
theorem pass_near {n back : Nat} {g s : Nat → Bool} {a : Bool} {o : Nat → Bool} (hp : Pass n back (fun i x => g i || (s i && x)) a o) (k : Nat) : ∀ i, i + k < n → g (i + k) = true → (∀ j, j < k → s (i + j) = true) → o i = true := by
  induction k with
  | zero =>
    intro i hi hg _
    by_cases h : i + 1 < n
    · rw [hp.step i h]; simp only [Bool.or_eq_true]; exact .inl hg
    · obtain rfl : i = n - 1 := by omega
      rw [hp.last]; simp only [Bool.or_eq_true]; exact .inl hg
  | succ k ih =>
    intro i hi hg hs
    rw [hp.step i (by omega)]
    simp only [Bool.or_eq_true, Bool.and_eq_true]
    refine .inr ⟨hs 0 (by omega), ih (i + 1) (by omega) (by rw [show i + 1 + k = i + (k + 1) from by omega]; exact hg) fun j hj => ?_⟩
    rw [show i + 1 + j = i + (j + 1) from by omega]; exact hs (j + 1) (by omega)
theorem back_near {n back : Nat} (hb : back < n) {g s : Nat → Bool} (hu : UP n back g s back) : ∃ k, back + k < n ∧ g (back + k) = true ∧ ∀ j, j < k → s (back + j) = true := by
  obtain ⟨k, h1, h2⟩ := hu
  induction k using Nat.strongRecOn with
  | ind k ih =>
    by_cases hk : back + k < n
    · refine ⟨k, hk, by rw [← itn_small n back k back hk]; exact h1, fun j hj => ?_⟩
      rw [← itn_small n back j back (by omega)]; exact h2 j hj
    · refine ih (k - (n - back)) (by omega) ?_ fun j hj => ?_
      · have : itn n back k back = itn n back (k - (n - back)) back := by
          conv => lhs; rw [show k = (k - (n - back)) + (n - back) from by omega]
          rw [itn_add, itn_wrap n back back hb]
        rw [← this]; exact h1
      · exact h2 j (by omega)
/-- Two passes do. -/
theorem lasts_law {n back : Nat} (hb : back < n) {g s : Nat → Bool} {o1 o2 : Nat → Bool} (h1 : Pass n back (fun i x => g i || (s i && x)) false o1) (h2 : Pass n back (fun i x => g i || (s i && x)) (o1 back) o2) (i : Nat) (hi : i < n) : o2 i = semU n back g s i := by
  have hk : o1 back = semU n back g s back := by
    rw [Bool.eq_iff_iff, semU_iff hb hb]
    constructor
    · exact pass_sound hb h1 (fun h => by cases h) _ back hb rfl
    · intro hu
      obtain ⟨k, e1, e2, e3⟩ := back_near hb hu
      exact pass_near h1 k back e1 e2 e3
  have : ∀ m i, i < n → n - 1 - i = m → o2 i = semU n back g s i := by
    intro m
    induction m with
    | zero =>
      intro i hi hm
      obtain rfl : i = n - 1 := by omega
      rw [h2.last, hk, semU_unfold hb hi, show nx n back (n - 1) = back from by unfold nx; rw [if_neg (by omega)]]
    | succ m ih =>
      intro i hi hm
      rw [h2.step i (by omega), semU_unfold hb hi, show nx n back i = i + 1 from by unfold nx; rw [if_pos (by omega)], ih (i + 1) (by omega) (by omega)]
  exact this _ i hi rfl
/-- Likewise, turned. -/
theorem lasts_turned {n back : Nat} (hb : back < n) {g s : Nat → Bool} {o1 o2 : Nat → Bool} (h1 : Pass n back (fun i x => g i && (s i || x)) true o1) (h2 : Pass n back (fun i x => g i && (s i || x)) (o1 back) o2) (i : Nat) (hi : i < n) : o2 i = !semU n back (fun i => !g i) (fun i => !s i) i := by
  have e : ∀ a b c : Bool, (!(a && (b || c))) = (!a || (!b && !c)) := by decide
  have h1' : Pass n back (fun i x => (!g i) || ((!s i) && x)) false (fun i => !o1 i) := ⟨by rw [h1.last, e]; rfl, fun i hi => by rw [h1.step i hi, e]⟩
  have h2' : Pass n back (fun i x => (!g i) || ((!s i) && x)) (!o1 back) (fun i => !o2 i) := ⟨by rw [h2.last, e], fun i hi => by rw [h2.step i hi, e]⟩
  have := lasts_law hb h1' h2' i hi
  rw [← this]; simp
/-- A search by steps: where it ends tells. -/
theorem search_law {n back : Nat} (hb : back < n) {g s : Nat → Bool} {i j : Nat} (hi : i < n) (_hj : j ≤ n) (hs : ∀ m, m < j → g (itn n back m i) = false ∧ s (itn n back m i) = true) (he : j = n ∨ g (itn n back j i) = true ∨ s (itn n back j i) = false) : g (itn n back j i) = semU n back g s i := by
  rw [Bool.eq_iff_iff, semU_iff hb hi]
  constructor
  · exact fun h => ⟨j, h, fun m hm => (hs m hm).2⟩
  · intro hu
    obtain ⟨k, hk, e1, e2⟩ := UP_bound hb hi hu
    have hkj : j ≤ k := by
      rcases Nat.lt_or_ge k j with h | h
      · have := (hs k h).1; rw [e1] at this; cases this
      · exact h
    rcases he with h | h | h
    · omega
    · exact h
    · rcases Nat.lt_or_eq_of_le hkj with h3 | h3
      · have := e2 j h3; rw [h] at this; cases this
      · rw [h3]; exact e1
/-- Where a formula is so, by what its parts are. -/
def semKind (k : Int) (t a b : Nat → Bool) (n back : Nat) : Nat → Bool :=
  if k = 1 then fun _ => true else if k = 2 then fun _ => false else if k = 3 then t else if k = 4 then fun i => !a i else if k = 5 then fun i => a i && b i else if k = 6 then fun i => a i || b i
  else if k = 7 then fun i => !a i || b i else if k = 8 then fun i => a (nx n back i) else if k = 9 then semU n back b a else if k = 12 then semU n back a (fun _ => true)
  else if k = 10 then fun i => !semU n back (fun i => !b i) (fun i => !a i) i else if k = 11 then fun i => !semU n back (fun i => !a i) (fun _ => true) i else fun _ => false
mutual
/-- Where a formula is so, by the atoms' places. -/
def Form.sem (l : List PropD) (ls : List (List Bool)) (back : Nat) : Form → Nat → Bool
  | .mk k p kids => semKind k (fun i => (ls.getD i []).getD (l.idxOf p) false) ((semL l ls back kids).getD 0 (fun _ => false)) ((semL l ls back kids).getD 1 (fun _ => false)) ls.length back
def semL (l : List PropD) (ls : List (List Bool)) (back : Nat) : List Form → List (Nat → Bool)
  | [] => []
  | f :: fs => f.sem l ls back :: semL l ls back fs
end
theorem semL_get (l : List PropD) (ls : List (List Bool)) (back : Nat) (fs : List Form) (j : Nat) (h : j < fs.length) : (semL l ls back fs).getD j (fun _ => false) = (fs.getD j default).sem l ls back := by
  induction fs generalizing j with
  | nil => simp at h
  | cons f fs ih => cases j with
    | zero => simp [semL]
    | succ j => simp only [semL, List.getD_cons_succ]; exact ih j (by simpa using h)
/-- Where it is so, as a list. -/
def Form.truth (f : Form) (l : List PropD) (ls : List (List Bool)) (back : Nat) : List Bool := (List.range ls.length).map (f.sem l ls back)
end Go.Proofs.Ytidnpdkibndpkaa
