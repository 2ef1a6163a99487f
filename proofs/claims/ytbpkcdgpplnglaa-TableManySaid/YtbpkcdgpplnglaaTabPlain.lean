/- The plain law of the hash table: places in a circle of slots; no program in sight. -/
import Derived.Lib.Hide
namespace Go.Proofs.Ytbpkcdgpplnglaa

/-- At slot j stands no key, or this one. -/
def Hit (keys : List ByteArray) (slots : List Nat) (key : ByteArray) (j : Nat) : Prop :=
  slots.getD j 0 = 0 ∨ keys.getD (slots.getD j 0 - 1) ByteArray.empty = key
/-- The first slot from s on, in the circle, at which the search for a key ends, is d steps away. -/
def Ends (keys : List ByteArray) (slots : List Nat) (key : ByteArray) (s d : Nat) : Prop :=
  Hit keys slots key ((s + d) % slots.length) ∧ ∀ e, e < d → ¬ Hit keys slots key ((s + e) % slots.length)

/-- The first k keys stand in the slots; st: where a key's search begins. -/
structure Placed (st : ByteArray → Nat → Nat) (keys : List ByteArray) (k : Nat) (slots : List Nat) : Prop where
  le : k ≤ keys.length
  nodup : keys.Nodup
  small : ∀ j, slots.getD j 0 ≤ k
  few : slots.countP (· != 0) ≤ k
  room : k < slots.length
  at_ : ∀ i, (h : i < k) → ∃ d, slots.getD ((st (keys[i]'(Nat.lt_of_lt_of_le h le)) slots.length + d) % slots.length) 0 = i + 1 ∧
    ∀ e, e < d → slots.getD ((st (keys[i]'(Nat.lt_of_lt_of_le h le)) slots.length + e) % slots.length) 0 ≠ 0

theorem exists_least' {p : Nat → Prop} {n : Nat} (h : p n) : ∃ d, p d ∧ (∀ e, e < d → ¬ p e) ∧ d ≤ n := by
  induction n using Nat.strongRecOn with
  | _ n ih =>
    by_cases hm : ∃ m, m < n ∧ p m
    · obtain ⟨m, hlt, hp⟩ := hm
      obtain ⟨d, h1, h2, h3⟩ := ih m hlt hp
      exact ⟨d, h1, h2, by omega⟩
    · exact ⟨n, h, fun e he hp => hm ⟨e, he, hp⟩, Nat.le_refl _⟩

theorem circle (s n z : Nat) (hn : 0 < n) (hz : z < n) : ∃ d, (s + d) % n = z := by
  refine ⟨n * (s + 1) + z - s, ?_⟩
  have h1 : s ≤ n * (s + 1) := Nat.le_trans (Nat.le_succ s) (Nat.le_mul_of_pos_left _ hn)
  have : s + (n * (s + 1) + z - s) = z + n * (s + 1) := by omega
  rw [this, Nat.add_mul_mod_self_left, Nat.mod_eq_of_lt hz]

theorem empty_slot (slots : List Nat) (h : slots.countP (· != 0) < slots.length) : ∃ z, z < slots.length ∧ slots.getD z 0 = 0 := by
  induction slots with
  | nil => simp at h
  | cons a l ih =>
    by_cases ha : a = 0
    · exact ⟨0, by simp, by simp [ha]⟩
    · have hc : (a :: l).countP (· != 0) = l.countP (· != 0) + 1 := by simp [ha]
      rw [hc] at h
      obtain ⟨z, h1, h2⟩ := ih (by simp at h; omega)
      exact ⟨z + 1, by simp; omega, by simpa using h2⟩

/-- A search ends. -/
theorem Placed.ends {st keys k slots} (h : Placed st keys k slots) (key : ByteArray) (s : Nat) : ∃ d, Ends keys slots key s d := by
  obtain ⟨z, hz, h0⟩ := empty_slot slots (Nat.lt_of_le_of_lt h.few h.room)
  obtain ⟨d0, hd0⟩ := circle s slots.length z (by omega) hz
  have hit : Hit keys slots key ((s + d0) % slots.length) := by rw [hd0]; exact Or.inl h0
  obtain ⟨d, h1, h2, _⟩ := exists_least' (p := fun d => Hit keys slots key ((s + d) % slots.length)) hit
  exact ⟨d, h1, h2⟩

/-- Where it ends for a key that is not among the first k: nothing stands there. -/
theorem Placed.none {st keys k slots} (h : Placed st keys k slots) {key : ByteArray} {s d : Nat} (hd : Ends keys slots key s d)
    (hk : ∀ i, i < k → keys.getD i ByteArray.empty ≠ key) : slots.getD ((s + d) % slots.length) 0 = 0 := by
  rcases hd.1 with h0 | h1
  · exact h0
  · by_cases hz : slots.getD ((s + d) % slots.length) 0 = 0
    · exact hz
    · have := h.small ((s + d) % slots.length)
      exact absurd h1 (hk _ (by omega))

/-- Where it ends for key i: there it stands. -/
theorem Placed.some {st keys k slots} (h : Placed st keys k slots) {i d : Nat} (hi : i < k) {key : ByteArray} (hkey : keys[i]? = some key)
    (hd : Ends keys slots key (st key slots.length) d) : slots.getD ((st key slots.length + d) % slots.length) 0 = i + 1 := by
  have hil : i < keys.length := Nat.lt_of_lt_of_le hi h.le
  have hki : keys[i] = key := by rw [List.getElem?_eq_getElem hil] at hkey; simpa using hkey
  obtain ⟨d0, h0, h1⟩ := h.at_ i hi
  rw [hki] at h0 h1
  have hit0 : Hit keys slots key ((st key slots.length + d0) % slots.length) := by
    right; rw [h0]; simp [hkey]
  have hle : d ≤ d0 := by
    rcases Nat.lt_or_ge d0 d with hlt | hge
    · exact absurd hit0 (hd.2 d0 hlt)
    · exact hge
  have hne : slots.getD ((st key slots.length + d) % slots.length) 0 ≠ 0 := by
    rcases Nat.lt_or_eq_of_le hle with hlt | heq
    · exact h1 d hlt
    · rw [heq, h0]; omega
  rcases hd.1 with hz | hk
  · exact absurd hz hne
  · have hs := h.small ((st key slots.length + d) % slots.length)
    generalize slots.getD ((st key slots.length + d) % slots.length) 0 = v at *
    have hvl : v - 1 < keys.length := by have := h.le; omega
    have hkv : keys[v - 1] = keys[i] := by rw [hki]; simpa [List.getD, List.getElem?_eq_getElem hvl] using hk
    have : v - 1 = i := (List.getElem_inj h.nodup).1 hkv
    omega

theorem getD_set (l : List Nat) (i j a : Nat) (hi : i < l.length) : (l.set i a).getD j 0 = if i = j then a else l.getD j 0 := by
  by_cases h : i = j <;> simp [List.getD, List.getElem?_set, h]
  subst h; simp [hi]

/-- One key more. -/
theorem Placed.add {st keys k slots} (h : Placed st keys k slots) (hk : k < keys.length) {d : Nat} (hr : k + 1 < slots.length)
    (hd : Ends keys slots keys[k] (st keys[k] slots.length) d) : Placed st keys (k + 1) (slots.set ((st keys[k] slots.length + d) % slots.length) (k + 1)) := by
  have hn : 0 < slots.length := by omega
  have hj := Nat.mod_lt (st keys[k] slots.length + d) hn
  have hz := h.none hd (fun i hi he => by
    have hil : i < keys.length := by omega
    rw [List.getD, List.getElem?_eq_getElem hil] at he
    have := (List.getElem_inj h.nodup).1 (show keys[i] = keys[k] from he)
    omega)
  generalize hjd : (st keys[k] slots.length + d) % slots.length = j at *
  refine ⟨hk, h.nodup, ?_, ?_, by simpa using hr, ?_⟩
  · intro i
    rw [getD_set _ _ _ _ hj]
    have := h.small i
    split <;> omega
  · rw [List.countP_set hj]
    have : slots[j] = 0 := by simpa [List.getD, List.getElem?_eq_getElem hj] using hz
    have := h.few
    simp_all
  · intro i hi
    simp only [List.length_set]
    rcases Nat.lt_or_eq_of_le (Nat.le_of_lt_succ hi) with hlt | heq
    · obtain ⟨d0, h0, h1⟩ := h.at_ i hlt
      refine ⟨d0, ?_, ?_⟩
      · rw [getD_set _ _ _ _ hj, if_neg]
        · exact h0
        · intro e; rw [← e, hz] at h0; omega
      · intro e he
        rw [getD_set _ _ _ _ hj]
        split
        · omega
        · exact h1 e he
    · subst heq
      refine ⟨d, ?_, ?_⟩
      · rw [hjd, getD_set _ _ _ _ hj]; simp
      · intro e he
        rw [getD_set _ _ _ _ hj]
        split
        · omega
        · intro hc
          exact hd.2 e he (Or.inl hc)

/-- The same slots, of more keys. -/
theorem Placed.more {st keys k slots} (h : Placed st keys k slots) (key : ByteArray) (hnew : key ∉ keys) : Placed st (keys ++ [key]) k slots := by
  refine ⟨by have := h.le; simp; omega, ?_, h.small, h.few, h.room, ?_⟩
  · rw [List.nodup_append]
    exact ⟨h.nodup, by simp, by intro a ha b hb e; simp at hb; subst hb; subst e; exact hnew ha⟩
  · intro i hi
    have : i < keys.length := Nat.lt_of_lt_of_le hi h.le
    rw [List.getElem_append_left this]
    exact h.at_ i hi

/-- Where a search ends, of more keys. -/
theorem Ends.more {st keys k slots} (h : Placed st keys k slots) (hk : k = keys.length) (more : List ByteArray) {key : ByteArray} {s d : Nat} (hd : Ends keys slots key s d) : Ends (keys ++ more) slots key s d := by
  have he : ∀ j, Hit (keys ++ more) slots key j ↔ Hit keys slots key j := by
    intro j
    unfold Hit
    by_cases hz : slots.getD j 0 = 0
    · simp only [hz, true_or]
    · have := h.small j
      have hl : slots.getD j 0 - 1 < keys.length := by omega
      have : (keys ++ more).getD (slots.getD j 0 - 1) ByteArray.empty = keys.getD (slots.getD j 0 - 1) ByteArray.empty := by
        simp only [List.getD_eq_getElem?_getD] at hl ⊢
        rw [List.getElem?_append_left hl]
      rw [this]
  exact ⟨(he _).2 hd.1, fun e h1 h2 => hd.2 e h1 ((he _).1 h2)⟩

theorem placed_zero (st : ByteArray → Nat → Nat) (keys : List ByteArray) (hk : keys.Nodup) (n : Nat) (hn : 0 < n) : Placed st keys 0 (List.replicate n 0) := by
  refine ⟨Nat.zero_le _, hk, ?_, ?_, by simpa using hn, by intro i h; omega⟩
  · intro j
    simp only [List.getD, List.getElem?_replicate]; split <;> simp
  · simp [List.countP_replicate]
end Go.Proofs.Ytbpkcdgpplnglaa
