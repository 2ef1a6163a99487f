/- Both tables' contracts in the same words: a table, or none; the document's. -/
import Derived.Test.YtbpkcdgpplnglaaTabRef
namespace Go.Proofs.Ytbpkcdgpplnglaa
open Go.RowKit

/-- A table, or none. -/
def TV (w : World) (B : Nat) (F : Nat → Prop) (v : Value) (keys : List ByteArray) (room : Nat) : Prop :=
  (v = .pointer none ∧ keys = [] ∧ room = 0) ∨ ∃ b, v = .pointer (some ⟨b, 0, none⟩) ∧ Tab w B F b keys room
theorem TV.since {w w' : World} {B : Nat} {F G : Nat → Prop} {v keys room} (h : TV w B F v keys room) (hs : Since G w w') (hG : ∀ k, F k → ¬ G k) : TV w' B F v keys room :=
  h.imp id (fun ⟨b, hv, ht⟩ => ⟨b, hv, ht.since hs hG⟩)
theorem TV.drewN {w : World} {B F v keys room} (h : TV w B F v keys room) (n : Nat) : TV (w.drewN n) B F v keys room :=
  h.since (Since.drewN (fun _ => False) n (Since.refl _ _)) (fun _ _ h => h)

/-- What Add tells of keys, and what they are behind it. -/
def AddIs (keys : List ByteArray) (room : Nat) (key : ByteArray) (a : Int) (is : Bool) (keys' : List ByteArray) : Prop :=
  (FindIs keys key a ∧ 0 ≤ a ∧ is = false ∧ keys' = keys) ∨ (FindIs keys key (-1) ∧ room ≤ keys.length ∧ a = -1 ∧ is = false ∧ keys' = keys) ∨
    (FindIs keys key (-1) ∧ keys.length < room ∧ a = keys.length ∧ is = true ∧ keys' = keys ++ [key])
theorem addIs_exists (keys : List ByteArray) (room : Nat) (key : ByteArray) : ∃ a is keys', AddIs keys room key a is keys' := by
  obtain ⟨r, hr⟩ := findIs_exists keys key
  by_cases h0 : 0 ≤ r
  · exact ⟨r, false, keys, .inl ⟨hr, h0, rfl, rfl⟩⟩
  · have := hr.range
    have hr1 : r = -1 := by omega
    subst hr1
    by_cases h1 : room ≤ keys.length
    · exact ⟨_, _, _, .inr (.inl ⟨hr, h1, rfl, rfl, rfl⟩)⟩
    · exact ⟨_, _, _, .inr (.inr ⟨hr, by omega, rfl, rfl, rfl⟩)⟩
/-- What At tells of keys. -/
def atOf (keys : List ByteArray) (i : Int) : ByteArray := if i < 0 ∨ (keys.length : Int) ≤ i then ByteArray.empty else keys.getD i.toNat ByteArray.empty

theorem tv_len {w B F v keys room} (h : TV w B F v keys room) : Calls Try.prog 12 #[v] w fun e w' => e = .returned (.int .i64 keys.length) ∧ w = w' := by
  rcases h with ⟨rfl, rfl, rfl⟩ | ⟨b, rfl, kv, sb, sc, sl, m, ht, -⟩
  · exact len_nil w
  · exact len_any ⟨_, _, _, ht⟩
theorem tv_find {w B F v keys room} (h : TV w B F v keys room) (key : ByteArray) (hk : key.size ≤ maxLen) (r : Int) (hr : FindIs keys key r) :
    Calls Try.prog 11 #[v, .string key] w fun e w' => e = .returned (.int .i64 r) ∧ ∃ n, w' = w.drewN n := by
  rcases h with ⟨rfl, rfl, rfl⟩ | ⟨b, rfl, ht⟩
  · rcases hr with ⟨i, hi, _⟩ | ⟨rfl, _⟩
    · simp at hi
    · exact (find_nil key w).mono fun e w' ⟨h1, h2⟩ => ⟨h1, 0, by rw [← h2]; rfl⟩
  · exact tab_find ht key hk r hr
theorem tv_at {w B F v keys room} (h : TV w B F v keys room) (i : Int) : Calls Try.prog 13 #[v, .int .i64 i] w fun e w' => e = .returned (.string (atOf keys i)) ∧ w = w' := by
  unfold atOf
  rcases h with ⟨rfl, rfl, rfl⟩ | ⟨b, rfl, kv, sb, sc, sl, m, ht, -⟩
  · rw [if_pos (by simp; omega)]; exact at_nil i w
  · by_cases hi : i < 0 ∨ (keys.length : Int) ≤ i
    · rw [if_pos hi]; exact at_out ⟨_, _, _, ht⟩ i hi
    · rw [if_neg hi]
      have := at_in ⟨_, _, _, ht⟩ i.toNat (by omega)
      rwa [show ((i.toNat : Nat) : Int) = i from by omega] at this
theorem tv_add {w B F v keys room} (h : TV w B F v keys room) (key : ByteArray) (hk : key.size ≤ maxLen) {a : Int} {is : Bool} {keys' : List ByteArray} (ha : AddIs keys room key a is keys') (hB : B ≤ w.heap.size) :
    Calls Try.prog 10 #[v, .string key] w fun e w' => e = .returned (.tuple #[.int .i64 a, .bool is]) ∧
      ∃ F', TV w' B F' v keys' room ∧ (∀ k, F' k → F k ∨ w.heap.size ≤ k) ∧ Since F w w' := by
  rcases h with ⟨rfl, rfl, rfl⟩ | ⟨b, rfl, ht⟩
  · have : a = -1 ∧ is = false ∧ keys' = [] := by
      rcases ha with ⟨h1, h2, _⟩ | ⟨_, _, rfl, rfl, rfl⟩ | ⟨_, h2, _⟩
      · have := h1.range; simp at this; omega
      · exact ⟨rfl, rfl, rfl⟩
      · simp at h2
    obtain ⟨rfl, rfl, rfl⟩ := this
    refine (add_nil key w).mono ?_
    rintro e w' ⟨rfl, n, rfl⟩
    exact ⟨rfl, F, .inl ⟨rfl, rfl, rfl⟩, fun k hk => .inl hk, Since.drewN _ _ (Since.refl _ _)⟩
  · rcases ha with ⟨h1, h2, rfl, rfl⟩ | ⟨h1, h2, rfl, rfl, rfl⟩ | ⟨h1, h2, rfl, rfl, rfl⟩
    · refine (add_old ht key hk a h1 h2).mono ?_
      rintro e w' ⟨rfl, n, rfl⟩
      exact ⟨rfl, F, .inr ⟨b, rfl, ht.drewN n⟩, fun k hk => .inl hk, Since.drewN _ _ (Since.refl _ _)⟩
    · refine (add_full ht key hk h1 h2).mono ?_
      rintro e w' ⟨rfl, n, rfl⟩
      exact ⟨rfl, F, .inr ⟨b, rfl, ht.drewN n⟩, fun k hk => .inl hk, Since.drewN _ _ (Since.refl _ _)⟩
    · refine (add_new ht key hk h1 h2 hB).mono ?_
      rintro e w' ⟨rfl, h3, h4⟩
      exact ⟨rfl, _, .inr ⟨b, rfl, h3⟩, fun k hk => hk.imp id (·.1), h4⟩
theorem tv_new (room : Int) (w : World) (B : Nat) (hB : B ≤ w.heap.size) : Calls Try.prog 9 #[.int .i64 room] w fun e w' =>
    ∃ v F, e = .returned v ∧ TV w' B F v [] (if 1 ≤ room ∧ room ≤ 100000 then room.toNat else 0) ∧ (∀ k, F k → w.heap.size ≤ k ∧ k < w'.heap.size) ∧ Since (fun _ => False) w w' := by
  by_cases h : 1 ≤ room ∧ room ≤ 100000
  · rw [if_pos h]
    have := tab_new room.toNat (by omega) (by omega) w B hB
    rw [show ((room.toNat : Nat) : Int) = room from by omega] at this
    refine this.mono ?_
    rintro e w' ⟨b, rfl, h1, h2⟩
    exact ⟨_, _, rfl, .inr ⟨b, rfl, h1⟩, fun k hk => hk, h2⟩
  · rw [if_neg h]
    refine (tab_new_nil room (by omega) w).mono ?_
    rintro e w' ⟨rfl, rfl⟩
    exact ⟨_, fun _ => False, rfl, .inl ⟨rfl, rfl, rfl⟩, fun _ h => h.elim, Since.refl _ _⟩

theorem ref_at {w B F b keys room} (h : RefAt w B F b keys room) (i : Int) : Calls Try.prog 16 #[.pointer (some ⟨b, 0, none⟩), .int .i64 i] w fun e w' => e = .returned (.string (atOf keys i)) ∧ w = w' := by
  unfold atOf
  by_cases hi : i < 0 ∨ (keys.length : Int) ≤ i
  · rw [if_pos hi]; exact ref_at_out h i hi
  · rw [if_neg hi]
    have := ref_at_in h i.toNat (by omega)
    rwa [show ((i.toNat : Nat) : Int) = i from by omega] at this
theorem ref_add {w B F b keys room} (h : RefAt w B F b keys room) (hroom : room ≤ 100000) (key : ByteArray) {a : Int} {is : Bool} {keys' : List ByteArray} (ha : AddIs keys room key a is keys') (hB : B ≤ w.heap.size) :
    Calls Try.prog 15 #[.pointer (some ⟨b, 0, none⟩), .string key] w fun e w' => e = .returned (.tuple #[.int .i64 a, .bool is]) ∧
      ∃ F', RefAt w' B F' b keys' room ∧ (∀ k, F' k → F k ∨ w.heap.size ≤ k) ∧ Since F w w' := by
  rcases ha with ⟨h1, h2, rfl, rfl⟩ | ⟨h1, h2, rfl, rfl, rfl⟩ | ⟨h1, h2, rfl, rfl, rfl⟩
  · refine (ref_add_old h key a h1 h2).mono ?_
    rintro e w' ⟨rfl, n, rfl⟩
    exact ⟨rfl, F, h.drewN n, fun k hk => .inl hk, Since.drewN _ _ (Since.refl _ _)⟩
  · refine (ref_add_full h key h1 h2).mono ?_
    rintro e w' ⟨rfl, n, rfl⟩
    exact ⟨rfl, F, h.drewN n, fun k hk => .inl hk, Since.drewN _ _ (Since.refl _ _)⟩
  · refine (ref_add_new h key h1 h2 hroom hB).mono ?_
    rintro e w' ⟨rfl, h3, h4⟩
    exact ⟨rfl, _, h3, fun k hk => hk.imp id (·.1), h4⟩
end Go.Proofs.Ytbpkcdgpplnglaa
