/- The table's methods: the walks. -/
import Derived.Test.YtbpkcdgpplnglaaBase
import Derived.Test.YtbpkcdgpplnglaaHash
import Derived.Test.YtbpkcdgpplnglaaTabPlain
import Derived.Deep.QuietTactic
import Derived.BigQuiet
namespace Go.Proofs.Ytbpkcdgpplnglaa
open Go.RowKit

def strsV (l : List ByteArray) : List Value := l.map Value.string
def natsV (l : List Nat) : List Value := l.map fun n : Nat => Value.int .i64 (n : Int)

/-- A table in memory: its block b, its keys' row kv, its slots in block sb; all its blocks are from B on, and in F. -/
structure TabV (w : World) (B : Nat) (F : Nat → Prop) (b : Nat) (kv : Value) (sb sc : Nat) (keys : List ByteArray) (slots : List Nat) (room : Nat) : Prop where
  block : w.heap[b]? = some (.cells #[kv, .slice (some ⟨sb, 0, none⟩) slots.length sc, .int .i64 room] 42 (0, 0))
  krow : w.ownsRow B 9 1 kv keys.length (strsV keys)
  srow : w.ownsRow B 3 1 (.slice (some ⟨sb, 0, none⟩) slots.length sc) slots.length (natsV slots)
  fb : F b
  fsb : F sb
  fk : ∀ k, kv.ownBlock = some k → F k ∧ k ≠ b ∧ k ≠ sb
  ne : sb ≠ b
  base : B ≤ b
  lt : ∀ k, F k → k < w.heap.size
def TabAt (w : World) (B : Nat) (F : Nat → Prop) (b : Nat) (keys : List ByteArray) (slots : List Nat) (room : Nat) : Prop :=
  ∃ kv sb sc, TabV w B F b kv sb sc keys slots room

/-- Where a key's search begins. -/
def startOf (key : ByteArray) (n : Nat) : Nat := (hashOf key).toNat % n

theorem mask_eq (x : Int) (h0 : 0 ≤ x) (h1 : x < 18446744073709551616) (m n : Nat) (hn : n = 2 ^ m) (hm : n < 9223372036854775808) :
    bits .and .u64 x ((n : Int) - 1) = ((x.toNat % n : Nat) : Int) := by
  have hp : 0 < n := by rw [hn]; exact Nat.two_pow_pos m
  rw [u64_and x ((n : Int) - 1) h0 h1 (by omega) (by omega)]
  have : ((n : Int) - 1).toNat = n - 1 := by omega
  rw [this]
  subst hn
  rw [Nat.and_two_pow_sub_one_eq_mod]

set_option maxHeartbeats 400000 in
theorem slot_any (w : World) (B : Nat) (F : Nat → Prop) (b : Nat) (keys : List ByteArray) (slots : List Nat) (room : Nat) (h : TabAt w B F b keys slots room)
    (key : ByteArray) (hk : key.size ≤ maxLen) (d m r : Nat) (hn : slots.length = 2 ^ m) (hm : slots.length < 4294967296)
    (hd : Ends keys slots key (startOf key slots.length) d) (hv : ∀ j, slots.getD j 0 ≤ keys.length) (hr : r = (startOf key slots.length + d) % slots.length) :
    Calls Try.prog 18 #[.pointer (some ⟨b, 0, none⟩), .string key] w fun e w' => e = .returned (.int .i64 (r : Int)) ∧ w = w' := by
  obtain ⟨kv, sb, sc, hb, hko, hso, -, -, hkb, hsb, -, -⟩ := h
  have hc1 : w.cell? ⟨b, 1, none⟩ = some (.slice (some ⟨sb, 0, none⟩) slots.length sc) := cell_of_block hb 1
  have hc0 : w.cell? ⟨b, 0, none⟩ = some kv := cell_of_block hb 0
  have hs0 : ∀ j, j < slots.length → w.cell? ⟨sb, j, none⟩ = some (.int .i64 (slots.getD j 0 : Nat)) := by
    intro j hj
    rw [hso.cellAt j (by omega)]
    simp [natsV, List.getElem?_map, List.getD, List.getElem?_eq_getElem hj]
  have hle := hv
  have hkc : ∀ j, j < keys.length → ∃ g kcap, kv = .slice (some ⟨g, 0, none⟩) keys.length kcap ∧ keys.length ≤ 9223372036854775807 ∧ w.cell? ⟨g, j, none⟩ = some (.string (keys.getD j ByteArray.empty)) := by
    intro j hj
    obtain ⟨g, cap, rfl, h1, h2⟩ := row_some hko (by omega)
    refine ⟨g, cap, rfl, by unfold maxLen at h2; omega, ?_⟩
    rw [hko.cellAt j (by omega)]
    simp [strsV, List.getElem?_map, List.getD, List.getElem?_eq_getElem hj]
  have hp : 0 < slots.length := by rw [hn]; exact Nat.two_pow_pos m
  have hh := hashOf_range key
  obtain ⟨s0, hs⟩ : ∃ s0, s0 = startOf key slots.length := ⟨_, rfl⟩
  have hmask : bits .and .u64 (hashOf key) ((slots.length : Int) - 1) = (s0 : Int) := by
    rw [hs]; exact mask_eq (hashOf key) hh.1 hh.2 m slots.length hn (by omega)
  have hmask2 : ∀ j : Nat, j < slots.length → bits .and .u64 ((j : Int) + 1) ((slots.length : Int) - 1) = (((j + 1) % slots.length : Nat) : Int) := by
    intro j hj
    rw [mask_eq ((j : Int) + 1) (by omega) (by omega) m slots.length hn (by omega)]
    congr 2
  have hs1 : s0 < slots.length := by rw [hs]; exact Nat.mod_lt _ hp
  rw [← hs] at hd hr
  obtain ⟨hd1, hd2⟩ := hd
  have HR : Hid (r = (s0 + d) % slots.length) := hr
  have hk' := hk
  unfold maxLen at hk'
  clear hn hko hkb hsb hb hso hs hr hv hh
  go_enter Try.func18, Try.ntmps18
  go_wp2
  go_step3
  go_wp2_with (go_at_call 19; refine (hash_any _ _ hk).mono ?_; rintro e w' ⟨rfl, rfl⟩)
  go_step3
  go_wp2
  clear hmask
  go_loopg [6] d (fun g s6 wr => wr = w ∧ ∃ e j : Nat, e ≤ d ∧ Hid (g = d - e) ∧ s6 = .int .u64 j ∧ Hid (j = (s0 + e) % slots.length) ∧ j < slots.length)
  case atStart => exact ⟨rfl, 0, s0, Nat.zero_le _, rfl, rfl, by simp [Hid, Nat.mod_eq_of_lt hs1], hs1⟩
  case round =>
    obtain ⟨rfl, e, j, he, HG, rfl, HJ, hj⟩ := hrel
    have hcell := hs0 j hj
    have hlj := hle j
    have hm2 := hmask2 j hj
    obtain ⟨v, hv⟩ : ∃ v, v = slots.getD j 0 := ⟨_, rfl⟩
    rw [← hv] at hcell hlj
    have hlt := Nat.mod_lt (j + 1) hp
    obtain ⟨j', hj'⟩ : ∃ j', j' = (j + 1) % slots.length := ⟨_, rfl⟩
    rw [← hj'] at hm2 hlt
    have HV := Lib.hid hv
    have HJ' := Lib.hid hj'
    clear hv hj' hs0 hle hmask2
    rcases v with _ | u
    · clear hkc
      go_wp2
      (try rw [Exit.noGoto_ret]); go_ret
      have : e = d := by
        by_cases hed : e = d
        · exact hed
        · exact absurd (Or.inl (by rw [← HJ.out]; exact HV.out.symm)) (hd2 e (by omega))
      subst this
      refine ⟨?_, rfl⟩
      rw [HR.out, ← HJ.out]; rfl
    · obtain ⟨g, kcap, rfl, hkl, hkc1⟩ := hkc u (by omega)
      clear hkc
      have HH : Hid (Hit keys slots key j ↔ keys.getD u ByteArray.empty = key) := by
        unfold Hid Hit; rw [← HV.out]; simp
      obtain ⟨ku, hku⟩ : ∃ ku, ku = keys.getD u ByteArray.empty := ⟨_, rfl⟩
      rw [← hku] at hkc1 HH
      clear hku
      by_cases hkey : ku = key
      · subst hkey
        go_wp2
        (try rw [Exit.noGoto_ret]); go_ret
        have : e = d := by
          by_cases hed : e = d
          · exact hed
          · exact absurd (by rw [← HJ.out]; exact HH.out.2 trivial) (hd2 e (by omega))
        subst this
        refine ⟨?_, rfl⟩
        rw [HR.out, ← HJ.out]; rfl
      · have hkb : (ku.toList == key.toList) = false := bytes_ne hkey
        go_wp2
        have : e < d := by
          by_cases hed : e = d
          · subst hed; rw [← HJ.out] at hd1; exact absurd (HH.out.1 hd1) hkey
          · omega
        go_roundg (gk - 1)
        case measure => rw [HG.out]; omega
        case rel => exact ⟨rfl, e + 1, j', by omega, by rw [HG.out]; simp [Hid]; omega, rfl, by rw [HJ'.out, HJ.out]; simp [Hid, Nat.add_assoc], hlt⟩

theorem TabV.since {w w' : World} {B : Nat} {F G : Nat → Prop} {b kv sb sc keys slots room} (h : TabV w B F b kv sb sc keys slots room) (hs : Since G w w') (hG : ∀ k, F k → ¬ G k) : TabV w' B F b kv sb sc keys slots room :=
  ⟨(hs.block b (h.lt b h.fb) (hG b h.fb)).trans h.block, hs.row h.krow (fun k hk => hG k (h.fk k hk).1), hs.row h.srow (fun k hk => by simp [Value.ownBlock] at hk; exact hG k (hk ▸ h.fsb)), h.fb, h.fsb, h.fk, h.ne, h.base, fun k hk => Nat.lt_of_lt_of_le (h.lt k hk) hs.size⟩

theorem TabV.drewN {w : World} {B : Nat} {F : Nat → Prop} {b kv sb sc keys slots room} (h : TabV w B F b kv sb sc keys slots room) (n : Nat) : TabV (w.drewN n) B F b kv sb sc keys slots room :=
  h.since (Since.drewN (fun _ => False) n (Since.refl _ _)) (fun _ _ h => h)
theorem TabAt.drewN {w : World} {B : Nat} {F : Nat → Prop} {b keys slots room} (h : TabAt w B F b keys slots room) (n : Nat) : TabAt (w.drewN n) B F b keys slots room :=
  let ⟨kv, sb, sc, h⟩ := h; ⟨kv, sb, sc, h.drewN n⟩

theorem TabAt.keys_ {w B F b keys slots room} (h : TabAt w B F b keys slots room) :
    ∃ a cap, w.cell? ⟨b, 0, none⟩ = some (.slice a keys.length cap) ∧ keys.length ≤ 9223372036854775807 ∧
      ∀ j, j < keys.length → ∃ g, a = some ⟨g, 0, none⟩ ∧ w.cell? ⟨g, j, none⟩ = some (.string (keys.getD j ByteArray.empty)) := by
  obtain ⟨kv, sb, sc, hb, hko, hso, -, -, hkb, hsb, -, -⟩ := h
  obtain ⟨a, cap, rfl, h1, h2⟩ := row_slice hko
  refine ⟨a, cap, cell_of_block hb 0, by unfold maxLen at h2; omega, ?_⟩
  intro j hj
  obtain ⟨g, cap', he, -, -⟩ := row_some hko (by omega)
  cases he
  refine ⟨g, rfl, ?_⟩
  rw [hko.cellAt j (by omega)]
  simp [strsV, List.getElem?_map, List.getD, List.getElem?_eq_getElem hj]

theorem TabAt.slots_ {w B F b keys slots room} (h : TabAt w B F b keys slots room) :
    ∃ sb sc, w.cell? ⟨b, 1, none⟩ = some (.slice (some ⟨sb, 0, none⟩) slots.length sc) ∧ slots.length ≤ 9223372036854775807 ∧
      ∀ j, j < slots.length → w.cell? ⟨sb, j, none⟩ = some (.int .i64 (slots.getD j 0 : Nat)) := by
  obtain ⟨kv, sb, sc, hb, hko, hso, -, -, hkb, hsb, -, -⟩ := h
  obtain ⟨a, cap, he, h1, h2⟩ := row_slice hso
  cases he
  refine ⟨sb, sc, cell_of_block hb 1, by unfold maxLen at h2; omega, ?_⟩
  intro j hj
  rw [hso.cellAt j (by omega)]
  simp [natsV, List.getElem?_map, List.getD, List.getElem?_eq_getElem hj]

theorem len_nil (w : World) : Calls Try.prog 12 #[.pointer none] w fun e w' => e = .returned (.int .i64 0) ∧ w = w' := by
  go_enter Try.func12, Try.ntmps12
  go_wp2
  go_ret
  exact ⟨rfl, rfl⟩

theorem len_any {w B F b keys slots room} (h : TabAt w B F b keys slots room) : Calls Try.prog 12 #[.pointer (some ⟨b, 0, none⟩)] w fun e w' => e = .returned (.int .i64 keys.length) ∧ w = w' := by
  obtain ⟨a, cap, hc, -, -⟩ := h.keys_
  clear h
  go_enter Try.func12, Try.ntmps12
  go_wp2
  go_ret
  exact ⟨rfl, rfl⟩

theorem at_nil (i : Int) (w : World) : Calls Try.prog 13 #[.pointer none, .int .i64 i] w fun e w' => e = .returned (.string ByteArray.empty) ∧ w = w' := by
  by_cases h0 : i < 0
  · go_enter Try.func13, Try.ntmps13
    go_wp2
    go_ret
    exact ⟨rfl, rfl⟩
  · go_enter Try.func13, Try.ntmps13
    go_wp2_with (go_at_call 12; refine (len_nil _).mono ?_; rintro e w' ⟨rfl, rfl⟩)
    go_ret
    exact ⟨rfl, rfl⟩

theorem at_out {w B F b keys slots room} (h : TabAt w B F b keys slots room) (i : Int) (hi : i < 0 ∨ (keys.length : Int) ≤ i) : Calls Try.prog 13 #[.pointer (some ⟨b, 0, none⟩), .int .i64 i] w fun e w' => e = .returned (.string ByteArray.empty) ∧ w = w' := by
  by_cases h0 : i < 0
  · clear hi
    go_enter Try.func13, Try.ntmps13
    go_wp2
    go_ret
    exact ⟨rfl, rfl⟩
  · have hi' : (keys.length : Int) ≤ i := by omega
    clear hi
    go_enter Try.func13, Try.ntmps13
    go_wp2_with (go_at_call 12; refine (len_any h).mono ?_; rintro e w' ⟨rfl, rfl⟩)
    go_ret
    exact ⟨rfl, rfl⟩

theorem at_in {w B F b keys slots room} (h : TabAt w B F b keys slots room) (i : Nat) (hi : i < keys.length) : Calls Try.prog 13 #[.pointer (some ⟨b, 0, none⟩), .int .i64 i] w fun e w' => e = .returned (.string (keys.getD i ByteArray.empty)) ∧ w = w' := by
  obtain ⟨a, cap, hc, hl, hk⟩ := h.keys_
  obtain ⟨g, rfl, hcell⟩ := hk i hi
  obtain ⟨ki, hki⟩ : ∃ ki, ki = keys.getD i ByteArray.empty := ⟨_, rfl⟩
  rw [← hki] at hcell ⊢
  clear hki hk
  go_enter Try.func13, Try.ntmps13
  go_wp2_with (go_at_call 12; refine (len_any h).mono ?_; rintro e w' ⟨rfl, rfl⟩)
  go_ret
  exact ⟨rfl, rfl⟩

theorem find_nil (key : ByteArray) (w : World) : Calls Try.prog 11 #[.pointer none, .string key] w fun e w' => e = .returned (.int .i64 (-1)) ∧ w = w' := by
  go_enter Try.func11, Try.ntmps11
  go_wp2
  go_ret
  exact ⟨rfl, rfl⟩

set_option maxHeartbeats 400000 in
theorem find_any {w B F b keys slots room} (h : TabAt w B F b keys slots room) (key : ByteArray) (hk : key.size ≤ maxLen) (d m r v : Nat) (hn : slots.length = 2 ^ m) (hm : slots.length < 4294967296)
    (hd : Ends keys slots key (startOf key slots.length) d) (hv : ∀ j, slots.getD j 0 ≤ keys.length) (hr : r = (startOf key slots.length + d) % slots.length) (hvr : v = slots.getD r 0) :
    Calls Try.prog 11 #[.pointer (some ⟨b, 0, none⟩), .string key] w fun e w' => e = .returned (.int .i64 ((v : Int) - 1)) ∧ ∃ n, w' = w.drewN n := by
  have hs := fun n => slot_any (w.drewN n) B F b keys slots room (h.drewN n) key hk d m r hn hm hd hv hr
  obtain ⟨sb, sc, hc, hl, hcell⟩ := h.slots_
  have hrn : r < slots.length := by rw [hr]; exact Nat.mod_lt _ (by rw [hn]; exact Nat.two_pow_pos m)
  have hcell' := hcell r hrn
  rw [← hvr] at hcell'
  have hv2 : v ≤ keys.length := by rw [hvr]; exact hv r
  obtain ⟨_, _, -, hkl, -⟩ := h.keys_
  clear hcell hvr hr hv hd hn h
  go_enter Try.func11, Try.ntmps11
  go_wp2
  go_quiet ((go_at_call 18; exact Calls.quiet_of_same ((hs _).mono fun _ _ ⟨a, b⟩ => ⟨a, b.symm⟩)))
  go_wp2
  go_ret
  exact ⟨rfl, _, rfl⟩

end Go.Proofs.Ytbpkcdgpplnglaa
