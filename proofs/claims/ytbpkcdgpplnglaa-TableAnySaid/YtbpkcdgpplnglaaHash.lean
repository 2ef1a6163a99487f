/- The table's hash: a number of a key's bytes, from 0 to below 2^64: the walk alone, no condition but that the key is a string that may be. -/
import Derived.Test.YtbpkcdgpplnglaaRows
import Derived.WalkKit
import Derived.WalkSpells
import Derived.Lib.Hide
namespace Go.Proofs.Ytbpkcdgpplnglaa
open Go.RowKit

/-- One byte more. -/
def hashStep (n : Int) (c : UInt8) : Int := IntKind.u64.wrap (bits .xor .u64 n (c.toNat : Int) * 1099511628211)
def hashFold (l : List UInt8) : Int := l.foldl hashStep 14695981039346656037
theorem hashFold_snoc (l : List UInt8) (c : UInt8) : hashFold (l ++ [c]) = hashStep (hashFold l) c := by simp [hashFold]
theorem take_snoc (s : ByteArray) (k : Nat) (h : k < s.size) : s.data.toList.take (k + 1) = s.data.toList.take k ++ [s[k]] := by
  rw [List.take_succ_eq_append_getElem (by simpa using h)]; rfl

theorem hashStep_range (n : Int) (c : UInt8) : 0 ≤ hashStep n c ∧ hashStep n c < 18446744073709551616 := by
  unfold hashStep IntKind.wrap; simp [IntKind.signed, IntKind.bits]; omega
theorem hashFold_range (l : List UInt8) : 0 ≤ hashFold l ∧ hashFold l < 18446744073709551616 := by
  unfold hashFold
  generalize hn : (14695981039346656037 : Int) = n
  have h : 0 ≤ n ∧ n < 18446744073709551616 := by omega
  clear hn
  induction l generalizing n with
  | nil => exact h
  | cons c l ih => exact ih _ (hashStep_range _ _)

/-- What the table's hash is of a key. -/
def hashOf (s : ByteArray) : Int := bits .xor .u64 (hashFold s.data.toList) (hashFold s.data.toList / 536870912)

theorem hashOf_range (s : ByteArray) : 0 ≤ hashOf s ∧ hashOf s < 18446744073709551616 := by
  have h := hashFold_range s.data.toList
  unfold hashOf
  rw [u64_xor _ _ h.1 h.2 (by omega) (by omega)]
  have := Nat.xor_lt_two_pow (n := 64) (x := (hashFold s.data.toList).toNat) (y := (hashFold s.data.toList / 536870912).toNat) (by omega) (by omega)
  omega

set_option maxHeartbeats 400000 in
theorem hash_any (s : ByteArray) (w : World) (hs : s.size ≤ maxLen) :
    Calls Try.prog 19 #[.string s] w fun e w' => e = .returned (.int .u64 (hashOf s)) ∧ w = w' := by
  unfold maxLen at hs
  go_enter Try.func19, Try.ntmps19
  go_wp2
  go_loop [3, 7] (fun n i => ∃ k : Nat, k ≤ s.size ∧ i = .int .i64 k ∧ n = .int .u64 (hashFold (s.data.toList.take k))) (fun _ i => s.size - (intOf i).toNat)
  case atStart => exact ⟨0, Nat.zero_le _, rfl, rfl⟩
  case round =>
    obtain ⟨k, hk, rfl, rfl⟩ := hrel
    have hr := hashFold_range (s.data.toList.take k)
    by_cases hlt : k < s.size
    · have hu : IntKind.u64.wrap (s[k].toNat : Int) = (s[k].toNat : Int) := by have := s[k].toNat_lt; unfold IntKind.wrap; simp [IntKind.signed, IntKind.bits]; omega
      go_wp2
      go_round
      case rel => exact ⟨k + 1, by omega, by go_num, by rw [take_snoc s k hlt, hashFold_snoc]; rfl⟩
      case measure => simp [intOf]; omega
    · go_wp2
      go_ret
      have e : s.data.toList.take k = s.data.toList := List.take_of_length_le (by simp; omega)
      exact ⟨by simp only [e]; rfl, rfl⟩
end Go.Proofs.Ytbpkcdgpplnglaa
