/- Marks: the bits of a number of 64 bits. -/
import Derived.Test.YtoojalcfojflhaaBase
namespace Go.Proofs.Ytoojalcfojflhaa
open Go.RowKit

def bitI (x : Int) (k : Nat) : Bool := (BitVec.ofInt 64 x).getLsbD k
theorem i64_wrap (n : Int) : IntKind.i64.wrap n % 18446744073709551616 = n % 18446744073709551616 := by
  simp [IntKind.wrap, IntKind.bits, IntKind.signed]
  split <;> omega
theorem ofInt_wrap (n : Int) : BitVec.ofInt 64 (IntKind.i64.wrap n) = BitVec.ofInt 64 n := by
  apply BitVec.eq_of_toNat_eq
  rw [BitVec.toNat_ofInt, BitVec.toNat_ofInt]
  have := i64_wrap n
  simp only [Nat.reducePow, Int.cast_ofNat_Int] at *
  rw [this]
theorem ofInt_toNat (v : BitVec 64) : BitVec.ofInt 64 (v.toNat : Int) = v := by
  rw [BitVec.ofInt_natCast]; simp
theorem bits_or (a b : Int) : BitVec.ofInt 64 (bits .or .i64 a b) = BitVec.ofInt 64 a ||| BitVec.ofInt 64 b := by
  show BitVec.ofInt 64 (IntKind.i64.wrap ((BitVec.ofInt 64 a ||| BitVec.ofInt 64 b).toNat : Int)) = _
  rw [ofInt_wrap, ofInt_toNat]
theorem bits_and (a b : Int) : BitVec.ofInt 64 (bits .and .i64 a b) = BitVec.ofInt 64 a &&& BitVec.ofInt 64 b := by
  show BitVec.ofInt 64 (IntKind.i64.wrap ((BitVec.ofInt 64 a &&& BitVec.ofInt 64 b).toNat : Int)) = _
  rw [ofInt_wrap, ofInt_toNat]
theorem bitI_or (a b : Int) (k : Nat) : bitI (bits .or .i64 a b) k = (bitI a k || bitI b k) := by
  unfold bitI; rw [bits_or, BitVec.getLsbD_or]
theorem bitI_zero (k : Nat) : bitI 0 k = false := by simp [bitI]
theorem i64_range (n : Int) : -9223372036854775808 ≤ IntKind.i64.wrap n ∧ IntKind.i64.wrap n ≤ 9223372036854775807 := by
  simp [IntKind.wrap, IntKind.bits, IntKind.signed]
  split <;> omega
/-- Two numbers of 64 bits with the same bits are the same. -/
theorem same_bits {a b : Int} (ha : -9223372036854775808 ≤ a ∧ a ≤ 9223372036854775807) (hb : -9223372036854775808 ≤ b ∧ b ≤ 9223372036854775807) (h : BitVec.ofInt 64 a = BitVec.ofInt 64 b) : a = b := by
  have := congrArg BitVec.toNat h
  rw [BitVec.toNat_ofInt, BitVec.toNat_ofInt] at this
  simp only [Nat.reducePow, Int.cast_ofNat_Int] at this
  omega
theorem bitI_all (m : Nat) (hm : m ≤ 40) (k : Nat) : bitI (2 ^ m - 1) k = decide (k < m) := by
  have h1 : (2 : Int) ^ m - 1 = ((2 ^ m - 1 : Nat) : Int) := by
    have : 0 < 2 ^ m := Nat.pow_pos (by omega)
    rw [Int.natCast_sub this]; simp
  unfold bitI
  rw [h1, BitVec.ofInt_natCast, BitVec.getLsbD_ofNat, Nat.testBit_two_pow_sub_one]
  by_cases h : k < m
  · simp [h]; omega
  · simp [h]
theorem all_range (m : Nat) (hm : m ≤ 40) : -9223372036854775808 ≤ (2 : Int) ^ m - 1 ∧ (2 : Int) ^ m - 1 ≤ 9223372036854775807 := by
  have h1 : (2 : Nat) ^ m ≤ 2 ^ 40 := Nat.pow_le_pow_right (by omega) hm
  have h2 : ((2 : Int) ^ m) = ((2 ^ m : Nat) : Int) := by simp
  have h3 : 0 < 2 ^ m := Nat.pow_pos (by omega)
  rw [h2]; omega
/-- All marks are met just if each one is. -/
theorem all_met (x : Int) (m : Nat) (hm : m ≤ 40) : bits .and .i64 x (2 ^ m - 1) = 2 ^ m - 1 ↔ ∀ k, k < m → bitI x k = true := by
  constructor
  · intro h k hk
    have h1 : bitI (bits .and .i64 x (2 ^ m - 1)) k = (bitI x k && bitI (2 ^ m - 1) k) := by unfold bitI; rw [bits_and, BitVec.getLsbD_and]
    rw [h, bitI_all m hm] at h1
    simp [hk] at h1
    exact h1
  · intro h
    refine same_bits (i64_range _) (all_range m hm) ?_
    rw [bits_and]
    apply BitVec.eq_of_getLsbD_eq
    intro k hk
    rw [BitVec.getLsbD_and]
    have h2 : (BitVec.ofInt 64 (2 ^ m - 1)).getLsbD k = decide (k < m) := bitI_all m hm k
    rw [h2]
    by_cases e : k < m
    · have : (BitVec.ofInt 64 x).getLsbD k = true := h k e
      rw [this]; rfl
    · simp [e]
/-- A mark is met by a shift and the last bit. -/
theorem mark_met (x : Int) (hx : -9223372036854775808 ≤ x ∧ x ≤ 9223372036854775807) (k : Nat) (hk : k < 64) : bits .and .i64 (x / 2 ^ k) 1 = 1 ↔ bitI x k = true := by
  have h1 : BitVec.ofInt 64 (x / 2 ^ k) = (BitVec.ofInt 64 x).sshiftRight k := by
    apply BitVec.eq_of_toInt_eq
    rw [BitVec.toInt_sshiftRight, Int.shiftRight_eq_div_pow, BitVec.toInt_ofInt, BitVec.toInt_ofInt, show ((2 ^ k : Nat) : Int) = (2 : Int) ^ k from by simp]
    have hb : x.bmod (2 ^ 64) = x := by
      rw [Int.bmod_eq_of_le] <;> omega
    rw [hb]
    have hp : (0 : Int) < 2 ^ k := Int.pow_pos (by decide)
    have h0 : -9223372036854775808 ≤ x / 2 ^ k := by
      rw [Int.le_ediv_iff_mul_le hp]
      have h3 : (1 : Int) ≤ 2 ^ k := hp
      have : (-9223372036854775808 : Int) * 2 ^ k ≤ -9223372036854775808 * 1 := by
        apply Int.mul_le_mul_of_nonpos_left <;> omega
      omega
    have h2 : x / 2 ^ k ≤ 9223372036854775807 := by
      rcases Int.lt_or_le x 0 with e | e
      · have := Int.ediv_neg_of_neg_of_pos e hp; omega
      · exact Int.le_trans (Int.ediv_le_self _ e) hx.2
    rw [Int.bmod_eq_of_le] <;> omega
  have h2 : BitVec.ofInt 64 (bits .and .i64 (x / 2 ^ k) 1) = (BitVec.ofInt 64 x).sshiftRight k &&& 1#64 := by rw [bits_and, h1]; rfl
  have h3 : ∀ v : BitVec 64, v &&& 1#64 = 1#64 ↔ v.getLsbD 0 = true := by
    intro v
    constructor
    · intro h
      have := congrArg (fun u => BitVec.getLsbD u 0) h
      simpa using this
    · intro h
      apply BitVec.eq_of_getLsbD_eq
      intro j hj
      cases j with
      | zero => simp [h]
      | succ j => simp
  have h4 : ((BitVec.ofInt 64 x).sshiftRight k).getLsbD 0 = bitI x k := by
    unfold bitI
    rw [BitVec.getLsbD_sshiftRight]
    simp [hk]
  rw [← h4, ← h3, ← h2]
  constructor
  · intro h; rw [h]; rfl
  · intro h
    exact same_bits (i64_range _) (by decide) (h.trans rfl)
/-- The mask of all marks, as it is computed. -/
theorem mask64 (mn : Nat) (h : mn ≤ 40) : wrap64 (wrap64 ((2 : Int) ^ mn) - 1) = 2 ^ mn - 1 := by
  have h1 : (2 : Nat) ^ mn ≤ 2 ^ 40 := Nat.pow_le_pow_right (by omega) h
  have h2 : ((2 : Int) ^ mn) = ((2 ^ mn : Nat) : Int) := by simp
  have h3 : 0 < 2 ^ mn := Nat.pow_pos (by omega)
  rw [h2]
  generalize 2 ^ mn = p at *
  unfold wrap64
  omega
end Go.Proofs.Ytoojalcfojflhaa
