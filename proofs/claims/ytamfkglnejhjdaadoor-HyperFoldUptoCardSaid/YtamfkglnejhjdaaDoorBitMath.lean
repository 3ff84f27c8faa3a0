/- Plain facts on wrapped int64 numbers, their bits and Go's quotient: no program in sight. They hold under the bounds that each states. -/
import Derived.WalkKit
import Derived.RowKit
import Derived.IntWalk
import Derived.Laws.BitsLemmas
namespace Go.Proofs.YtamfkglnejhjdaaDoor.BitMath
open Go.RowKit

/-- An int64. -/
def In64 (a : Int) : Prop := -9223372036854775808 ≤ a ∧ a ≤ 9223372036854775807
theorem in64_of_wf {a : Int} (h : (Lit.int .i64 a).wf = true) : In64 a := by
  simp only [Lit.wf, IntKind.min, IntKind.max, IntKind.signed, IntKind.bits, Bool.and_eq_true, decide_eq_true_eq, if_true] at h
  unfold In64
  omega
theorem in64_wrap (a : Int) : In64 (wrap64 a) := by unfold In64 wrap64; omega
theorem wrap_id {a : Int} (h : In64 a) : wrap64 a = a := by unfold In64 at h; unfold wrap64; omega
theorem wrap_add (x y : Int) : wrap64 (wrap64 x + wrap64 y) = wrap64 (x + y) := by unfold wrap64; omega
theorem wrap_add_l (x y : Int) : wrap64 (wrap64 x + y) = wrap64 (x + y) := by unfold wrap64; omega
theorem wrap_add_r (x y : Int) : wrap64 (x + wrap64 y) = wrap64 (x + y) := by unfold wrap64; omega
theorem wrap_sub_r (x y : Int) : wrap64 (x - wrap64 y) = wrap64 (x - y) := by unfold wrap64; omega
theorem wrap_eq_iff (x y : Int) : wrap64 x = wrap64 y ↔ x % 18446744073709551616 = y % 18446744073709551616 := by unfold wrap64; omega
theorem wrap_mod (x : Int) : wrap64 x % 18446744073709551616 = x % 18446744073709551616 := by unfold wrap64; omega
theorem wrap_of_mod (x : Int) : wrap64 (x % 18446744073709551616) = wrap64 x := by unfold wrap64; omega
theorem wrap_mul_l (x y : Int) : wrap64 (wrap64 x * y) = wrap64 (x * y) := by
  rw [wrap_eq_iff, Int.mul_emod, wrap_mod, ← Int.mul_emod]
theorem wrap_mul_r (x y : Int) : wrap64 (x * wrap64 y) = wrap64 (x * y) := by
  rw [wrap_eq_iff, Int.mul_emod, wrap_mod, ← Int.mul_emod]

theorem pow_split (i : Nat) (hi : i < 64) : (18446744073709551616:Int) = 2^i * (2 * 2^(63-i)) := by
  rw [show (2:Int) * 2^(63-i) = 2^(63-i+1) from by rw [Int.pow_succ]; omega, ← Int.pow_add, show i + (63 - i + 1) = 64 from by omega]
  decide

theorem bit_mod (a : Int) (i : Nat) (hi : i < 64) : (a % 18446744073709551616) / 2^i % 2 = a / 2^i % 2 := by
  have hpos : (0:Int) < 2^i := Int.pow_pos (by omega)
  have e : a = a % 18446744073709551616 + 2^i * (2 * (2^(63-i) * (a / 18446744073709551616))) := by
    have := Int.emod_add_mul_ediv a 18446744073709551616
    rw [← Int.mul_assoc 2, ← Int.mul_assoc, ← pow_split i hi]; omega
  generalize a % 18446744073709551616 = m at *
  rw [e, Int.add_mul_ediv_left _ _ (by omega), Int.add_mul_emod_self_left]

/-- Bit i of an int64's pattern. -/
theorem bit_of (a : Int) (i : Nat) (hi : i < 64) : (BitVec.ofInt 64 a).getLsbD i = decide (a / 2 ^ i % 2 = 1) := by
  rw [BitVec.getLsbD, BitVec.toNat_ofInt, Nat.testBit_eq_decide_div_mod_eq]
  have h2 : ((2^64 : Nat) : Int) = 18446744073709551616 := by decide
  rw [h2]
  have h0 : 0 ≤ a % 18446744073709551616 := Int.emod_nonneg _ (by decide)
  have key := bit_mod a i hi
  generalize a % 18446744073709551616 = m at *
  obtain ⟨n, rfl⟩ := Int.eq_ofNat_of_zero_le h0
  have e2 : ((n / 2 ^ i % 2 : Nat) : Int) = a / 2^i % 2 := by
    rw [← key]; push_cast; rfl
  rw [Int.toNat_natCast]
  congr 1
  apply propext
  omega

theorem mod_step (n i : Nat) : n % 2^(i+1) = n % 2^i + (if n.testBit i then 2^i else 0) := by
  rw [Nat.mod_pow_succ, Nat.testBit_eq_decide_div_mod_eq]
  by_cases h : n / 2^i % 2 = 1
  · simp [h]
  · have : n / 2^i % 2 = 0 := by omega
    simp [this]

/-- Go's half of a number below 0 that is odd, less one, is the whole part; of any other, it is. -/
theorem half_neg (a : Int) (h : a < 0) (ho : a.tmod 2 ≠ 0) : a.tdiv 2 - 1 = a / 2 := by
  rw [Int.tmod_eq_emod] at ho
  rw [Int.tdiv_eq_ediv]
  split at ho
  · rename_i hh
    rcases hh with hh | hh <;> omega
  · rename_i hh
    have : ¬ (0 ≤ a ∨ 2 ∣ a) := hh
    have h2 : (2:Int).sign = 1 := by decide
    rw [if_neg this]
    omega
theorem half_even (a : Int) (ho : ¬ (a < 0 ∧ a.tmod 2 ≠ 0)) : a.tdiv 2 = a / 2 := by
  rw [Int.tdiv_eq_ediv]
  split
  · omega
  · rename_i hh
    rw [Int.tmod_eq_emod, if_neg hh] at ho
    have : (2:Int).natAbs = 2 := by decide
    have h3 : (2:Int).sign = 1 := by decide
    rw [h3]
    omega
theorem odd_iff (a : Int) : (a.tmod 2 != 0) = decide (a % 2 = 1) := by
  rw [Int.tmod_eq_emod]
  have : (2:Int).natAbs = 2 := by decide
  rw [Bool.eq_iff_iff]
  split <;> simp <;> omega

/-- The pattern of a number that is told in words of int64. -/
theorem ofInt_wrap (x : Int) : BitVec.ofInt 64 (wrap64 x) = BitVec.ofInt 64 x := by
  apply BitVec.eq_of_toNat_eq
  rw [BitVec.toNat_ofInt, BitVec.toNat_ofInt]
  have h2 : ((2^64 : Nat) : Int) = 18446744073709551616 := by decide
  rw [h2, wrap_mod]
theorem toNat_cast (x : Int) : ((BitVec.ofInt 64 x).toNat : Int) = x % 18446744073709551616 := by
  rw [BitVec.toNat_ofInt]
  have h2 : ((2^64 : Nat) : Int) = 18446744073709551616 := by decide
  rw [h2, Int.toNat_of_nonneg (Int.emod_nonneg _ (by decide))]
theorem wrap_toNat {x : Int} (h : In64 x) : wrap64 ((BitVec.ofInt 64 x).toNat : Int) = x := by
  rw [toNat_cast, wrap_of_mod, wrap_id h]
theorem ofInt_toNat (v : BitVec 64) : BitVec.ofInt 64 (v.toNat : Int) = v := by
  apply BitVec.eq_of_toNat_eq
  simp

theorem bits_and (x y : Int) : Go.bits .and .i64 x y = wrap64 ((BitVec.ofInt 64 x &&& BitVec.ofInt 64 y).toNat : Int) := IntWalk.i64_left _
theorem bits_or (x y : Int) : Go.bits .or .i64 x y = wrap64 ((BitVec.ofInt 64 x ||| BitVec.ofInt 64 y).toNat : Int) := IntWalk.i64_left _
theorem bits_xor (x y : Int) : Go.bits .xor .i64 x y = wrap64 ((BitVec.ofInt 64 x ^^^ BitVec.ofInt 64 y).toNat : Int) := IntWalk.i64_left _

/-- The low six bits of a number are its rest by 64. -/
theorem and63 (b : Int) : Go.bits .and .i64 b 63 = b % 64 := by
  rw [bits_and]
  have h : (BitVec.ofInt 64 b &&& BitVec.ofInt 64 63).toNat = (BitVec.ofInt 64 b).toNat % 64 := by
    rw [BitVec.toNat_and, show (BitVec.ofInt 64 63).toNat = 2^6 - 1 from by decide, Nat.and_two_pow_sub_one_eq_mod]
  rw [h]
  have h2 := toNat_cast b
  push_cast
  rw [h2, wrap_id (by unfold In64; omega)]
  omega
theorem u64_small {x : Int} (h0 : 0 ≤ x) (h1 : x < 18446744073709551616) : IntKind.u64.wrap x = x := by
  simp only [IntKind.wrap, IntKind.bits, IntKind.signed]
  simp
  omega
theorem mod64 (b : Int) : (if b.tmod 64 < 0 then some (wrap64 (b.tmod 64 + 64)) else some (b.tmod 64)) = some (b % 64) := by
  rw [Int.tmod_eq_emod]
  have h3 : (64:Int).natAbs = 64 := by decide
  split
  · rw [if_neg (by omega)]; congr 1; omega
  · rename_i h
    rw [h3, if_pos (by omega)]
    rw [wrap_id (by unfold In64; omega)]
    congr 1; omega

theorem div_in {x : Int} (h : In64 x) : In64 (x / 2) := by unfold In64 at *; omega
theorem div_pow_in {x : Int} (h : In64 x) (i : Nat) : In64 (x / 2 ^ i) := by
  induction i with
  | zero => simpa using h
  | succ i ih =>
    have := div_in ih
    rwa [Int.pow_succ, ← Int.ediv_ediv_of_nonneg (Int.le_of_lt (Int.pow_pos (by omega)))]
theorem div_pow_succ (x : Int) (i : Nat) : x / 2 ^ i / 2 = x / 2 ^ (i + 1) := by
  rw [Int.pow_succ, Int.ediv_ediv_of_nonneg (Int.le_of_lt (Int.pow_pos (by omega)))]

/-- Go's quotient of two int64 numbers is one, but for the least by -1. -/
theorem tdiv_in {a b : Int} (ha : In64 a) (hb : b ≠ -1) : In64 (a.tdiv b) := by
  unfold In64 at *
  by_cases h0 : b = 0
  · subst h0; simp
  · have h1 : (a.tdiv b).natAbs ≤ a.natAbs := by rw [Int.natAbs_tdiv]; exact Nat.div_le_self _ _
    by_cases h2 : a = -9223372036854775808
    · subst h2
      by_cases h3 : b = 1
      · subst h3; decide
      · have h4 : (Int.tdiv (-9223372036854775808) b).natAbs ≤ 4611686018427387904 := by
          rw [Int.natAbs_tdiv]
          show 9223372036854775808 / b.natAbs ≤ _
          have : 2 ≤ b.natAbs := by omega
          calc 9223372036854775808 / b.natAbs ≤ 9223372036854775808 / 2 := Nat.div_le_div_left this (by decide)
            _ = _ := by decide
        omega
    · omega
theorem rem_eq (a b : Int) : a - a.tdiv b * b = a.tmod b := by
  have := Int.tmod_add_mul_tdiv a b
  rw [Int.mul_comm] at this
  omega
theorem tmod_in {a b : Int} (ha : In64 a) : In64 (a.tmod b) := by
  have h1 : (a.tmod b).natAbs ≤ a.natAbs := by
    rw [Int.natAbs_tmod]; exact Nat.mod_le _ _
  have h2 : 0 ≤ a → 0 ≤ a.tmod b := fun h => Int.tmod_nonneg b h
  have h3 : a ≤ 0 → a.tmod b ≤ 0 := fun h => by
    have := Int.tmod_nonneg b (show 0 ≤ -a by omega)
    rw [Int.neg_tmod] at this
    omega
  unfold In64 at *
  omega
end Go.Proofs.YtamfkglnejhjdaaDoor.BitMath
