/- Plain facts on wrapped int64 numbers, their bits and Go's quotient: no program in sight. They hold under the bounds that each states. -/
import Derived.WalkKit
import Derived.RowKit
import Derived.IntWalk
import Derived.Laws.BitsLemmas
namespace Go.Proofs.YtamfkglnejhjdaaDoor.BitMath
open Go.RowKit

def In64 (a : Int) : Prop := -9223372036854775808 ≤ a ∧ a ≤ 9223372036854775807
theorem in64_of_wf {a : Int} (h : (Lit.int .i64 a).wf = true) : In64 a := by
 simp only [Lit.wf, IntKind.min, IntKind.max, IntKind.signed, IntKind.bits, Bool.and_eq_true, decide_eq_true_eq, if_true] at h
 unfold In64
 omega
theorem in64_wrap (a : Int) : In64 (wrap64 a) := by unfold In64 wrap64; omega
theorem wrap_id {a : Int} (h : In64 a) : wrap64 a = a := by unfold In64 at h; unfold wrap64; omega
theorem wrap_add (x y : Int) : wrap64 (wrap64 x + wrap64 y) = wrap64 (x + y) := by unfold wrap64; omega
theorem wrap_add_l (x y : Int) : wrap64 (wrap64 x + y) = wrap64 (x + y) := by unfold wrap64; omega
theorem wrap_add_r (x y : Int) : wrap64 (x + wrap64 y) = wrap64 (x + y) := by unfold wrap64; omega
theorem wrap_eq_iff (x y : Int) : wrap64 x = wrap64 y ↔ x % 18446744073709551616 = y % 18446744073709551616 := by unfold wrap64; omega
theorem wrap_mod (x : Int) : wrap64 x % 18446744073709551616 = x % 18446744073709551616 := by unfold wrap64; omega
theorem wrap_of_mod (x : Int) : wrap64 (x % 18446744073709551616) = wrap64 x := by unfold wrap64; omega
theorem wrap_mul_l (x y : Int) : wrap64 (wrap64 x * y) = wrap64 (x * y) := by
 rw [wrap_eq_iff, Int.mul_emod, wrap_mod, ← Int.mul_emod]
theorem wrap_mul_r (x y : Int) : wrap64 (x * wrap64 y) = wrap64 (x * y) := by
 rw [wrap_eq_iff, Int.mul_emod, wrap_mod, ← Int.mul_emod]

theorem ofInt_wrap (x : Int) : BitVec.ofInt 64 (wrap64 x) = BitVec.ofInt 64 x := by
 apply BitVec.eq_of_toNat_eq
 rw [BitVec.toNat_ofInt, BitVec.toNat_ofInt]
 have h2 : ((2^64 : Nat) : Int) = 18446744073709551616 := by decide
 rw [h2, wrap_mod]
theorem toNat_cast (x : Int) : ((BitVec.ofInt 64 x).toNat : Int) = x % 18446744073709551616 := by
 rw [BitVec.toNat_ofInt]
 have h2 : ((2^64 : Nat) : Int) = 18446744073709551616 := by decide
 rw [h2, Int.toNat_of_nonneg (Int.emod_nonneg _ (by decide))]
theorem wrap_toNat {x : Int} (h : In64 x) : wrap64 ((BitVec.ofInt 64 x).toNat : Int) = x := by
 rw [toNat_cast, wrap_of_mod, wrap_id h]
theorem ofInt_toNat (v : BitVec 64) : BitVec.ofInt 64 (v.toNat : Int) = v := by
 apply BitVec.eq_of_toNat_eq
 simp

theorem bits_and (x y : Int) : Go.bits .and .i64 x y = wrap64 ((BitVec.ofInt 64 x &&& BitVec.ofInt 64 y).toNat : Int) := IntWalk.i64_left _
theorem bits_or (x y : Int) : Go.bits .or .i64 x y = wrap64 ((BitVec.ofInt 64 x ||| BitVec.ofInt 64 y).toNat : Int) := IntWalk.i64_left _
theorem bits_xor (x y : Int) : Go.bits .xor .i64 x y = wrap64 ((BitVec.ofInt 64 x ^^^ BitVec.ofInt 64 y).toNat : Int) := IntWalk.i64_left _

end Go.Proofs.YtamfkglnejhjdaaDoor.BitMath
