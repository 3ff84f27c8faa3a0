/- The seven operations with a unit are commutative monoids on int64: plain facts, under the bounds that each states. -/
import Derived.Test.YtamfkglnejhjdaaDoorBitMath
import Derived.Test.YtamfkglnejhjdaaDoorWMore
namespace Go.Proofs.YtamfkglnejhjdaaDoor.Mon
open Go.RowKit Go.Proofs.YtamfkglnejhjdaaDoor.BitMath Go.Proofs.YtamfkglnejhjdaaDoorW.PrintWords Go.Proofs.YtamfkglnejhjdaaDoorW.PrintMore

theorem pat_and (a b : Int) : BitVec.ofInt 64 (Go.bits .and .i64 a b) = BitVec.ofInt 64 a &&& BitVec.ofInt 64 b := by rw [bits_and, ofInt_wrap, ofInt_toNat]
theorem pat_or (a b : Int) : BitVec.ofInt 64 (Go.bits .or .i64 a b) = BitVec.ofInt 64 a ||| BitVec.ofInt 64 b := by rw [bits_or, ofInt_wrap, ofInt_toNat]
theorem pat_xor (a b : Int) : BitVec.ofInt 64 (Go.bits .xor .i64 a b) = BitVec.ofInt 64 a ^^^ BitVec.ofInt 64 b := by rw [bits_xor, ofInt_wrap, ofInt_toNat]

def wk (op a b : Int) : Int := if op = 0 then wrap64 (a + b) else if op = 2 then wrap64 (a * b) else if op = 5 then Go.bits .and .i64 a b else if op = 6 then Go.bits .or .i64 a b else if op = 7 then Go.bits .xor .i64 a b else if op = 10 then mn a b else mx a b
def HasUnit (op : Int) : Prop := op = 0 ∨ op = 2 ∨ op = 5 ∨ op = 6 ∨ op = 7 ∨ op = 10 ∨ op = 11
def un (op : Int) : Int := if op = 2 then 1 else if op = 5 then -1 else if op = 10 then 9223372036854775807 else if op = 11 then -9223372036854775808 else 0

theorem wk_in (op : Int) {a b : Int} (ha : In64 a) (hb : In64 b) : In64 (wk op a b) := by
 unfold wk
 split
 ·exact in64_wrap _
 split
 ·exact in64_wrap _
 split
 ·rw [bits_and]; exact in64_wrap _
 split
 ·rw [bits_or]; exact in64_wrap _
 split
 ·rw [bits_xor]; exact in64_wrap _
 split
 ·unfold mn; split <;> assumption
 ·unfold mx; split <;> assumption
theorem wk_comm (op a b : Int) : wk op a b = wk op b a := by
 unfold wk
 split
 ·rw [Int.add_comm]
 split
 ·rw [Int.mul_comm]
 split
 ·rw [bits_and, bits_and, BitVec.and_comm]
 split
 ·rw [bits_or, bits_or, BitVec.or_comm]
 split
 ·rw [bits_xor, bits_xor, BitVec.xor_comm]
 split
 ·unfold mn; split <;> split <;> omega
 ·unfold mx; split <;> split <;> omega
theorem wk_assoc (op a b c : Int) : wk op (wk op a b) c = wk op a (wk op b c) := by
 unfold wk
 by_cases h0 : op = 0
 ·simp only [if_pos h0]; rw [wrap_add_l, wrap_add_r, Int.add_assoc]
 simp only [if_neg h0]
 by_cases h1 : op = 2
 ·simp only [if_pos h1]; rw [wrap_mul_l, wrap_mul_r, Int.mul_assoc]
 simp only [if_neg h1]
 by_cases h2 : op = 5
 ·simp only [if_pos h2]; rw [bits_and (Go.bits .and .i64 a b), bits_and a (Go.bits .and .i64 b c), pat_and, pat_and, BitVec.and_assoc]
 simp only [if_neg h2]
 by_cases h3 : op = 6
 ·simp only [if_pos h3]; rw [bits_or (Go.bits .or .i64 a b), bits_or a (Go.bits .or .i64 b c), pat_or, pat_or, BitVec.or_assoc]
 simp only [if_neg h3]
 by_cases h4 : op = 7
 ·simp only [if_pos h4]; rw [bits_xor (Go.bits .xor .i64 a b), bits_xor a (Go.bits .xor .i64 b c), pat_xor, pat_xor, BitVec.xor_assoc]
 simp only [if_neg h4]
 by_cases h5 : op = 10
 ·simp only [if_pos h5]; unfold mn; (repeat' split) <;> omega
 simp only [if_neg h5]
 unfold mx
 (repeat' split) <;> omega
theorem wk_unit (op : Int) (h : HasUnit op) {a : Int} (ha : In64 a) : wk op (un op) a = a := by
 unfold HasUnit at h
 unfold wk un
 rcases h with rfl | rfl | rfl | rfl | rfl | rfl | rfl
 ·simp [wrap_id ha]
 ·simp [wrap_id ha]
 ·simp only [show ¬ ((5 : Int) = 0) from by decide, show ¬ ((5 : Int) = 2) from by decide, if_false, if_true]
  rw [bits_and, show BitVec.ofInt 64 (-1) = BitVec.allOnes 64 from by decide, BitVec.allOnes_and, wrap_toNat ha]
 ·simp only [show ¬ ((6 : Int) = 0) from by decide, show ¬ ((6 : Int) = 2) from by decide, show ¬ ((6 : Int) = 5) from by decide, show ¬ ((6 : Int) = 10) from by decide, show ¬ ((6 : Int) = 11) from by decide, if_false, if_true]
  rw [bits_or, show BitVec.ofInt 64 0 = 0#64 from by decide, BitVec.zero_or, wrap_toNat ha]
 ·simp only [show ¬ ((7 : Int) = 0) from by decide, show ¬ ((7 : Int) = 2) from by decide, show ¬ ((7 : Int) = 5) from by decide, show ¬ ((7 : Int) = 6) from by decide, show ¬ ((7 : Int) = 10) from by decide, show ¬ ((7 : Int) = 11) from by decide, if_false, if_true]
  rw [bits_xor, show BitVec.ofInt 64 0 = 0#64 from by decide, BitVec.zero_xor, wrap_toNat ha]
 ·unfold In64 at ha; simp [mn]; omega
 ·unfold In64 at ha; simp [mx]; omega
theorem wk_unit' (op : Int) (h : HasUnit op) {a : Int} (ha : In64 a) : wk op a (un op) = a := by rw [wk_comm, wk_unit op h ha]
theorem un_in (op : Int) : In64 (un op) := by
 unfold un
 split
 ·unfold In64; omega
 split
 ·unfold In64; omega
 split
 ·unfold In64; omega
 split
 ·unfold In64; omega
 ·unfold In64; omega
end Go.Proofs.YtamfkglnejhjdaaDoor.Mon
