/- Plain facts on wrapped int64 numbers, their bits and Go's quotient: no program in sight. They hold under the bounds that each states. -/
import Derived.WalkKit
import Derived.RowKit
import Derived.IntWalk
import Derived.Laws.BitsLemmas
namespace Go.Proofs.YtjlbimnafbngaaaDoor.BitMath
open Go.RowKit

/-- An int64. -/
def In64 (a : Int) : Prop := -9223372036854775808 ≤ a ∧ a ≤ 9223372036854775807
theorem in64_wrap (a : Int) : In64 (wrap64 a) := by unfold In64 wrap64; omega
theorem wrap_id {a : Int} (h : In64 a) : wrap64 a = a := by unfold In64 at h; unfold wrap64; omega
/-- Go's quotient of two int64 numbers is one, but for the least by -1. -/
theorem tdiv_in {a b : Int} (ha : In64 a) (hb : b ≠ -1) : In64 (a.tdiv b) := by
  unfold In64 at *
  by_cases h0 : b = 0
  · subst h0; simp
  · have h1 : (a.tdiv b).natAbs ≤ a.natAbs := by rw [Int.natAbs_tdiv]; exact Nat.div_le_self _ _
    by_cases h2 : a = -9223372036854775808
    · subst h2
      by_cases h3 : b = 1
      · subst h3; decide
      · have h4 : (Int.tdiv (-9223372036854775808) b).natAbs ≤ 4611686018427387904 := by
          rw [Int.natAbs_tdiv]
          show 9223372036854775808 / b.natAbs ≤ _
          have : 2 ≤ b.natAbs := by omega
          calc 9223372036854775808 / b.natAbs ≤ 9223372036854775808 / 2 := Nat.div_le_div_left this (by decide)
            _ = _ := by decide
        omega
    · omega
end Go.Proofs.YtjlbimnafbngaaaDoor.BitMath
