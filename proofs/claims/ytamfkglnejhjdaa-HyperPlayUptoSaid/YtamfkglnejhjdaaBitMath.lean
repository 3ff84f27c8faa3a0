/- Plain facts on wrapped int64 numbers, their bits and Go's quotient: no program in sight. They hold under the bounds that each states. -/
import Derived.WalkKit
import Derived.RowKit
import Derived.IntWalk
import Derived.Laws.BitsLemmas
namespace Go.Proofs.Ytamfkglnejhjdaa.BitMath
open Go.RowKit

/-- An int64. -/
def In64 (a : Int) : Prop := -9223372036854775808 ≤ a ∧ a ≤ 9223372036854775807
theorem wrap_id {a : Int} (h : In64 a) : wrap64 a = a := by unfold In64 at h; unfold wrap64; omega
theorem wrap_add (x y : Int) : wrap64 (wrap64 x + wrap64 y) = wrap64 (x + y) := by unfold wrap64; omega
end Go.Proofs.Ytamfkglnejhjdaa.BitMath
