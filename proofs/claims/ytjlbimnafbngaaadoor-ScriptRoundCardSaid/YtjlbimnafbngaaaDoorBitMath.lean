/- Plain facts on wrapped int64 numbers, their bits and Go's quotient: no program in sight. They hold under the bounds that each states. -/
import Derived.WalkKit
import Derived.RowKit
import Derived.IntWalk
import Derived.Laws.BitsLemmas
namespace Go.Proofs.YtjlbimnafbngaaaDoor.BitMath
open Go.RowKit

/-- An int64. -/
def In64 (a : Int) : Prop := -9223372036854775808 ≤ a ∧ a ≤ 9223372036854775807
theorem in64_of_wf {a : Int} (h : (Lit.int .i64 a).wf = true) : In64 a := by
  simp only [Lit.wf, IntKind.min, IntKind.max, IntKind.signed, IntKind.bits, Bool.and_eq_true, decide_eq_true_eq, if_true] at h
  unfold In64
  omega
theorem wrap_id {a : Int} (h : In64 a) : wrap64 a = a := by unfold In64 at h; unfold wrap64; omega
end Go.Proofs.YtjlbimnafbngaaaDoor.BitMath
