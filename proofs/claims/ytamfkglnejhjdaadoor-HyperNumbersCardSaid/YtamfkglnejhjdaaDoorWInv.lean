/- Contracts' words (began as a printed text). -/
import Derived.Test.YtamfkglnejhjdaaDoorWTab
namespace Go.Proofs.YtamfkglnejhjdaaDoorW.PrintLast
/-- Number i is listed too. -/
def up (b : Nat → Bool) (i : Nat) : Nat → Bool := fun j => if j = i then true else b j
end Go.Proofs.YtamfkglnejhjdaaDoorW.PrintLast
