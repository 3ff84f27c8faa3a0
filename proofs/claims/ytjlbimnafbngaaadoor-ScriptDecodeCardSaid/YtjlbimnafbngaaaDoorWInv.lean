/- Contracts' words (began as a printed text). -/
import Derived.Test.YtjlbimnafbngaaaDoorWTab
namespace Go.Proofs.YtjlbimnafbngaaaDoorW.PrintLast
/-- Number i is listed too. -/
def up (b : Nat → Bool) (i : Nat) : Nat → Bool := fun j => if j = i then true else b j
end Go.Proofs.YtjlbimnafbngaaaDoorW.PrintLast
