/- Every bound of package api has its number; the statement is closed. It holds under no condition. -/
import Derived.Test.YteghdncnpmlhaaaPApiBoundsx1
namespace Go.Proofs.Yteghdncnpmlhaaa.Pure
open Go.RowKit Go.Proofs.Yteghdncnpmlhaaa.PApiBounds Go.Proofs.YteghdncnpmlhaaaW.PrintWords Go.Proofs.YteghdncnpmlhaaaW.PrintLast

/-- YOURS: plundernames_ApiBounds.f  = some true
What it reaches (each with k first where it has rounds; `.mono`: more rounds tell the same; `.l0`, ..: its loops, with `.mono_l`): plundernames_ApiBounds.f -/
theorem ApiBounds : plundernames_ApiBounds.Pure := by
  unfold plundernames_ApiBounds.Pure
  first | decide +kernel | rfl

end Go.Proofs.Yteghdncnpmlhaaa.Pure
