/- Every error of package api has its number; the statement is closed. It holds under no condition. -/
import Derived.Test.YteghdncnpmlhaaaPApiErrorsx1
namespace Go.Proofs.Yteghdncnpmlhaaa.Pure
open Go.RowKit Go.Proofs.Yteghdncnpmlhaaa.PApiErrors Go.Proofs.YteghdncnpmlhaaaW.PrintWords Go.Proofs.YteghdncnpmlhaaaW.PrintLast

/-- YOURS: plundernames_ApiErrors.f  = some true
What it reaches (each with k first where it has rounds; `.mono`: more rounds tell the same; `.l0`, ..: its loops, with `.mono_l`): plundernames_num.f, plundernames_ApiErrors.f -/
theorem ApiErrors : plundernames_ApiErrors.Pure := by
  unfold plundernames_ApiErrors.Pure
  first | decide +kernel | rfl

end Go.Proofs.Yteghdncnpmlhaaa.Pure
