/- Operations, codes and kinds of package api are numbered from 0 on in api's order; the statement is closed. It holds under no condition. -/
import Derived.Test.YteghdncnpmlhaaaPApiKindsx1
namespace Go.Proofs.Yteghdncnpmlhaaa.Pure
open Go.RowKit Go.Proofs.Yteghdncnpmlhaaa.PApiKinds Go.Proofs.YteghdncnpmlhaaaW.PrintWords Go.Proofs.YteghdncnpmlhaaaW.PrintLast

/-- YOURS: ∃ k, plundernames_ApiKinds.f k  = some true
What it reaches (each with k first where it has rounds; `.mono`: more rounds tell the same; `.l0`, ..: its loops, with `.mono_l`): plundernames_rising.f, plundernames_ApiKinds.f -/
theorem ApiKinds : plundernames_ApiKinds.Pure := by
  unfold plundernames_ApiKinds.Pure
  exact ⟨100, by decide +kernel⟩

end Go.Proofs.Yteghdncnpmlhaaa.Pure
