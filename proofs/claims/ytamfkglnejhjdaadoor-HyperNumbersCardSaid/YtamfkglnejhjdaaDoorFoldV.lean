/- What Fold answers: plain. -/
import Derived.Test.YtamfkglnejhjdaaDoorPHyperFoldx0
import Derived.Test.YtamfkglnejhjdaaDoorWMore
import Derived.Test.YtamfkglnejhjdaaDoorOpsLaw
import Derived.Test.YtamfkglnejhjdaaDoorMonFold
import Derived.Test.YtamfkglnejhjdaaDoorRefuse
namespace Go.Proofs.YtamfkglnejhjdaaDoor.Ref
open Go.RowKit Go.Proofs.YtamfkglnejhjdaaDoorW.PrintWords Go.Proofs.YtamfkglnejhjdaaDoorW.PrintLast Go.Proofs.YtamfkglnejhjdaaDoorW.PrintMore Go.Proofs.YtamfkglnejhjdaaDoor.PHyperFold
open Go.Proofs.YtamfkglnejhjdaaDoor.Play Go.Proofs.YtamfkglnejhjdaaDoor.Base Go.Proofs.YtamfkglnejhjdaaDoor.Refuse Go.Proofs.YtamfkglnejhjdaaDoor.Mon Go.Proofs.YtamfkglnejhjdaaDoor.FoldLaw Go.Proofs.YtamfkglnejhjdaaDoor.Tab Go.Proofs.YtamfkglnejhjdaaDoor.BitMath
set_option linter.unusedVariables false
set_option linter.unusedSimpArgs false
/-- What Fold answers. -/
def foldV (op : Int) (l0 : List S46) (l1 : List Bool) (l2 : List Int) : Int × Int :=
  if (readyP op 0).2 = 0 then (if refF l0 l1 l2 = 0 then (HalvesLaw.F op ((play red l1 l2 (l0.map dd)).views.getD 0 []), 0) else (0, refF l0 l1 l2)) else (0, (readyP op 0).2)
theorem ready_unit0 {op : Int} (h : (readyP op 0).2 = 0) : HasUnit op ∧ unitOf op = (un op, true) := by
  have hu : HasUnit op := by
    unfold readyP at h
    split at h
    · split at h
      · rename_i h2; exact hasUnit_of h2
      · exact absurd h (by decide)
    · exact absurd h (by decide)
  exact ⟨hu, unitOf_un hu⟩
end Go.Proofs.YtamfkglnejhjdaaDoor.Ref
