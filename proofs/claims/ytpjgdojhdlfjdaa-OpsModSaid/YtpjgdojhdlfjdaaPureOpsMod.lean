/- Every remainder that the program's ops.Mod tells is the document's own answer, for all ints. It holds under no condition. -/
import Derived.Test.YtpjgdojhdlfjdaaPOpsModx1
namespace Go.Proofs.Ytpjgdojhdlfjdaa.Pure
open Go.RowKit Go.Proofs.Ytpjgdojhdlfjdaa.POpsMod Go.Proofs.YtpjgdojhdlfjdaaW.PrintWords Go.Proofs.YtpjgdojhdlfjdaaW.PrintLast

/-- YOURS: ∀ (a0 : Int) (a1 : Int), (Lit.int .i64 a0).wf = true → (Lit.int .i64 a1).wf = true → plunderlaw1_OpsMod.f a0 a1 = some true
What it reaches (each with k first where it has rounds; `.mono`: more rounds tell the same; `.l0`, ..: its loops, with `.mono_l`): ops_Mod.f, plunderref1_Mod.f, plunderlaw1_OpsMod.f -/
theorem OpsMod : plunderlaw1_OpsMod.Pure := by
  intro a b _ _
  unfold plunderlaw1_OpsMod.f ops_Mod.f plunderref1_Mod.f
  by_cases h1 : b < 1
  · simp [h1]
  · have h0 : ¬ b = 0 := by omega
    simp only [if_neg h1, if_neg h0]
    by_cases h2 : Int.tmod a b < 0
    · simp [h2]
    · simp [h2]

end Go.Proofs.Ytpjgdojhdlfjdaa.Pure
