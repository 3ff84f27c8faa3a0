/- What right and puts answer, as plain lists tell it. -/
import Derived.Test.YtamfkglnejhjdaaBaseA
import Derived.Test.YtamfkglnejhjdaaHLawA
namespace Go.Proofs.Ytamfkglnejhjdaa.HLaw
open Go.RowKit Go.Proofs.YtamfkglnejhjdaaW.PrintWords Go.Proofs.Ytamfkglnejhjdaa.BitMath Go.Proofs.Ytamfkglnejhjdaa.PHyperSerial Go.Proofs.Ytamfkglnejhjdaa.Play Go.Proofs.Ytamfkglnejhjdaa.Base
set_option linter.unusedVariables false

/-- May this be played? -/
def okG (l : List S46) (b : List Bool) (c : List Int) : Bool := decide (l.length ≤ 4096 ∧ b.length ≤ 4096 ∧ c.length ≤ 1048576) && right 0 (l.map dd)
theorem okG_iff {l : List S46} {b : List Bool} {c : List Int} : okG l b c = true ↔ (l.length ≤ 4096 ∧ b.length ≤ 4096 ∧ c.length ≤ 1048576 ∧ right 0 (l.map dd) = true) := by
  unfold okG
  rw [Bool.and_eq_true, decide_eq_true_eq]
  constructor
  · rintro ⟨⟨h1, h2, h3⟩, h4⟩; exact ⟨h1, h2, h3, h4⟩
  · rintro ⟨h1, h2, h3, h4⟩; exact ⟨⟨h1, h2, h3⟩, h4⟩
theorem puts_le' (ds : List (Int × Int)) : (puts ds).length ≤ ds.length := by unfold puts; rw [List.length_map]; exact List.length_filter_le _ _
end Go.Proofs.Ytamfkglnejhjdaa.HLaw
