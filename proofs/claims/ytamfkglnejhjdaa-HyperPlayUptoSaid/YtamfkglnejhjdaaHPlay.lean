/- What Play answers, where it may be played and where not. -/
import Derived.Test.YtamfkglnejhjdaaHPure
import Derived.Test.YtamfkglnejhjdaaPlayD
namespace Go.Proofs.Ytamfkglnejhjdaa.HLaw
open Go.RowKit Go.Proofs.YtamfkglnejhjdaaW.PrintWords Go.Proofs.Ytamfkglnejhjdaa.BitMath Go.Proofs.Ytamfkglnejhjdaa.PHyperSerial Go.Proofs.Ytamfkglnejhjdaa.Play Go.Proofs.Ytamfkglnejhjdaa.Base
open Go.Proofs.Ytamfkglnejhjdaa.PlayState (hyper_Play.f playF play_first play_inv) 
open Go.Proofs.Ytamfkglnejhjdaa.Refuse (refF refF_cases)
set_option linter.unusedVariables false
theorem playF_ok {l : List S46} {b : List Bool} {c : List Int} (h : okG l b c = true) : playF l b c = (puts (l.map dd), ((play red b c (l.map dd)).views.length : Int), (play red b c (l.map dd)).merges.map PlayState.mS, (play red b c (l.map dd)).looks, 0) := by
  obtain ⟨h1, h2, h3, h4⟩ := okG_iff.1 h
  unfold playF
  rw [if_pos ((refF_cases l b c).2 ⟨h1, h2, h3, h4⟩), (play_first h4).1]
theorem playF_no {l : List S46} {b : List Bool} {c : List Int} (h : okG l b c = false) : playF l b c = ([], 0, [], [], refF l b c) ∧ refF l b c ≠ 0 := by
  have hn : ¬ refF l b c = 0 := fun e => by
    have := okG_iff.2 ((refF_cases l b c).1 e)
    rw [h] at this
    cases this
  refine ⟨?_, hn⟩
  unfold playF
  rw [if_neg hn]
end Go.Proofs.Ytamfkglnejhjdaa.HLaw
