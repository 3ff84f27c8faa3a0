/- The law HyperReducer is true: whatever is stolen and merged, what comes out is what the serial run puts. -/
import Derived.Test.YtamfkglnejhjdaaHPure
import Derived.Test.YtamfkglnejhjdaaLawReducer
namespace Go.Proofs.Ytamfkglnejhjdaa.HLaw
open Go.RowKit Go.Proofs.YtamfkglnejhjdaaW.PrintWords Go.Proofs.Ytamfkglnejhjdaa.BitMath Go.Proofs.Ytamfkglnejhjdaa.PHyperSerial Go.Proofs.Ytamfkglnejhjdaa.Play Go.Proofs.Ytamfkglnejhjdaa.Base
open Go.Proofs.Ytamfkglnejhjdaa.PlayState (hyper_Play.f playF play_first play_inv) 
open Go.Proofs.Ytamfkglnejhjdaa.Refuse (refF refF_cases)
set_option linter.unusedVariables false
theorem playF_ok {l : List S46} {b : List Bool} {c : List Int} (h : okG l b c = true) : playF l b c = (puts (l.map dd), ((play red b c (l.map dd)).views.length : Int), (play red b c (l.map dd)).merges.map PlayState.mS, (play red b c (l.map dd)).looks, 0) := by
  obtain ⟨h1, h2, h3, h4⟩ := okG_iff.1 h
  unfold playF
  rw [if_pos ((refF_cases l b c).2 ⟨h1, h2, h3, h4⟩), (play_first h4).1]
theorem playF_no {l : List S46} {b : List Bool} {c : List Int} (h : okG l b c = false) : playF l b c = ([], 0, [], [], refF l b c) ∧ refF l b c ≠ 0 := by
  have hn : ¬ refF l b c = 0 := fun e => by
    have := okG_iff.2 ((refF_cases l b c).1 e)
    rw [h] at this
    cases this
  refine ⟨?_, hn⟩
  unfold playF
  rw [if_neg hn]
theorem reducer_law (a : List S46) (b : List Bool) (c : List Int) : ∃ k, plunderlaw23_HyperReducer.f k a b c = some true := by
  refine ⟨10000, ?_⟩
  unfold plunderlaw23_HyperReducer.f hyper_Play.f
  rw [Option.bind_some, right_f a b c 10000 (by omega), Option.bind_some]
  cases hok : okG a b c with
  | false =>
    obtain ⟨e, hn⟩ := playF_no hok
    rw [if_neg (by decide), e, if_neg hn]
    simp
  | true =>
    obtain ⟨h1, h2, h3, h4⟩ := okG_iff.1 hok
    have hs : serF a = (puts (a.map dd), 0) := by
      unfold serF chkF
      rw [if_pos h1, if_pos ((chk_right a 0 0).2 h4)]
    have hp := puts_f a h1 a.length (Nat.le_refl _) 10000 (by omega)
    rw [List.take_length] at hp
    have hl := puts_le' (a.map dd)
    rw [List.length_map] at hl
    rw [if_pos rfl, serial_f a 10000 (by omega), Option.bind_some, hp, Option.bind_some, playF_ok hok, if_pos rfl, hs, if_pos rfl]
    dsimp only
    rw [sameInts_f _ _ rfl (by omega) 10000 (by omega), Option.bind_some, if_pos rfl, Option.bind_some]
end Go.Proofs.Ytamfkglnejhjdaa.HLaw
