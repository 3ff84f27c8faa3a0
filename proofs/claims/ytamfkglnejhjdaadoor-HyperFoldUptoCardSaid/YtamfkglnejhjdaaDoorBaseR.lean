/- What the document's check of deeds answers: plain facts. -/
import Derived.Test.YtamfkglnejhjdaaDoorBaseA
import Derived.Test.YtamfkglnejhjdaaDoorRefOpsB
namespace Go.Proofs.YtamfkglnejhjdaaDoor.Base
open Go.RowKit Go.Proofs.YtamfkglnejhjdaaDoorW.PrintWords Go.Proofs.YtamfkglnejhjdaaDoor.BitMath Go.Proofs.YtamfkglnejhjdaaDoor.PHyperFold Go.Proofs.YtamfkglnejhjdaaDoor.Play
theorem refcheck_loop (l : List S46) (hm : l.length ≤ 4096) (ds : List S46) : ∀ (n i k : Nat), l.drop i = ds → n ≤ i → i ≤ l.length → 2 * ds.length + 1 < k → plunderref19_Check.l0 k l (n : Int) (i : Int) = some (chk n i ds) := by
  induction ds with
  | nil =>
    intro n i k hd hn hi hk
    obtain ⟨k, rfl⟩ : ∃ m, k = m + 1 := ⟨k - 1, by omega⟩
    have := nil_drop hd
    simp only [plunderref19_Check.l0]
    rw [if_neg (by omega)]; rfl
  | cons d ds ih =>
    intro n i k hd hn hi hk
    obtain ⟨hr, hl, hd2⟩ := rd_drop hd
    simp only [List.length_cons] at hk
    obtain ⟨k, rfl⟩ : ∃ m, k = m + 2 := ⟨k - 2, by omega⟩
    simp only [plunderref19_Check.l0, plunderref19_Check.j1, chk]
    rw [if_pos (by omega), if_pos (by omega), hr, wrap_id (a := (n : Int) + 1) (by unfold In64; omega), wrap_id (a := (n : Int) - 1) (by unfold In64; omega), wrap_id (a := (i : Int) + 1) (by unfold In64; omega)]
    by_cases h0 : d.f0 = 0
    · rw [if_neg (by omega), if_neg (by omega), if_neg (by omega), if_neg (by decide), if_pos h0, if_neg (by omega), if_pos h0]
      exact ih (n + 1) (i + 1) k hd2 (by omega) (by omega) (by omega)
    · by_cases h1 : d.f0 = 1
      · rw [if_neg (by omega), if_neg (by omega), if_pos h1, if_neg h0, if_pos h1]
        cases n with
        | zero => rw [if_pos (by simp), if_neg h0, if_pos h1]
        | succ m =>
          rw [if_neg (by simp; omega), if_neg h0, if_pos h1, show ((m + 1 : Nat) : Int) - 1 = (m : Int) by omega]
          exact ih m (i + 1) k hd2 (by omega) (by omega) (by omega)
      · by_cases h2 : d.f0 = 2 ∨ d.f0 = 3 ∨ d.f0 = 4
        · rw [if_neg (by omega), if_neg (by omega), if_neg h1, if_neg (by decide), if_neg h0, if_neg h1, if_neg h0, if_neg h1, if_pos h2]
          exact ih n (i + 1) k hd2 (by omega) (by omega) (by omega)
        · by_cases h5 : d.f0 < 0
          · rw [if_pos h5, if_pos trivial, if_neg h0, if_neg h1, if_neg h2]
          · rw [if_neg h5, if_pos (show d.f0 > 4 by omega), if_pos trivial, if_neg h0, if_neg h1, if_neg h2]
theorem refcheck_f (l : List S46) (k : Nat) (hk : 8200 ≤ k) : plunderref19_Check.f k l = some (chkF l) := by
  unfold plunderref19_Check.f chkF
  by_cases h : l.length ≤ 4096
  · rw [if_neg (by omega), if_pos h]
    exact refcheck_loop l h l 0 0 k (by simp) (by omega) (by omega) (by omega)
  · rw [if_pos (by omega), if_neg h]
end Go.Proofs.YtamfkglnejhjdaaDoor.Base
