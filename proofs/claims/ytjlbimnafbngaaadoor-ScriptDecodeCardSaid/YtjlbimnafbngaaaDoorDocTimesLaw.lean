/- The document's times is a list so many times over: plain facts. -/
import Derived.Test.YtjlbimnafbngaaaDoorDecExp
import Derived.Test.YtjlbimnafbngaaaDoorDocTimes
namespace Go.Proofs.YtjlbimnafbngaaaDoor.Dec
open Go.RowKit Go.Proofs.YtjlbimnafbngaaaDoorW.PrintWords Go.Proofs.YtjlbimnafbngaaaDoor.BitMath Go.Proofs.YtjlbimnafbngaaaDoor.PScriptDecode
set_option linter.unusedVariables false
/-- So many numbers, more than there may be told as one more. -/
def szN (m : Nat) : Int := if m ≤ 1048576 then (m : Int) else 1048577
theorem rep_nil (n : Nat) : rep n [] = [] := by
  have := rep_len n []
  exact List.length_eq_zero_iff.1 (by simpa using this)
theorem doc_rep_one (l : List Int) : rep 1 l = l := by rw [rep_succ, rep_zero, List.nil_append]
theorem times_l0 (c : Nat) (hc : c ≤ 1048576) (N0 N : Int) (L0 : List Int) : ∀ (d j k : Nat) (acc : List Int), j + d = c → d < k → acc.length + d * L0.length ≤ 1048576 →
    plunderref10_times.l0 k (c : Int) (j : Int) N0 L0 N acc = some (N, acc ++ rep d L0) := by
  intro d
  induction d with
  | zero =>
    intro j k acc hj hk hl
    obtain ⟨k, rfl⟩ : ∃ k', k = k' + 1 := ⟨k - 1, by omega⟩
    rw [plunderref10_times.l0, if_neg (by omega), rep_zero, List.append_nil]
  | succ d ih =>
    intro j k acc hj hk hl
    obtain ⟨k, rfl⟩ : ∃ k', k = k' + 1 := ⟨k - 1, by omega⟩
    rw [Nat.succ_mul] at hl
    have hd : acc.length + L0.length ≤ 1048576 := by omega
    have w1 : wrap64 ((j : Int) + 1) = ((j + 1 : Nat) : Int) := by unfold wrap64; omega
    rw [plunderref10_times.l0, if_pos (by omega), if_pos (by omega), w1, ih (j + 1) k _ (by omega) (by omega) (by rw [List.length_append]; omega), rep_succ', List.append_assoc]
theorem times_f (m : Nat) (L0 : List Int) (c : Nat) (h1 : 1 ≤ c) (h2 : c ≤ 1048576) (hL : c * L0.length ≤ 1048576) :
    plunderref10_times.f (c + 2) (szN m) L0 (c : Int) = some (szN (m * c), rep c L0) := by
  have hj : ∀ N : Int, plunderref10_times.j0 (c + 2) (c : Int) (szN m) L0 N = some (N, rep c L0) := by
    intro N
    rw [plunderref10_times.j0]
    by_cases h0 : (L0.length : Int) = 0
    · have : L0 = [] := List.length_eq_zero_iff.1 (by omega)
      subst this
      rw [if_pos h0, rep_nil]
    · rw [if_neg h0]
      have := times_l0 c h2 (szN m) N L0 c 0 (c + 1) [] (by omega) (by omega) (by simpa using hL)
      simpa using this
  have hq : wrap64 (Int.tdiv (1048576 : Int) (c : Int)) = ((1048576 / c : Nat) : Int) := by
    have e : Int.tdiv (1048576 : Int) (c : Int) = ((1048576 / c : Nat) : Int) := by
      rw [Int.tdiv_eq_ediv_of_nonneg (by omega)]
      rfl
    have := Nat.div_le_self 1048576 c
    rw [e]
    generalize 1048576 / c = q at this
    unfold wrap64
    omega
  have hdiv : ∀ x : Nat, x ≤ 1048576 / c ↔ x * c ≤ 1048576 := fun x => Nat.le_div_iff_mul_le (by omega)
  unfold plunderref10_times.f
  rw [if_neg (by omega), hq]
  unfold szN
  by_cases hm : m ≤ 1048576
  · rw [if_pos hm]
    by_cases hc : m * c ≤ 1048576
    · have w1 : wrap64 ((m : Int) * (c : Int)) = ((m * c : Nat) : Int) := by
        rw [← Int.natCast_mul]
        unfold wrap64
        omega
      have := (hdiv m).2 hc
      rw [if_pos (by generalize 1048576 / c = q at this; omega), if_pos hc, w1]
      have := hj ((m * c : Nat) : Int)
      unfold szN at this
      rw [if_pos hm] at this
      exact this
    · have : ¬ m ≤ 1048576 / c := fun h => hc ((hdiv m).1 h)
      rw [if_neg (by generalize 1048576 / c = q at this; omega), if_neg hc]
      have := hj 1048577
      unfold szN at this
      rw [if_pos hm] at this
      exact this
  · rw [if_neg hm]
    have h3 : ¬ m * c ≤ 1048576 := by
      have := Nat.le_mul_of_pos_right m (show 0 < c by omega)
      omega
    have := Nat.div_le_self 1048576 c
    rw [if_neg (by generalize 1048576 / c = q at this; omega), if_neg h3]
    have := hj 1048577
    unfold szN at this
    rw [if_neg hm] at this
    exact this
end Go.Proofs.YtjlbimnafbngaaaDoor.Dec
