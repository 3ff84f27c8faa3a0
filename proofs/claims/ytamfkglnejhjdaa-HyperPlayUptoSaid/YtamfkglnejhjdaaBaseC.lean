/- What the functions of the reducer's laws answer on lists: the check of deeds, the serial puts, the comparisons: plain facts. -/
import Derived.Test.YtamfkglnejhjdaaBaseA
import Derived.Test.YtamfkglnejhjdaaBitMath
import Derived.Test.YtamfkglnejhjdaaSerC
namespace Go.Proofs.Ytamfkglnejhjdaa.Base
open Go.RowKit Go.Proofs.YtamfkglnejhjdaaW.PrintWords Go.Proofs.Ytamfkglnejhjdaa.BitMath Go.Proofs.Ytamfkglnejhjdaa.PHyperSerial Go.Proofs.Ytamfkglnejhjdaa.Play

theorem same2_loop (a : List S46) (b : List Bool) (c : List Int) (hm : c.length ≤ 9223372036854775806) (d : Nat) : ∀ (i k : Nat), i + d = c.length → d < k → plunderlaw23_same.l2 k (i : Int) a b c a b c = some true := by
  induction d with
  | zero =>
    intro i k hi hk
    obtain ⟨k, rfl⟩ : ∃ m, k = m + 1 := ⟨k - 1, by omega⟩
    simp only [plunderlaw23_same.l2]
    rw [if_neg (by omega)]
  | succ d ih =>
    intro i k hi hk
    obtain ⟨k, rfl⟩ : ∃ m, k = m + 1 := ⟨k - 1, by omega⟩
    simp only [plunderlaw23_same.l2]
    rw [if_pos (by omega), if_pos (by omega), if_pos (by omega), if_pos trivial, wrap_id (a := (i : Int) + 1) (by unfold In64; omega)]
    exact ih (i + 1) k (by omega) (by omega)
theorem same1_loop (a : List S46) (b : List Bool) (c : List Int) (hb : b.length ≤ 9223372036854775806) (hm : c.length ≤ 9223372036854775806) (d : Nat) : ∀ (i k : Nat), i + d = b.length → d + c.length + 1 < k → plunderlaw23_same.l1 k (i : Int) a b c a b c = some true := by
  induction d with
  | zero =>
    intro i k hi hk
    obtain ⟨k, rfl⟩ : ∃ m, k = m + 1 := ⟨k - 1, by omega⟩
    simp only [plunderlaw23_same.l1]
    rw [if_neg (by omega)]
    exact same2_loop a b c hm c.length 0 k (by omega) (by omega)
  | succ d ih =>
    intro i k hi hk
    obtain ⟨k, rfl⟩ : ∃ m, k = m + 1 := ⟨k - 1, by omega⟩
    simp only [plunderlaw23_same.l1]
    rw [if_pos (by omega), if_pos (by omega), if_pos (by omega), if_neg (by simp), wrap_id (a := (i : Int) + 1) (by unfold In64; omega)]
    exact ih (i + 1) k (by omega) (by omega)
theorem same0_loop (a : List S46) (b : List Bool) (c : List Int) (ha : a.length ≤ 9223372036854775806) (hb : b.length ≤ 9223372036854775806) (hm : c.length ≤ 9223372036854775806) (d : Nat) : ∀ (i k : Nat), i + d = a.length → d + b.length + c.length + 2 < k → plunderlaw23_same.l0 k (i : Int) a b c a b c = some true := by
  induction d with
  | zero =>
    intro i k hi hk
    obtain ⟨k, rfl⟩ : ∃ m, k = m + 1 := ⟨k - 1, by omega⟩
    simp only [plunderlaw23_same.l0]
    rw [if_neg (by omega)]
    exact same1_loop a b c hb hm b.length 0 k (by omega) (by omega)
  | succ d ih =>
    intro i k hi hk
    obtain ⟨k, rfl⟩ : ∃ m, k = m + 1 := ⟨k - 1, by omega⟩
    simp only [plunderlaw23_same.l0]
    rw [if_pos (by omega), if_pos (by omega), if_pos (by omega), if_neg (by simp), wrap_id (a := (i : Int) + 1) (by unfold In64; omega)]
    exact ih (i + 1) k (by omega) (by omega)
theorem same_f (a : List S46) (b : List Bool) (c : List Int) (ha : a.length ≤ 9223372036854775806) (hb : b.length ≤ 9223372036854775806) (hm : c.length ≤ 9223372036854775806) (k : Nat) (hk : a.length + b.length + c.length + 3 < k) : plunderlaw23_same.f k a b c a b c = some true := by
  unfold plunderlaw23_same.f
  obtain ⟨k, rfl⟩ : ∃ m, k = m + 1 := ⟨k - 1, by omega⟩
  rw [if_pos rfl, if_pos rfl, show ((c.length : Int) != (c.length : Int)) = false from bne_self_eq_false _]
  simp only [plunderlaw23_same.j0, Bool.false_eq_true, if_false]
  exact same0_loop a b c ha hb hm a.length 0 k (by omega) (by omega)
theorem copied_f (a : List S46) (b : List Bool) (c : List Int) (ha : a.length < 8796093022208) (hb : b.length < 140737488355328) (hc : c.length < 17592186044416) : plunderlaw23_copied.f a b c = some (a, b, c) := by
  unfold plunderlaw23_copied.f
  rw [Option.bind_some, if_pos (by simpa using ha), Option.bind_some, if_pos (by simpa using hb), Option.bind_some, if_pos (by simpa using hc)]
  rfl
end Go.Proofs.Ytamfkglnejhjdaa.Base
