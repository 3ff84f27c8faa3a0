/- What the functions of the reducer's laws answer on lists: the check of deeds, the serial puts, the comparisons: plain facts. -/
import Derived.Test.YtamfkglnejhjdaaDoorBaseA
import Derived.Test.YtamfkglnejhjdaaDoorBitMath
import Derived.Test.YtamfkglnejhjdaaDoorSerC
import Derived.Test.YtamfkglnejhjdaaDoorSerD
namespace Go.Proofs.YtamfkglnejhjdaaDoor.Base
open Go.RowKit Go.Proofs.YtamfkglnejhjdaaDoorW.PrintWords Go.Proofs.YtamfkglnejhjdaaDoor.BitMath Go.Proofs.YtamfkglnejhjdaaDoor.PHyperFold Go.Proofs.YtamfkglnejhjdaaDoor.Play

theorem same2_loop (a : List S46) (b : List Bool) (c : List Int) (hm : c.length ≤ 9223372036854775806) (d : Nat) : ∀ (i k : Nat), i + d = c.length → d < k → plunderlaw23_same.l2 k (i : Int) a b c a b c = some true := by
  induction d with
  | zero =>
    intro i k hi hk
    obtain ⟨k, rfl⟩ : ∃ m, k = m + 1 := ⟨k - 1, by omega⟩
    simp only [plunderlaw23_same.l2]
    rw [if_neg (by omega)]
  | succ d ih =>
    intro i k hi hk
    obtain ⟨k, rfl⟩ : ∃ m, k = m + 1 := ⟨k - 1, by omega⟩
    simp only [plunderlaw23_same.l2]
    rw [if_pos (by omega), if_pos (by omega), if_pos (by omega), if_pos trivial, wrap_id (a := (i : Int) + 1) (by unfold In64; omega)]
    exact ih (i + 1) k (by omega) (by omega)
theorem same1_loop (a : List S46) (b : List Bool) (c : List Int) (hb : b.length ≤ 9223372036854775806) (hm : c.length ≤ 9223372036854775806) (d : Nat) : ∀ (i k : Nat), i + d = b.length → d + c.length + 1 < k → plunderlaw23_same.l1 k (i : Int) a b c a b c = some true := by
  induction d with
  | zero =>
    intro i k hi hk
    obtain ⟨k, rfl⟩ : ∃ m, k = m + 1 := ⟨k - 1, by omega⟩
    simp only [plunderlaw23_same.l1]
    rw [if_neg (by omega)]
    exact same2_loop a b c hm c.length 0 k (by omega) (by omega)
  | succ d ih =>
    intro i k hi hk
    obtain ⟨k, rfl⟩ : ∃ m, k = m + 1 := ⟨k - 1, by omega⟩
    simp only [plunderlaw23_same.l1]
    rw [if_pos (by omega), if_pos (by omega), if_pos (by omega), if_neg (by simp), wrap_id (a := (i : Int) + 1) (by unfold In64; omega)]
    exact ih (i + 1) k (by omega) (by omega)
theorem same0_loop (a : List S46) (b : List Bool) (c : List Int) (ha : a.length ≤ 9223372036854775806) (hb : b.length ≤ 9223372036854775806) (hm : c.length ≤ 9223372036854775806) (d : Nat) : ∀ (i k : Nat), i + d = a.length → d + b.length + c.length + 2 < k → plunderlaw23_same.l0 k (i : Int) a b c a b c = some true := by
  induction d with
  | zero =>
    intro i k hi hk
    obtain ⟨k, rfl⟩ : ∃ m, k = m + 1 := ⟨k - 1, by omega⟩
    simp only [plunderlaw23_same.l0]
    rw [if_neg (by omega)]
    exact same1_loop a b c hb hm b.length 0 k (by omega) (by omega)
  | succ d ih =>
    intro i k hi hk
    obtain ⟨k, rfl⟩ : ∃ m, k = m + 1 := ⟨k - 1, by omega⟩
    simp only [plunderlaw23_same.l0]
    rw [if_pos (by omega), if_pos (by omega), if_pos (by omega), if_neg (by simp), wrap_id (a := (i : Int) + 1) (by unfold In64; omega)]
    exact ih (i + 1) k (by omega) (by omega)
theorem same_f (a : List S46) (b : List Bool) (c : List Int) (ha : a.length ≤ 9223372036854775806) (hb : b.length ≤ 9223372036854775806) (hm : c.length ≤ 9223372036854775806) (k : Nat) (hk : a.length + b.length + c.length + 3 < k) : plunderlaw23_same.f k a b c a b c = some true := by
  unfold plunderlaw23_same.f
  obtain ⟨k, rfl⟩ : ∃ m, k = m + 1 := ⟨k - 1, by omega⟩
  rw [if_pos rfl, if_pos rfl, show ((c.length : Int) != (c.length : Int)) = false from bne_self_eq_false _]
  simp only [plunderlaw23_same.j0, Bool.false_eq_true, if_false]
  exact same0_loop a b c ha hb hm a.length 0 k (by omega) (by omega)
theorem copied_f (a : List S46) (b : List Bool) (c : List Int) (ha : a.length < 8796093022208) (hb : b.length < 140737488355328) (hc : c.length < 17592186044416) : plunderlaw23_copied.f a b c = some (a, b, c) := by
  unfold plunderlaw23_copied.f
  rw [Option.bind_some, if_pos (by simpa using ha), Option.bind_some, if_pos (by simpa using hb), Option.bind_some, if_pos (by simpa using hc)]
  rfl
theorem over2_loop (a : List S46) (b : List Bool) (d : Nat) : ∀ (c : List Int) (i k : Nat), c.length ≤ 9223372036854775806 → i + d = c.length → d < k → ∃ n c', plunderlaw23_over.l2 k (i : Int) a b c = some (n, a, b, c') ∧ c'.length = c.length := by
  induction d with
  | zero =>
    intro c i k hm hi hk
    obtain ⟨k, rfl⟩ : ∃ m, k = m + 1 := ⟨k - 1, by omega⟩
    simp only [plunderlaw23_over.l2]
    rw [if_neg (by omega)]
    exact ⟨_, _, rfl, rfl⟩
  | succ d ih =>
    intro c i k hm hi hk
    obtain ⟨k, rfl⟩ : ∃ m, k = m + 1 := ⟨k - 1, by omega⟩
    simp only [plunderlaw23_over.l2]
    rw [if_pos (by omega), if_pos (by omega), wrap_id (a := (i : Int) + 1) (by unfold In64; omega)]
    obtain ⟨n, c', h1, h2⟩ := ih (c.set (i : Int).toNat (Go.bits .xor .i64 (rd c (i : Int)) 1)) (i + 1) k (by rw [List.length_set]; exact hm) (by rw [List.length_set]; omega) (by omega)
    exact ⟨n, c', h1, by rw [h2, List.length_set]⟩
theorem over1_loop (a : List S46) (c : List Int) (hc : c.length ≤ 9223372036854775806) (d : Nat) : ∀ (b : List Bool) (i k : Nat), b.length ≤ 9223372036854775806 → i + d = b.length → d + c.length + 1 < k → ∃ n b' c', plunderlaw23_over.l1 k (i : Int) a b c = some (n, a, b', c') ∧ b'.length = b.length ∧ c'.length = c.length := by
  induction d with
  | zero =>
    intro b i k hm hi hk
    obtain ⟨k, rfl⟩ : ∃ m, k = m + 1 := ⟨k - 1, by omega⟩
    simp only [plunderlaw23_over.l1]
    rw [if_neg (by omega)]
    obtain ⟨n, c', h1, h2⟩ := over2_loop a b c.length c 0 k hc (by omega) (by omega)
    exact ⟨n, b, c', h1, rfl, h2⟩
  | succ d ih =>
    intro b i k hm hi hk
    obtain ⟨k, rfl⟩ : ∃ m, k = m + 1 := ⟨k - 1, by omega⟩
    simp only [plunderlaw23_over.l1]
    rw [if_pos (by omega), if_pos (by omega), wrap_id (a := (i : Int) + 1) (by unfold In64; omega)]
    obtain ⟨n, b', c', h1, h2, h3⟩ := ih (b.set (i : Int).toNat (!(rdOf false b (i : Int)))) (i + 1) k (by rw [List.length_set]; exact hm) (by rw [List.length_set]; omega) (by omega)
    exact ⟨n, b', c', h1, by rw [h2, List.length_set], h3⟩
theorem over0_loop (b : List Bool) (c : List Int) (hb : b.length ≤ 9223372036854775806) (hc : c.length ≤ 9223372036854775806) (d : Nat) : ∀ (a : List S46) (i k : Nat), a.length ≤ 9223372036854775806 → i + d = a.length → d + b.length + c.length + 2 < k → ∃ n a' b' c', plunderlaw23_over.l0 k (i : Int) a b c = some (n, a', b', c') ∧ a'.length = a.length ∧ b'.length = b.length ∧ c'.length = c.length := by
  induction d with
  | zero =>
    intro a i k hm hi hk
    obtain ⟨k, rfl⟩ : ∃ m, k = m + 1 := ⟨k - 1, by omega⟩
    simp only [plunderlaw23_over.l0]
    rw [if_neg (by omega)]
    obtain ⟨n, b', c', h1, h2, h3⟩ := over1_loop a c hc b.length b 0 k hb (by omega) (by omega)
    exact ⟨n, a, b', c', h1, rfl, h2, h3⟩
  | succ d ih =>
    intro a i k hm hi hk
    obtain ⟨k, rfl⟩ : ∃ m, k = m + 1 := ⟨k - 1, by omega⟩
    simp only [plunderlaw23_over.l0]
    rw [if_pos (by omega), if_pos (by omega), wrap_id (a := (i : Int) + 1) (by unfold In64; omega)]
    obtain ⟨n, a', b', c', h1, h2, h3, h4⟩ := ih (a.set (i : Int).toNat (⟨(rd_T46 a (i : Int)).f0, Go.bits .xor .i64 ((rd_T46 a (i : Int)).f1) 1⟩ : S46)) (i + 1) k (by rw [List.length_set]; exact hm) (by rw [List.length_set]; omega) (by omega)
    exact ⟨n, a', b', c', h1, by rw [h2, List.length_set], h3, h4⟩
theorem over_f (a : List S46) (b : List Bool) (c : List Int) (ha : a.length ≤ 9223372036854775806) (hb : b.length ≤ 9223372036854775806) (hc : c.length ≤ 9223372036854775806) (k : Nat) (hk : a.length + b.length + c.length + 2 < k) :
    ∃ n a' b' c', plunderlaw23_over.f k a b c = some (n, a', b', c') ∧ a'.length = a.length ∧ b'.length = b.length ∧ c'.length = c.length :=
  over0_loop b c hb hc a.length a 0 k ha (by omega) (by omega)

end Go.Proofs.YtamfkglnejhjdaaDoor.Base
