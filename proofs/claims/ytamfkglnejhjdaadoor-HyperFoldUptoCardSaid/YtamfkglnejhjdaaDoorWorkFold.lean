/- Every operation of the program on every two int64 numbers is the document's own answer, for the bounds that each lemma states. -/
import Derived.Test.YtamfkglnejhjdaaDoorRefOpsB
import Derived.Test.YtamfkglnejhjdaaDoorMon
import Derived.Test.YtamfkglnejhjdaaDoorSerA
namespace Go.Proofs.YtamfkglnejhjdaaDoor.WorkFold
open Go.RowKit Go.Proofs.YtamfkglnejhjdaaDoor.PHyperFold Go.Proofs.YtamfkglnejhjdaaDoorW.PrintWords Go.Proofs.YtamfkglnejhjdaaDoorW.PrintLast Go.Proofs.YtamfkglnejhjdaaDoorW.PrintMore Go.Proofs.YtamfkglnejhjdaaDoor.BitMath

theorem odd_f (x : Int) : plunderref1_odd.f x = some (decide (x % 2 = 1)) := by
  unfold plunderref1_odd.f
  rw [odd_iff]
theorem half_f {x : Int} (h : In64 x) : plunderref1_half.f x = some (x / 2) := by
  unfold plunderref1_half.f
  have hd := tdiv_in (b := 2) h (by decide)
  by_cases h0 : x < 0
  · rw [if_pos h0]
    by_cases h1 : x.tmod 2 = 0
    · rw [if_pos h1, wrap_id hd, half_even x (by omega)]
    · have e := half_neg x h0 h1
      have h2 := div_in h
      rw [if_neg h1, wrap_id hd, e, wrap_id h2]
  · rw [if_neg h0, wrap_id hd, half_even x (by omega)]
theorem wrap_pow (i : Nat) : wrap64 (wrap64 (2 ^ i) + wrap64 (2 ^ i)) = wrap64 (2 ^ (i + 1)) := by
  rw [wrap_add, Int.pow_succ]
  congr 1
  omega

theorem bits_loop (A B : Int) (hA : In64 A) (hB : In64 B) (both one : Bool) (r : BitVec 64)
    (hr : ∀ i, i < 64 → r.getLsbD i = ((decide (A / 2 ^ i % 2 = 1) && decide (B / 2 ^ i % 2 = 1) && both) || ((decide (A / 2 ^ i % 2 = 1) != decide (B / 2 ^ i % 2 = 1)) && one))) (d : Nat) :
    ∀ i k, i + d = 64 → 2 * d < k → plunderref1_bits.l0 k (A / 2 ^ i) (B / 2 ^ i) both one (wrap64 ((r.toNat % 2 ^ i : Nat) : Int)) (wrap64 (2 ^ i)) (i : Int) = some (wrap64 (r.toNat : Int)) := by
  induction d with
  | zero =>
    intro i k hi hk
    obtain ⟨k, rfl⟩ : ∃ m, k = m + 1 := ⟨k - 1, by omega⟩
    obtain rfl : i = 64 := by omega
    have h2 : r.toNat % 2 ^ 64 = r.toNat := Nat.mod_eq_of_lt r.isLt
    simp only [plunderref1_bits.l0]
    rw [if_neg (by omega), h2]
  | succ d ih =>
    intro i k hi hk
    obtain ⟨k, rfl⟩ : ∃ m, k = m + 2 := ⟨k - 2, by omega⟩
    have hlt : (i : Int) < 64 := by omega
    have hw : wrap64 ((i : Int) + 1) = ((i + 1 : Nat) : Int) := by rw [wrap_id (by unfold In64; omega)]; push_cast; rfl
    have ha := half_f (div_pow_in hA i)
    have hb := half_f (div_pow_in hB i)
    rw [div_pow_succ] at ha hb
    have h := ih (i + 1) k (by omega) (by omega)
    have hs := mod_step r.toNat i
    have ht : r.toNat.testBit i = r.getLsbD i := rfl
    rw [ht, hr i (by omega)] at hs
    have goTrue : ∀ (hc : ((decide (A / 2 ^ i % 2 = 1) && decide (B / 2 ^ i % 2 = 1) && both) || ((decide (A / 2 ^ i % 2 = 1) != decide (B / 2 ^ i % 2 = 1)) && one)) = true),
        plunderref1_bits.j1 (k + 1) (A / 2 ^ i) (B / 2 ^ i) both one (wrap64 ((r.toNat % 2 ^ i : Nat) : Int)) (wrap64 (2 ^ i)) (i : Int) true = some (wrap64 (r.toNat : Int)) := by
      intro hc
      rw [hc, if_pos rfl] at hs
      simp only [plunderref1_bits.j1, if_true, ha, hb, Option.bind_some]
      rw [wrap_pow, wrap_add, hw]
      rw [hs] at h
      rw [← h]
      congr 2
    have goFalse : ∀ (hc : ((decide (A / 2 ^ i % 2 = 1) && decide (B / 2 ^ i % 2 = 1) && both) || ((decide (A / 2 ^ i % 2 = 1) != decide (B / 2 ^ i % 2 = 1)) && one)) = false),
        plunderref1_bits.j1 (k + 1) (A / 2 ^ i) (B / 2 ^ i) both one (wrap64 ((r.toNat % 2 ^ i : Nat) : Int)) (wrap64 (2 ^ i)) (i : Int) false = some (wrap64 (r.toNat : Int)) := by
      intro hc
      rw [hc, if_neg (by decide), Nat.add_zero] at hs
      simp only [plunderref1_bits.j1, ha, hb, Option.bind_some]
      rw [wrap_pow, hw]
      rw [hs] at h
      simpa using h
    simp only [plunderref1_bits.l0, if_pos hlt, odd_f, Option.bind_some]
    cases hx : decide (A / 2 ^ i % 2 = 1) <;> cases hy : decide (B / 2 ^ i % 2 = 1) <;> rw [hx, hy] at goTrue goFalse <;> cases both <;> cases one <;> simp at goTrue goFalse ⊢ <;> assumption

theorem bits_f {A B : Int} (hA : In64 A) (hB : In64 B) (both one : Bool) (r : BitVec 64)
    (hr : ∀ i, i < 64 → r.getLsbD i = ((decide (A / 2 ^ i % 2 = 1) && decide (B / 2 ^ i % 2 = 1) && both) || ((decide (A / 2 ^ i % 2 = 1) != decide (B / 2 ^ i % 2 = 1)) && one))) (k : Nat) (hk : 128 < k) :
    plunderref1_bits.f k A B both one = some (wrap64 (r.toNat : Int)) := by
  have h := bits_loop A B hA hB both one r hr 64 0 k (by omega) (by omega)
  have e0 : wrap64 0 = 0 := by decide +kernel
  have e1 : wrap64 1 = 1 := by decide +kernel
  simpa [plunderref1_bits.f, Nat.mod_one, e0, e1] using h

theorem bits_f_and {A B : Int} (hA : In64 A) (hB : In64 B) (k : Nat) (hk : 128 < k) : plunderref1_bits.f k A B true false = some (Go.bits .and .i64 A B) := by
  rw [bits_and]
  refine bits_f hA hB true false _ (fun i hi => ?_) k hk
  rw [BitVec.getLsbD_and, bit_of A i hi, bit_of B i hi]
  simp
theorem bits_f_or {A B : Int} (hA : In64 A) (hB : In64 B) (k : Nat) (hk : 128 < k) : plunderref1_bits.f k A B true true = some (Go.bits .or .i64 A B) := by
  rw [bits_or]
  refine bits_f hA hB true true _ (fun i hi => ?_) k hk
  rw [BitVec.getLsbD_or, bit_of A i hi, bit_of B i hi]
  cases decide (A / 2 ^ i % 2 = 1) <;> cases decide (B / 2 ^ i % 2 = 1) <;> rfl
theorem bits_f_xor {A B : Int} (hA : In64 A) (hB : In64 B) (k : Nat) (hk : 128 < k) : plunderref1_bits.f k A B false true = some (Go.bits .xor .i64 A B) := by
  rw [bits_xor]
  refine bits_f hA hB false true _ (fun i hi => ?_) k hk
  rw [BitVec.getLsbD_xor, bit_of A i hi, bit_of B i hi]
  cases decide (A / 2 ^ i % 2 = 1) <;> cases decide (B / 2 ^ i % 2 = 1) <;> rfl

theorem moved_left (A : Int) (s : Nat) (hs : s < 64) (d : Nat) : ∀ i k, i + d = s → d < k → plunderref1_moved.l0 k (wrap64 (A * 2 ^ i)) (s : Int) true (i : Int) = some (wrap64 (A * 2 ^ s)) := by
  induction d with
  | zero =>
    intro i k hi hk
    obtain ⟨k, rfl⟩ : ∃ m, k = m + 1 := ⟨k - 1, by omega⟩
    obtain rfl : i = s := by omega
    simp only [plunderref1_moved.l0]
    rw [if_neg (by omega)]
  | succ d ih =>
    intro i k hi hk
    obtain ⟨k, rfl⟩ : ∃ m, k = m + 1 := ⟨k - 1, by omega⟩
    simp only [plunderref1_moved.l0]
    rw [if_pos (by omega), if_pos trivial, wrap_add, wrap_id (a := (i : Int) + 1) (by unfold In64; omega)]
    have h := ih (i + 1) k (by omega) (by omega)
    rw [Int.pow_succ, ← Int.mul_assoc] at h
    rw [← h]
    congr 2
    omega
theorem moved_right (A : Int) (hA : In64 A) (s : Nat) (hs : s < 64) (d : Nat) : ∀ i k, i + d = s → d < k → plunderref1_moved.l0 k (A / 2 ^ i) (s : Int) false (i : Int) = some (A / 2 ^ s) := by
  induction d with
  | zero =>
    intro i k hi hk
    obtain ⟨k, rfl⟩ : ∃ m, k = m + 1 := ⟨k - 1, by omega⟩
    obtain rfl : i = s := by omega
    simp only [plunderref1_moved.l0]
    rw [if_neg (by omega)]
  | succ d ih =>
    intro i k hi hk
    obtain ⟨k, rfl⟩ : ∃ m, k = m + 1 := ⟨k - 1, by omega⟩
    simp only [plunderref1_moved.l0]
    rw [if_pos (by omega), if_neg (by decide), half_f (div_pow_in hA i), Option.bind_some, div_pow_succ, wrap_id (a := (i : Int) + 1) (by unfold In64; omega)]
    exact ih (i + 1) k (by omega) (by omega)

theorem shift_f (b : Int) : plunderref1_shift.f b = some (b % 64) := by
  unfold plunderref1_shift.f
  exact mod64 b
theorem count_of (b : Int) : ∃ s : Nat, b % 64 = (s : Int) ∧ s < 64 := ⟨(b % 64).toNat, by omega, by omega⟩

/-- What the program's work tells, and the document's: alike. -/
theorem work_alike (op a b : Int) (ha : In64 a) (hb : In64 b) (k : Nat) (hk : 128 < k) : ∃ v, ops_work.f op a b = some v ∧ plunderref1_work.f k op a b = some v := by
  unfold ops_work.f plunderref1_work.f
  by_cases h0 : op = 0
  · simp only [if_pos h0]; exact ⟨_, rfl, rfl⟩
  simp only [if_neg h0]
  by_cases h1 : op = 1
  · simp only [if_pos h1]; exact ⟨_, rfl, rfl⟩
  simp only [if_neg h1]
  by_cases h2 : op = 2
  · simp only [if_pos h2]; exact ⟨_, rfl, rfl⟩
  simp only [if_neg h2]
  by_cases h3 : op = 3
  · simp only [if_pos h3]
    unfold ops_divide.f plunderref1_quot.f
    by_cases hb0 : b = 0
    · simp only [if_pos hb0]; exact ⟨_, rfl, rfl⟩
    simp only [if_neg hb0]
    by_cases hb1 : b = -1
    · simp only [if_pos hb1]; exact ⟨_, rfl, rfl⟩
    simp only [if_neg hb1]; exact ⟨_, rfl, rfl⟩
  simp only [if_neg h3]
  by_cases h4 : op = 4
  · simp only [if_pos h4]
    unfold ops_divide.f plunderref1_quot.f
    by_cases hb0 : b = 0
    · simp only [if_pos hb0, Option.bind_some]
      refine ⟨_, rfl, ?_⟩
      have e0 : wrap64 0 = 0 := by decide +kernel
      rw [Int.zero_mul, e0, Int.sub_zero, wrap_id ha]
    simp only [if_neg hb0]
    by_cases hb1 : b = -1
    · simp only [if_pos hb1, Option.bind_some]
      refine ⟨_, rfl, ?_⟩
      subst hb1
      rw [wrap_mul_l, wrap_sub_r]
      rw [show a - -a * -1 = 0 from by omega]
      decide +kernel
    simp only [if_neg hb1, Option.bind_some]
    refine ⟨_, rfl, ?_⟩
    rw [wrap_mul_l, wrap_sub_r, rem_eq, wrap_id (tmod_in ha)]
  simp only [if_neg h4]
  by_cases h5 : op = 5
  · simp only [if_pos h5, bits_f_and ha hb k hk, Option.bind_some]; exact ⟨_, rfl, rfl⟩
  simp only [if_neg h5]
  by_cases h6 : op = 6
  · simp only [if_pos h6, bits_f_or ha hb k hk, Option.bind_some]; exact ⟨_, rfl, rfl⟩
  simp only [if_neg h6]
  by_cases h7 : op = 7
  · simp only [if_pos h7, bits_f_xor ha hb k hk, Option.bind_some]; exact ⟨_, rfl, rfl⟩
  simp only [if_neg h7]
  obtain ⟨s, hs, hs64⟩ := count_of b
  have hu : IntKind.u64.wrap (Go.bits .and .i64 b 63) = (s : Int) := by rw [and63, u64_small (by omega) (by omega), hs]
  by_cases h8 : op = 8
  · simp only [if_pos h8, shift_f, Option.bind_some, hu, hs]
    rw [if_pos (by omega)]
    refine ⟨_, rfl, ?_⟩
    have h := moved_left a s hs64 s 0 k (by omega) (by omega)
    unfold plunderref1_moved.f
    simp only [Int.pow_zero, Int.mul_one, wrap_id ha] at h
    rw [show ((0 : Nat) : Int) = 0 from rfl] at h
    rw [h, Option.bind_some]
    unfold shl
    rw [Int.toNat_natCast, Nat.min_eq_left (by show s ≤ 64; omega)]
    exact congrArg some (IntWalk.i64_left _).symm
  simp only [if_neg h8]
  by_cases h9 : op = 9
  · simp only [if_pos h9, shift_f, Option.bind_some, hu, hs]
    rw [if_pos (by omega)]
    refine ⟨_, rfl, ?_⟩
    have h := moved_right a ha s hs64 s 0 k (by omega) (by omega)
    unfold plunderref1_moved.f
    simp only [Int.pow_zero, Int.ediv_one] at h
    rw [show ((0 : Nat) : Int) = 0 from rfl] at h
    rw [h, Option.bind_some]
    unfold shr
    rw [Int.toNat_natCast, Nat.min_eq_left (by show s ≤ 64; omega)]
  simp only [if_neg h9]
  unfold plunderref1_compare.f
  by_cases h10 : op = 10
  · simp only [if_pos h10]
    unfold mn
    by_cases h : b < a
    · refine ⟨_, rfl, ?_⟩; rw [if_pos h, if_neg (by omega)]; rfl
    · by_cases e : a < b
      · refine ⟨_, rfl, ?_⟩; rw [if_neg h, if_pos e]; rfl
      · refine ⟨_, rfl, ?_⟩; rw [if_neg h, if_neg e, show b = a by omega]; rfl
  simp only [if_neg h10]
  by_cases h11 : op = 11
  · simp only [if_pos h11]
    unfold mx
    by_cases h : a < b
    · refine ⟨_, rfl, ?_⟩; rw [if_pos h, if_neg (by omega)]; rfl
    · by_cases e : a > b
      · refine ⟨_, rfl, ?_⟩; rw [if_neg h, if_pos e]; rfl
      · refine ⟨_, rfl, ?_⟩; rw [if_neg h, if_neg e, show b = a by omega]; rfl
  simp only [if_neg h11]
  have tr : ∀ c : Bool, ∃ v, ops_truth.f c = some v ∧ plunderref1_truth.f c = some v := fun c => by cases c <;> exact ⟨_, rfl, rfl⟩
  by_cases h12 : op = 12
  · simp only [if_pos h12]; obtain ⟨v, e1, e2⟩ := tr (decide (a < b)); exact ⟨v, by rw [e1]; rfl, by rw [e2]; rfl⟩
  simp only [if_neg h12]
  by_cases h13 : op = 13
  · simp only [if_pos h13]; obtain ⟨v, e1, e2⟩ := tr (decide (a ≤ b)); exact ⟨v, by rw [e1]; rfl, by rw [e2]; rfl⟩
  simp only [if_neg h13]
  by_cases h14 : op = 14
  · simp only [if_pos h14]; obtain ⟨v, e1, e2⟩ := tr (a == b); exact ⟨v, by rw [e1]; rfl, by rw [e2]; rfl⟩
  simp only [if_neg h14]
  obtain ⟨v, e1, e2⟩ := tr (a != b)
  exact ⟨v, by rw [e1]; rfl, by rw [e2]; rfl⟩

end Go.Proofs.YtamfkglnejhjdaaDoor.WorkFold
