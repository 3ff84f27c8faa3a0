/- The laws that tie the program's operations to one another, at all int64 numbers: distribution, division with rest, shifts as products, bits against sums, the order. They hold under no condition. -/
import Derived.Test.YtpjgdojhdlfjdaaLawsWalk
import Derived.Test.YtpjgdojhdlfjdaaBitMath
namespace Go.Proofs.Ytpjgdojhdlfjdaa.PureLaws
open Go.RowKit Go.Proofs.Ytpjgdojhdlfjdaa.POpsLaws Go.Proofs.YtpjgdojhdlfjdaaW.PrintWords Go.Proofs.YtpjgdojhdlfjdaaW.PrintLast Go.Proofs.YtpjgdojhdlfjdaaW.PrintMore Go.Proofs.Ytpjgdojhdlfjdaa.BitMath

theorem and_add_or (a b : Nat) : (a &&& b) + (a ||| b) = a + b := by
  induction a using Nat.strongRecOn generalizing b with
  | _ a ih =>
    by_cases h0 : a = 0
    · subst h0; simp
    · have e := ih (a / 2) (by omega) (b / 2)
      have h1 : (a &&& b) / 2 = a / 2 &&& b / 2 := Nat.and_div_two
      have h2 : (a ||| b) / 2 = a / 2 ||| b / 2 := Nat.or_div_two
      have m1 : (a &&& b) % 2 + (a ||| b) % 2 = a % 2 + b % 2 := by
        have := @Nat.and_mod_two_pow a b 1
        have h4 := @Nat.or_mod_two_pow a b 1
        simp only [Nat.pow_one] at this h4
        rw [this, h4]
        rcases Nat.mod_two_eq_zero_or_one a with ha | ha <;> rcases Nat.mod_two_eq_zero_or_one b with hb | hb <;> simp [ha, hb]
      omega
theorem or_of_xor (a b : Nat) : (a ||| b) = (a &&& b) + (a ^^^ b) := by
  induction a using Nat.strongRecOn generalizing b with
  | _ a ih =>
    by_cases h0 : a = 0
    · subst h0; simp
    · have e := ih (a / 2) (by omega) (b / 2)
      have h1 : (a &&& b) / 2 = a / 2 &&& b / 2 := Nat.and_div_two
      have h2 : (a ||| b) / 2 = a / 2 ||| b / 2 := Nat.or_div_two
      have h3 : (a ^^^ b) / 2 = a / 2 ^^^ b / 2 := Nat.xor_div_two
      have m1 : (a ||| b) % 2 = (a &&& b) % 2 + (a ^^^ b) % 2 := by
        have := @Nat.and_mod_two_pow a b 1
        have h4 := @Nat.or_mod_two_pow a b 1
        have h5 := @Nat.xor_mod_two_pow a b 1
        simp only [Nat.pow_one] at this h4 h5
        rw [this, h4, h5]
        rcases Nat.mod_two_eq_zero_or_one a with ha | ha <;> rcases Nat.mod_two_eq_zero_or_one b with hb | hb <;> simp [ha, hb]
      omega

/-- a op b, as the program tells it, is v. -/
def Tells (op a b v : Int) : Prop := ∀ s, plunderlaw1_Sum_of.f s op a b = some (v, s)
theorem tells_of {op a b v : Int} (h0 : 0 ≤ op) (h1 : op < 16) (h : ops_work.f op a b = some v) : Tells op a b v := by
  intro s
  unfold plunderlaw1_Sum_of.f ops_Apply.f ops_isOp.f
  simp [show op ≥ 0 from h0, h1, h]
theorem t_add (a b : Int) : Tells 0 a b (wrap64 (a + b)) := tells_of (by decide) (by decide) rfl
theorem t_sub (a b : Int) : Tells 1 a b (wrap64 (a - b)) := tells_of (by decide) (by decide) rfl
theorem t_mul (a b : Int) : Tells 2 a b (wrap64 (a * b)) := tells_of (by decide) (by decide) rfl
theorem t_and (a b : Int) : Tells 5 a b (Go.bits .and .i64 a b) := tells_of (by decide) (by decide) rfl
theorem t_or (a b : Int) : Tells 6 a b (Go.bits .or .i64 a b) := tells_of (by decide) (by decide) rfl
theorem t_xor (a b : Int) : Tells 7 a b (Go.bits .xor .i64 a b) := tells_of (by decide) (by decide) rfl
theorem t_min (a b : Int) : Tells 10 a b (mn a b) := tells_of (by decide) (by decide) rfl
theorem t_max (a b : Int) : Tells 11 a b (mx a b) := tells_of (by decide) (by decide) rfl
def tr (c : Bool) : Int := if c = true then 1 else 0
theorem truth_f (c : Bool) : ops_truth.f c = some (tr c) := by cases c <;> rfl
theorem t_lt (a b : Int) : Tells 12 a b (tr (decide (a < b))) := tells_of (by decide) (by decide) (by unfold ops_work.f; simp only [truth_f]; rfl)
theorem t_le (a b : Int) : Tells 13 a b (tr (decide (a ≤ b))) := tells_of (by decide) (by decide) (by unfold ops_work.f; simp only [truth_f]; rfl)
theorem t_eq (a b : Int) : Tells 14 a b (tr (a == b)) := tells_of (by decide) (by decide) (by unfold ops_work.f; simp only [truth_f]; rfl)
theorem t_ne (a b : Int) : Tells 15 a b (tr (a != b)) := tells_of (by decide) (by decide) (by unfold ops_work.f; simp only [truth_f]; rfl)
theorem t_shl (b : Int) : ∃ s : Nat, s < 64 ∧ ∀ x, Tells 8 x b (wrap64 (x * 2 ^ s)) := by
  have hu : IntKind.u64.wrap (Go.bits .and .i64 b 63) = (((b % 64).toNat : Nat) : Int) := by rw [and63, u64_small (by omega) (by omega)]; omega
  refine ⟨(b % 64).toNat, by omega, fun x => tells_of (by decide) (by decide) ?_⟩
  unfold ops_work.f
  rw [hu]
  simp only [show ¬ ((8 : Int) = 0) from by decide, show ¬ ((8 : Int) = 1) from by decide, show ¬ ((8 : Int) = 2) from by decide, show ¬ ((8 : Int) = 3) from by decide, show ¬ ((8 : Int) = 4) from by decide, show ¬ ((8 : Int) = 5) from by decide, show ¬ ((8 : Int) = 6) from by decide, show ¬ ((8 : Int) = 7) from by decide, if_false, if_true]
  rw [if_pos (Int.natCast_nonneg _)]
  unfold shl
  rw [Int.toNat_natCast, Nat.min_eq_left (by show (b % 64).toNat ≤ 64; omega)]
  exact congrArg some (IntWalk.i64_left _)
theorem t_div (a b : Int) (h0 : b ≠ 0) (h1 : b ≠ -1) : Tells 3 a b (wrap64 (a.tdiv b)) := tells_of (by decide) (by decide) (by
  show (ops_divide.f a b).bind _ = _
  unfold ops_divide.f
  rw [if_neg h0, if_neg h1]; rfl)
theorem t_rem (a b : Int) (h0 : b ≠ 0) (h1 : b ≠ -1) : Tells 4 a b (a.tmod b) := tells_of (by decide) (by decide) (by
  show (ops_divide.f a b).bind _ = _
  unfold ops_divide.f
  rw [if_neg h0, if_neg h1]; rfl)
theorem t_div0 (a : Int) : Tells 3 a 0 0 := tells_of (by decide) (by decide) rfl
theorem t_rem0 (a : Int) : Tells 4 a 0 a := tells_of (by decide) (by decide) rfl
theorem t_div1 (a : Int) : Tells 3 a (-1) (wrap64 (-a)) := tells_of (by decide) (by decide) rfl
theorem t_rem1 (a : Int) : Tells 4 a (-1) 0 := tells_of (by decide) (by decide) rfl

theorem rings_f (a b c : Int) (ha : In64 a) : plunderlaw1_Sum_rings.f false a b c = some (true, false) := by
  obtain ⟨s, _, hs⟩ := t_shl c
  unfold plunderlaw1_Sum_rings.f
  simp only [t_add _ _ _, t_sub _ _ _, t_mul _ _ _, hs _ _, Option.bind_some]
  rw [if_pos (by rw [wrap_mul_r, wrap_add, Int.mul_add]), if_pos (by rw [wrap_add_l, Int.sub_add_cancel, wrap_id ha])]
  rw [wrap_mul_r, Int.one_mul]
  simp

theorem and_or_sum (a b : Int) : wrap64 (Go.bits .and .i64 a b + Go.bits .or .i64 a b) = wrap64 (a + b) := by
  rw [bits_and, bits_or, wrap_add, BitVec.toNat_and, BitVec.toNat_or]
  have h := and_add_or (BitVec.ofInt 64 a).toNat (BitVec.ofInt 64 b).toNat
  rw [← Int.natCast_add, h, Int.natCast_add, toNat_cast, toNat_cast, wrap_eq_iff, ← Int.add_emod]
theorem or_and_diff (a b : Int) : wrap64 (Go.bits .or .i64 a b - Go.bits .and .i64 a b) = Go.bits .xor .i64 a b := by
  rw [bits_and, bits_or, bits_xor, wrap_sub_l, wrap_sub_r, BitVec.toNat_and, BitVec.toNat_or, BitVec.toNat_xor]
  have h := or_of_xor (BitVec.ofInt 64 a).toNat (BitVec.ofInt 64 b).toNat
  rw [h]
  congr 1
  push_cast
  omega

theorem rem_small (a b : Int) (h0 : b ≠ 0) : (a.tmod b).natAbs < b.natAbs := by
  rw [Int.natAbs_tmod]
  exact Nat.mod_lt _ (by omega)
theorem rem_pos (a b : Int) (h : 0 ≤ a) : 0 ≤ a.tmod b := Int.tmod_nonneg b h
theorem rem_neg (a b : Int) (h : a ≤ 0) : a.tmod b ≤ 0 := by
  have := Int.tmod_nonneg b (show 0 ≤ -a by omega)
  rw [Int.neg_tmod] at this
  omega

/-- What is left behind the sums: the rest's sign and size. -/
theorem parts_end (a b r : Int) (n : Nat) (hb : In64 b) (hr : In64 r) (hp : 0 ≤ a → 0 ≤ r) (hn : a ≤ 0 → r ≤ 0) (hs : b ≠ 0 → r.natAbs < b.natAbs) (h0 : b = 0 → r = a) :
    plunderlaw1_Sum_parts.j0 (n + 2) a b r false false = some (true, false) := by
  have end1 : plunderlaw1_Sum_parts.j1 (n + 1) a b r false false = some (true, false) := by
    simp only [plunderlaw1_Sum_parts.j1, Bool.false_eq_true, if_false]
    unfold In64 at hb hr
    by_cases h1 : b > 0
    · have h2 := hs (by omega)
      rw [if_pos h1, if_pos (by omega), wrap_id (by unfold In64; omega)]
      simp
      omega
    · rw [if_neg h1]
      by_cases h2 : b < 0
      · have h3 := hs (by omega)
        rw [if_pos h2, if_pos (by omega), wrap_id (by unfold In64; omega)]
        simp
        omega
      · rw [if_neg h2, h0 (by omega)]
        simp
  simp only [plunderlaw1_Sum_parts.j0, Bool.false_eq_true, if_false]
  by_cases h1 : a ≥ 0
  · have h2 := hp h1
    rw [if_pos h1, if_neg (by omega)]
    by_cases h3 : a ≤ 0
    · have h4 := hn h3
      rw [if_pos h3, show decide (r > 0) = false from by simp; omega, end1]
    · rw [if_neg h3, end1]
  · have h4 := hn (by omega)
    rw [if_neg h1, if_pos (by omega), show decide (r > 0) = false from by simp; omega, end1]

theorem parts_f (a b : Int) (ha : In64 a) (hb : In64 b) : plunderlaw1_Sum_parts.f 2 false a b = some (true, false) := by
  have core : ∀ q r, Tells 3 a b q → Tells 4 a b r → wrap64 (wrap64 (q * b) + r) = a → plunderlaw1_Sum_parts.j0 2 a b r false false = some (true, false) → plunderlaw1_Sum_parts.f 2 false a b = some (true, false) := by
    intro q r hq hr he hj
    unfold plunderlaw1_Sum_parts.f
    simp only [t_add _ _ _, t_sub _ _ _, t_mul _ _ _, t_and _ _ _, t_or _ _ _, t_xor _ _ _, hq _, hr _, Option.bind_some]
    rw [if_pos (and_or_sum a b), if_pos (or_and_diff a b), he, show (a != a) = false from by simp]
    exact hj
  by_cases h0 : b = 0
  · subst h0
    refine core 0 a (t_div0 a) (t_rem0 a) ?_ (parts_end a 0 a 0 hb ha (fun h => h) (fun h => h) (fun h => absurd rfl h) (fun _ => rfl))
    rw [wrap_add_l, Int.zero_mul, Int.zero_add, wrap_id ha]
  · by_cases h1 : b = -1
    · subst h1
      refine core (wrap64 (-a)) 0 (t_div1 a) (t_rem1 a) ?_ (parts_end a (-1) 0 0 hb (by unfold In64; omega) (fun _ => by omega) (fun _ => by omega) (fun _ => by decide) (fun h => absurd h (by decide)))
      rw [wrap_add_l, Int.add_zero, wrap_mul_l, show -a * -1 = a from by omega, wrap_id ha]
    · refine core (wrap64 (a.tdiv b)) (a.tmod b) (t_div a b h0 h1) (t_rem a b h0 h1) ?_ (parts_end a b _ 0 hb (tmod_in ha) (rem_pos a b) (rem_neg a b) (rem_small a b) (fun h => absurd h h0))
      rw [wrap_add_l, wrap_id (tdiv_in ha h1)]
      have := rem_eq a b
      rw [show a.tdiv b * b + a.tmod b = a from by omega, wrap_id ha]

theorem orders_f (a b : Int) : plunderlaw1_Sum_orders.f 1 false a b = some (true, false) := by
  unfold plunderlaw1_Sum_orders.f
  simp only [t_lt _ _ _, t_le _ _ _, t_eq _ _ _, t_ne _ _ _, t_min _ _ _, t_max _ _ _, Option.bind_some]
  have w1 : wrap64 1 = 1 := by decide +kernel
  have w0 : wrap64 0 = 0 := by decide +kernel
  rcases Int.lt_trichotomy a b with h | h | h
  · have e1 : decide (a < b) = true := by simpa using h
    have e2 : decide (b < a) = false := by simp; omega
    have e3 : (a == b) = false := by simp; omega
    have e4 : decide (a ≤ b) = true := by simp; omega
    have e5 : (a != b) = true := by simp; omega
    have e6 : mn a b = a := by unfold mn; rw [if_neg (by omega)]
    have e7 : mx a b = b := by unfold mx; rw [if_pos (by omega)]
    rw [e1, e2, e3, e4, e5, e6, e7, e4]
    simp [tr, w1, plunderlaw1_Sum_orders.j0]
  · subst h
    have e1 : decide (a < a) = false := by simp
    have e3 : (a == a) = true := by simp
    have e4 : decide (a ≤ a) = true := by simp
    have e5 : (a != a) = false := by simp
    have e6 : mn a a = a := by unfold mn; rw [if_neg (by omega)]
    have e7 : mx a a = a := by unfold mx; rw [if_neg (by omega)]
    rw [e1, e3, e4, e5, e6, e7, e4]
    simp [tr, w1, w0, plunderlaw1_Sum_orders.j0]
  · have e1 : decide (a < b) = false := by simp; omega
    have e2 : decide (b < a) = true := by simpa using h
    have e3 : (a == b) = false := by simp; omega
    have e4 : decide (a ≤ b) = false := by simp; omega
    have e5 : (a != b) = true := by simp; omega
    have e6 : mn a b = b := by unfold mn; rw [if_pos (by omega)]
    have e7 : mx a b = a := by unfold mx; rw [if_neg (by omega)]
    have e8 : decide (b ≤ a) = true := by simp; omega
    rw [e1, e2, e3, e4, e5, e6, e7, e8]
    simp [tr, w1, w0, plunderlaw1_Sum_orders.j0]

end Go.Proofs.Ytpjgdojhdlfjdaa.PureLaws
namespace Go.Proofs.Ytpjgdojhdlfjdaa.POpsLaws
open Go.RowKit Go.Proofs.Ytpjgdojhdlfjdaa.BitMath
theorem plunderlaw1_OpsLaws.walk (a b c : Int) (w : World) (ha : (Lit.int .i64 a).wf = true) (hb : (Lit.int .i64 b).wf = true) (_hc : (Lit.int .i64 c).wf = true) :
    Calls Try.prog 5 #[.int .i64 a, .int .i64 b, .int .i64 c] w fun e w' => e = .returned (.bool true) ∧ Below w.heap.size w w' :=
  laws_walk 2 a b c w (PureLaws.rings_f a b c (in64_of_wf ha)) (PureLaws.parts_f a b (in64_of_wf ha) (in64_of_wf hb))
    (Go.Proofs.YtpjgdojhdlfjdaaW.PrintWords.at_rounds (fun k => plunderlaw1_Sum_orders.mono false a b k) (by omega : 1 ≤ 2) (PureLaws.orders_f a b))
end Go.Proofs.Ytpjgdojhdlfjdaa.POpsLaws
