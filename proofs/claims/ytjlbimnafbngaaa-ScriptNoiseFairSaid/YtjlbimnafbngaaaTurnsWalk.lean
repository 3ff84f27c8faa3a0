/- The law ScriptTurns answers true for every two numbers. -/
import Derived.Test.YtjlbimnafbngaaaTurnsCalls
import Derived.Test.YtjlbimnafbngaaaMScriptTurnsx1
namespace Go.Proofs.Ytjlbimnafbngaaa.Turns
open Go.RowKit Go.Proofs.YtjlbimnafbngaaaW.PrintWords Go.Proofs.YtjlbimnafbngaaaW.PrintLast Go.Proofs.Ytjlbimnafbngaaa.BitMath Go.Proofs.Ytjlbimnafbngaaa.PScriptTurns

theorem refgood_f (a : Int) : plunderref10_good.f a = some (decide (1 ≤ a ∧ a ≤ 64)) := by
  unfold plunderref10_good.f
  by_cases h : 1 ≤ a
  · rw [if_pos h]; simp [h]
  · rw [if_neg h]; simp [h]
set_option maxHeartbeats 2000000 in
set_option maxRecDepth 100000 in
theorem refturns_ok (W r : Nat) (w : World) (hW : 1 ≤ W) (hW2 : W ≤ 64) (hr : r ≤ 1048576 / W) :
    Calls Try.prog 22 #[.int .i64 (W : Int), .int .i64 (r : Int)] w fun e w' => ∃ v : Value, e = .returned (.tuple #[v, .int .i64 0]) ∧ Kd.R (Kd.int .i64) 3 w' w.heap.size (fun _ => True) v (turnsL W (W * r)) ∧ Below w.heap.size w w' := by
  obtain ⟨N, hN⟩ : ∃ N, N = W * r := ⟨_, rfl⟩
  have hN2 : N ≤ 1048576 := by
    rw [hN, Nat.mul_comm]
    exact (Nat.le_div_iff_mul_le (by omega)).1 hr
  have eN : wrap64 ((W : Int) * (r : Int)) = (N : Int) := by rw [hN, Int.natCast_mul, wrap_id]; unfold In64; rw [← Int.natCast_mul, ← hN]; omega
  have eD : Int.tdiv 1048576 (W : Int) = ((1048576 / W : Nat) : Int) := by rw [Int.tdiv_eq_ediv_of_nonneg (by omega)]; simp
  have eD2 : wrap64 (((1048576 / W : Nat) : Int)) = ((1048576 / W : Nat) : Int) := by
    have : 1048576 / W ≤ 1048576 := Nat.div_le_self _ _
    exact wrap_id (by unfold In64; omega)
  have HG := Aside0.mk (plunderref10_good.calls (W : Int) true)
  have HGf := Aside0.mk (show plunderref10_good.f (W : Int) = some true by rw [refgood_f]; simp; omega)
  have hr2 : (r : Int) ≤ ((1048576 / W : Nat) : Int) := by omega
  have HB := Aside0.mk (Below.refl w.heap.size w)
  have hr3 : (r : Int) ≤ 1048576 := by have : 1048576 / W ≤ 1048576 := Nat.div_le_self _ _; omega
  generalize 1048576 / W = D at *
  have HN := Aside0.mk hN
  clear hN
  go_enter Try.func22, Try.ntmps22
  go_wp2_with fail
  refine (HG.out _ HGf.out).mono ?_
  rintro e w1 ⟨rfl, hd⟩
  have HB1 := Aside0.mk (below_step HB.out hd.below)
  clear hd HB HG HGf
  have HB := HB1
  clear HB1
  go_wp2_with (first | rw [eD] | rw [eD2] | fail)
  simp only [show decide (D < r) = false from decide_eq_false (by omega), show decide ((r : Int) < 0) = false from decide_eq_false (by omega)]
  go_loopw [6, 7] (fun v6 v7 w' => ∃ i : Nat, i ≤ N ∧ v7 = .int .i64 i ∧ Aside0 (Kd.R (Kd.int .i64) 3 w' w.heap.size (fun _ => True) v6 (turnsL W i)) ∧ Aside0 (Below w.heap.size w w')) (fun _ i _ => N - (intOf i).toNat)
  case atStart => exact ⟨0, Nat.zero_le _, rfl, ⟨Kd.R_nil _ _ _ _ _⟩, HB⟩
  case round =>
    clear HB
    obtain ⟨i, hi, rfl, HR, HB⟩ := hrel
    by_cases hlt : i < N
    · have HL := Aside0.mk (show ((turnsL W i).length + 1) * 8 ≤ 140737488355328 by rw [turnsL_length]; omega)
      have HT := Aside0.mk (turnsL_succ W i)
      have eM : Int.tmod (i : Int) (W : Int) = ((i % W : Nat) : Int) := by rw [Int.tmod_eq_emod_of_nonneg (by omega)]; simp
      generalize turnsL W i = xs at *
      generalize i % W = q at *
      go_wp2_with (first | rw [eN] | rw [eM] | ((with_reducible refine gate_builtin (b := .append) (xs := #[.tmp 26, .tmp 30]) rfl ?_); at_builtin; refine Kd.R_append (Kd.int .i64) (w0 := w) w.heap.size rfl (.tmp 26) (.tmp 30) 22 3 (.int .i64 0) 8 rfl Try.underlying22 Mark.infoE rfl (by decide) (by omega) u6 xs (q : Int) [.int .i64 (q : Int)] (fun _ => True) (fun _ => False) rfl rfl ?aP (fun _ hk => hk.elim) ?aF ?aO ?aB ?aS ?aL ?_; (case aP => exact rfl); (case aB => exact HB.out); (case aF => exact (fun _ _ => trivial)); (case aO => exact HR.out); (case aS => exact (below_size HB.out)); (case aL => exact HL.out); intro v103 w5 ho hb hg hat; have n0_ := Aside0.mk (hb); have n1_ := Aside0.mk (ho); clear HB; clear HR; have HB := n0_; have HR := n1_; clear n0_ n1_; clear ho hb hg hat))
      go_roundw
      case measure => simp [intOf]; omega
      case rel => exact ⟨i + 1, by omega, by go_num, ⟨by rw [HT.out]; exact HR.out⟩, HB⟩
    · obtain rfl : i = N := by omega
      go_wp2_with (first | rw [eN] | fail)
      go_ret2
      exact ⟨_, rfl, by rw [← HN.out]; exact HR.out, HB.out⟩

set_option maxHeartbeats 2000000 in
set_option maxRecDepth 100000 in
theorem refturns_calls (a b : Int) (w : World) :
    Calls Try.prog 22 #[.int .i64 a, .int .i64 b] w fun e w' => ∃ v : Value, e = .returned (.tuple #[v, .int .i64 (turnsR a b).2]) ∧ Kd.R (Kd.int .i64) 3 w' w.heap.size (fun _ => True) v (turnsR a b).1 ∧ Below w.heap.size w w' := by
  have HGf := Aside0.mk (plunderref10_good.calls a _ w (refgood_f a))
  by_cases h1 : 1 ≤ a ∧ a ≤ 64
  · by_cases h2 : 0 ≤ b
    · by_cases h3 : b > 1048576 / a
      · have e : turnsR a b = ([], 2) := by unfold turnsR; rw [if_pos ⟨h1.1, h1.2, h2⟩, if_pos h3]
        rw [e]
        have hg := HGf.out
        rw [show decide (1 ≤ a ∧ a ≤ 64) = true by simpa using h1] at hg
        have HG := Aside0.mk hg
        have eD : Int.tdiv 1048576 a = 1048576 / a := Int.tdiv_eq_ediv_of_nonneg (by omega)
        have eD2 : wrap64 (1048576 / a) = 1048576 / a := wrap_id (by
          have h5 : (1048576 : Int) / a ≤ 1048576 := Int.ediv_le_self _ (by omega)
          have h6 : (0 : Int) ≤ 1048576 / a := Int.ediv_nonneg (by omega) (by omega)
          unfold In64; omega)
        have hd1 : decide (b < 0) = false := decide_eq_false (by omega)
        have ha0 : a ≠ 0 := by omega
        clear hg HGf e
        generalize (1048576 : Int) / a = D at *
        have hd2 : decide (D < b) = true := decide_eq_true (by omega)
        go_enter Try.func22, Try.ntmps22
        go_wp2_with fail
        refine HG.out.mono ?_
        rintro e w1 ⟨rfl, hd⟩
        have HB := Aside0.mk hd.below
        clear hd HG
        go_wp2_with (first | rw [eD] | rw [eD2] | fail)
        go_ret2
        exact ⟨_, rfl, Kd.R_nil _ _ _ _ _, HB.out⟩
      · obtain ⟨W, rfl⟩ : ∃ W : Nat, a = W := ⟨a.toNat, by omega⟩
        obtain ⟨r, rfl⟩ : ∃ r : Nat, b = r := ⟨b.toNat, by omega⟩
        have e : turnsR (W : Int) (r : Int) = (turnsL W (W * r), 0) := by unfold turnsR; rw [if_pos ⟨h1.1, h1.2, h2⟩, if_neg h3, Int.toNat_natCast, Int.toNat_natCast]
        rw [e]
        exact refturns_ok W r w (by omega) (by omega) (by
          have : ((1048576 / W : Nat) : Int) = 1048576 / (W : Int) := by simp
          omega)
    · have e : turnsR a b = ([], 3) := by unfold turnsR; rw [if_neg (by omega)]
      rw [e]
      have hg := HGf.out
      rw [show decide (1 ≤ a ∧ a ≤ 64) = true by simpa using h1] at hg
      have HG := Aside0.mk hg
      have hd1 : decide (b < 0) = true := decide_eq_true (by omega)
      clear hg HGf e
      go_enter Try.func22, Try.ntmps22
      go_wp2_with fail
      refine HG.out.mono ?_
      rintro e w1 ⟨rfl, hd⟩
      have HB := Aside0.mk hd.below
      clear hd HG
      go_wp2
      go_ret2
      exact ⟨_, rfl, Kd.R_nil _ _ _ _ _, HB.out⟩
  · have e : turnsR a b = ([], 3) := by unfold turnsR; rw [if_neg (by omega)]
    rw [e]
    have hg := HGf.out
    rw [show decide (1 ≤ a ∧ a ≤ 64) = false by simpa using h1] at hg
    have HG := Aside0.mk hg
    clear hg HGf e
    go_enter Try.func22, Try.ntmps22
    go_wp2_with fail
    refine HG.out.mono ?_
    rintro e w1 ⟨rfl, hd⟩
    have HB := Aside0.mk hd.below
    clear hd HG
    go_wp2
    go_ret2
    exact ⟨_, rfl, Kd.R_nil _ _ _ _ _, HB.out⟩
theorem turnsR_small (a b : Int) : (turnsR a b).1.length ≤ 1048576 := by
  unfold turnsR
  split
  · split
    · simp
    · rename_i h h3
      obtain ⟨W, rfl⟩ : ∃ W : Nat, a = W := ⟨a.toNat, by omega⟩
      obtain ⟨r, rfl⟩ : ∃ r : Nat, b = r := ⟨b.toNat, by omega⟩
      rw [Int.toNat_natCast, Int.toNat_natCast, turnsL_length, Nat.mul_comm]
      have : ((1048576 / W : Nat) : Int) = 1048576 / (W : Int) := by simp
      exact (Nat.le_div_iff_mul_le (by omega)).1 (by omega)
  · simp

theorem same_loop (l : List Int) (hm : l.length ≤ 9223372036854775806) (d : Nat) : ∀ (i k : Nat), i + d = l.length → d < k → plunderlaw10_same.l0 k l l (i : Int) = some true := by
  induction d with
  | zero =>
    intro i k hi hk
    obtain ⟨k, rfl⟩ : ∃ m, k = m + 1 := ⟨k - 1, by omega⟩
    simp only [plunderlaw10_same.l0]
    rw [if_neg (by omega)]
  | succ d ih =>
    intro i k hi hk
    obtain ⟨k, rfl⟩ : ∃ m, k = m + 1 := ⟨k - 1, by omega⟩
    simp only [plunderlaw10_same.l0]
    rw [if_pos (by omega), if_pos (by omega), if_pos (by omega), if_pos trivial, wrap_id (a := (i : Int) + 1) (by unfold In64; omega)]
    exact ih (i + 1) k (by omega) (by omega)
theorem same_f (l : List Int) (hm : l.length ≤ 9223372036854775806) : plunderlaw10_same.f (l.length + 1) l l = some true := by
  unfold plunderlaw10_same.f
  rw [if_pos rfl]
  exact same_loop l hm l.length 0 _ (by omega) (by omega)
theorem spoilt_loop (d : Nat) : ∀ (l : List Int) (i k : Nat), i + d = l.length → d < k → l.length < 17592186044416 → ∃ r, plunderlaw10_spoilt.l0 k l (i : Int) = some r ∧ r.length = l.length + 1 := by
  induction d with
  | zero =>
    intro l i k hi hk hl
    obtain ⟨k, rfl⟩ : ∃ m, k = m + 1 := ⟨k - 1, by omega⟩
    simp only [plunderlaw10_spoilt.l0]
    rw [if_neg (by omega), if_pos hl]
    exact ⟨_, rfl, by simp⟩
  | succ d ih =>
    intro l i k hi hk hl
    obtain ⟨k, rfl⟩ : ∃ m, k = m + 1 := ⟨k - 1, by omega⟩
    simp only [plunderlaw10_spoilt.l0]
    rw [if_pos (by omega), if_pos (by omega), wrap_id (a := (i : Int) + 1) (by unfold In64; omega)]
    obtain ⟨r, h1, h2⟩ := ih (l.set (i : Int).toNat (wrap64 (-1 - (i : Int)))) (i + 1) k (by rw [List.length_set]; omega) (by omega) (by rw [List.length_set]; exact hl)
    exact ⟨r, h1, by rw [h2, List.length_set]⟩
theorem spoilt_f (l : List Int) (hl : l.length < 17592186044416) : ∃ r, plunderlaw10_spoilt.f (l.length + 1) l = some r ∧ r.length = l.length + 1 :=
  spoilt_loop l.length l 0 _ (by omega) (by omega) hl

set_option maxHeartbeats 2000000 in
set_option maxRecDepth 100000 in
theorem walk (a b : Int) (w : World) :
    Calls Try.prog 4 #[.int .i64 a, .int .i64 b] w fun e w' => e = .returned (.bool true) ∧ Below w.heap.size w w' := by
  have HT := Aside0.mk (turns_calls a b)
  have HF := Aside0.mk (refturns_calls a b)
  have hm := turnsR_small a b
  generalize (turnsR a b).1 = l at *
  generalize (turnsR a b).2 = er at *
  have HM := Aside0.mk hm
  have HS := Aside0.mk (same_f l (by omega))
  obtain ⟨sp, hsp, hspl⟩ := spoilt_f l (by omega)
  have HP := Aside0.mk hsp
  have HPL := Aside0.mk hspl
  clear hm hsp hspl
  go_enter Try.func4, Try.ntmps4
  go_wp2_with fail
  refine (HT.out w).mono ?_
  rintro e w1 ⟨v1, rfl, hr1, hb1⟩
  have HB1 := Aside0.mk hb1
  obtain ⟨A1, c1, rfl, hc1, _⟩ := Kd.R_reads hr1
  have HR1 := Aside0.mk hr1
  have HC1 := Aside0.mk hc1
  clear hb1 hr1 hc1
  go_wp2_with fail
  refine (HT.out w1).mono ?_
  rintro e w2 ⟨v2, rfl, hr2, hb2⟩
  have HQ2 := Aside0.mk (plunderlaw10_spoilt.calls _ (fun _ => True) v2 l sp w1 w2 hb2 hr2 HP.out)
  clear hb2 hr2 HT
  go_wp2_with fail
  refine HQ2.out.mono ?_
  rintro e w3 ⟨v3, rfl, hr3, hb3, _⟩
  have HR3 := Aside0.mk (Kd.R_below HR1.out hb3)
  have HB3 := Aside0.mk (below_step HB1.out hb3)
  obtain ⟨A3, c3, rfl, hc3, _⟩ := Kd.R_reads hr3
  have hl3 := HPL.out
  rw [hl3]
  clear hb3 hr3 HQ2 HR1 HB1
  go_wp2_with fail
  refine (HF.out w3).mono ?_
  rintro e w4 ⟨v4, rfl, hr4, hb4⟩
  obtain ⟨A4, c4, rfl, hc4, hC4⟩ := Kd.R_reads hr4
  obtain ⟨_, _, hC1⟩ := Kd.R_reads' (Kd.R_below HR3.out hb4)
  have HQ4 := Aside0.mk (plunderlaw10_same.calls _ A1 c1 l A4 c4 l true w4 hC1 HC1.out hC4 hc4 HS.out)
  have HB4 := Aside0.mk (below_step HB3.out hb4)
  clear hb4 hr4 hC4 hC1 hc4 HR3 HB3 hc3
  have el : wrap64 ((l.length : Int) + 1) = (l.length : Int) + 1 := wrap_id (by unfold In64; have := HM.out; omega)
  have hlm : (l.length : Int) ≤ 1048576 := by have := HM.out; omega
  go_wp2_with fail
  refine HQ4.out.mono ?_
  rintro e w5 ⟨rfl, hd⟩
  have HB5 := Aside0.mk (below_step HB4.out hd.below)
  clear hd HQ4 HB4
  go_wp2
  go_ret
  exact ⟨by simp, HB5.out⟩
end Go.Proofs.Ytjlbimnafbngaaa.Turns
