/- script.Turns: every worker in turn: what each call answers, in memory of its own. -/
import Derived.Test.YtjlbimnafbngaaaMark
import Derived.Test.YtjlbimnafbngaaaBitMath
import Derived.Test.YtjlbimnafbngaaaFairRef
namespace Go.Proofs.Ytjlbimnafbngaaa.Turns
open Go.RowKit Go.Proofs.YtjlbimnafbngaaaW.PrintWords Go.Proofs.YtjlbimnafbngaaaW.PrintLast Go.Proofs.Ytjlbimnafbngaaa.BitMath Go.Proofs.Ytjlbimnafbngaaa.Mark Go.Proofs.Ytjlbimnafbngaaa.PScriptFair

/-- The first n of the turns. -/
def turnsL (W n : Nat) : List Int := (List.range n).map (fun t => ((t % W : Nat) : Int))
theorem turnsL_zero (W : Nat) : turnsL W 0 = [] := rfl
theorem turnsL_succ (W n : Nat) : turnsL W (n + 1) = turnsL W n ++ [((n % W : Nat) : Int)] := by unfold turnsL; rw [List.range_succ, List.map_append]; rfl
theorem turnsL_length (W n : Nat) : (turnsL W n).length = n := by unfold turnsL; simp
theorem turnsL_next (W i j : Nat) (hj : j < W) : turnsL W (W * i + (j + 1)) = turnsL W (W * i + j) ++ [(j : Int)] := by
  rw [← Nat.add_assoc, turnsL_succ, Nat.mul_add_mod, Nat.mod_eq_of_lt hj]

/-- What Turns answers. -/
def turnsR (a b : Int) : List Int × Int :=
  if 1 ≤ a ∧ a ≤ 64 ∧ 0 ≤ b then (if b > 1048576 / a then ([], 2) else (turnsL a.toNat (a.toNat * b.toNat), 0)) else ([], 3)

theorem room (W : World) (m base : Nat) (hm : m ≤ 1048576) (hb : base ≤ W.heap.size) : Kd.R (Kd.int .i64) 3 (W.alloc (.cells (madeCells #[.int .i64 0] m) 3)) base (fun _ => True) (.slice (some ⟨W.heap.size, 0, none⟩) 0 m) [] := by
  have h := World.ownsRow_lit (base := base) (e := 3) (size := 1) W (madeCells #[.int .i64 0] m) m hb (by unfold maxLen; omega) (by rw [size_madeCells]; simp)
  have h2 := own_take (m := 0) h (Nat.zero_le _)
  exact Kd.R_of_own (by simpa [encs] using h2) (fun _ _ => trivial)

set_option maxHeartbeats 2000000 in
set_option maxRecDepth 100000 in
theorem turns_ok (W r : Nat) (w : World) (hW : 1 ≤ W) (hW2 : W ≤ 64) (hr : r ≤ 1048576 / W) :
    Calls Try.prog 21 #[.int .i64 (W : Int), .int .i64 (r : Int)] w fun e w' => ∃ v : Value, e = .returned (.tuple #[v, .int .i64 0]) ∧ Kd.R (Kd.int .i64) 3 w' w.heap.size (fun _ => True) v (turnsL W (W * r)) ∧ Below w.heap.size w w' := by
  obtain ⟨N, hN⟩ : ∃ N, N = W * r := ⟨_, rfl⟩
  have hN2 : N ≤ 1048576 := by
    rw [hN, Nat.mul_comm]
    exact (Nat.le_div_iff_mul_le (by omega)).1 hr
  have eN : wrap64 ((W : Int) * (r : Int)) = (N : Int) := by rw [hN, Int.natCast_mul, wrap_id]; unfold In64; rw [← Int.natCast_mul, ← hN]; omega
  have eD : Int.tdiv 1048576 (W : Int) = ((1048576 / W : Nat) : Int) := by rw [Int.tdiv_eq_ediv_of_nonneg (by omega)]; simp
  have eD2 : wrap64 (((1048576 / W : Nat) : Int)) = ((1048576 / W : Nat) : Int) := by
    have : 1048576 / W ≤ 1048576 := Nat.div_le_self _ _
    exact wrap_id (by unfold In64; omega)
  obtain ⟨i0, hi, hz0, hz1, hz2⟩ := info_parts infoE
  have hmk : ∀ u : World, (Instr.makeSlice 22 (.int .i64 0) (.int .i64 (N : Int))).run Try.prog u =
      .ok (.slice (some ⟨u.heap.size, 0, none⟩) 0 N) (u.alloc (.cells (madeCells #[.int .i64 0] N) 3)) := fun u => by
    have h := run_make (P := Try.prog) u 22 3 i0 (.int .i64 0) Try.underlying22 hi hz0 .i64 .i64 0 (N : Int) (by omega) (by omega) (by rw [hz2]; omega) (by omega)
    simpa [hz1, Value.cells] using h
  have HG := Aside0.mk (script_goodWorkers.calls (W : Int) true)
  have HGf := Aside0.mk (show script_goodWorkers.f (W : Int) = some true by rw [FairPure.goodWorkers_f]; simp; omega)
  have hr2 : (r : Int) ≤ ((1048576 / W : Nat) : Int) := by omega
  have HB := Aside0.mk (Below.refl w.heap.size w)
  have hr3 : (r : Int) ≤ 1048576 := by have : 1048576 / W ≤ 1048576 := Nat.div_le_self _ _; omega
  clear hi hz0 hz1 hz2
  generalize 1048576 / W = D at *
  have HN := Aside0.mk hN
  clear hN
  go_enter Try.func21, Try.ntmps21
  go_wp2_with fail
  refine (HG.out _ HGf.out).mono ?_
  rintro e w1 ⟨rfl, hd⟩
  have HB1 := Aside0.mk (below_step HB.out hd.below)
  clear hd HB HG HGf
  have HR := Aside0.mk (room w1 N w.heap.size hN2 (below_size HB1.out))
  have HB := Aside0.mk (HB1.out.alloc (below_size HB1.out) (.cells (madeCells #[.int .i64 0] N) 3))
  clear HB1
  go_wp2_with (first | rw [eD] | rw [eD2] | rw [eN] | fail)
  simp only [show decide (D < r) = false from decide_eq_false (by omega), show decide ((r : Int) < 0) = false from decide_eq_false (by omega)]
  go_loopw [6, 24] (fun v6 v24 w' => ∃ i : Nat, i ≤ r ∧ v24 = .int .i64 i ∧ Aside0 (Kd.R (Kd.int .i64) 3 w' w.heap.size (fun _ => True) v6 (turnsL W (W * i))) ∧ Aside0 (Below w.heap.size w w')) (fun _ i _ => r - (intOf i).toNat)
  case atStart => exact ⟨0, Nat.zero_le _, rfl, HR, HB⟩
  case round =>
    clear HB HR
    obtain ⟨i, hi, rfl, HR, HB⟩ := hrel
    by_cases hlt : i < r
    · go_wp2
      go_loopw [6, 27] (fun v6 v27 w' => ∃ j : Nat, j ≤ W ∧ v27 = .int .i64 j ∧ Aside0 (Kd.R (Kd.int .i64) 3 w' w.heap.size (fun _ => True) v6 (turnsL W (W * i + j))) ∧ Aside0 (Below w.heap.size w w')) (fun _ j _ => W - (intOf j).toNat)
      case atStart => exact ⟨0, Nat.zero_le _, rfl, HR, HB⟩
      case round =>
        clear HB HR
        obtain ⟨j, hj, rfl, HR, HB⟩ := hrel
        by_cases hlj : j < W
        · have HL := Aside0.mk (show ((turnsL W (W * i + j)).length + 1) * 8 ≤ 140737488355328 by
            rw [turnsL_length]
            have h1 : W * i + W ≤ W * r := by rw [← Nat.mul_succ]; exact Nat.mul_le_mul_left _ hlt
            have := HN.out
            omega)
          have HT := Aside0.mk (turnsL_next W i j hlj)
          generalize turnsL W (W * i + j) = xs at *
          go_wp2_with (first | ((with_reducible refine gate_builtin (b := .append) (xs := #[.tmp 30, .tmp 32]) rfl ?_); at_builtin; refine Kd.R_append (Kd.int .i64) (w0 := w) w.heap.size rfl (.tmp 30) (.tmp 32) 22 3 (.int .i64 0) 8 rfl Try.underlying22 infoE rfl (by decide) (by omega) u6 xs (j : Int) [.int .i64 (j : Int)] (fun _ => True) (fun _ => False) rfl rfl ?aP (fun _ hk => hk.elim) ?aF ?aO ?aB ?aS ?aL ?_; (case aP => exact rfl); (case aB => exact HB.out); (case aF => exact (fun _ _ => trivial)); (case aO => exact HR.out); (case aS => exact (below_size HB.out)); (case aL => exact HL.out); intro v103 w5 ho hb hg hat; have n0_ := Aside0.mk (hb); have n1_ := Aside0.mk (ho); clear HB; clear HR; have HB := n0_; have HR := n1_; clear n0_ n1_; clear ho hb hg hat))
          go_roundw
          case measure => simp [intOf]; omega
          case rel => exact ⟨j + 1, by omega, by go_num, ⟨by rw [HT.out]; exact HR.out⟩, HB⟩
        · obtain rfl : j = W := by omega
          go_wp2
          go_roundw
          case measure => simp [intOf]; omega
          case rel => exact ⟨i + 1, by omega, by go_num, ⟨by rw [Nat.mul_succ]; exact HR.out⟩, HB⟩
    · obtain rfl : i = r := by omega
      go_wp2
      go_ret2
      exact ⟨_, rfl, HR.out, HB.out⟩

set_option maxHeartbeats 2000000 in
set_option maxRecDepth 100000 in
theorem turns_calls (a b : Int) (w : World) :
    Calls Try.prog 21 #[.int .i64 a, .int .i64 b] w fun e w' => ∃ v : Value, e = .returned (.tuple #[v, .int .i64 (turnsR a b).2]) ∧ Kd.R (Kd.int .i64) 3 w' w.heap.size (fun _ => True) v (turnsR a b).1 ∧ Below w.heap.size w w' := by
  have HGf := Aside0.mk (script_goodWorkers.calls a _ w (FairPure.goodWorkers_f a))
  by_cases h1 : 1 ≤ a ∧ a ≤ 64
  · by_cases h2 : 0 ≤ b
    · by_cases h3 : b > 1048576 / a
      · have e : turnsR a b = ([], 2) := by unfold turnsR; rw [if_pos ⟨h1.1, h1.2, h2⟩, if_pos h3]
        rw [e]
        have hg := HGf.out
        rw [show decide (1 ≤ a ∧ a ≤ 64) = true by simpa using h1] at hg
        have HG := Aside0.mk hg
        have eD : Int.tdiv 1048576 a = 1048576 / a := Int.tdiv_eq_ediv_of_nonneg (by omega)
        have eD2 : wrap64 (1048576 / a) = 1048576 / a := wrap_id (by
          have h5 : (1048576 : Int) / a ≤ 1048576 := Int.ediv_le_self _ (by omega)
          have h6 : (0 : Int) ≤ 1048576 / a := Int.ediv_nonneg (by omega) (by omega)
          unfold In64; omega)
        have hd1 : decide (b < 0) = false := decide_eq_false (by omega)
        have ha0 : a ≠ 0 := by omega
        clear hg HGf e
        generalize (1048576 : Int) / a = D at *
        have hd2 : decide (D < b) = true := decide_eq_true (by omega)
        go_enter Try.func21, Try.ntmps21
        go_wp2_with fail
        refine HG.out.mono ?_
        rintro e w1 ⟨rfl, hd⟩
        have HB := Aside0.mk hd.below
        clear hd HG
        go_wp2_with (first | rw [eD] | rw [eD2] | fail)
        go_ret2
        exact ⟨_, rfl, Kd.R_nil _ _ _ _ _, HB.out⟩
      · obtain ⟨W, rfl⟩ : ∃ W : Nat, a = W := ⟨a.toNat, by omega⟩
        obtain ⟨r, rfl⟩ : ∃ r : Nat, b = r := ⟨b.toNat, by omega⟩
        have e : turnsR (W : Int) (r : Int) = (turnsL W (W * r), 0) := by unfold turnsR; rw [if_pos ⟨h1.1, h1.2, h2⟩, if_neg h3, Int.toNat_natCast, Int.toNat_natCast]
        rw [e]
        exact turns_ok W r w (by omega) (by omega) (by
          have : ((1048576 / W : Nat) : Int) = 1048576 / (W : Int) := by simp
          omega)
    · have e : turnsR a b = ([], 3) := by unfold turnsR; rw [if_neg (by omega)]
      rw [e]
      have hg := HGf.out
      rw [show decide (1 ≤ a ∧ a ≤ 64) = true by simpa using h1] at hg
      have HG := Aside0.mk hg
      have hd1 : decide (b < 0) = true := decide_eq_true (by omega)
      clear hg HGf e
      go_enter Try.func21, Try.ntmps21
      go_wp2_with fail
      refine HG.out.mono ?_
      rintro e w1 ⟨rfl, hd⟩
      have HB := Aside0.mk hd.below
      clear hd HG
      go_wp2
      go_ret2
      exact ⟨_, rfl, Kd.R_nil _ _ _ _ _, HB.out⟩
  · have e : turnsR a b = ([], 3) := by unfold turnsR; rw [if_neg (by omega)]
    rw [e]
    have hg := HGf.out
    rw [show decide (1 ≤ a ∧ a ≤ 64) = false by simpa using h1] at hg
    have HG := Aside0.mk hg
    clear hg HGf e
    go_enter Try.func21, Try.ntmps21
    go_wp2_with fail
    refine HG.out.mono ?_
    rintro e w1 ⟨rfl, hd⟩
    have HB := Aside0.mk hd.below
    clear hd HG
    go_wp2
    go_ret2
    exact ⟨_, rfl, Kd.R_nil _ _ _ _ _, HB.out⟩
end Go.Proofs.Ytjlbimnafbngaaa.Turns
