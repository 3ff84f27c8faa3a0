/- The statement ScriptRands: what is pulled from a Rand of the caller's own, and from a *Drawer that is nil. -/
import Derived.Test.YtjlbimnafbngaaaSources
import Derived.Test.YtjlbimnafbngaaaPScriptRandsx1
import Derived.Test.YtjlbimnafbngaaaFam
namespace Go.Proofs.Ytjlbimnafbngaaa.Rands
open Go.RowKit Go.Proofs.YtjlbimnafbngaaaW.PrintWords Go.Proofs.YtjlbimnafbngaaaW.PrintLast Go.Proofs.Ytjlbimnafbngaaa.PScriptRands Go.Proofs.Ytjlbimnafbngaaa.Pull Go.Proofs.Ytjlbimnafbngaaa.BitMath

theorem spoilt_loop (d : Nat) : ∀ (l : List Int) (i k : Nat), i + d = l.length → d < k → l.length < 17592186044416 → ∃ r, plunderlaw10_spoilt.l0 k l (i : Int) = some r ∧ r.length = l.length + 1 := by
  induction d with
  | zero =>
    intro l i k hi hk hl
    obtain ⟨m, rfl⟩ : ∃ m, k = m + 1 := ⟨k - 1, by omega⟩
    unfold plunderlaw10_spoilt.l0
    rw [if_neg (by omega), if_pos hl]
    exact ⟨_, rfl, by simp⟩
  | succ d ih =>
    intro l i k hi hk hl
    obtain ⟨m, rfl⟩ : ∃ m, k = m + 1 := ⟨k - 1, by omega⟩
    unfold plunderlaw10_spoilt.l0
    rw [if_pos (by omega), if_pos (by omega), show wrap64 ((i : Int) + 1) = ((i + 1 : Nat) : Int) from by rw [wrap_id (by unfold In64; omega)]; rfl, Int.toNat_natCast]
    obtain ⟨r, h1, h2⟩ := ih (l.set i (wrap64 (-1 - (i : Int)))) (i + 1) m (by simp; omega) (by omega) (by simpa using hl)
    exact ⟨r, h1, by simpa using h2⟩
theorem spoilt_f (l : List Int) (hl : l.length < 17592186044416) : ∃ r, plunderlaw10_spoilt.f (l.length + 1) l = some r ∧ r.length = l.length + 1 :=
  spoilt_loop l.length l 0 _ (by omega) (by omega) hl

theorem up (s : Nat) (h : (s : Int) ≤ 4000000) : wrap64 ((s : Int) + 1) = ((s + 1 : Nat) : Int) := by rw [wrap_id (by unfold In64; omega)]; omega
theorem cn1 (x : Int) : (counterNext x).1 = wrap64 (10 * wrap64 (x + 1)) := by unfold counterNext; rfl
theorem cn2 (x : Int) : (counterNext x).2 = wrap64 (x + 1) := by unfold counterNext; rfl
theorem after_cons {σ : Type} (f : σ → Int × σ) (n : Nat) (s : σ) : after f (n + 1) s = after f n (f s).2 := rfl
theorem draws_cons {σ : Type} (f : σ → Int × σ) (n : Nat) (s : σ) : draws f (n + 1) s = (f s).1 :: draws f n (f s).2 := rfl
theorem after_none {σ : Type} (f : σ → Int × σ) (s : σ) : after f 0 s = s := rfl
theorem counter_after (M : Int) (hM : M ≤ 4000000) (n : Nat) : ∀ s : Nat, (s : Int) + n ≤ M → after counterNext n (s : Int) = ((s + n : Nat) : Int) := by
  induction n with
  | zero => intro s _; rw [after_none, Nat.add_zero]
  | succ n ih =>
    intro s h
    rw [after_cons, cn2, up s (by omega), ih (s + 1) (by omega), show s + 1 + n = s + (n + 1) from by omega]
theorem counter_draws (M : Int) (hM : M ≤ 4000000) (n : Nat) : ∀ s : Nat, (s : Int) + n ≤ M → ∀ i, i < n → (draws counterNext n (s : Int)).getD i 0 = 10 * ((s + i + 1 : Nat) : Int) := by
  induction n with
  | zero => intro s _ i hi; exact absurd hi (Nat.not_lt_zero _)
  | succ n ih =>
    intro s h i hi
    rw [draws_cons, cn1, cn2, up s (by omega)]
    cases i with
    | zero => rw [List.getD_cons_zero, wrap_id (by unfold In64; omega), Nat.add_zero]
    | succ i =>
      rw [List.getD_cons_succ, ih (s + 1) (by omega) i (by omega), show s + 1 + i + 1 = s + (i + 1) + 1 from by omega]
theorem nobody_draws (n i : Nat) (hi : i < n) : (draws (fun _ : Unit => ((0 : Int), ())) n ()).getD i 0 = 0 := by
  induction n generalizing i with
  | zero => omega
  | succ n ih =>
    cases i with
    | zero => rfl
    | succ i => exact ih i (by omega)

set_option maxHeartbeats 2000000 in
set_option maxRecDepth 100000 in
theorem walk_no (a : Int) (w : World) (h : a < 0 ∨ a > 1048576) : Calls Try.prog 5 #[.int .i64 a] w fun e w' => e = .returned (.bool true) ∧ Below w.heap.size w w' := by
  obtain ⟨sp, hsp, hspl⟩ := spoilt_f [] (by simp)
  have HF := Aside0.mk (show plunderlaw10_refusal.f a = some (if a < 0 then 3 else 2) by unfold plunderlaw10_refusal.f; rcases h with h | h <;> (repeat split) <;> first | rfl | omega)
  have HP := Aside0.mk (fun T v u => pull_no T v a u h)
  have HB := Aside0.mk (Below.refl w.heap.size w)
  obtain ⟨er, her⟩ : ∃ er : Int, er = if a < 0 then 3 else 2 := ⟨_, rfl⟩
  have her0 : decide (er = 0) = false := by rw [her]; split <;> rfl
  have her1 : er ≠ 0 := by rw [her]; split <;> omega
  rw [← her] at HF
  simp only [← her] at HP
  clear her h
  have HS := Aside0.mk hsp
  clear hsp hspl
  go_enter Try.func5, Try.ntmps5
  go_wp2_with fail
  refine (HP.out _ _ _).mono ?_
  rintro e w1 ⟨rfl, hd1⟩
  have hb := blk_below (blk_new w (.cells #[.int .i64 0] 38)) hd1.below
  have HB1 := Aside0.mk (below_step (HB.out.alloc (Nat.le_refl _) (.cells #[.int .i64 0] 38)) hd1.below)
  have HC := Aside0.mk hb
  clear hd1 hb HB
  go_wp2_with fail
  refine (HP.out _ _ _).mono ?_
  rintro e w2 ⟨rfl, hd1⟩
  have HB2 := Aside0.mk (below_step HB1.out hd1.below)
  have HC2 := Aside0.mk (blk_below HC.out hd1.below)
  clear hd1 HB1 HC
  have HQ := Aside0.mk (plunderlaw10_spoilt.calls _ (fun _ => True) (.slice none 0 0) [] sp w2 w2 (Below.refl _ _) (Kd.R_nil _ _ _ _ _) HS.out)
  go_wp2_with fail
  refine (HQ.out).mono ?_
  rintro e w3 ⟨v3, rfl, _, hb3, _⟩
  have HB3 := Aside0.mk (below_step HB2.out hb3)
  have HC3 := Aside0.mk (blk_below HC2.out hb3)
  clear hb3 HQ HB2 HC2
  go_wp2_with fail
  refine (HP.out _ _ _).mono ?_
  rintro e w4 ⟨rfl, hd1⟩
  have HB4 := Aside0.mk (below_step HB3.out hd1.below)
  have HC4 := Aside0.mk (blk_below HC3.out hd1.below)
  clear hd1 HB3 HC3
  go_wp2_with fail
  refine (plunderlaw10_refusal.calls a er w4 HF.out).mono ?_
  rintro e w5 ⟨rfl, hd1⟩
  have HB5 := Aside0.mk (below_step HB4.out hd1.below)
  have hc := cell_of (blk_below HC4.out hd1.below)
  have hf := blk_frozen (blk_below HC4.out hd1.below) 0
  clear hd1 HB4 HC4
  go_wp2
  go_ret
  exact ⟨rfl, HB5.out⟩

set_option maxHeartbeats 2000000 in
set_option maxRecDepth 100000 in
theorem walk_ok (n : Nat) (hn : n ≤ 1048576) (w : World) : Calls Try.prog 5 #[.int .i64 (n : Int)] w fun e w' => e = .returned (.bool true) ∧ Below w.heap.size w w' := by
  have hM : ∃ M : Int, M ≤ 4000000 ∧ (n : Int) + n ≤ M := ⟨(n : Int) + n, by omega, by omega⟩
  obtain ⟨M, hM1, hM2⟩ := hM
  have A1 := counter_after M hM1 n 0 (by omega)
  have D1 := counter_draws M hM1 n 0 (by omega)
  have A2 : after counterNext n (n : Int) = 2 * (n : Int) := by rw [counter_after M hM1 n n (by omega)]; omega
  have L1 := draws_length counterNext n ((0 : Nat) : Int)
  have D2 := nobody_draws n
  have L2 := draws_length (fun _ : Unit => ((0 : Int), ())) n ()
  rw [Nat.zero_add] at A1
  obtain ⟨sp, hsp, hspl⟩ := spoilt_f (draws counterNext n (n : Int)) (by rw [draws_length]; omega)
  rw [draws_length] at hspl
  have HF := Aside0.mk (show plunderlaw10_refusal.f (n : Int) = some 0 by unfold plunderlaw10_refusal.f; rw [if_neg (by omega), if_neg (by omega)])
  have HB := Aside0.mk (Below.refl w.heap.size w)
  have HS := Aside0.mk hsp
  have HSL := Aside0.mk hspl
  clear hsp hspl hM1 hM2
  have hn2 : (n : Int) ≤ 1048576 := by omega
  have HA1 := Aside0.mk A1
  have HA2 := Aside0.mk A2
  have HL1 := Aside0.mk L1
  have HL2 := Aside0.mk L2
  have HD1 := Aside0.mk D1
  have HD2 := Aside0.mk D2
  clear A1 A2 L1 L2 D1 D2
  have hsrc := counter_src w w.heap.size (Nat.le_refl _)
  have HC := Aside0.mk (blk_new w (.cells #[.int .i64 ((0 : Nat) : Int)] 38))
  have HB1 := Aside0.mk (HB.out.alloc (Nat.le_refl _) (.cells #[.int .i64 ((0 : Nat) : Int)] 38))
  go_enter Try.func5, Try.ntmps5
  go_wp2_with fail
  refine (pull_ok hsrc n hn ((0 : Nat) : Int) _ HB1.out HC.out (by rintro k rfl; rw [World.size_alloc]; omega)).mono ?_
  rintro e w1 ⟨v1, rfl, hr1, hc1, hb1, _⟩
  rw [HA1.out] at hc1
  have HR1 := Aside0.mk (Kd.R_bound hr1)
  generalize draws counterNext n ((0 : Nat) : Int) = l1 at *
  have hg1 : w.heap.size < w1.heap.size := blk_lt hc1
  have HP := Aside0.mk (pull_ok hsrc n hn (n : Int) w1 hb1 hc1 (by rintro k rfl; exact hg1))
  clear hr1 hc1 hb1 HB1 HC HB
  go_wp2_with fail
  refine (HP.out).mono ?_
  rintro e w2 ⟨v2, rfl, hr2, hc2, hb2, hk2⟩
  rw [HA2.out] at hc2
  have HR2 := Aside0.mk (Kd.R_kept HR1.out hk2 (fun k hk => hk.1.1))
  have HQ := Aside0.mk (plunderlaw10_spoilt.calls _ _ v2 _ sp w w2 hb2 hr2 HS.out)
  have HC2 := Aside0.mk hc2
  clear hr2 hb2 hk2 hc2 HP HR1
  generalize draws counterNext n (n : Int) = l2 at *
  go_wp2_with fail
  refine (HQ.out).mono ?_
  rintro e w3 ⟨v3, rfl, hr3, hb3, hk3⟩
  have HR3 := Aside0.mk (Kd.R_kept HR2.out hk3 (fun k hk h => by have := h.2; have := hk.2.2; omega))
  have HC3 := Aside0.mk (blk_kept HC2.out hk3 (fun h => h.1 rfl))
  obtain ⟨A3, c3, rfl, _, _⟩ := Kd.R_reads hr3
  rw [HSL.out]
  have HP := Aside0.mk (pull_ok (nobody_src w) n hn () w3 hb3 trivial (fun k h => h.elim))
  clear hr3 hb3 hk3 HQ HR2 HC2 HS HSL
  go_wp2_with fail
  refine (HP.out).mono ?_
  rintro e w4 ⟨v4, rfl, hr4, _, hb4, hk4⟩
  have HR1 := Aside0.mk (Kd.R_kept HR3.out hk4 (fun k hk h => h))
  have HC4 := Aside0.mk (blk_kept HC3.out hk4 (fun h => h))
  have HR4 := Aside0.mk hr4
  have HB4 := Aside0.mk hb4
  clear hr4 hb4 hk4 HP HR3 HC3
  generalize draws (fun _ : Unit => ((0 : Int), ())) n () = l4 at *
  go_wp2_with fail
  refine (plunderlaw10_refusal.calls (n : Int) 0 w4 HF.out).mono ?_
  rintro e w5 ⟨rfl, hd⟩
  have HB5 := Aside0.mk (below_step HB4.out hd.below)
  have hr1 := Kd.R_below HR1.out hd.below
  have hr4 := Kd.R_below HR4.out hd.below
  have hc := cell_of (blk_below HC4.out hd.below)
  have hf := blk_frozen (blk_below HC4.out hd.below) 0
  obtain ⟨A1, c1, rfl, _, _⟩ := Kd.R_reads hr1
  obtain ⟨A4, c4, rfl, _, _⟩ := Kd.R_reads hr4
  have HR1 := Aside0.mk hr1
  have HR4 := Aside0.mk hr4
  have hl1 := HL1.out
  have hl4 := HL2.out
  clear hd hr1 hr4 HB4 HC4 HF
  rw [hl1, hl4]
  clear hl1 hl4
  go_wp2_with fail
  go_loopw [11] (fun v11 w' => ∃ i : Nat, i ≤ n ∧ v11 = .int .i64 i ∧ w' = w5) (fun i _ => n - (intOf i).toNat)
  case atStart => exact ⟨0, Nat.zero_le _, rfl, rfl⟩
  case round =>
    obtain ⟨i, hi, rfl, rfl⟩ := hrel
    by_cases hlt : i < n
    · have hr1 := HR1.out
      have hr4 := HR4.out
      obtain ⟨g1, k1, e1, _, _, _, _⟩ := Kd.R_form hr1 (by rw [HL1.out]; omega)
      obtain ⟨g4, k4, e4, _, _, _, _⟩ := Kd.R_form hr4 (by rw [HL2.out]; omega)
      injection e1 with e1 _ e1c
      injection e4 with e4 _ e4c
      subst e1 e4 e1c e4c
      obtain ⟨hx1, hf1⟩ := Kd.R_celln 0 hr1 (i : Int) (by omega) (by rw [HL1.out]; omega)
      obtain ⟨hx4, hf4⟩ := Kd.R_celln 0 hr4 (i : Int) (by omega) (by rw [HL2.out]; omega)
      have d1 : rdOf 0 l1 (i : Int) = 10 * ((i : Int) + 1) := by
        rw [show rdOf 0 l1 (i : Int) = l1.getD i 0 from by simp [rdOf], HD1.out i hlt]; omega
      have d4 : rdOf 0 l4 (i : Int) = 0 := by
        rw [show rdOf 0 l4 (i : Int) = l4.getD i 0 from by simp [rdOf], HD2.out i hlt]
      rw [d1] at hx1
      rw [d4] at hx4
      simp only [Int.toNat_natCast] at hx1 hf1 hx4 hf4
      clear hr1 hr4 d1 d4
      go_wp2
      go_roundw
      case measure => simp [intOf]; omega
      case rel => exact ⟨i + 1, by omega, by go_num, by first | rfl | trivial⟩
    · obtain rfl : i = n := by omega
      go_wp2
      go_ret
      exact ⟨rfl, HB5.out⟩
theorem walk (a : Int) (w : World) : Calls Try.prog 5 #[.int .i64 a] w fun e w' => e = .returned (.bool true) ∧ Below w.heap.size w w' := by
  by_cases h : 0 ≤ a ∧ a ≤ 1048576
  · obtain ⟨n, rfl⟩ := Int.eq_ofNat_of_zero_le h.1
    exact walk_ok n (by omega) w
  · exact walk_no a w (by omega)
end Go.Proofs.Ytjlbimnafbngaaa.Rands
