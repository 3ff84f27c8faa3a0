/- The law ScriptWindow answers true for every list that can be read and every two numbers. -/
import Derived.Test.YtjlbimnafbngaaaWindowPure
namespace Go.Proofs.Ytjlbimnafbngaaa.WindowLaw
open Go.RowKit Go.Proofs.YtjlbimnafbngaaaW.PrintWords Go.Proofs.YtjlbimnafbngaaaW.PrintLast Go.Proofs.Ytjlbimnafbngaaa.BitMath Go.Proofs.Ytjlbimnafbngaaa.PScriptFair Go.Proofs.Ytjlbimnafbngaaa.FairPure

theorem mod_calls (W : Nat) (hW : 0 < W) (hw : W ≤ 4611686018427387904) (x : Int) (w : World) : Calls Try.prog 41 #[.int .i64 x, .int .i64 (W : Int)] w fun e w' => e = .returned (.int .i64 ((who W x : Nat) : Int)) ∧ Below w.heap.size w w' :=
  (PScriptWindow.plunderlaw10_mod.calls x W _ w (lmod_f W hW hw x)).mono fun _ _ ⟨a, b⟩ => ⟨a, b.below⟩
theorem named_calls (A : Option Addr) (c : Nat) (l : List Int) (n W v i : Nat) (w : World) (hr : Kd.C (Kd.int .i64) w A l.length l) (hc : l.length ≤ c) (hn : l.length = n) (hn2 : n ≤ 400) (hW : 0 < W) (hW2 : W ≤ 64) (hi : i ≤ n) :
    Calls Try.prog 42 #[.slice A n c, .int .i64 (W : Int), .int .i64 (v : Int), .int .i64 (i : Int)] w fun e w' => e = .returned (.int .i64 ((i : Int) - cur W v (l.take i) - 1)) ∧ Below w.heap.size w w' := by
  subst hn
  exact (PScriptWindow.plunderlaw10_named.calls 402 A c l W v i _ w hr hc (named_f l W v i hW hW2 hn2 hi)).mono fun _ _ ⟨a, b⟩ => ⟨a, b.below⟩
theorem fair_calls (A : Option Addr) (c : Nat) (l : List Int) (n W k G : Nat) (w : World) (hr : Kd.C (Kd.int .i64) w A l.length l) (hc : l.length ≤ c) (hn : l.length = n) (hn2 : n ≤ 400) (hW : 0 < W) (hW2 : W ≤ 64) (hk : 0 < k) (hG : IsGap W l G) :
    Calls Try.prog 32 #[.slice A n c, .int .i64 (W : Int), .int .i64 (k : Int)] w fun e w' => e = .returned (.bool (decide (G < k))) ∧ Below w.heap.size w w' := by
  subst hn
  rw [← fair_gap hW hW2 hk hG]
  exact script_Fair.calls _ A c l W k _ w hr hc (scriptFair_f l W k (by omega) _ (Nat.lt_succ_self _))
theorem window_calls (A : Option Addr) (c : Nat) (l : List Int) (n W : Nat) (hc : l.length ≤ c) (hn : l.length = n) (hn2 : n ≤ 400) (hW : 0 < W) (hW2 : W ≤ 64) :
    ∃ G : Nat, IsGap W l G ∧ G ≤ n ∧ ∀ w : World, Kd.C (Kd.int .i64) w A l.length l → Calls Try.prog 33 #[.slice A n c, .int .i64 (W : Int)] w fun e w' => e = .returned (.int .i64 (if G < n then (G : Int) + 1 else 0)) ∧ Below w.heap.size w w' := by
  subst hn
  obtain ⟨G, hI, hle, hf⟩ := win_f l W hW hW2 hn2
  exact ⟨G, hI, hle, fun w hr => script_Window.calls _ A c l W _ w hr hc hf⟩

set_option maxHeartbeats 4000000 in
set_option maxRecDepth 100000 in
theorem walk (A0 : Option Addr) (c0 : Nat) (l0 : List Int) (a b : Int) (w : World) (hr : Kd.C (Kd.int .i64) w A0 l0.length l0) (hc0 : l0.length ≤ c0) (hl : (l0.length : Int) ≤ 9223372036854775807) (hcm : (c0 : Int) ≤ 9223372036854775807) :
    Calls Try.prog 10 #[.slice A0 l0.length c0, .int .i64 a, .int .i64 b] w fun e w' => e = .returned (.bool true) ∧ Below w.heap.size w w' := by
  have HL := Aside0.mk hl
  have HC0 := Aside0.mk hc0
  have hm0 := who_lt 64 (by omega) a
  have HA := Aside0.mk (mod_calls 64 (by omega) (by omega) a)
  generalize who 64 a = m at *
  have HM := Aside0.mk hm0
  clear hm0
  by_cases hbig : l0.length > 400
  · have HR := Aside0.mk (show Kd.C (Kd.int .i64) w A0 (l0.take 400).length (l0.take 400) from Kd.C_take (m := 400) hr (by omega))
    have HC := Aside0.mk (show (l0.take 400).length ≤ c0 by rw [List.length_take]; omega)
    have HN := Aside0.mk (show (l0.take 400).length = 400 by rw [List.length_take]; omega)
    have hd : decide (400 < (l0.length : Int)) = true := decide_eq_true (by omega)
    have hc4 : (400 : Int) ≤ (c0 : Int) := by omega
    clear hr hl hc0
    generalize l0.take 400 = l at *
    obtain ⟨n, hn⟩ : ∃ n : Nat, n = 400 := ⟨_, rfl⟩
    rw [← hn] at HN
    have HN2 := Aside0.mk (show n ≤ 400 by omega)

    clear hbig
    have e1 : wrap64 (1 + (m : Int)) = ((m + 1 : Nat) : Int) := by rw [wrap_id (by unfold In64; have := HM.out; omega)]; omega
    have HW := Aside0.mk (show 0 < m + 1 ∧ m + 1 ≤ 64 by have := HM.out; omega)
    generalize m + 1 = W at *
    have hW64 : (W : Int) ≤ 64 := by have := HW.out; omega
    clear HM
    obtain ⟨G, hI, hG, hcw⟩ := window_calls A0 c0 l n W HC.out HN.out HN2.out HW.out.1 HW.out.2
    have HI := Aside0.mk hI
    have HG := Aside0.mk hG
    have HQ := Aside0.mk hcw
    have HT := Aside0.mk (show l.take n = l from List.take_of_length_le (Nat.le_of_eq HN.out))
    clear hI hG hcw
    have en : wrap64 ((n : Int) + 1) = ((n + 1 : Nat) : Int) := by rw [wrap_id (by unfold In64; have := HN2.out; omega)]; omega
    have HK := Aside0.mk (mod_calls (n + 1) (by omega) (by have := HN2.out; omega) b)
    have hk0 := who_lt (n + 1) (by omega) b
    have ek : wrap64 (1 + ((who (n + 1) b : Nat) : Int)) = ((who (n + 1) b + 1 : Nat) : Int) := by rw [wrap_id (by unfold In64; have := HN2.out; omega)]; omega
    generalize who (n + 1) b = k0 at *
    obtain ⟨k, hk⟩ : ∃ k, k = k0 + 1 := ⟨_, rfl⟩
    rw [← hk] at ek
    have HK2 := Aside0.mk (show 0 < k ∧ k ≤ n + 1 by omega)
    clear hk hk0
    have hn64 : (n : Int) ≤ 400 := by have := HN2.out; omega
    by_cases hGn : G < n
    · skip
      have hq := HQ.out
      rw [if_pos hGn] at hq
      have HQ0 := Aside0.mk hq
      clear hq HQ
      by_cases hkn : n < k
      · have FK : decide (G < k) = true := decide_eq_true (by omega)
        go_enter Try.func10, Try.ntmps10
        go_wp2_with fail
        rw [← hn]
        clear hn
        go_wp2_with fail
        refine (HA.out _).mono ?_
        rintro e w1 ⟨rfl, hb⟩
        have HB := Aside0.mk hb
        clear hb HA
        have HQ1 := Aside0.mk (HQ0.out w1 (Kd.C_below HR.out HB.out))
        clear HQ0
        go_wp2_with (first | rw [e1] | fail)
        refine HQ1.out.mono ?_
        rintro e w2 ⟨rfl, hb⟩
        have HB2 := Aside0.mk (below_step HB.out hb)
        clear hb HB HQ1
        go_wp2_with (first | rw [en] | fail)
        refine (HK.out _).mono ?_
        rintro e w3 ⟨rfl, hb⟩
        have HB3 := Aside0.mk (below_step HB2.out hb)
        clear hb HB2 HK
        have HF := Aside0.mk (fair_calls A0 c0 l n W k G w3 (Kd.C_below HR.out HB3.out) HC.out HN.out HN2.out HW.out.1 HW.out.2 HK2.out.1 HI.out)
        have hf := HF.out
        rw [FK] at hf
        have HF1 := Aside0.mk hf
        clear hf HF
        go_wp2_with (first | rw [ek] | fail)
        refine HF1.out.mono ?_
        rintro e w4 ⟨rfl, hb⟩
        have HB4 := Aside0.mk (below_step HB3.out hb)
        clear hb HB3 HF1
        go_wp2
        go_loopw [10, 11] (fun v10 v11 w' => ∃ i : Nat, i ≤ W ∧ v10 = .int .i64 i ∧ Aside0 (∀ v, v < i → cur W v l < n) ∧ Aside0 (Below w.heap.size w w')) (fun i _ _ => W - (intOf i).toNat)
        case atStart => exact ⟨0, Nat.zero_le _, rfl, ⟨fun v hv => by omega⟩, HB4⟩
        case round =>
          clear HB4
          obtain ⟨i, hi, rfl, HS, HB4⟩ := hrel
          by_cases hlt : i < W
          · have HX := Aside0.mk (named_calls A0 c0 l n W i n _ (Kd.C_below HR.out HB4.out) HC.out HN.out HN2.out HW.out.1 HW.out.2 (Nat.le_refl _))
            have hx := HX.out
            rw [HT.out] at hx
            have HX1 := Aside0.mk hx
            clear hx HX
            have hcl := cur_le W i l
            rw [HN.out] at hcl
            by_cases hcz : cur W i l < n
            · have HS1 := Aside0.mk (show ∀ v, v < i + 1 → cur W v l < n by
                intro v hv
                by_cases e : v = i
                · rw [e]; exact hcz
                · exact HS.out v (by omega))
              generalize cur W i l = cc at *
              go_wp2_with fail
              refine HX1.out.mono ?_
              rintro e w5 ⟨rfl, hb⟩
              have HB5 := Aside0.mk (below_step HB4.out hb)
              clear hb HB4 HX1 HS
              have hd1 : decide ((n : Int) - (cc : Int) - 1 < 0) = false := decide_eq_false (by omega)
              go_wp2
              go_roundw
              case measure => simp [intOf]; omega
              case rel => exact ⟨i + 1, by omega, by go_num, HS1, HB5⟩
            · exact absurd (cur_gap HI.out i n hlt) (by rw [HT.out]; omega)
          · obtain rfl : i = W := by omega
            go_wp2
            go_loopw [12, 13] (fun v12 v13 w' => ∃ j : Nat, j ≤ i ∧ v12 = .int .i64 j ∧ Aside0 (Below w.heap.size w w')) (fun j _ _ => i - (intOf j).toNat)
            case atStart => exact ⟨0, Nat.zero_le _, rfl, HB4⟩
            case round =>
              clear HB4 HS
              obtain ⟨j, hj, rfl, HB4⟩ := hrel
              by_cases hlj : j < i
              · go_wp2
                go_loopw [13] (fun v13 w' => ∃ t : Nat, G + 1 ≤ t ∧ t ≤ n + 1 ∧ v13 = .int .i64 t ∧ Aside0 (Below w.heap.size w w')) (fun t _ => n + 1 - (intOf t).toNat)
                case atStart => exact ⟨G + 1, Nat.le_refl _, by omega, by first | rfl | simp, HB4⟩
                case round =>
                  clear HB4
                  obtain ⟨t, ht1, ht2, rfl, HB4⟩ := hrel
                  by_cases htn : t ≤ n
                  · have HX1 := Aside0.mk (named_calls A0 c0 l n i j t _ (Kd.C_below HR.out HB4.out) HC.out HN.out HN2.out HW.out.1 HW.out.2 htn)
                    have hcg := cur_gap HI.out j t hlj
                    have et : wrap64 ((t : Int) - ((G : Int) + 1)) = (t : Int) - ((G : Int) + 1) := wrap_id (by unfold In64; omega)
                    generalize cur i j (l.take t) = cc at *
                    have hd1 : decide ((t : Int) - (cc : Int) - 1 < (t : Int) - ((G : Int) + 1)) = false := decide_eq_false (by omega)
                    go_wp2_with fail
                    refine HX1.out.mono ?_
                    rintro e w5 ⟨rfl, hb⟩
                    have HB5 := Aside0.mk (below_step HB4.out hb)
                    clear hb HB4 HX1
                    go_wp2
                    go_roundw
                    case measure => simp [intOf]; omega
                    case rel => exact ⟨_, _, _, _, _, _, _, _, _, _, _, _, _, _, _, _, _, ⟨t + 1, by omega, by omega, by go_num, HB5⟩, rfl⟩
                  · go_wp2
                    go_roundw
                    case measure => simp [intOf]; omega
                    case rel => exact ⟨j + 1, by omega, by go_num, HB4⟩
              · go_wp2
                go_ret
                exact ⟨by simp, HB4.out⟩
      · by_cases hGk : G < k
        · have FK : decide (G < k) = true := decide_eq_true (by omega)
          have c3 : decide ((G : Int) + 1 ≤ (k : Int)) = true := decide_eq_true (by omega)
          have c2 : decide (0 < (G : Int) + 1) = true := decide_eq_true (by omega)
          go_enter Try.func10, Try.ntmps10
          go_wp2_with fail
          rw [← hn]
          clear hn
          go_wp2_with fail
          refine (HA.out _).mono ?_
          rintro e w1 ⟨rfl, hb⟩
          have HB := Aside0.mk hb
          clear hb HA
          have HQ1 := Aside0.mk (HQ0.out w1 (Kd.C_below HR.out HB.out))
          clear HQ0
          go_wp2_with (first | rw [e1] | fail)
          refine HQ1.out.mono ?_
          rintro e w2 ⟨rfl, hb⟩
          have HB2 := Aside0.mk (below_step HB.out hb)
          clear hb HB HQ1
          go_wp2_with (first | rw [en] | fail)
          refine (HK.out _).mono ?_
          rintro e w3 ⟨rfl, hb⟩
          have HB3 := Aside0.mk (below_step HB2.out hb)
          clear hb HB2 HK
          have HF := Aside0.mk (fair_calls A0 c0 l n W k G w3 (Kd.C_below HR.out HB3.out) HC.out HN.out HN2.out HW.out.1 HW.out.2 HK2.out.1 HI.out)
          have hf := HF.out
          rw [FK] at hf
          have HF1 := Aside0.mk hf
          clear hf HF
          go_wp2_with (first | rw [ek] | fail)
          refine HF1.out.mono ?_
          rintro e w4 ⟨rfl, hb⟩
          have HB4 := Aside0.mk (below_step HB3.out hb)
          clear hb HB3 HF1
          go_wp2
          go_loopw [10, 11] (fun v10 v11 w' => ∃ i : Nat, i ≤ W ∧ v10 = .int .i64 i ∧ Aside0 (∀ v, v < i → cur W v l < n) ∧ Aside0 (Below w.heap.size w w')) (fun i _ _ => W - (intOf i).toNat)
          case atStart => exact ⟨0, Nat.zero_le _, rfl, ⟨fun v hv => by omega⟩, HB4⟩
          case round =>
            clear HB4
            obtain ⟨i, hi, rfl, HS, HB4⟩ := hrel
            by_cases hlt : i < W
            · have HX := Aside0.mk (named_calls A0 c0 l n W i n _ (Kd.C_below HR.out HB4.out) HC.out HN.out HN2.out HW.out.1 HW.out.2 (Nat.le_refl _))
              have hx := HX.out
              rw [HT.out] at hx
              have HX1 := Aside0.mk hx
              clear hx HX
              have hcl := cur_le W i l
              rw [HN.out] at hcl
              by_cases hcz : cur W i l < n
              · have HS1 := Aside0.mk (show ∀ v, v < i + 1 → cur W v l < n by
                  intro v hv
                  by_cases e : v = i
                  · rw [e]; exact hcz
                  · exact HS.out v (by omega))
                generalize cur W i l = cc at *
                go_wp2_with fail
                refine HX1.out.mono ?_
                rintro e w5 ⟨rfl, hb⟩
                have HB5 := Aside0.mk (below_step HB4.out hb)
                clear hb HB4 HX1 HS
                have hd1 : decide ((n : Int) - (cc : Int) - 1 < 0) = false := decide_eq_false (by omega)
                go_wp2
                go_roundw
                case measure => simp [intOf]; omega
                case rel => exact ⟨i + 1, by omega, by go_num, HS1, HB5⟩
              · exact absurd (cur_gap HI.out i n hlt) (by rw [HT.out]; omega)
            · obtain rfl : i = W := by omega
              go_wp2
              go_loopw [12, 13] (fun v12 v13 w' => ∃ j : Nat, j ≤ i ∧ v12 = .int .i64 j ∧ Aside0 (Below w.heap.size w w')) (fun j _ _ => i - (intOf j).toNat)
              case atStart => exact ⟨0, Nat.zero_le _, rfl, HB4⟩
              case round =>
                clear HB4 HS
                obtain ⟨j, hj, rfl, HB4⟩ := hrel
                by_cases hlj : j < i
                · go_wp2
                  go_loopw [13] (fun v13 w' => ∃ t : Nat, G + 1 ≤ t ∧ t ≤ n + 1 ∧ v13 = .int .i64 t ∧ Aside0 (Below w.heap.size w w')) (fun t _ => n + 1 - (intOf t).toNat)
                  case atStart => exact ⟨G + 1, Nat.le_refl _, by omega, by first | rfl | simp, HB4⟩
                  case round =>
                    clear HB4
                    obtain ⟨t, ht1, ht2, rfl, HB4⟩ := hrel
                    by_cases htn : t ≤ n
                    · have HX1 := Aside0.mk (named_calls A0 c0 l n i j t _ (Kd.C_below HR.out HB4.out) HC.out HN.out HN2.out HW.out.1 HW.out.2 htn)
                      have hcg := cur_gap HI.out j t hlj
                      have et : wrap64 ((t : Int) - ((G : Int) + 1)) = (t : Int) - ((G : Int) + 1) := wrap_id (by unfold In64; omega)
                      generalize cur i j (l.take t) = cc at *
                      have hd1 : decide ((t : Int) - (cc : Int) - 1 < (t : Int) - ((G : Int) + 1)) = false := decide_eq_false (by omega)
                      go_wp2_with fail
                      refine HX1.out.mono ?_
                      rintro e w5 ⟨rfl, hb⟩
                      have HB5 := Aside0.mk (below_step HB4.out hb)
                      clear hb HB4 HX1
                      go_wp2
                      go_roundw
                      case measure => simp [intOf]; omega
                      case rel => exact ⟨_, _, _, _, _, _, _, _, _, _, _, _, _, _, _, _, _, ⟨t + 1, by omega, by omega, by go_num, HB5⟩, rfl⟩
                    · go_wp2
                      go_roundw
                      case measure => simp [intOf]; omega
                      case rel => exact ⟨j + 1, by omega, by go_num, HB4⟩
                · go_wp2
                  go_ret
                  exact ⟨by simp, HB4.out⟩
        · have FK : decide (G < k) = false := decide_eq_false (by omega)
          have c3 : decide ((G : Int) + 1 ≤ (k : Int)) = false := decide_eq_false (by omega)
          have c2 : decide (0 < (G : Int) + 1) = true := decide_eq_true (by omega)
          go_enter Try.func10, Try.ntmps10
          go_wp2_with fail
          rw [← hn]
          clear hn
          go_wp2_with fail
          refine (HA.out _).mono ?_
          rintro e w1 ⟨rfl, hb⟩
          have HB := Aside0.mk hb
          clear hb HA
          have HQ1 := Aside0.mk (HQ0.out w1 (Kd.C_below HR.out HB.out))
          clear HQ0
          go_wp2_with (first | rw [e1] | fail)
          refine HQ1.out.mono ?_
          rintro e w2 ⟨rfl, hb⟩
          have HB2 := Aside0.mk (below_step HB.out hb)
          clear hb HB HQ1
          go_wp2_with (first | rw [en] | fail)
          refine (HK.out _).mono ?_
          rintro e w3 ⟨rfl, hb⟩
          have HB3 := Aside0.mk (below_step HB2.out hb)
          clear hb HB2 HK
          have HF := Aside0.mk (fair_calls A0 c0 l n W k G w3 (Kd.C_below HR.out HB3.out) HC.out HN.out HN2.out HW.out.1 HW.out.2 HK2.out.1 HI.out)
          have hf := HF.out
          rw [FK] at hf
          have HF1 := Aside0.mk hf
          clear hf HF
          go_wp2_with (first | rw [ek] | fail)
          refine HF1.out.mono ?_
          rintro e w4 ⟨rfl, hb⟩
          have HB4 := Aside0.mk (below_step HB3.out hb)
          clear hb HB3 HF1
          go_wp2
          go_loopw [10, 11] (fun v10 v11 w' => ∃ i : Nat, i ≤ W ∧ v10 = .int .i64 i ∧ Aside0 (∀ v, v < i → cur W v l < n) ∧ Aside0 (Below w.heap.size w w')) (fun i _ _ => W - (intOf i).toNat)
          case atStart => exact ⟨0, Nat.zero_le _, rfl, ⟨fun v hv => by omega⟩, HB4⟩
          case round =>
            clear HB4
            obtain ⟨i, hi, rfl, HS, HB4⟩ := hrel
            by_cases hlt : i < W
            · have HX := Aside0.mk (named_calls A0 c0 l n W i n _ (Kd.C_below HR.out HB4.out) HC.out HN.out HN2.out HW.out.1 HW.out.2 (Nat.le_refl _))
              have hx := HX.out
              rw [HT.out] at hx
              have HX1 := Aside0.mk hx
              clear hx HX
              have hcl := cur_le W i l
              rw [HN.out] at hcl
              by_cases hcz : cur W i l < n
              · have HS1 := Aside0.mk (show ∀ v, v < i + 1 → cur W v l < n by
                  intro v hv
                  by_cases e : v = i
                  · rw [e]; exact hcz
                  · exact HS.out v (by omega))
                generalize cur W i l = cc at *
                go_wp2_with fail
                refine HX1.out.mono ?_
                rintro e w5 ⟨rfl, hb⟩
                have HB5 := Aside0.mk (below_step HB4.out hb)
                clear hb HB4 HX1 HS
                have hd1 : decide ((n : Int) - (cc : Int) - 1 < 0) = false := decide_eq_false (by omega)
                go_wp2
                go_roundw
                case measure => simp [intOf]; omega
                case rel => exact ⟨i + 1, by omega, by go_num, HS1, HB5⟩
              · exact absurd (cur_gap HI.out i n hlt) (by rw [HT.out]; omega)
            · obtain rfl : i = W := by omega
              go_wp2
              go_loopw [12, 13] (fun v12 v13 w' => ∃ j : Nat, j ≤ i ∧ v12 = .int .i64 j ∧ Aside0 (Below w.heap.size w w')) (fun j _ _ => i - (intOf j).toNat)
              case atStart => exact ⟨0, Nat.zero_le _, rfl, HB4⟩
              case round =>
                clear HB4 HS
                obtain ⟨j, hj, rfl, HB4⟩ := hrel
                by_cases hlj : j < i
                · go_wp2
                  go_loopw [13] (fun v13 w' => ∃ t : Nat, G + 1 ≤ t ∧ t ≤ n + 1 ∧ v13 = .int .i64 t ∧ Aside0 (Below w.heap.size w w')) (fun t _ => n + 1 - (intOf t).toNat)
                  case atStart => exact ⟨G + 1, Nat.le_refl _, by omega, by first | rfl | simp, HB4⟩
                  case round =>
                    clear HB4
                    obtain ⟨t, ht1, ht2, rfl, HB4⟩ := hrel
                    by_cases htn : t ≤ n
                    · have HX1 := Aside0.mk (named_calls A0 c0 l n i j t _ (Kd.C_below HR.out HB4.out) HC.out HN.out HN2.out HW.out.1 HW.out.2 htn)
                      have hcg := cur_gap HI.out j t hlj
                      have et : wrap64 ((t : Int) - ((G : Int) + 1)) = (t : Int) - ((G : Int) + 1) := wrap_id (by unfold In64; omega)
                      generalize cur i j (l.take t) = cc at *
                      have hd1 : decide ((t : Int) - (cc : Int) - 1 < (t : Int) - ((G : Int) + 1)) = false := decide_eq_false (by omega)
                      go_wp2_with fail
                      refine HX1.out.mono ?_
                      rintro e w5 ⟨rfl, hb⟩
                      have HB5 := Aside0.mk (below_step HB4.out hb)
                      clear hb HB4 HX1
                      go_wp2
                      go_roundw
                      case measure => simp [intOf]; omega
                      case rel => exact ⟨_, _, _, _, _, _, _, _, _, _, _, _, _, _, _, _, _, ⟨t + 1, by omega, by omega, by go_num, HB5⟩, rfl⟩
                    · go_wp2
                      go_roundw
                      case measure => simp [intOf]; omega
                      case rel => exact ⟨j + 1, by omega, by go_num, HB4⟩
                · go_wp2
                  go_ret
                  exact ⟨by simp, HB4.out⟩
    · skip
      have hq := HQ.out
      rw [if_neg hGn] at hq
      have HQ0 := Aside0.mk hq
      clear hq HQ
      by_cases hkn : n < k
      · have FK : decide (G < k) = true := decide_eq_true (by have := HG.out; omega)
        go_enter Try.func10, Try.ntmps10
        go_wp2_with fail
        rw [← hn]
        clear hn
        go_wp2_with fail
        refine (HA.out _).mono ?_
        rintro e w1 ⟨rfl, hb⟩
        have HB := Aside0.mk hb
        clear hb HA
        have HQ1 := Aside0.mk (HQ0.out w1 (Kd.C_below HR.out HB.out))
        clear HQ0
        go_wp2_with (first | rw [e1] | fail)
        refine HQ1.out.mono ?_
        rintro e w2 ⟨rfl, hb⟩
        have HB2 := Aside0.mk (below_step HB.out hb)
        clear hb HB HQ1
        go_wp2_with (first | rw [en] | fail)
        refine (HK.out _).mono ?_
        rintro e w3 ⟨rfl, hb⟩
        have HB3 := Aside0.mk (below_step HB2.out hb)
        clear hb HB2 HK
        have HF := Aside0.mk (fair_calls A0 c0 l n W k G w3 (Kd.C_below HR.out HB3.out) HC.out HN.out HN2.out HW.out.1 HW.out.2 HK2.out.1 HI.out)
        have hf := HF.out
        rw [FK] at hf
        have HF1 := Aside0.mk hf
        clear hf HF
        go_wp2_with (first | rw [ek] | fail)
        refine HF1.out.mono ?_
        rintro e w4 ⟨rfl, hb⟩
        have HB4 := Aside0.mk (below_step HB3.out hb)
        clear hb HB3 HF1
        go_wp2
        go_loopw [10, 11] (fun v10 v11 w' => ∃ i : Nat, i ≤ W ∧ v10 = .int .i64 i ∧ Aside0 (∀ v, v < i → cur W v l < n) ∧ Aside0 (Below w.heap.size w w')) (fun i _ _ => W - (intOf i).toNat)
        case atStart => exact ⟨0, Nat.zero_le _, rfl, ⟨fun v hv => by omega⟩, HB4⟩
        case round =>
          clear HB4
          obtain ⟨i, hi, rfl, HS, HB4⟩ := hrel
          by_cases hlt : i < W
          · have HX := Aside0.mk (named_calls A0 c0 l n W i n _ (Kd.C_below HR.out HB4.out) HC.out HN.out HN2.out HW.out.1 HW.out.2 (Nat.le_refl _))
            have hx := HX.out
            rw [HT.out] at hx
            have HX1 := Aside0.mk hx
            clear hx HX
            have hcl := cur_le W i l
            rw [HN.out] at hcl
            by_cases hcz : cur W i l < n
            · have HS1 := Aside0.mk (show ∀ v, v < i + 1 → cur W v l < n by
                intro v hv
                by_cases e : v = i
                · rw [e]; exact hcz
                · exact HS.out v (by omega))
              generalize cur W i l = cc at *
              go_wp2_with fail
              refine HX1.out.mono ?_
              rintro e w5 ⟨rfl, hb⟩
              have HB5 := Aside0.mk (below_step HB4.out hb)
              clear hb HB4 HX1 HS
              have hd1 : decide ((n : Int) - (cc : Int) - 1 < 0) = false := decide_eq_false (by omega)
              go_wp2
              go_roundw
              case measure => simp [intOf]; omega
              case rel => exact ⟨i + 1, by omega, by go_num, HS1, HB5⟩
            · generalize cur W i l = cc at *
              go_wp2_with fail
              refine HX1.out.mono ?_
              rintro e w5 ⟨rfl, hb⟩
              have HB5 := Aside0.mk (below_step HB4.out hb)
              clear hb HB4 HX1 HS
              have hd1 : decide ((n : Int) - (cc : Int) - 1 < 0) = true := decide_eq_true (by omega)
              go_wp2
              go_ret
              exact ⟨by simp, HB5.out⟩
          · obtain rfl : i = W := by omega
            obtain ⟨v, hv, hcv⟩ := gap_all HI.out (by have := HG.out; have := HN.out; omega) HW.out.1
            exact absurd (HS.out v hv) (by rw [hcv, HN.out]; omega)
      · have FK : decide (G < k) = false := decide_eq_false (by have := HG.out; omega)
        go_enter Try.func10, Try.ntmps10
        go_wp2_with fail
        rw [← hn]
        clear hn
        go_wp2_with fail
        refine (HA.out _).mono ?_
        rintro e w1 ⟨rfl, hb⟩
        have HB := Aside0.mk hb
        clear hb HA
        have HQ1 := Aside0.mk (HQ0.out w1 (Kd.C_below HR.out HB.out))
        clear HQ0
        go_wp2_with (first | rw [e1] | fail)
        refine HQ1.out.mono ?_
        rintro e w2 ⟨rfl, hb⟩
        have HB2 := Aside0.mk (below_step HB.out hb)
        clear hb HB HQ1
        go_wp2_with (first | rw [en] | fail)
        refine (HK.out _).mono ?_
        rintro e w3 ⟨rfl, hb⟩
        have HB3 := Aside0.mk (below_step HB2.out hb)
        clear hb HB2 HK
        have HF := Aside0.mk (fair_calls A0 c0 l n W k G w3 (Kd.C_below HR.out HB3.out) HC.out HN.out HN2.out HW.out.1 HW.out.2 HK2.out.1 HI.out)
        have hf := HF.out
        rw [FK] at hf
        have HF1 := Aside0.mk hf
        clear hf HF
        go_wp2_with (first | rw [ek] | fail)
        refine HF1.out.mono ?_
        rintro e w4 ⟨rfl, hb⟩
        have HB4 := Aside0.mk (below_step HB3.out hb)
        clear hb HB3 HF1
        go_wp2
        go_loopw [10, 11] (fun v10 v11 w' => ∃ i : Nat, i ≤ W ∧ v10 = .int .i64 i ∧ Aside0 (∀ v, v < i → cur W v l < n) ∧ Aside0 (Below w.heap.size w w')) (fun i _ _ => W - (intOf i).toNat)
        case atStart => exact ⟨0, Nat.zero_le _, rfl, ⟨fun v hv => by omega⟩, HB4⟩
        case round =>
          clear HB4
          obtain ⟨i, hi, rfl, HS, HB4⟩ := hrel
          by_cases hlt : i < W
          · have HX := Aside0.mk (named_calls A0 c0 l n W i n _ (Kd.C_below HR.out HB4.out) HC.out HN.out HN2.out HW.out.1 HW.out.2 (Nat.le_refl _))
            have hx := HX.out
            rw [HT.out] at hx
            have HX1 := Aside0.mk hx
            clear hx HX
            have hcl := cur_le W i l
            rw [HN.out] at hcl
            by_cases hcz : cur W i l < n
            · have HS1 := Aside0.mk (show ∀ v, v < i + 1 → cur W v l < n by
                intro v hv
                by_cases e : v = i
                · rw [e]; exact hcz
                · exact HS.out v (by omega))
              generalize cur W i l = cc at *
              go_wp2_with fail
              refine HX1.out.mono ?_
              rintro e w5 ⟨rfl, hb⟩
              have HB5 := Aside0.mk (below_step HB4.out hb)
              clear hb HB4 HX1 HS
              have hd1 : decide ((n : Int) - (cc : Int) - 1 < 0) = false := decide_eq_false (by omega)
              go_wp2
              go_roundw
              case measure => simp [intOf]; omega
              case rel => exact ⟨i + 1, by omega, by go_num, HS1, HB5⟩
            · generalize cur W i l = cc at *
              go_wp2_with fail
              refine HX1.out.mono ?_
              rintro e w5 ⟨rfl, hb⟩
              have HB5 := Aside0.mk (below_step HB4.out hb)
              clear hb HB4 HX1 HS
              have hd1 : decide ((n : Int) - (cc : Int) - 1 < 0) = true := decide_eq_true (by omega)
              go_wp2
              go_ret
              exact ⟨by simp, HB5.out⟩
          · obtain rfl : i = W := by omega
            obtain ⟨v, hv, hcv⟩ := gap_all HI.out (by have := HG.out; have := HN.out; omega) HW.out.1
            exact absurd (HS.out v hv) (by rw [hcv, HN.out]; omega)
  · have HR := Aside0.mk hr
    have HC := Aside0.mk hc0
    have hd : decide (400 < (l0.length : Int)) = false := decide_eq_false (by omega)
    have HN2 := Aside0.mk (show l0.length ≤ 400 by omega)
    clear hl hc0 hr
    obtain ⟨n, hn⟩ : ∃ n : Nat, n = l0.length := ⟨_, rfl⟩
    have HN := Aside0.mk hn.symm
    rw [← hn]
    rw [← hn] at HN2 hd HL
    clear hn
    generalize l0 = l at *

    clear hbig
    have e1 : wrap64 (1 + (m : Int)) = ((m + 1 : Nat) : Int) := by rw [wrap_id (by unfold In64; have := HM.out; omega)]; omega
    have HW := Aside0.mk (show 0 < m + 1 ∧ m + 1 ≤ 64 by have := HM.out; omega)
    generalize m + 1 = W at *
    have hW64 : (W : Int) ≤ 64 := by have := HW.out; omega
    clear HM
    obtain ⟨G, hI, hG, hcw⟩ := window_calls A0 c0 l n W HC.out HN.out HN2.out HW.out.1 HW.out.2
    have HI := Aside0.mk hI
    have HG := Aside0.mk hG
    have HQ := Aside0.mk hcw
    have HT := Aside0.mk (show l.take n = l from List.take_of_length_le (Nat.le_of_eq HN.out))
    clear hI hG hcw
    have en : wrap64 ((n : Int) + 1) = ((n + 1 : Nat) : Int) := by rw [wrap_id (by unfold In64; have := HN2.out; omega)]; omega
    have HK := Aside0.mk (mod_calls (n + 1) (by omega) (by have := HN2.out; omega) b)
    have hk0 := who_lt (n + 1) (by omega) b
    have ek : wrap64 (1 + ((who (n + 1) b : Nat) : Int)) = ((who (n + 1) b + 1 : Nat) : Int) := by rw [wrap_id (by unfold In64; have := HN2.out; omega)]; omega
    generalize who (n + 1) b = k0 at *
    obtain ⟨k, hk⟩ : ∃ k, k = k0 + 1 := ⟨_, rfl⟩
    rw [← hk] at ek
    have HK2 := Aside0.mk (show 0 < k ∧ k ≤ n + 1 by omega)
    clear hk hk0
    have hn64 : (n : Int) ≤ 400 := by have := HN2.out; omega
    by_cases hGn : G < n
    · skip
      have hq := HQ.out
      rw [if_pos hGn] at hq
      have HQ0 := Aside0.mk hq
      clear hq HQ
      by_cases hkn : n < k
      · have FK : decide (G < k) = true := decide_eq_true (by omega)
        go_enter Try.func10, Try.ntmps10
        skip
        go_wp2_with fail
        refine (HA.out _).mono ?_
        rintro e w1 ⟨rfl, hb⟩
        have HB := Aside0.mk hb
        clear hb HA
        have HQ1 := Aside0.mk (HQ0.out w1 (Kd.C_below HR.out HB.out))
        clear HQ0
        go_wp2_with (first | rw [e1] | fail)
        refine HQ1.out.mono ?_
        rintro e w2 ⟨rfl, hb⟩
        have HB2 := Aside0.mk (below_step HB.out hb)
        clear hb HB HQ1
        go_wp2_with (first | rw [en] | fail)
        refine (HK.out _).mono ?_
        rintro e w3 ⟨rfl, hb⟩
        have HB3 := Aside0.mk (below_step HB2.out hb)
        clear hb HB2 HK
        have HF := Aside0.mk (fair_calls A0 c0 l n W k G w3 (Kd.C_below HR.out HB3.out) HC.out HN.out HN2.out HW.out.1 HW.out.2 HK2.out.1 HI.out)
        have hf := HF.out
        rw [FK] at hf
        have HF1 := Aside0.mk hf
        clear hf HF
        go_wp2_with (first | rw [ek] | fail)
        refine HF1.out.mono ?_
        rintro e w4 ⟨rfl, hb⟩
        have HB4 := Aside0.mk (below_step HB3.out hb)
        clear hb HB3 HF1
        go_wp2
        go_loopw [10, 11] (fun v10 v11 w' => ∃ i : Nat, i ≤ W ∧ v10 = .int .i64 i ∧ Aside0 (∀ v, v < i → cur W v l < n) ∧ Aside0 (Below w.heap.size w w')) (fun i _ _ => W - (intOf i).toNat)
        case atStart => exact ⟨0, Nat.zero_le _, rfl, ⟨fun v hv => by omega⟩, HB4⟩
        case round =>
          clear HB4
          obtain ⟨i, hi, rfl, HS, HB4⟩ := hrel
          by_cases hlt : i < W
          · have HX := Aside0.mk (named_calls A0 c0 l n W i n _ (Kd.C_below HR.out HB4.out) HC.out HN.out HN2.out HW.out.1 HW.out.2 (Nat.le_refl _))
            have hx := HX.out
            rw [HT.out] at hx
            have HX1 := Aside0.mk hx
            clear hx HX
            have hcl := cur_le W i l
            rw [HN.out] at hcl
            by_cases hcz : cur W i l < n
            · have HS1 := Aside0.mk (show ∀ v, v < i + 1 → cur W v l < n by
                intro v hv
                by_cases e : v = i
                · rw [e]; exact hcz
                · exact HS.out v (by omega))
              generalize cur W i l = cc at *
              go_wp2_with fail
              refine HX1.out.mono ?_
              rintro e w5 ⟨rfl, hb⟩
              have HB5 := Aside0.mk (below_step HB4.out hb)
              clear hb HB4 HX1 HS
              have hd1 : decide ((n : Int) - (cc : Int) - 1 < 0) = false := decide_eq_false (by omega)
              go_wp2
              go_roundw
              case measure => simp [intOf]; omega
              case rel => exact ⟨i + 1, by omega, by go_num, HS1, HB5⟩
            · exact absurd (cur_gap HI.out i n hlt) (by rw [HT.out]; omega)
          · obtain rfl : i = W := by omega
            go_wp2
            go_loopw [12, 13] (fun v12 v13 w' => ∃ j : Nat, j ≤ i ∧ v12 = .int .i64 j ∧ Aside0 (Below w.heap.size w w')) (fun j _ _ => i - (intOf j).toNat)
            case atStart => exact ⟨0, Nat.zero_le _, rfl, HB4⟩
            case round =>
              clear HB4 HS
              obtain ⟨j, hj, rfl, HB4⟩ := hrel
              by_cases hlj : j < i
              · go_wp2
                go_loopw [13] (fun v13 w' => ∃ t : Nat, G + 1 ≤ t ∧ t ≤ n + 1 ∧ v13 = .int .i64 t ∧ Aside0 (Below w.heap.size w w')) (fun t _ => n + 1 - (intOf t).toNat)
                case atStart => exact ⟨G + 1, Nat.le_refl _, by omega, by first | rfl | simp, HB4⟩
                case round =>
                  clear HB4
                  obtain ⟨t, ht1, ht2, rfl, HB4⟩ := hrel
                  by_cases htn : t ≤ n
                  · have HX1 := Aside0.mk (named_calls A0 c0 l n i j t _ (Kd.C_below HR.out HB4.out) HC.out HN.out HN2.out HW.out.1 HW.out.2 htn)
                    have hcg := cur_gap HI.out j t hlj
                    have et : wrap64 ((t : Int) - ((G : Int) + 1)) = (t : Int) - ((G : Int) + 1) := wrap_id (by unfold In64; omega)
                    generalize cur i j (l.take t) = cc at *
                    have hd1 : decide ((t : Int) - (cc : Int) - 1 < (t : Int) - ((G : Int) + 1)) = false := decide_eq_false (by omega)
                    go_wp2_with fail
                    refine HX1.out.mono ?_
                    rintro e w5 ⟨rfl, hb⟩
                    have HB5 := Aside0.mk (below_step HB4.out hb)
                    clear hb HB4 HX1
                    go_wp2
                    go_roundw
                    case measure => simp [intOf]; omega
                    case rel => exact ⟨_, _, _, _, _, _, _, _, _, _, _, _, _, _, _, _, _, ⟨t + 1, by omega, by omega, by go_num, HB5⟩, rfl⟩
                  · go_wp2
                    go_roundw
                    case measure => simp [intOf]; omega
                    case rel => exact ⟨j + 1, by omega, by go_num, HB4⟩
              · go_wp2
                go_ret
                exact ⟨by simp, HB4.out⟩
      · by_cases hGk : G < k
        · have FK : decide (G < k) = true := decide_eq_true (by omega)
          have c3 : decide ((G : Int) + 1 ≤ (k : Int)) = true := decide_eq_true (by omega)
          have c2 : decide (0 < (G : Int) + 1) = true := decide_eq_true (by omega)
          go_enter Try.func10, Try.ntmps10
          skip
          go_wp2_with fail
          refine (HA.out _).mono ?_
          rintro e w1 ⟨rfl, hb⟩
          have HB := Aside0.mk hb
          clear hb HA
          have HQ1 := Aside0.mk (HQ0.out w1 (Kd.C_below HR.out HB.out))
          clear HQ0
          go_wp2_with (first | rw [e1] | fail)
          refine HQ1.out.mono ?_
          rintro e w2 ⟨rfl, hb⟩
          have HB2 := Aside0.mk (below_step HB.out hb)
          clear hb HB HQ1
          go_wp2_with (first | rw [en] | fail)
          refine (HK.out _).mono ?_
          rintro e w3 ⟨rfl, hb⟩
          have HB3 := Aside0.mk (below_step HB2.out hb)
          clear hb HB2 HK
          have HF := Aside0.mk (fair_calls A0 c0 l n W k G w3 (Kd.C_below HR.out HB3.out) HC.out HN.out HN2.out HW.out.1 HW.out.2 HK2.out.1 HI.out)
          have hf := HF.out
          rw [FK] at hf
          have HF1 := Aside0.mk hf
          clear hf HF
          go_wp2_with (first | rw [ek] | fail)
          refine HF1.out.mono ?_
          rintro e w4 ⟨rfl, hb⟩
          have HB4 := Aside0.mk (below_step HB3.out hb)
          clear hb HB3 HF1
          go_wp2
          go_loopw [10, 11] (fun v10 v11 w' => ∃ i : Nat, i ≤ W ∧ v10 = .int .i64 i ∧ Aside0 (∀ v, v < i → cur W v l < n) ∧ Aside0 (Below w.heap.size w w')) (fun i _ _ => W - (intOf i).toNat)
          case atStart => exact ⟨0, Nat.zero_le _, rfl, ⟨fun v hv => by omega⟩, HB4⟩
          case round =>
            clear HB4
            obtain ⟨i, hi, rfl, HS, HB4⟩ := hrel
            by_cases hlt : i < W
            · have HX := Aside0.mk (named_calls A0 c0 l n W i n _ (Kd.C_below HR.out HB4.out) HC.out HN.out HN2.out HW.out.1 HW.out.2 (Nat.le_refl _))
              have hx := HX.out
              rw [HT.out] at hx
              have HX1 := Aside0.mk hx
              clear hx HX
              have hcl := cur_le W i l
              rw [HN.out] at hcl
              by_cases hcz : cur W i l < n
              · have HS1 := Aside0.mk (show ∀ v, v < i + 1 → cur W v l < n by
                  intro v hv
                  by_cases e : v = i
                  · rw [e]; exact hcz
                  · exact HS.out v (by omega))
                generalize cur W i l = cc at *
                go_wp2_with fail
                refine HX1.out.mono ?_
                rintro e w5 ⟨rfl, hb⟩
                have HB5 := Aside0.mk (below_step HB4.out hb)
                clear hb HB4 HX1 HS
                have hd1 : decide ((n : Int) - (cc : Int) - 1 < 0) = false := decide_eq_false (by omega)
                go_wp2
                go_roundw
                case measure => simp [intOf]; omega
                case rel => exact ⟨i + 1, by omega, by go_num, HS1, HB5⟩
              · exact absurd (cur_gap HI.out i n hlt) (by rw [HT.out]; omega)
            · obtain rfl : i = W := by omega
              go_wp2
              go_loopw [12, 13] (fun v12 v13 w' => ∃ j : Nat, j ≤ i ∧ v12 = .int .i64 j ∧ Aside0 (Below w.heap.size w w')) (fun j _ _ => i - (intOf j).toNat)
              case atStart => exact ⟨0, Nat.zero_le _, rfl, HB4⟩
              case round =>
                clear HB4 HS
                obtain ⟨j, hj, rfl, HB4⟩ := hrel
                by_cases hlj : j < i
                · go_wp2
                  go_loopw [13] (fun v13 w' => ∃ t : Nat, G + 1 ≤ t ∧ t ≤ n + 1 ∧ v13 = .int .i64 t ∧ Aside0 (Below w.heap.size w w')) (fun t _ => n + 1 - (intOf t).toNat)
                  case atStart => exact ⟨G + 1, Nat.le_refl _, by omega, by first | rfl | simp, HB4⟩
                  case round =>
                    clear HB4
                    obtain ⟨t, ht1, ht2, rfl, HB4⟩ := hrel
                    by_cases htn : t ≤ n
                    · have HX1 := Aside0.mk (named_calls A0 c0 l n i j t _ (Kd.C_below HR.out HB4.out) HC.out HN.out HN2.out HW.out.1 HW.out.2 htn)
                      have hcg := cur_gap HI.out j t hlj
                      have et : wrap64 ((t : Int) - ((G : Int) + 1)) = (t : Int) - ((G : Int) + 1) := wrap_id (by unfold In64; omega)
                      generalize cur i j (l.take t) = cc at *
                      have hd1 : decide ((t : Int) - (cc : Int) - 1 < (t : Int) - ((G : Int) + 1)) = false := decide_eq_false (by omega)
                      go_wp2_with fail
                      refine HX1.out.mono ?_
                      rintro e w5 ⟨rfl, hb⟩
                      have HB5 := Aside0.mk (below_step HB4.out hb)
                      clear hb HB4 HX1
                      go_wp2
                      go_roundw
                      case measure => simp [intOf]; omega
                      case rel => exact ⟨_, _, _, _, _, _, _, _, _, _, _, _, _, _, _, _, _, ⟨t + 1, by omega, by omega, by go_num, HB5⟩, rfl⟩
                    · go_wp2
                      go_roundw
                      case measure => simp [intOf]; omega
                      case rel => exact ⟨j + 1, by omega, by go_num, HB4⟩
                · go_wp2
                  go_ret
                  exact ⟨by simp, HB4.out⟩
        · have FK : decide (G < k) = false := decide_eq_false (by omega)
          have c3 : decide ((G : Int) + 1 ≤ (k : Int)) = false := decide_eq_false (by omega)
          have c2 : decide (0 < (G : Int) + 1) = true := decide_eq_true (by omega)
          go_enter Try.func10, Try.ntmps10
          skip
          go_wp2_with fail
          refine (HA.out _).mono ?_
          rintro e w1 ⟨rfl, hb⟩
          have HB := Aside0.mk hb
          clear hb HA
          have HQ1 := Aside0.mk (HQ0.out w1 (Kd.C_below HR.out HB.out))
          clear HQ0
          go_wp2_with (first | rw [e1] | fail)
          refine HQ1.out.mono ?_
          rintro e w2 ⟨rfl, hb⟩
          have HB2 := Aside0.mk (below_step HB.out hb)
          clear hb HB HQ1
          go_wp2_with (first | rw [en] | fail)
          refine (HK.out _).mono ?_
          rintro e w3 ⟨rfl, hb⟩
          have HB3 := Aside0.mk (below_step HB2.out hb)
          clear hb HB2 HK
          have HF := Aside0.mk (fair_calls A0 c0 l n W k G w3 (Kd.C_below HR.out HB3.out) HC.out HN.out HN2.out HW.out.1 HW.out.2 HK2.out.1 HI.out)
          have hf := HF.out
          rw [FK] at hf
          have HF1 := Aside0.mk hf
          clear hf HF
          go_wp2_with (first | rw [ek] | fail)
          refine HF1.out.mono ?_
          rintro e w4 ⟨rfl, hb⟩
          have HB4 := Aside0.mk (below_step HB3.out hb)
          clear hb HB3 HF1
          go_wp2
          go_loopw [10, 11] (fun v10 v11 w' => ∃ i : Nat, i ≤ W ∧ v10 = .int .i64 i ∧ Aside0 (∀ v, v < i → cur W v l < n) ∧ Aside0 (Below w.heap.size w w')) (fun i _ _ => W - (intOf i).toNat)
          case atStart => exact ⟨0, Nat.zero_le _, rfl, ⟨fun v hv => by omega⟩, HB4⟩
          case round =>
            clear HB4
            obtain ⟨i, hi, rfl, HS, HB4⟩ := hrel
            by_cases hlt : i < W
            · have HX := Aside0.mk (named_calls A0 c0 l n W i n _ (Kd.C_below HR.out HB4.out) HC.out HN.out HN2.out HW.out.1 HW.out.2 (Nat.le_refl _))
              have hx := HX.out
              rw [HT.out] at hx
              have HX1 := Aside0.mk hx
              clear hx HX
              have hcl := cur_le W i l
              rw [HN.out] at hcl
              by_cases hcz : cur W i l < n
              · have HS1 := Aside0.mk (show ∀ v, v < i + 1 → cur W v l < n by
                  intro v hv
                  by_cases e : v = i
                  · rw [e]; exact hcz
                  · exact HS.out v (by omega))
                generalize cur W i l = cc at *
                go_wp2_with fail
                refine HX1.out.mono ?_
                rintro e w5 ⟨rfl, hb⟩
                have HB5 := Aside0.mk (below_step HB4.out hb)
                clear hb HB4 HX1 HS
                have hd1 : decide ((n : Int) - (cc : Int) - 1 < 0) = false := decide_eq_false (by omega)
                go_wp2
                go_roundw
                case measure => simp [intOf]; omega
                case rel => exact ⟨i + 1, by omega, by go_num, HS1, HB5⟩
              · exact absurd (cur_gap HI.out i n hlt) (by rw [HT.out]; omega)
            · obtain rfl : i = W := by omega
              go_wp2
              go_loopw [12, 13] (fun v12 v13 w' => ∃ j : Nat, j ≤ i ∧ v12 = .int .i64 j ∧ Aside0 (Below w.heap.size w w')) (fun j _ _ => i - (intOf j).toNat)
              case atStart => exact ⟨0, Nat.zero_le _, rfl, HB4⟩
              case round =>
                clear HB4 HS
                obtain ⟨j, hj, rfl, HB4⟩ := hrel
                by_cases hlj : j < i
                · go_wp2
                  go_loopw [13] (fun v13 w' => ∃ t : Nat, G + 1 ≤ t ∧ t ≤ n + 1 ∧ v13 = .int .i64 t ∧ Aside0 (Below w.heap.size w w')) (fun t _ => n + 1 - (intOf t).toNat)
                  case atStart => exact ⟨G + 1, Nat.le_refl _, by omega, by first | rfl | simp, HB4⟩
                  case round =>
                    clear HB4
                    obtain ⟨t, ht1, ht2, rfl, HB4⟩ := hrel
                    by_cases htn : t ≤ n
                    · have HX1 := Aside0.mk (named_calls A0 c0 l n i j t _ (Kd.C_below HR.out HB4.out) HC.out HN.out HN2.out HW.out.1 HW.out.2 htn)
                      have hcg := cur_gap HI.out j t hlj
                      have et : wrap64 ((t : Int) - ((G : Int) + 1)) = (t : Int) - ((G : Int) + 1) := wrap_id (by unfold In64; omega)
                      generalize cur i j (l.take t) = cc at *
                      have hd1 : decide ((t : Int) - (cc : Int) - 1 < (t : Int) - ((G : Int) + 1)) = false := decide_eq_false (by omega)
                      go_wp2_with fail
                      refine HX1.out.mono ?_
                      rintro e w5 ⟨rfl, hb⟩
                      have HB5 := Aside0.mk (below_step HB4.out hb)
                      clear hb HB4 HX1
                      go_wp2
                      go_roundw
                      case measure => simp [intOf]; omega
                      case rel => exact ⟨_, _, _, _, _, _, _, _, _, _, _, _, _, _, _, _, _, ⟨t + 1, by omega, by omega, by go_num, HB5⟩, rfl⟩
                    · go_wp2
                      go_roundw
                      case measure => simp [intOf]; omega
                      case rel => exact ⟨j + 1, by omega, by go_num, HB4⟩
                · go_wp2
                  go_ret
                  exact ⟨by simp, HB4.out⟩
    · skip
      have hq := HQ.out
      rw [if_neg hGn] at hq
      have HQ0 := Aside0.mk hq
      clear hq HQ
      by_cases hkn : n < k
      · have FK : decide (G < k) = true := decide_eq_true (by have := HG.out; omega)
        go_enter Try.func10, Try.ntmps10
        skip
        go_wp2_with fail
        refine (HA.out _).mono ?_
        rintro e w1 ⟨rfl, hb⟩
        have HB := Aside0.mk hb
        clear hb HA
        have HQ1 := Aside0.mk (HQ0.out w1 (Kd.C_below HR.out HB.out))
        clear HQ0
        go_wp2_with (first | rw [e1] | fail)
        refine HQ1.out.mono ?_
        rintro e w2 ⟨rfl, hb⟩
        have HB2 := Aside0.mk (below_step HB.out hb)
        clear hb HB HQ1
        go_wp2_with (first | rw [en] | fail)
        refine (HK.out _).mono ?_
        rintro e w3 ⟨rfl, hb⟩
        have HB3 := Aside0.mk (below_step HB2.out hb)
        clear hb HB2 HK
        have HF := Aside0.mk (fair_calls A0 c0 l n W k G w3 (Kd.C_below HR.out HB3.out) HC.out HN.out HN2.out HW.out.1 HW.out.2 HK2.out.1 HI.out)
        have hf := HF.out
        rw [FK] at hf
        have HF1 := Aside0.mk hf
        clear hf HF
        go_wp2_with (first | rw [ek] | fail)
        refine HF1.out.mono ?_
        rintro e w4 ⟨rfl, hb⟩
        have HB4 := Aside0.mk (below_step HB3.out hb)
        clear hb HB3 HF1
        go_wp2
        go_loopw [10, 11] (fun v10 v11 w' => ∃ i : Nat, i ≤ W ∧ v10 = .int .i64 i ∧ Aside0 (∀ v, v < i → cur W v l < n) ∧ Aside0 (Below w.heap.size w w')) (fun i _ _ => W - (intOf i).toNat)
        case atStart => exact ⟨0, Nat.zero_le _, rfl, ⟨fun v hv => by omega⟩, HB4⟩
        case round =>
          clear HB4
          obtain ⟨i, hi, rfl, HS, HB4⟩ := hrel
          by_cases hlt : i < W
          · have HX := Aside0.mk (named_calls A0 c0 l n W i n _ (Kd.C_below HR.out HB4.out) HC.out HN.out HN2.out HW.out.1 HW.out.2 (Nat.le_refl _))
            have hx := HX.out
            rw [HT.out] at hx
            have HX1 := Aside0.mk hx
            clear hx HX
            have hcl := cur_le W i l
            rw [HN.out] at hcl
            by_cases hcz : cur W i l < n
            · have HS1 := Aside0.mk (show ∀ v, v < i + 1 → cur W v l < n by
                intro v hv
                by_cases e : v = i
                · rw [e]; exact hcz
                · exact HS.out v (by omega))
              generalize cur W i l = cc at *
              go_wp2_with fail
              refine HX1.out.mono ?_
              rintro e w5 ⟨rfl, hb⟩
              have HB5 := Aside0.mk (below_step HB4.out hb)
              clear hb HB4 HX1 HS
              have hd1 : decide ((n : Int) - (cc : Int) - 1 < 0) = false := decide_eq_false (by omega)
              go_wp2
              go_roundw
              case measure => simp [intOf]; omega
              case rel => exact ⟨i + 1, by omega, by go_num, HS1, HB5⟩
            · generalize cur W i l = cc at *
              go_wp2_with fail
              refine HX1.out.mono ?_
              rintro e w5 ⟨rfl, hb⟩
              have HB5 := Aside0.mk (below_step HB4.out hb)
              clear hb HB4 HX1 HS
              have hd1 : decide ((n : Int) - (cc : Int) - 1 < 0) = true := decide_eq_true (by omega)
              go_wp2
              go_ret
              exact ⟨by simp, HB5.out⟩
          · obtain rfl : i = W := by omega
            obtain ⟨v, hv, hcv⟩ := gap_all HI.out (by have := HG.out; have := HN.out; omega) HW.out.1
            exact absurd (HS.out v hv) (by rw [hcv, HN.out]; omega)
      · have FK : decide (G < k) = false := decide_eq_false (by have := HG.out; omega)
        go_enter Try.func10, Try.ntmps10
        skip
        go_wp2_with fail
        refine (HA.out _).mono ?_
        rintro e w1 ⟨rfl, hb⟩
        have HB := Aside0.mk hb
        clear hb HA
        have HQ1 := Aside0.mk (HQ0.out w1 (Kd.C_below HR.out HB.out))
        clear HQ0
        go_wp2_with (first | rw [e1] | fail)
        refine HQ1.out.mono ?_
        rintro e w2 ⟨rfl, hb⟩
        have HB2 := Aside0.mk (below_step HB.out hb)
        clear hb HB HQ1
        go_wp2_with (first | rw [en] | fail)
        refine (HK.out _).mono ?_
        rintro e w3 ⟨rfl, hb⟩
        have HB3 := Aside0.mk (below_step HB2.out hb)
        clear hb HB2 HK
        have HF := Aside0.mk (fair_calls A0 c0 l n W k G w3 (Kd.C_below HR.out HB3.out) HC.out HN.out HN2.out HW.out.1 HW.out.2 HK2.out.1 HI.out)
        have hf := HF.out
        rw [FK] at hf
        have HF1 := Aside0.mk hf
        clear hf HF
        go_wp2_with (first | rw [ek] | fail)
        refine HF1.out.mono ?_
        rintro e w4 ⟨rfl, hb⟩
        have HB4 := Aside0.mk (below_step HB3.out hb)
        clear hb HB3 HF1
        go_wp2
        go_loopw [10, 11] (fun v10 v11 w' => ∃ i : Nat, i ≤ W ∧ v10 = .int .i64 i ∧ Aside0 (∀ v, v < i → cur W v l < n) ∧ Aside0 (Below w.heap.size w w')) (fun i _ _ => W - (intOf i).toNat)
        case atStart => exact ⟨0, Nat.zero_le _, rfl, ⟨fun v hv => by omega⟩, HB4⟩
        case round =>
          clear HB4
          obtain ⟨i, hi, rfl, HS, HB4⟩ := hrel
          by_cases hlt : i < W
          · have HX := Aside0.mk (named_calls A0 c0 l n W i n _ (Kd.C_below HR.out HB4.out) HC.out HN.out HN2.out HW.out.1 HW.out.2 (Nat.le_refl _))
            have hx := HX.out
            rw [HT.out] at hx
            have HX1 := Aside0.mk hx
            clear hx HX
            have hcl := cur_le W i l
            rw [HN.out] at hcl
            by_cases hcz : cur W i l < n
            · have HS1 := Aside0.mk (show ∀ v, v < i + 1 → cur W v l < n by
                intro v hv
                by_cases e : v = i
                · rw [e]; exact hcz
                · exact HS.out v (by omega))
              generalize cur W i l = cc at *
              go_wp2_with fail
              refine HX1.out.mono ?_
              rintro e w5 ⟨rfl, hb⟩
              have HB5 := Aside0.mk (below_step HB4.out hb)
              clear hb HB4 HX1 HS
              have hd1 : decide ((n : Int) - (cc : Int) - 1 < 0) = false := decide_eq_false (by omega)
              go_wp2
              go_roundw
              case measure => simp [intOf]; omega
              case rel => exact ⟨i + 1, by omega, by go_num, HS1, HB5⟩
            · generalize cur W i l = cc at *
              go_wp2_with fail
              refine HX1.out.mono ?_
              rintro e w5 ⟨rfl, hb⟩
              have HB5 := Aside0.mk (below_step HB4.out hb)
              clear hb HB4 HX1 HS
              have hd1 : decide ((n : Int) - (cc : Int) - 1 < 0) = true := decide_eq_true (by omega)
              go_wp2
              go_ret
              exact ⟨by simp, HB5.out⟩
          · obtain rfl : i = W := by omega
            obtain ⟨v, hv, hcv⟩ := gap_all HI.out (by have := HG.out; have := HN.out; omega) HW.out.1
            exact absurd (HS.out v hv) (by rw [hcv, HN.out]; omega)
/-- The same, for the slice as the row opens it. -/
theorem walkRow (a1 : Option Addr) (len1 cap1 : Nat) (z1 : List Int) (a n : Int) (w : World) (w1 : (a1 = none ∧ len1 = 0 ∧ cap1 = 0 ∧ z1 = []) ∨ ∃ x, a1 = some x ∧ len1 ≤ cap1 ∧ cap1 ≤ maxLen ∧ z1.length = cap1 ∧ (∀ i, i < z1.length → w.cell? (x.add i) = some (.int .i64 (z1.getD i 0))) ∧ ∀ n ∈ z1, (Lit.int .i64 n).wf = true) :
    Calls Try.prog 10 #[.slice a1 len1 cap1, .int .i64 a, .int .i64 n] w fun e w' => e = .returned (.bool true) ∧ Below w.heap.size w w' := by
  have hcm : (cap1 : Int) ≤ 9223372036854775807 := by
    rcases w1 with ⟨_, _, h, _⟩ | ⟨_, _, _, h, _⟩
    · omega
    · unfold maxLen at h; omega
  obtain ⟨l1, rfl, hr1, _, _, hc1⟩ := ReadsInt.ofRowC w1
  exact walk a1 cap1 l1 a n w (Kd.C_of_reads (d := (0 : Int)) (h1 := fun _ => rfl) hr1) hc1 (by omega) hcm
end Go.Proofs.Ytjlbimnafbngaaa.WindowLaw
