/- The statement ScriptDrawers. -/
import Derived.Test.YtjlbimnafbngaaaDrawersSteps
import Derived.Deep.DeepCutAuto
namespace Go.Proofs.Ytjlbimnafbngaaa.Drawers
open Go.RowKit Go.Proofs.YtjlbimnafbngaaaW.PrintWords Go.Proofs.YtjlbimnafbngaaaW.PrintLast Go.Proofs.Ytjlbimnafbngaaa.Pull Go.Proofs.Ytjlbimnafbngaaa.BitMath Go.Proofs.Ytjlbimnafbngaaa.PScriptDrawers
set_option linter.unusedVariables false
set_option linter.unusedSimpArgs false

theorem mod_num (x : Int) : ∃ n : Nat, n ≤ 300 ∧ plunderref1_Mod.f x 301 = some (n : Int) := by
  unfold plunderref1_Mod.f
  rw [if_neg (by omega), if_neg (by omega)]
  by_cases h : Int.tmod x 301 < 0
  · rw [if_pos h]
    have h1 : -301 < Int.tmod x 301 := Int.lt_tmod_of_pos x (by omega)
    refine ⟨(Int.tmod x 301 + 301).toNat, by omega, ?_⟩
    rw [wrap_id (by unfold In64; omega)]
    congr 1; omega
  · rw [if_neg h]
    have h1 : Int.tmod x 301 < 301 := Int.tmod_lt_of_pos x (by omega)
    exact ⟨(Int.tmod x 301).toNat, by omega, by congr 1; omega⟩
theorem row_C {w0 w : World} {Ts : List Th} {i lo hi n c : Nat} {A : Option Addr} {l : List Int} (h : All w0 Ts w) (hi : Ts[i]? = some (thRow lo hi (.slice A n c) l)) : Kd.C (Kd.int .i64) w A l.length l := (Kd.R_reads' (h.get hi)).2.2
theorem add_row {w0 w w1 : World} {Ts : List Th} {v : Value} {l : List Int} (h : All w0 Ts w) (hb : Below w.heap.size w w1) (hr : Kd.R (Kd.int .i64) 3 w1 w.heap.size (fun _ => True) v l) : All w0 (Ts ++ [thRow w.heap.size w1.heap.size v l]) w1 :=
  h.add hb (T := thRow w.heap.size w1.heap.size v l) (Kd.R_mono (Kd.R_bound hr) (fun k hk => hk.2.2.1)) (thRow_ok _ _ _ _) rfl rfl
theorem add_along {w0 w w1 : World} {Ts : List Th} {d : Nat} {l : List Int} {b : Bool} (h : All w0 Ts w) (hb : Below w.heap.size w w1) (hr : AlongAt w.heap.size w1.heap.size (.pointer (some ⟨d, 0, none⟩)) l b w1 0) : All w0 (Ts ++ [thAlong w.heap.size w1.heap.size d l b 0]) w1 :=
  h.add hb (T := thAlong w.heap.size w1.heap.size d l b 0) hr (thAlong_ok _ _ _ _ _ _) rfl rfl
theorem add_seed {w0 w w1 : World} {Ts : List Th} {d g : Nat} {x : Int} (h : All w0 Ts w) (hb : Below w.heap.size w w1) (hD : SeededAt w0 d g w1 x) (hd : w.heap.size ≤ d) (hg : w.heap.size ≤ g) : All w0 (Ts ++ [thSeed w0 w.heap.size w1.heap.size d x]) w1 :=
  h.add hb (T := thSeed w0 w.heap.size w1.heap.size d x) ⟨g, hD, ⟨hd, blk_lt hD.1⟩, ⟨hg, blk_lt hD.2.1⟩⟩ (thSeed_ok _ _ _ _ _) rfl rfl
/-- The other list. -/
def more (l : List Int) : List Int := l.reverse.map (fun v => wrap64 (v - 3))
theorem more_length (l : List Int) : (more l).length = l.length := by unfold more; simp
theorem more_take (l : List Int) (i : Nat) (hi : i < l.length) : (more l).take (i + 1) = (more l).take i ++ [wrap64 (l.getD (l.length - 1 - i) 0 - 3)] := by
  rw [List.take_add_one]
  congr 1
  unfold more
  rw [List.getElem?_map, List.getElem?_reverse hi, List.getD_eq_getElem?_getD, List.getElem?_eq_getElem (by omega)]
  rfl

theorem form_of {w0 w : World} {Ts : List Th} {lo hi n : Nat} {v : Value} {xs : List Int} (i : Nat) (h : All w0 Ts w) (hq : Ts[i]? = some (thRow lo hi v xs)) (hl : xs.length = n) (hp : 0 < n) : ∃ g c, v = .slice (some ⟨g, 0, none⟩) n c := by
  obtain ⟨g, c, e⟩ := row_form i h hq (by omega)
  rw [hl] at e
  exact ⟨g, c, e⟩
theorem two_at {w : World} {base : Nat} {v : Value} (h : Kd.R (Kd.int .i64) 3 w base (fun _ => True) v (List.replicate 2 0)) : ∃ g c, v = .slice (some ⟨g, 0, none⟩) 2 c ∧ ∀ w', Below w.heap.size w w' → w'.cell? ⟨g, 0, none⟩ = some (.int .i64 0) ∧ w'.cell? ⟨g, 1, none⟩ = some (.int .i64 0) := by
  obtain ⟨g, c, rfl, _⟩ := Kd.R_form h (by simp)
  refine ⟨g, c, rfl, fun w' hb => ?_⟩
  have h2 := Kd.R_below h hb
  have h0 := (Kd.R_celln 0 h2 0 (by omega) (by simp)).1
  have h1 := (Kd.R_celln 0 h2 1 (by omega) (by simp)).1
  exact ⟨h0, h1⟩

set_option maxHeartbeats 8000000 in
set_option maxRecDepth 100000 in
theorem walk (A0 : Option Addr) (c0 : Nat) (l : List Int) (x a : Int) (w : World) (hp0 : Kd.C (Kd.int .i64) w A0 l.length l) (hc0 : l.length ≤ c0) (hl : l.length ≤ 1048576) :
    Calls Try.prog 9 #[.slice A0 l.length c0, .int .i64 x, .int .i64 a] w fun e w' => e = .returned (.bool true) ∧ Below w.heap.size w w' := by
  obtain ⟨n, hn, hnf⟩ := mod_num a
  have HM := Aside0.mk (plunderref1_Mod.calls a 301 n w hnf)
  have HP := Aside0.mk hp0
  have HC0 := Aside0.mk hc0
  have HLl := Aside0.mk hl
  clear hnf hp0 hc0 hl
  go_enter Try.func9, Try.ntmps9
  go_wp2_with fail
  refine (HM.out).mono ?_
  rintro e w1 ⟨rfl, hdr⟩
  have HA1 := Aside0.mk ((All.start w).below hdr.below)
  clear hdr HM
  have HE := Aside0.mk (show Kd.R (Kd.int .i64) 3 (w1.alloc (.cells #[] 3)) w1.heap.size (fun _ => True) (.slice (some ⟨w1.heap.size, 0, none⟩) 0 0) [] from by have h := Turns.room w1 0 w1.heap.size (by omega) (Nat.le_refl _); rw [show madeCells #[Value.int .i64 0] 0 = #[] from by first | rfl | simp [madeCells]] at h; exact h)
  have HBe := Aside0.mk (below_alloc (Below.refl w1.heap.size w1) (.cells #[] 3))
  have HCe := Aside0.mk (Kd.C_below HP.out (below_step HA1.out.hb HBe.out))
  go_upto_region 3 with (first | ((with_reducible refine gate_builtin (b := .append) (xs := #[.tmp 36, .tmp 37]) rfl ?_); at_builtin; refine Kd.R_append_row (Value.int .i64) 0 (h1 := fun _ => rfl) (w0 := w1) w1.heap.size rfl (.tmp 36) (.tmp 37) 22 3 (.int .i64 0) 8 rfl Try.underlying22 info3 rfl (by decide) (.slice (some ⟨w1.heap.size, 0, none⟩) 0 0) [] l A0 l.length c0 (fun _ => True) rfl rfl (fun _ _ => trivial) ?aO ?aR ?aB ?aS ?aL ?_; (case aO => exact HE.out); (case aR => exact HCe.out); (case aB => exact HBe.out); (case aS => exact below_size HBe.out); (case aL => have := HLl.out; simp; omega); intro v2 w2 ho hb hg hat; have HO2 := Aside0.mk ho; have HB2 := Aside0.mk hb; clear ho hb hg hat HE HBe HCe) | fail)
  rw [List.nil_append] at HO2
  have HA2 := Aside0.mk (add_row HA1.out HB2.out HO2.out)
  obtain ⟨A2, c2, rfl, _, _⟩ := Kd.R_reads HO2.out
  clear HB2 HA1 HO2
  have HQ := Aside0.mk (list_calls A2 c2 l w2 (row_C HA2.out (i := 0) rfl) HLl.out)
  go_wp2_with fail
  refine (HQ.out).mono ?_
  rintro e w3 ⟨d1, rfl, ha, hb⟩
  have HA3 := Aside0.mk (add_along HA2.out hb ha)
  clear ha hb HQ HA2
  have HQ := Aside0.mk (loop_calls A2 c2 l w3 (row_C HA3.out (i := 0) rfl) HLl.out)
  go_wp2_with fail
  refine (HQ.out).mono ?_
  rintro e w4 ⟨d2, rfl, ha, hb⟩
  have HA4 := Aside0.mk (add_along HA3.out hb ha)
  clear ha hb HQ HA3
  have HQ := Aside0.mk (seeded_calls x w w4 HA4.out.hb)
  go_wp2_with fail
  refine (HQ.out).mono ?_
  rintro e w5 ⟨d3, g3, rfl, hD, hd, hg, hb⟩
  have HA5 := Aside0.mk (add_seed HA4.out hb hD hd hg)
  clear hD hd hg hb HQ HA4
  obtain ⟨m, hm⟩ : ∃ m, more l = m := ⟨_, rfl⟩
  have HMl := Aside0.mk (show m.length = l.length by rw [← hm, more_length])
  have HMv := Aside0.mk (show ∀ i, i < l.length → m.take (i + 1) = m.take i ++ [wrap64 (l.getD (l.length - 1 - i) 0 - 3)] by rw [← hm]; exact more_take l)
  clear hm
  have HB5 := Aside0.mk (Below.refl w5.heap.size w5)
  have hl9 : (l.length : Int) ≤ 1048576 := by have := HLl.out; omega
  go_wp2_with fail
  go_loopw [11, 12] (fun v11 v12 w' => ∃ i : Nat, i ≤ l.length ∧ v12 = .int .i64 i ∧ Aside0 (Kd.R (Kd.int .i64) 3 w' w5.heap.size (fun _ => True) v11 (m.take i)) ∧ Aside0 (Below w5.heap.size w5 w')) (fun _ i _ => l.length - (intOf i).toNat)
  case atStart => exact ⟨0, Nat.zero_le _, rfl, ⟨Kd.R_nil _ _ _ _ _⟩, HB5⟩
  case round =>
    clear HB5
    obtain ⟨i, hi, rfl, HR, HB⟩ := hrel
    by_cases hlt : i < l.length
    · have hp0 : 0 ≤ (l.length : Int) - 1 - (i : Int) := by omega
      have hq0 : (l.length : Int) - 1 - (i : Int) < (l.length : Int) := by omega
      obtain ⟨ad, e0, hx⟩ := Kd.at_int (Kd.C_below HP.out (below_step HA5.out.hb HB.out)) ((l.length : Int) - 1 - (i : Int)) hp0 hq0
      cases e0
      have ev : rd l ((l.length : Int) - 1 - (i : Int)) = l.getD (l.length - 1 - i) 0 := by unfold rd; rw [show ((l.length : Int) - 1 - (i : Int)).toNat = l.length - 1 - i from by omega]
      rw [ev, show ((l.length : Int) - 1 - (i : Int)).toNat = l.length - 1 - i from by omega] at hx
      replace hp0 := eq_true hp0
      replace hq0 := eq_true hq0
      have HT := Aside0.mk (HMv.out i hlt)
      have HL := Aside0.mk (show ((m.take i).length + 1) * 8 ≤ 140737488355328 by have := List.length_take_le i m; omega)
      clear ev
      generalize l.getD (l.length - 1 - i) 0 = y at *
      generalize m.take i = xs at *
      go_wp2_with (first | ((with_reducible refine gate_builtin (b := .append) (xs := #[.tmp 51, .tmp 61]) rfl ?_); at_builtin; refine Kd.R_append (Kd.int .i64) (w0 := w5) w5.heap.size rfl (.tmp 51) (.tmp 61) 22 3 (.int .i64 0) 8 rfl Try.underlying22 info3 rfl (by decide) (by omega) u11 xs (wrap64 (y - 3)) [.int .i64 (wrap64 (y - 3))] (fun _ => True) (fun _ => False) rfl rfl ?aP (fun _ hk => hk.elim) ?aF ?aO ?aB ?aS ?aL ?_; (case aP => exact rfl); (case aB => exact HB.out); (case aF => exact (fun _ _ => trivial)); (case aO => exact HR.out); (case aS => exact (below_size HB.out)); (case aL => exact HL.out); intro v103 w9 ho hb hg hat; have n0_ := Aside0.mk (hb); have n1_ := Aside0.mk (ho); clear HB HR; have HB := n0_; have HR := n1_; clear n0_ n1_; clear ho hb hg hat))
      go_roundw
      case measure => simp [intOf]; omega
      case rel => exact ⟨i + 1, by omega, by go_num, ⟨by rw [HT.out]; exact HR.out⟩, HB⟩
    · obtain rfl : i = l.length := by omega
      rw [List.take_of_length_le (by have := HMl.out; omega)] at HR
      have HA6 := Aside0.mk (add_row HA5.out HB.out HR.out)
      obtain ⟨A6, c6, rfl, _, _⟩ := Kd.R_reads HR.out
      clear HR HB HA5 HMv
      have HMl2 := Aside0.mk (show m.length ≤ 1048576 by have := HMl.out; have := HLl.out; omega)
      have HQ := Aside0.mk (list_calls A6 c6 m wr (row_C HA6.out (i := 4) rfl) HMl2.out)
      go_wp2_with fail
      refine (HQ.out).mono ?_
      rintro e w7 ⟨d4, rfl, ha, hb⟩
      have HA7 := Aside0.mk (add_along HA6.out hb ha)
      clear ha hb HQ HA6
      have HQ := Aside0.mk (loop_calls A6 c6 m w7 (row_C HA7.out (i := 4) rfl) HMl2.out)
      go_wp2_with fail
      refine (HQ.out).mono ?_
      rintro e w8 ⟨d5, rfl, ha, hb⟩
      have HA8 := Aside0.mk (add_along HA7.out hb ha)
      clear ha hb HQ HA7
      have HQ := Aside0.mk (fun y => seeded_calls y w w8 HA8.out.hb)
      go_wp2_with fail
      refine (HQ.out _).mono ?_
      rintro e w9 ⟨d6, g6, rfl, hD, hd, hg, hb⟩
      have HA9 := Aside0.mk (add_seed HA8.out hb hD hd hg)
      clear hD hd hg hb HQ HA8
      have HQ := Aside0.mk (plunderref10_List.calls _ A6 c6 m (n : Int) _ w9 (row_C HA9.out (i := 4) rfl) (Kd.R_reads' (HA9.out.get (i := 4) rfl)).2.1 (list_f m n (by omega) HMl2.out))
      go_wp2_with fail
      refine (HQ.out).mono ?_
      rintro e w10 ⟨v10, rfl, hr, hb⟩
      have HA10 := Aside0.mk (add_row HA9.out hb hr)
      clear hr hb HQ HA9
      have HQ := Aside0.mk (plunderref10_Loop.calls _ A6 c6 m (n : Int) _ w10 (row_C HA10.out (i := 4) rfl) (Kd.R_reads' (HA10.out.get (i := 4) rfl)).2.1 (loop_f m n (by omega) HMl2.out))
      go_wp2_with fail
      refine (HQ.out).mono ?_
      rintro e w11 ⟨v11, rfl, hr, hb⟩
      have HA11 := Aside0.mk (add_row HA10.out hb hr)
      clear hr hb HQ HA10
      have HQ := Aside0.mk (fun y => refseeded_calls n (by omega) y w11)
      go_wp2_with fail
      refine (HQ.out _).mono ?_
      rintro e w12 ⟨v12, rfl, hr, hb⟩
      have HA12 := Aside0.mk (add_row HA11.out hb hr)
      clear hr hb HQ HA11
      simp only [List.nil_append, List.cons_append] at HA12
      obtain ⟨s1, e1⟩ : ∃ s, w1.heap.size = s := ⟨_, rfl⟩
      obtain ⟨s2, e2⟩ : ∃ s, w2.heap.size = s := ⟨_, rfl⟩
      obtain ⟨s3, e3⟩ : ∃ s, w3.heap.size = s := ⟨_, rfl⟩
      obtain ⟨s4, e4⟩ : ∃ s, w4.heap.size = s := ⟨_, rfl⟩
      obtain ⟨s5, e5⟩ : ∃ s, w5.heap.size = s := ⟨_, rfl⟩
      obtain ⟨s6, e6⟩ : ∃ s, wr.heap.size = s := ⟨_, rfl⟩
      obtain ⟨s7, e7⟩ : ∃ s, w7.heap.size = s := ⟨_, rfl⟩
      obtain ⟨s8, e8⟩ : ∃ s, w8.heap.size = s := ⟨_, rfl⟩
      obtain ⟨s9, e9⟩ : ∃ s, w9.heap.size = s := ⟨_, rfl⟩
      obtain ⟨s10, e10⟩ : ∃ s, w10.heap.size = s := ⟨_, rfl⟩
      obtain ⟨s11, e11⟩ : ∃ s, w11.heap.size = s := ⟨_, rfl⟩
      obtain ⟨s12, e12⟩ : ∃ s, w12.heap.size = s := ⟨_, rfl⟩
      rw [e1, e2, e3, e4, e5, e6, e7, e8, e9, e10, e11, e12] at HA12
      clear e1 e2 e3 e4 e5 e6 e7 e8 e9 e10 e11 e12
      obtain ⟨Rs, hRs⟩ : ∃ Rs, Rs = [thAlong s2 s3 d1 l false 0, thAlong s3 s4 d2 l true 0, thSeed w s4 s5 d3 x, thRow s5 s6 (.slice A6 m.length c6) m, thAlong s6 s7 d4 m false 0, thAlong s7 s8 d5 m true 0, thSeed w s8 s9 d6 (wrap64 (x + 1)), thRow s9 s10 v10 (draws (alongNext m false) n 0), thRow s10 s11 v11 (draws (alongNext m true) n 0), thRow s11 s12 v12 (draws nextNum n (wrap64 (x + 1)))] := ⟨_, rfl⟩
      rw [← hRs] at HA12
      have HRs := Aside0.mk hRs
      clear hRs
      go_wp2_with fail
      go_loopw [19] (fun v19 w' => ∃ (i : Nat) (l' : List Int), i ≤ l.length ∧ l'.length = l.length ∧ v19 = .int .i64 i ∧ Aside0 (All w (thRow s1 s2 (.slice A2 l.length c2) l' :: Rs) w')) (fun i _ => l.length - (intOf i).toNat)
      case atStart => exact ⟨0, l, Nat.zero_le _, rfl, rfl, HA12⟩
      case round =>
        clear HA12
        obtain ⟨i, l', hi, hl', rfl, HA⟩ := hrel
        by_cases hlt : i < l.length
        · have hr : Kd.R (Kd.int .i64) 3 wr s1 (fun k => k < s2) (.slice A2 l'.length c2) l' := by rw [hl']; exact HA.out.get (i := 0) rfl
          obtain ⟨g, k, ek, hg1, _, _, _⟩ := Kd.R_form hr (by omega)
          injection ek with ek _ ekc
          subst ek ekc
          have hg2 : g < s2 := hr.1 g rfl
          have hg0 : w.heap.size ≤ g := Nat.le_trans (HA.out.ge (i := 0) rfl) hg1
          obtain ⟨hx, hf⟩ := Kd.R_celln 0 hr (i : Int) (by omega) (by omega)
          simp only [Int.toNat_natCast] at hx hf
          generalize rdOf 0 l' (i : Int) = y at *
          have hP := Kd.R_putg hr (i : Int) (wrap64 (y + 7))
          rw [Int.toNat_natCast] at hP
          have HN := Aside0.mk (show All w (thRow s1 s2 (.slice (some ⟨g, 0, none⟩) l.length c2) (l'.set i (wrap64 (y + 7))) :: Rs) (wr.setCell ⟨g, i, none⟩ (.int .i64 (wrap64 (y + 7)))) from
            HA.out.put (i := 0) (T := thRow s1 s2 (.slice (some ⟨g, 0, none⟩) l.length c2) l') (T1 := thRow s1 s2 (.slice (some ⟨g, 0, none⟩) l.length c2) (l'.set i (wrap64 (y + 7)))) rfl (Kept.of_grown hP.2 (Kept.refl _ _) (fun k e => by injection e with e; subst e; exact .inl ⟨hg1, hg2⟩)) (below_set HA.out.hb hg0) (by have h := hP.1; rw [hl'] at h; exact h) (thRow_ok _ _ _ _) rfl rfl)
          have hlen : (l'.set i (wrap64 (y + 7))).length = l.length := by rw [List.length_set, hl']
          clear hP hr HA
          go_wp2
          go_roundw
          case measure => simp [intOf]; omega
          case rel => exact ⟨i + 1, _, by omega, hlen, by go_num, HN⟩
        · obtain rfl : i = l.length := by omega
          have HQ := Aside0.mk (plunderref10_List.calls _ A0 c0 l (n : Int) _ wr (Kd.C_below HP.out HA.out.hb) HC0.out (list_f l n (by omega) HLl.out))
          go_wp2_with fail
          refine (HQ.out).mono ?_
          rintro e w13 ⟨v13, rfl, hr, hb⟩
          have HA13 := Aside0.mk (add_row HA.out hb hr)
          clear hr hb HQ HA
          have HQ := Aside0.mk (plunderref10_Loop.calls _ A0 c0 l (n : Int) _ w13 (Kd.C_below HP.out HA13.out.hb) HC0.out (loop_f l n (by omega) HLl.out))
          go_wp2_with fail
          refine (HQ.out).mono ?_
          rintro e w14 ⟨v14, rfl, hr, hb⟩
          have HA14 := Aside0.mk (add_row HA13.out hb hr)
          clear hr hb HQ HA13
          have HQ := Aside0.mk (refseeded_calls n (by omega) x w14)
          go_wp2_with fail
          refine (HQ.out).mono ?_
          rintro e w15 ⟨v15, rfl, hr, hb⟩
          have HA15 := Aside0.mk (add_row HA14.out hb hr)
          clear hr hb HQ HA14
          rw [HRs.out] at HA15
          simp only [List.nil_append, List.cons_append] at HA15
          obtain ⟨t1, e1⟩ : ∃ s, wr.heap.size = s := ⟨_, rfl⟩
          obtain ⟨t2, e2⟩ : ∃ s, w13.heap.size = s := ⟨_, rfl⟩
          obtain ⟨t3, e3⟩ : ∃ s, w14.heap.size = s := ⟨_, rfl⟩
          obtain ⟨t4, e4⟩ : ∃ s, w15.heap.size = s := ⟨_, rfl⟩
          rw [e1, e2, e3, e4] at HA15
          clear e1 e2 e3 e4 HRs
          obtain ⟨St, hSt⟩ : ∃ St : Nat → List Th, ∀ i, St i = [thRow s1 s2 (.slice A2 l.length c2) l', thAlong s2 s3 d1 l false (after (alongNext l false) i 0), thAlong s3 s4 d2 l true (after (alongNext l true) i 0), thSeed w s4 s5 d3 (after nextNum i x), thRow s5 s6 (.slice A6 m.length c6) m, thAlong s6 s7 d4 m false (after (alongNext m false) i 0), thAlong s7 s8 d5 m true (after (alongNext m true) i 0), thSeed w s8 s9 d6 (after nextNum i (wrap64 (x + 1))), thRow s9 s10 v10 (draws (alongNext m false) n 0), thRow s10 s11 v11 (draws (alongNext m true) n 0), thRow s11 s12 v12 (draws nextNum n (wrap64 (x + 1))), thRow t1 t2 v13 (draws (alongNext l false) n 0), thRow t2 t3 v14 (draws (alongNext l true) n 0), thRow t3 t4 v15 (draws nextNum n x)] := ⟨_, fun _ => rfl⟩
          have HSt := Aside0.mk hSt
          have HA16 := Aside0.mk (show All w (St 0) w15 by rw [hSt]; exact HA15.out)
          have hn9 : (n : Int) ≤ 300 := by omega
          clear hSt HA15
          go_wp2_with fail
          go_loopw [23] (fun v23 w' => ∃ i : Nat, i ≤ n ∧ v23 = .int .i64 i ∧ Aside0 (All w (St i) w')) (fun i _ => n - (intOf i).toNat)
          case atStart => exact ⟨0, Nat.zero_le _, rfl, HA16⟩
          case round =>
            clear HA16
            obtain ⟨i, hi, rfl, HA⟩ := hrel
            by_cases hlt : i < n
            · rw [HSt.out i] at HA
              go_wp2_with fail
              refine (draw_along 1 HA.out rfl HLl.out).mono ?_
              rintro e z1 ⟨rfl, hA⟩
              simp only [List.set_cons_zero, List.set_cons_succ] at hA
              have HA1 := Aside0.mk hA
              clear hA HA
              go_wp2_with fail
              refine (draw_along 2 HA1.out rfl HLl.out).mono ?_
              rintro e z2 ⟨rfl, hA⟩
              simp only [List.set_cons_zero, List.set_cons_succ] at hA
              have HA2 := Aside0.mk hA
              clear hA HA1
              go_wp2_with fail
              refine (draw_seed 3 HA2.out rfl).mono ?_
              rintro e z3 ⟨rfl, hA⟩
              simp only [List.set_cons_zero, List.set_cons_succ] at hA
              have HA3 := Aside0.mk hA
              clear hA HA2
              go_wp2_with fail
              refine (draw_along 5 HA3.out rfl HMl2.out).mono ?_
              rintro e z4 ⟨rfl, hA⟩
              simp only [List.set_cons_zero, List.set_cons_succ] at hA
              have HA4 := Aside0.mk hA
              clear hA HA3
              go_wp2_with fail
              refine (draw_along 6 HA4.out rfl HMl2.out).mono ?_
              rintro e z5 ⟨rfl, hA⟩
              simp only [List.set_cons_zero, List.set_cons_succ] at hA
              have HA5 := Aside0.mk hA
              clear hA HA4
              go_wp2_with fail
              refine (draw_seed 7 HA5.out rfl).mono ?_
              rintro e z6 ⟨rfl, hA⟩
              simp only [List.set_cons_zero, List.set_cons_succ] at hA
              have HA6 := Aside0.mk hA
              clear hA HA5
              obtain ⟨q1, k1, rfl⟩ := form_of 11 HA6.out rfl (draws_length (alongNext l false) n 0) (by omega)
              have hx1 := row_at 11 HA6.out rfl i (by rw [draws_length]; exact hlt)
              rw [draws_get (alongNext l false) n i 0 hlt] at hx1
              obtain ⟨q2, k2, rfl⟩ := form_of 12 HA6.out rfl (draws_length (alongNext l true) n 0) (by omega)
              have hx2 := row_at 12 HA6.out rfl i (by rw [draws_length]; exact hlt)
              rw [draws_get (alongNext l true) n i 0 hlt] at hx2
              obtain ⟨q3, k3, rfl⟩ := form_of 13 HA6.out rfl (draws_length nextNum n x) (by omega)
              have hx3 := row_at 13 HA6.out rfl i (by rw [draws_length]; exact hlt)
              rw [draws_get nextNum n i x hlt] at hx3
              obtain ⟨q4, k4, rfl⟩ := form_of 8 HA6.out rfl (draws_length (alongNext m false) n 0) (by omega)
              have hx4 := row_at 8 HA6.out rfl i (by rw [draws_length]; exact hlt)
              rw [draws_get (alongNext m false) n i 0 hlt] at hx4
              obtain ⟨q5, k5, rfl⟩ := form_of 9 HA6.out rfl (draws_length (alongNext m true) n 0) (by omega)
              have hx5 := row_at 9 HA6.out rfl i (by rw [draws_length]; exact hlt)
              rw [draws_get (alongNext m true) n i 0 hlt] at hx5
              obtain ⟨q6, k6, rfl⟩ := form_of 10 HA6.out rfl (draws_length nextNum n (wrap64 (x + 1))) (by omega)
              have hx6 := row_at 10 HA6.out rfl i (by rw [draws_length]; exact hlt)
              rw [draws_get nextNum n i (wrap64 (x + 1)) hlt] at hx6
              have HF := Aside0.mk (show All w (St (i + 1)) z6 by rw [HSt.out (i + 1)]; simp only [after_succ]; exact HA6.out)
              clear HA6
              go_wp2_with fail
              refine ⟨⟨i + 1, by omega, by go_num, HF⟩, by simp [intOf]; omega⟩
            · obtain rfl : i = n := by omega
              have HB1 := Aside0.mk HA.out.hb
              clear HA
              have HBn := Aside0.mk (HB1.out.alloc (below_size HB1.out) (.cells #[.nilFunc] 58))
              have HQ1 := Aside0.mk (drawn_calls (.pointer (some ⟨wr.heap.size, 0, none⟩)) (wr.alloc (.cells #[.nilFunc] 58)) (fun w' hb => unmade_draw w' wr.heap.size (blk_below (blk_new wr _) hb)))
              go_wp2_with fail
              refine (HQ1.out).mono ?_
              rintro e z1 ⟨p1, rfl, hr1, hb1⟩
              have HB2 := Aside0.mk (below_step HBn.out hb1)
              obtain ⟨g1, k1, rfl, hc1⟩ := two_at hr1
              have HC1 := Aside0.mk hc1
              clear hr1 hb1 hc1 HQ1 HBn HB1
              have HQ1 := Aside0.mk (drawn_calls (.pointer none) z1 (fun w' hb => nobody_draw w'))
              go_wp2_with fail
              refine (HQ1.out).mono ?_
              rintro e z2 ⟨p2, rfl, hr2, hb2⟩
              have HB3 := Aside0.mk (below_step HB2.out hb2)
              obtain ⟨g2, k2, rfl, hc2⟩ := two_at hr2
              obtain ⟨hx1, hx2⟩ := HC1.out z2 hb2
              obtain ⟨hx3, hx4⟩ := hc2 z2 (Below.refl _ _)
              clear hr2 hb2 hc2 HQ1 HB2 HC1
              go_wp2
              go_ret
              exact ⟨rfl, HB3.out⟩
end Go.Proofs.Ytjlbimnafbngaaa.Drawers
