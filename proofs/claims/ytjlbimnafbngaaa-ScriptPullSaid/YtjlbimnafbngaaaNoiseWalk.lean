/- script.Noise's walk. -/
import Derived.Test.YtjlbimnafbngaaaNoiseCalls
namespace Go.Proofs.Ytjlbimnafbngaaa.Noise
open Go.RowKit Go.Proofs.YtjlbimnafbngaaaW.PrintWords Go.Proofs.YtjlbimnafbngaaaW.PrintLast Go.Proofs.Ytjlbimnafbngaaa.BitMath Go.Proofs.Ytjlbimnafbngaaa.FairPure
open Go.Proofs.Ytjlbimnafbngaaa.PScriptNoise

set_option linter.unusedSimpArgs false
set_option maxHeartbeats 4000000 in
set_option maxRecDepth 100000 in
theorem noise_ok (W n len : Nat) (x : Int) (w : World) (hW : 1 ≤ W) (hW2 : W ≤ 64) (hn : W ≤ n) (hn2 : n ≤ 9223372036854775807) (hl : len ≤ 1048576) :
    Calls Try.prog 43 #[.int .i64 x, .int .i64 (W : Int), .int .i64 (n : Int), .int .i64 (len : Int)] w fun e w' => ∃ v0_ v1_ : Value, e = .returned (.tuple #[.agg #[v0_, v1_], .int .i64 0]) ∧
      RI w' w.heap.size (fun k => some k ≠ v1_.ownBlock) v0_ ((noise W n len 0 (List.replicate W 0) x).map (·.1)) ∧ RI w' w.heap.size (fun k => some k ≠ v0_.ownBlock) v1_ ((noise W n len 0 (List.replicate W 0) x).map (·.2)) ∧ Below w.heap.size w w' := by
  obtain ⟨i0, hi, hz0, hz1, hz2⟩ := info_parts info3
  have hmk : ∀ u : World, (Instr.makeSlice 22 (.int .i64 (W : Int)) (.int .i64 (W : Int))).run Try.prog u =
      .ok (.slice (some ⟨u.heap.size, 0, none⟩) W W) (u.alloc (.cells (madeCells #[.int .i64 0] W) 3)) := fun u => by
    have h := run_make (P := Try.prog) u 22 3 i0 (.int .i64 0) Try.underlying22 hi hz0 .i64 .i64 (W : Int) (W : Int) (by omega) (by omega) (by rw [hz2]; omega) (by omega)
    simpa [hz1, Value.cells] using h
  have HG := Aside0.mk (script_goodWorkers.calls (W : Int) true)
  have HGf := Aside0.mk (show script_goodWorkers.f (W : Int) = some true by unfold script_goodWorkers.f; rw [if_pos (by omega)]; simp; omega)
  have HMd := Aside0.mk (mod_f' W hW hW2)
  have hd1 : decide (n < W) = false := decide_eq_false (by omega)
  have hd2 : decide ((len : Int) < 0) = false := decide_eq_false (by omega)
  have hd3 : decide (1048576 < (len : Int)) = false := decide_eq_false (by omega)
  clear hi hz0 hz1 hz2
  go_enter Try.func43, Try.ntmps43
  go_wp2_with fail
  refine (HG.out _ HGf.out).mono ?_
  rintro e w1 ⟨rfl, ⟨m1, rfl⟩⟩
  have HB := Aside0.mk (show Below w.heap.size w ((w.alloc (.cells #[.slice none 0 0, .slice none 0 0] 24)).drewN m1) from pw_below_drewN (below_alloc (Below.refl _ _) _) m1)
  have H8 := Aside0.mk (show ((w.alloc (.cells #[.slice none 0 0, .slice none 0 0] 24)).drewN m1).heap[w.heap.size]? = some (.cells #[.slice none 0 0, .slice none 0 0] 24 (0, 0)) from blk_drewN (blk_new w _) m1)
  generalize (w.alloc (.cells #[.slice none 0 0, .slice none 0 0] 24)).drewN m1 = w1 at HB H8 ⊢
  clear HG HGf
  have HS := Aside0.mk (NSt.start w w1 W x hW2 H8.out HB.out)
  have HM := Aside0.mk (Mid.start W n len x)
  clear HB H8
  go_wp2_with fail
  go_loopw [41] (fun v41 w' => ∃ (i : Nat) (named ps ds : List Int) (y : Int) (vp vd : Value), i ≤ len ∧ v41 = .int .i64 i ∧ Aside0 (NSt w w' w.heap.size w1.heap.size (w1.heap.size + 1) (.slice (some ⟨w1.heap.size + 1 + 1, 0, none⟩) W W) vp vd named ps ds y) ∧ Aside0 (Mid W n len x i named ps ds y)) (fun v41 _ => len - (intOf v41).toNat)
  case atStart => exact ⟨0, _, _, _, _, _, _, Nat.zero_le _, rfl, HS, HM⟩
  case round =>
    clear HS HM hmk
    obtain ⟨i, named, ps, ds, y, vp, vd, hi, rfl, HS, HM⟩ := hrel
    generalize w1.heap.size = z at HS ⊢
    by_cases hlt : i < len
    · have hd4 : decide (i < len) = true := decide_eq_true (by omega)
      go_wp2_with fail
      with_reducible refine (script_seeded_number.calls (z + 1) y _ _ w _ HS.out.b70 HS.out.hb (seeded_f y)).mono ?_
      rintro e w2 ⟨rfl, h70, hb2, hk2⟩
      have HS2 := Aside0.mk (HS.out.number h70 hb2 hk2)
      clear h70 hb2 hk2 HS
      go_wp2_with fail
      have HS3 := Aside0.mk (show NSt w w2.drew w.heap.size z (z + 1) (.slice (some ⟨z + 1 + 1, 0, none⟩) W W) vp vd named ps ds (nxt y) from HS2.out.drawn 1 rfl)
      clear HS2
      refine start_ (n := 8) (S := fun w' => w'.cell? ⟨z, 1, none⟩ = some vd) (ds := [7]) #[false, false, false, false, false, false, false, false] (by kernel_rfl) rfl rfl ((blk_cell HS3.out.b10 1).trans rfl) (fun hHeld => ?_); refine with_tabW tab16 bits16 (fun HT_ HW_ => ?_)
      generalize w2.drew = w3 at HS3 hHeld ⊢
      refine pure_ (i := 0) (N := some 46) (v := ?_) (a' := ?_) #[true, false, false, false, false, false, false, false] rfl rfl (any_of HT_.out (by kernel_rfl)) (fun _ _ _ h => h) (Or.inl ⟨by rfl, ?_⟩) ?_ ?_
      rotate_left
      · intro w'
        go_simp
        with_reducible rfl
      rotate_left
      · simp only [Act.put, List.setIfInBounds_toArray, List.set_cons_zero, List.set_cons_succ, i64_w, i32_w]
        rfl
      refine pure_ (i := 2) (N := some 48) (v := ?_) (a' := ?_) #[true, false, true, false, false, false, false, false] rfl rfl (any_of HT_.out (by kernel_rfl)) (fun _ _ _ h => h) (Or.inl ⟨by rfl, ?_⟩) ?_ ?_
      rotate_left
      · intro w'
        go_simp
        with_reducible rfl
      rotate_left
      · simp only [Act.put, List.setIfInBounds_toArray, List.set_cons_zero, List.set_cons_succ, i64_w, i32_w]
        rfl
      refine take_ (i := 1) (N := some 47) (v := ?_) (a' := ?_) #[true, true, true, false, false, false, false, false] rfl rfl (take_ofW HT_.out HW_.out (by kernel_rfl)) (fun _ _ _ h => h) (Or.inl ⟨by rfl, ?_⟩) hHeld ?_ ?_
      rotate_left
      · intro w' s0
        go_simp
        with_reducible rfl
      rotate_left
      · simp only [Act.put, List.setIfInBounds_toArray, List.set_cons_zero, List.set_cons_succ, i64_w, i32_w]
        rfl
      refine one_ (i := 3) (N := some 49) #[true, true, true, true, false, false, false, false] rfl rfl (one_of HT_.out (by kernel_rfl)) (by decide) (fun K hK => ?_)
      refine goes_ Try.func48 (by kernel_rfl) rfl #[.pointer (some ⟨z + 1, 0, none⟩)] (by rfl) rfl rfl (by (try simp only [List.map_toArray, List.map_cons, List.map_nil]); first | done | rfl) ?_
      with_reducible refine (script_seeded_number.calls (z + 1) (nxt y) _ _ w _ HS3.out.b70 HS3.out.hb (seeded_f (nxt y))).mono ?_
      rintro e w4 ⟨rfl, h70, hb4, hk4⟩
      have HS4 := Aside0.mk (HS3.out.number h70 hb4 hk4)
      clear h70 hb4 hk4 HS3
      refine ⟨_, rfl, ?_⟩
      refine hK.out _ _ ((blk_cell HS4.out.b10 1).trans rfl) (fun hHeld => ?_)
      clear hK K
      refine norm_ (a' := ?_) ?_ ?_
      rotate_left
      · show Act.put _ (some 49) _ = _
        simp only [Act.put, List.setIfInBounds_toArray, List.set_cons_zero, List.set_cons_succ, i64_w, i32_w]
        rfl
      refine one_ (i := 4) (N := some 50) #[true, true, true, true, true, false, false, false] rfl rfl (one_of HT_.out (by kernel_rfl)) (by decide) (fun K hK => ?_)
      refine value_ (w1 := ?_) (v := ?_) (by rfl) rfl ?_ ?_
      rotate_left 2
      · go_simp
        constructor
        · rfl
        · rfl
      refine hK.out _ _ ((blk_cell (blk_alloc HS4.out.b10 _) 1).trans rfl) (fun hHeld => ?_)
      clear hK K
      refine norm_ (a' := ?_) ?_ ?_
      rotate_left
      · show Act.put _ (some 50) _ = _
        simp only [Act.put, List.setIfInBounds_toArray, List.set_cons_zero, List.set_cons_succ, i64_w, i32_w]
        rfl
      refine one_ (i := 5) (N := some 51) #[true, true, true, true, true, true, false, false] rfl rfl (one_of HT_.out (by kernel_rfl)) (by decide) (fun K hK => ?_)
      have HD := Aside0.mk HM.out.hd
      refine Kd.R_append_step (Kd.int .i64) (w0 := w) w.heap.size (by rfl) (.tmp 47) (.tmp 50) 22 3 (.int .i64 0) 8 rfl Try.underlying22 info3 rfl (by decide) (by omega) vd ds (num (nxt (nxt y))) [.int .i64 (num (nxt (nxt y)))] (fun k => some k ≠ (Value.slice (some ⟨z + 1 + 1, 0, none⟩) W W).ownBlock ∧ some k ≠ vp.ownBlock) (fun _ => False) rfl rfl ?aP (fun _ hk => hk.elim) ?aF ?aO ?aB ?aS ?aL ?_
      (case aP => exact rfl)
      (case aB => exact HS4.out.hb)
      (case aF => exact (fun k_ hk => ⟨Kd.fresh' (Kd.R_lt HS4.out.rn) k_ hk, Kd.fresh' (Kd.R_lt HS4.out.rp) k_ hk⟩))
      (case aO => exact HS4.out.rd)
      (case aS => exact (below_size HS4.out.hb))
      (case aL => have := HD.out; omega)
      intro vd2 w5 ho hb hg hat
      have B10 := Aside0.mk (blk_grown HS4.out.b10 hg (Kd.R_ne HS4.out.rd HS4.out.b10 (by decide)))
      have HS5 := Aside0.mk (HS4.out.draw ho hb hg hat)
      obtain ⟨Ad, nd, cd, ed⟩ : ∃ A n c, vd2 = Value.slice A n c := by
        obtain ⟨A, c, e⟩ := Kd.R_slice ho
        exact ⟨A, _, c, e⟩
      subst ed
      clear ho hb hg hat HS4 HD
      refine hK.out _ _ ((blk_cell B10.out 1).trans rfl) (fun hHeld => ?_)
      clear hK K
      refine norm_ (a' := ?_) ?_ ?_
      rotate_left
      · show Act.put _ (some 51) _ = _
        simp only [Act.put, List.setIfInBounds_toArray, List.set_cons_zero, List.set_cons_succ, i64_w, i32_w]
        rfl
      refine pure_ (i := 6) (N := some 52) (v := ?_) (a' := ?_) #[true, true, true, true, true, true, true, false] rfl rfl (any_of HT_.out (by kernel_rfl)) (fun _ _ _ h => h) (Or.inl ⟨by rfl, ?_⟩) ?_ ?_
      rotate_left
      · intro w'
        go_simp
        with_reducible rfl
      rotate_left
      · simp only [Act.put, List.setIfInBounds_toArray, List.set_cons_zero, List.set_cons_succ, i64_w, i32_w]
        rfl
      refine last_ (i := 7) (N := none) #[true, true, true, true, true, true, true, true] rfl rfl (one_of HT_.out (by kernel_rfl)) (by decide) (fun K hK => ?_)
      have hs53 : w5.cell? ⟨z, 1, none⟩ = some vd := (blk_cell B10.out 1).trans rfl
      have hfs53 := blk_frozen B10.out 1
      refine skip_ (w1 := ?_) (by rfl) rfl ?_ ?_
      rotate_left
      · go_simp
        rfl
      refine hK.out _ _ ?_
      clear hK K hs53 hfs53 B10 HT_ HW_ hHeld
      refine done_ (done_of (by kernel_rfl : rtab .any (opsOf Try.f43 16) = T16) (by kernel_rfl)) ?_
      generalize w5.setCell ⟨z, 1, none⟩ (Value.slice Ad nd cd) = w6 at HS5 ⊢
      go_wp2_with fail
      have HO := Aside0.mk (show least named 0 0 (W - 0) = oldest named by unfold oldest; rw [HM.out.hn]; rfl)
      go_loopw [15, 55] (fun v15 v55 w' => ∃ p j : Nat, p < W ∧ j ≤ W ∧ v15 = .int .i64 p ∧ v55 = .int .i64 j ∧ Aside0 (least named p j (W - j) = oldest named) ∧ Aside0 (NSt w w' w.heap.size z (z + 1) (.slice (some ⟨z + 1 + 1, 0, none⟩) W W) vp (Value.slice Ad nd cd) named ps (ds ++ [num (nxt (nxt y))]) (nxt (nxt y)))) (fun _ v55 _ => W - (intOf v55).toNat)
      case atStart => exact ⟨0, 0, by omega, Nat.zero_le _, rfl, rfl, HO, HS5⟩
      case round =>
        clear HS5 HO
        obtain ⟨p, j, hp, hj, rfl, rfl, HO, HS5⟩ := hrel
        by_cases hlj : j < W
        · obtain ⟨hcj, hfj⟩ := HS5.out.cell' HM.out.hn j hlj
          obtain ⟨hcp, hfp⟩ := HS5.out.cell' HM.out.hn p hp
          have ho2 := least_step hlj HO.out
          clear HO
          generalize named.getD j 0 = aj at hcj ho2
          generalize named.getD p 0 = ap at hcp ho2
          have HO2 := Aside0.mk ho2
          clear ho2
          have hp0 : (0 : Int) ≤ (p : Int) := by omega
          have hpW : (p : Int) < (W : Int) := by omega
          have hj0 : (0 : Int) ≤ (j : Int) := by omega
          have hjW : (j : Int) < (W : Int) := by omega
          by_cases hc : aj < ap
          · have hb : decide (aj < ap) = true := decide_eq_true hc
            rw [if_pos hc] at HO2
            clear hc
            go_wp2
            repeat (go_quiet (fail); try go_wp2)
            go_roundw
            case measure => simp [intOf]; omega
            case rel => exact ⟨j, j + 1, hlj, by omega, rfl, by go_num, HO2, ⟨HS5.out.drawn _ rfl⟩⟩
          · have hb : decide (aj < ap) = false := decide_eq_false hc
            rw [if_neg hc] at HO2
            clear hc
            go_wp2
            repeat (go_quiet (fail); try go_wp2)
            go_roundw
            case measure => simp [intOf]; omega
            case rel => exact ⟨p, j + 1, hp, by omega, rfl, by go_num, HO2, ⟨HS5.out.drawn _ rfl⟩⟩
        · obtain rfl : j = W := by omega
          have HO2 := Aside0.mk (show p = oldest named by have := HO.out; rwa [Nat.sub_self] at this)
          clear HO
          obtain ⟨hcp, hfp⟩ := HS5.out.cell' HM.out.hn p hp
          have hp0 : (0 : Int) ≤ (p : Int) := by omega
          have hpW : (p : Int) < (j : Int) := by omega
          have hbd := getD_mem_bound HM.out.hv (show p < named.length by rw [HM.out.hn]; exact hp)
          obtain ⟨ap, hap⟩ : ∃ a, named.getD p 0 = a := ⟨_, rfl⟩
          rw [hap] at hcp hbd
          obtain ⟨hap0, hapi⟩ := hbd
          have HAP := Aside0.mk hap
          clear hap
          by_cases hc : (i : Int) - ap < (n : Int) - (j : Int)
          · obtain ⟨q, hq⟩ : ∃ q, pickOf j n i named (nxt y) = q := ⟨_, rfl⟩
            have hq1 : q = who j (num (nxt y)) := by rw [← hq]; unfold pickOf; rw [← HO2.out, HAP.out, if_pos hc]
            have hqlt : q < j := by rw [← hq]; exact pick_lt (by omega) HM.out.hn
            have HM2 := Aside0.mk (HM.out.next hlt)
            rw [hq] at HM2
            have HMq := Aside0.mk (show ops_Mod.f (num (nxt y)) (j : Int) = some ((q : Nat) : Int) by rw [hq1]; exact HMd.out _)
            have hb : decide ((i : Int) - ap < (n : Int) - (j : Int)) = true := decide_eq_true hc
            clear hc hq1 hq HO2 HAP
            go_wp2_with fail
            refine (ops_Mod.calls _ _ _ _ HMq.out).mono ?_
            rintro e w7 ⟨rfl, ⟨m7, rfl⟩⟩
            have HS6 := Aside0.mk (HS5.out.drawn m7 rfl)
            clear HS5 hcp hfp
            generalize wr.drewN m7 = wr at HS6 ⊢
            have HS5 := HS6
            clear HS6
            have HQ := Aside0.mk (HS5.out.mark' HM.out.hn q ((i : Int) + 1))
            have hq0 : (0 : Int) ≤ (q : Int) := by omega
            have hqW : (q : Int) < (j : Int) := by omega
            obtain ⟨hcq, hfq⟩ := HS5.out.cell' HM.out.hn q hqlt
            obtain ⟨hna, hnb⟩ := HS5.out.apart
            have hna' := hna.symm
            have hnb' := hnb.symm
            have HPl := Aside0.mk HM.out.hp
            go_wp2_with (first | ((with_reducible refine gate_store (t := 3) (p := 86) rfl ?_); refine store_event (t := 3) (p := 86) (v := ?vo) (w1 := (wr.setCell ⟨z + 1 + 1, q, none⟩ (.int .i64 ((i : Int) + 1)))) ?hg ?ho ?hn ?hr ?_; (case ho => rfl); (case hg => rfl); (case hn => rfl); (case hr => first | (go_simp; done) | (go_simp; rfl)); intro w7 hw; have HQ2 := Aside0.mk (show NSt w w7 w.heap.size z (z + 1) (Value.slice (some ⟨z + 1 + 1, 0, none⟩) j j) vp (Value.slice Ad nd cd) _ _ _ _ from by rw [hw]; exact HQ.out); clear HQ hw; have HQ := HQ2; clear HQ2; have hcv : w7.cell? ⟨z, 0, none⟩ = some vp := (blk_cell HQ.out.b10 0).trans rfl) | ((with_reducible refine gate_builtin (b := .append) (xs := #[.tmp 88, .tmp 90]) rfl ?_); at_builtin; refine Kd.R_append (Kd.int .i64) (w0 := w) w.heap.size rfl (.tmp 88) (.tmp 90) 22 3 (.int .i64 0) 8 rfl Try.underlying22 info3 rfl (by decide) (by omega) vp ps (q : Int) [.int .i64 (q : Int)] (fun k => some k ≠ (Value.slice (some ⟨z + 1 + 1, 0, none⟩) j j).ownBlock ∧ some k ≠ (Value.slice Ad nd cd).ownBlock) (fun _ => False) rfl rfl ?aP (fun _ hk => hk.elim) ?aF ?aO ?aB ?aS ?aL ?_; (case aP => exact rfl); (case aB => exact HQ.out.hb); (case aF => exact (fun k_ hk => ⟨Kd.fresh' (Kd.R_lt HQ.out.rn) k_ hk, Kd.fresh' (Kd.R_lt HQ.out.rd) k_ hk⟩)); (case aO => exact HQ.out.rp); (case aS => exact (below_size HQ.out.hb)); (case aL => have := HPl.out; omega); intro vp2 w8 ho hb hg hat; have B10 := Aside0.mk (blk_grown HQ.out.b10 hg (Kd.R_ne HQ.out.rp HQ.out.b10 (by decide))); have HS8 := Aside0.mk (HQ.out.pick ho hb hg hat); obtain ⟨Ap, np, cp, ep⟩ : ∃ A n c, vp2 = Value.slice A n c := (by obtain ⟨A, c, e⟩ := Kd.R_slice ho; exact ⟨A, _, c, e⟩); subst ep; clear ho hb hg hat HQ HS5 hcv; have hs8 : w8.cell? ⟨z, 0, none⟩ = some vp := (blk_cell B10.out 0).trans rfl; have hf8 := blk_frozen B10.out 0; clear B10))
            go_roundw
            case measure => simp [intOf]; omega
            case rel => exact ⟨i + 1, _, _, _, _, _, _, by omega, by go_num, HS8, HM2⟩
          · obtain ⟨q, rfl⟩ : ∃ q, q = p := ⟨p, rfl⟩
            have hq : pickOf j n i named (nxt y) = q := by unfold pickOf; rw [← HO2.out, HAP.out, if_neg hc]
            have hqlt : q < j := hp
            have HM2 := Aside0.mk (HM.out.next hlt)
            rw [hq] at HM2
            have hb : decide ((i : Int) - ap < (n : Int) - (j : Int)) = false := decide_eq_false hc
            clear hc hq HO2 HAP
            have HQ := Aside0.mk (HS5.out.mark' HM.out.hn q ((i : Int) + 1))
            have hq0 : (0 : Int) ≤ (q : Int) := by omega
            have hqW : (q : Int) < (j : Int) := by omega
            obtain ⟨hcq, hfq⟩ := HS5.out.cell' HM.out.hn q hqlt
            obtain ⟨hna, hnb⟩ := HS5.out.apart
            have hna' := hna.symm
            have hnb' := hnb.symm
            have HPl := Aside0.mk HM.out.hp
            go_wp2_with (first | ((with_reducible refine gate_store (t := 3) (p := 86) rfl ?_); refine store_event (t := 3) (p := 86) (v := ?vo) (w1 := (wr.setCell ⟨z + 1 + 1, q, none⟩ (.int .i64 ((i : Int) + 1)))) ?hg ?ho ?hn ?hr ?_; (case ho => rfl); (case hg => rfl); (case hn => rfl); (case hr => first | (go_simp; done) | (go_simp; rfl)); intro w7 hw; have HQ2 := Aside0.mk (show NSt w w7 w.heap.size z (z + 1) (Value.slice (some ⟨z + 1 + 1, 0, none⟩) j j) vp (Value.slice Ad nd cd) _ _ _ _ from by rw [hw]; exact HQ.out); clear HQ hw; have HQ := HQ2; clear HQ2; have hcv : w7.cell? ⟨z, 0, none⟩ = some vp := (blk_cell HQ.out.b10 0).trans rfl) | ((with_reducible refine gate_builtin (b := .append) (xs := #[.tmp 88, .tmp 90]) rfl ?_); at_builtin; refine Kd.R_append (Kd.int .i64) (w0 := w) w.heap.size rfl (.tmp 88) (.tmp 90) 22 3 (.int .i64 0) 8 rfl Try.underlying22 info3 rfl (by decide) (by omega) vp ps (q : Int) [.int .i64 (q : Int)] (fun k => some k ≠ (Value.slice (some ⟨z + 1 + 1, 0, none⟩) j j).ownBlock ∧ some k ≠ (Value.slice Ad nd cd).ownBlock) (fun _ => False) rfl rfl ?aP (fun _ hk => hk.elim) ?aF ?aO ?aB ?aS ?aL ?_; (case aP => exact rfl); (case aB => exact HQ.out.hb); (case aF => exact (fun k_ hk => ⟨Kd.fresh' (Kd.R_lt HQ.out.rn) k_ hk, Kd.fresh' (Kd.R_lt HQ.out.rd) k_ hk⟩)); (case aO => exact HQ.out.rp); (case aS => exact (below_size HQ.out.hb)); (case aL => have := HPl.out; omega); intro vp2 w8 ho hb hg hat; have B10 := Aside0.mk (blk_grown HQ.out.b10 hg (Kd.R_ne HQ.out.rp HQ.out.b10 (by decide))); have HS8 := Aside0.mk (HQ.out.pick ho hb hg hat); obtain ⟨Ap, np, cp, ep⟩ : ∃ A n c, vp2 = Value.slice A n c := (by obtain ⟨A, c, e⟩ := Kd.R_slice ho; exact ⟨A, _, c, e⟩); subst ep; clear ho hb hg hat HQ HS5 hcv; have hs8 : w8.cell? ⟨z, 0, none⟩ = some vp := (blk_cell B10.out 0).trans rfl; have hf8 := blk_frozen B10.out 0; clear B10))
            go_roundw
            case measure => simp [intOf]; omega
            case rel => exact ⟨i + 1, _, _, _, _, _, _, by omega, by go_num, HS8, HM2⟩
    · obtain rfl : i = len := by omega
      have hd4 : decide ((i : Int) < (i : Int)) = false := decide_eq_false (by omega)
      obtain ⟨e1, e2⟩ := HM.out.last
      have HS2 := HS.out
      rw [e1, e2] at HS2
      clear HS HM e1 e2
      have HS := Aside0.mk HS2
      clear HS2
      obtain ⟨Ap, np, cp, ep⟩ : ∃ A n c, vp = Value.slice A n c := by
        obtain ⟨A, c, e⟩ := Kd.R_slice HS.out.rp
        exact ⟨A, _, c, e⟩
      obtain ⟨Ad, nd, cd, ed⟩ : ∃ A n c, vd = Value.slice A n c := by
        obtain ⟨A, c, e⟩ := Kd.R_slice HS.out.rd
        exact ⟨A, _, c, e⟩
      subst ep ed
      have hc0 : wr.cell? ⟨z, 0, none⟩ = some (Value.slice Ap np cp) := (blk_cell HS.out.b10 0).trans rfl
      have hc1 : wr.cell? ⟨z, 1, none⟩ = some (Value.slice Ad nd cd) := (blk_cell HS.out.b10 1).trans rfl
      have hc2 : wr.cell? ⟨w.heap.size, 0, none⟩ = some (.slice none 0 0) := (blk_cell HS.out.b8 0).trans rfl
      have hc3 : wr.cell? ⟨w.heap.size, 1, none⟩ = some (.slice none 0 0) := (blk_cell HS.out.b8 1).trans rfl
      have hf0 := blk_frozen HS.out.b8 0
      have hf1 := blk_frozen HS.out.b8 1
      have hne := HS.out.ne
      have hne' := hne.symm
      go_wp2
      refine bodyPost_ret (results_ct rfl _ _ w.heap.size 24 #[Value.slice Ap np cp, Value.slice Ad nd cd] (0, 0) _ rfl (by refine blk_put (cs := #[Value.slice Ap np cp, .slice none 0 0]) ?_ 1 _ rfl; refine blk_put (cs := #[.slice none 0 0, .slice none 0 0]) ?_ 0 _ rfl; exact HS.out.b8) Try.underlying24 rfl (by kernel_rfl)) rfl ?_
      exact ⟨_, _, rfl, Kd.R_mono (Kd.R_far (p := ⟨w.heap.size, 1, none⟩) (Kd.R_far (p := ⟨w.heap.size, 0, none⟩) (Kd.R_types HS.out.rp HS.out.b8 (by decide)) (fun _ hk => hk.2) _) (fun _ hk => hk.2) _) (fun _ hk => hk.1.2), Kd.R_mono (Kd.R_far (p := ⟨w.heap.size, 1, none⟩) (Kd.R_far (p := ⟨w.heap.size, 0, none⟩) (Kd.R_types HS.out.rd HS.out.b8 (by decide)) (fun _ hk => hk.2) _) (fun _ hk => hk.2) _) (fun _ hk => hk.1.2), below_set (below_set HS.out.hb HS.out.ge8) HS.out.ge8⟩

set_option maxHeartbeats 2000000 in
set_option maxRecDepth 100000 in
theorem noise_e1 (x a n len : Int) (w : World) (h : ¬ (1 ≤ a ∧ a ≤ 64)) :
    Calls Try.prog 43 #[.int .i64 x, .int .i64 a, .int .i64 n, .int .i64 len] w fun e w' => ∃ v0_ v1_ : Value, e = .returned (.tuple #[.agg #[v0_, v1_], .int .i64 3]) ∧
      RI w' w.heap.size (fun k => some k ≠ v1_.ownBlock) v0_ [] ∧ RI w' w.heap.size (fun k => some k ≠ v0_.ownBlock) v1_ [] ∧ Below w.heap.size w w' := by
  have HG := Aside0.mk (script_goodWorkers.calls a false)
  have HGf := Aside0.mk (show script_goodWorkers.f a = some false by unfold script_goodWorkers.f; split <;> simp <;> omega)
  go_enter Try.func43, Try.ntmps43
  go_wp2_with fail
  refine (HG.out _ HGf.out).mono ?_
  rintro e w1 ⟨rfl, ⟨m1, rfl⟩⟩
  have HB := Aside0.mk (show Below w.heap.size w ((w.alloc (.cells #[.slice none 0 0, .slice none 0 0] 24)).drewN m1) from pw_below_drewN (below_alloc (Below.refl _ _) _) m1)
  have H8 := Aside0.mk (show ((w.alloc (.cells #[.slice none 0 0, .slice none 0 0] 24)).drewN m1).heap[w.heap.size]? = some (.cells #[.slice none 0 0, .slice none 0 0] 24 (0, 0)) from blk_drewN (blk_new w _) m1)
  generalize (w.alloc (.cells #[.slice none 0 0, .slice none 0 0] 24)).drewN m1 = w1 at HB H8 ⊢
  clear HG HGf
  have hc2 : w1.cell? ⟨w.heap.size, 0, none⟩ = some (.slice none 0 0) := (blk_cell H8.out 0).trans rfl
  have hc3 : w1.cell? ⟨w.heap.size, 1, none⟩ = some (.slice none 0 0) := (blk_cell H8.out 1).trans rfl
  have hf0 := blk_frozen H8.out 0
  have hf1 := blk_frozen H8.out 1
  go_wp2
  refine bodyPost_ret (results_ct rfl _ _ w.heap.size 24 #[.slice none 0 0, .slice none 0 0] (0, 0) _ rfl (by refine blk_put (cs := #[.slice none 0 0, .slice none 0 0]) ?_ 1 _ rfl; refine blk_put (cs := #[.slice none 0 0, .slice none 0 0]) ?_ 0 _ rfl; exact H8.out) Try.underlying24 rfl (by kernel_rfl)) rfl ?_
  exact ⟨_, _, rfl, Kd.R_nil _ _ _ _ _, Kd.R_nil _ _ _ _ _, below_set (below_set HB.out (Nat.le_refl _)) (Nat.le_refl _)⟩

set_option maxHeartbeats 2000000 in
set_option maxRecDepth 100000 in
theorem noise_e2 (x a n len : Int) (w : World) (h : 1 ≤ a ∧ a ≤ 64) (h1 : n < a) :
    Calls Try.prog 43 #[.int .i64 x, .int .i64 a, .int .i64 n, .int .i64 len] w fun e w' => ∃ v0_ v1_ : Value, e = .returned (.tuple #[.agg #[v0_, v1_], .int .i64 101]) ∧
      RI w' w.heap.size (fun k => some k ≠ v1_.ownBlock) v0_ [] ∧ RI w' w.heap.size (fun k => some k ≠ v0_.ownBlock) v1_ [] ∧ Below w.heap.size w w' := by
  have HG := Aside0.mk (script_goodWorkers.calls a true)
  have HGf := Aside0.mk (show script_goodWorkers.f a = some true by unfold script_goodWorkers.f; split <;> simp <;> omega)
  have hd1 : decide (n < a) = true := decide_eq_true h1
  go_enter Try.func43, Try.ntmps43
  go_wp2_with fail
  refine (HG.out _ HGf.out).mono ?_
  rintro e w1 ⟨rfl, ⟨m1, rfl⟩⟩
  have HB := Aside0.mk (show Below w.heap.size w ((w.alloc (.cells #[.slice none 0 0, .slice none 0 0] 24)).drewN m1) from pw_below_drewN (below_alloc (Below.refl _ _) _) m1)
  have H8 := Aside0.mk (show ((w.alloc (.cells #[.slice none 0 0, .slice none 0 0] 24)).drewN m1).heap[w.heap.size]? = some (.cells #[.slice none 0 0, .slice none 0 0] 24 (0, 0)) from blk_drewN (blk_new w _) m1)
  generalize (w.alloc (.cells #[.slice none 0 0, .slice none 0 0] 24)).drewN m1 = w1 at HB H8 ⊢
  clear HG HGf
  have hc2 : w1.cell? ⟨w.heap.size, 0, none⟩ = some (.slice none 0 0) := (blk_cell H8.out 0).trans rfl
  have hc3 : w1.cell? ⟨w.heap.size, 1, none⟩ = some (.slice none 0 0) := (blk_cell H8.out 1).trans rfl
  have hf0 := blk_frozen H8.out 0
  have hf1 := blk_frozen H8.out 1
  go_wp2
  refine bodyPost_ret (results_ct rfl _ _ w.heap.size 24 #[.slice none 0 0, .slice none 0 0] (0, 0) _ rfl (by refine blk_put (cs := #[.slice none 0 0, .slice none 0 0]) ?_ 1 _ rfl; refine blk_put (cs := #[.slice none 0 0, .slice none 0 0]) ?_ 0 _ rfl; exact H8.out) Try.underlying24 rfl (by kernel_rfl)) rfl ?_
  exact ⟨_, _, rfl, Kd.R_nil _ _ _ _ _, Kd.R_nil _ _ _ _ _, below_set (below_set HB.out (Nat.le_refl _)) (Nat.le_refl _)⟩

set_option maxHeartbeats 2000000 in
set_option maxRecDepth 100000 in
theorem noise_e3 (x a n len : Int) (w : World) (h : 1 ≤ a ∧ a ≤ 64) (h1 : ¬ n < a) (h2 : len < 0) :
    Calls Try.prog 43 #[.int .i64 x, .int .i64 a, .int .i64 n, .int .i64 len] w fun e w' => ∃ v0_ v1_ : Value, e = .returned (.tuple #[.agg #[v0_, v1_], .int .i64 3]) ∧
      RI w' w.heap.size (fun k => some k ≠ v1_.ownBlock) v0_ [] ∧ RI w' w.heap.size (fun k => some k ≠ v0_.ownBlock) v1_ [] ∧ Below w.heap.size w w' := by
  have HG := Aside0.mk (script_goodWorkers.calls a true)
  have HGf := Aside0.mk (show script_goodWorkers.f a = some true by unfold script_goodWorkers.f; split <;> simp <;> omega)
  have hd1 : decide (n < a) = false := decide_eq_false h1
  have hd2 : decide (len < 0) = true := decide_eq_true h2
  go_enter Try.func43, Try.ntmps43
  go_wp2_with fail
  refine (HG.out _ HGf.out).mono ?_
  rintro e w1 ⟨rfl, ⟨m1, rfl⟩⟩
  have HB := Aside0.mk (show Below w.heap.size w ((w.alloc (.cells #[.slice none 0 0, .slice none 0 0] 24)).drewN m1) from pw_below_drewN (below_alloc (Below.refl _ _) _) m1)
  have H8 := Aside0.mk (show ((w.alloc (.cells #[.slice none 0 0, .slice none 0 0] 24)).drewN m1).heap[w.heap.size]? = some (.cells #[.slice none 0 0, .slice none 0 0] 24 (0, 0)) from blk_drewN (blk_new w _) m1)
  generalize (w.alloc (.cells #[.slice none 0 0, .slice none 0 0] 24)).drewN m1 = w1 at HB H8 ⊢
  clear HG HGf
  have hc2 : w1.cell? ⟨w.heap.size, 0, none⟩ = some (.slice none 0 0) := (blk_cell H8.out 0).trans rfl
  have hc3 : w1.cell? ⟨w.heap.size, 1, none⟩ = some (.slice none 0 0) := (blk_cell H8.out 1).trans rfl
  have hf0 := blk_frozen H8.out 0
  have hf1 := blk_frozen H8.out 1
  go_wp2
  refine bodyPost_ret (results_ct rfl _ _ w.heap.size 24 #[.slice none 0 0, .slice none 0 0] (0, 0) _ rfl (by refine blk_put (cs := #[.slice none 0 0, .slice none 0 0]) ?_ 1 _ rfl; refine blk_put (cs := #[.slice none 0 0, .slice none 0 0]) ?_ 0 _ rfl; exact H8.out) Try.underlying24 rfl (by kernel_rfl)) rfl ?_
  exact ⟨_, _, rfl, Kd.R_nil _ _ _ _ _, Kd.R_nil _ _ _ _ _, below_set (below_set HB.out (Nat.le_refl _)) (Nat.le_refl _)⟩

set_option maxHeartbeats 2000000 in
set_option maxRecDepth 100000 in
theorem noise_e4 (x a n len : Int) (w : World) (h : 1 ≤ a ∧ a ≤ 64) (h1 : ¬ n < a) (h2 : ¬ len < 0) (h3 : 1048576 < len) :
    Calls Try.prog 43 #[.int .i64 x, .int .i64 a, .int .i64 n, .int .i64 len] w fun e w' => ∃ v0_ v1_ : Value, e = .returned (.tuple #[.agg #[v0_, v1_], .int .i64 2]) ∧
      RI w' w.heap.size (fun k => some k ≠ v1_.ownBlock) v0_ [] ∧ RI w' w.heap.size (fun k => some k ≠ v0_.ownBlock) v1_ [] ∧ Below w.heap.size w w' := by
  have HG := Aside0.mk (script_goodWorkers.calls a true)
  have HGf := Aside0.mk (show script_goodWorkers.f a = some true by unfold script_goodWorkers.f; split <;> simp <;> omega)
  have hd1 : decide (n < a) = false := decide_eq_false h1
  have hd2 : decide (len < 0) = false := decide_eq_false h2
  have hd3 : decide (1048576 < len) = true := decide_eq_true h3
  go_enter Try.func43, Try.ntmps43
  go_wp2_with fail
  refine (HG.out _ HGf.out).mono ?_
  rintro e w1 ⟨rfl, ⟨m1, rfl⟩⟩
  have HB := Aside0.mk (show Below w.heap.size w ((w.alloc (.cells #[.slice none 0 0, .slice none 0 0] 24)).drewN m1) from pw_below_drewN (below_alloc (Below.refl _ _) _) m1)
  have H8 := Aside0.mk (show ((w.alloc (.cells #[.slice none 0 0, .slice none 0 0] 24)).drewN m1).heap[w.heap.size]? = some (.cells #[.slice none 0 0, .slice none 0 0] 24 (0, 0)) from blk_drewN (blk_new w _) m1)
  generalize (w.alloc (.cells #[.slice none 0 0, .slice none 0 0] 24)).drewN m1 = w1 at HB H8 ⊢
  clear HG HGf
  have hc2 : w1.cell? ⟨w.heap.size, 0, none⟩ = some (.slice none 0 0) := (blk_cell H8.out 0).trans rfl
  have hc3 : w1.cell? ⟨w.heap.size, 1, none⟩ = some (.slice none 0 0) := (blk_cell H8.out 1).trans rfl
  have hf0 := blk_frozen H8.out 0
  have hf1 := blk_frozen H8.out 1
  go_wp2
  refine bodyPost_ret (results_ct rfl _ _ w.heap.size 24 #[.slice none 0 0, .slice none 0 0] (0, 0) _ rfl (by refine blk_put (cs := #[.slice none 0 0, .slice none 0 0]) ?_ 1 _ rfl; refine blk_put (cs := #[.slice none 0 0, .slice none 0 0]) ?_ 0 _ rfl; exact H8.out) Try.underlying24 rfl (by kernel_rfl)) rfl ?_
  exact ⟨_, _, rfl, Kd.R_nil _ _ _ _ _, Kd.R_nil _ _ _ _ _, below_set (below_set HB.out (Nat.le_refl _)) (Nat.le_refl _)⟩

/-- script.Noise answers what the document's definition makes. -/
theorem noise_calls (x a n len : Int) (w : World) (hn : n ≤ 9223372036854775807) :
    Calls Try.prog 43 #[.int .i64 x, .int .i64 a, .int .i64 n, .int .i64 len] w fun e w' => ∃ v0_ v1_ : Value, e = .returned (.tuple #[.agg #[v0_, v1_], .int .i64 (noiseR x a n len).2.2]) ∧
      RI w' w.heap.size (fun k => some k ≠ v1_.ownBlock) v0_ (noiseR x a n len).1 ∧ RI w' w.heap.size (fun k => some k ≠ v0_.ownBlock) v1_ (noiseR x a n len).2.1 ∧ Below w.heap.size w w' := by
  by_cases h : 1 ≤ a ∧ a ≤ 64
  · by_cases h1 : n < a
    · rw [show noiseR x a n len = ([], [], 101) by unfold noiseR; rw [if_pos h, if_pos h1]]
      exact noise_e2 x a n len w h h1
    · by_cases h2 : len < 0
      · rw [show noiseR x a n len = ([], [], 3) by unfold noiseR; rw [if_pos h, if_neg h1, if_pos h2]]
        exact noise_e3 x a n len w h h1 h2
      · by_cases h3 : len > 1048576
        · rw [show noiseR x a n len = ([], [], 2) by unfold noiseR; rw [if_pos h, if_neg h1, if_neg h2, if_pos h3]]
          exact noise_e4 x a n len w h h1 h2 h3
        · obtain ⟨W, rfl⟩ : ∃ W : Nat, a = W := ⟨a.toNat, by omega⟩
          obtain ⟨N, rfl⟩ : ∃ N : Nat, n = N := ⟨n.toNat, by omega⟩
          obtain ⟨L, rfl⟩ : ∃ L : Nat, len = L := ⟨len.toNat, by omega⟩
          rw [show noiseR x (W : Int) (N : Int) (L : Int) = ((noise W N L 0 (List.replicate W 0) x).map (·.1), (noise W N L 0 (List.replicate W 0) x).map (·.2), 0) by unfold noiseR; rw [if_pos h, if_neg h1, if_neg h2, if_neg h3]; simp only [Int.toNat_natCast]]
          exact noise_ok W N L x w (by omega) (by omega) (by omega) (by omega) (by omega)
  · rw [show noiseR x a n len = ([], [], 3) by unfold noiseR; rw [if_neg h]]
    exact noise_e1 x a n len w h
end Go.Proofs.Ytjlbimnafbngaaa.Noise
