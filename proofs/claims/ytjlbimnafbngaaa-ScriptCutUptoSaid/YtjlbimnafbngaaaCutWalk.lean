/- The law ScriptCut answers true for every script and every number, where the lists are no longer than the bound. -/
import Derived.Test.YtjlbimnafbngaaaCutPure
import Derived.Deep.DeepCutAuto
namespace Go.Proofs.Ytjlbimnafbngaaa.Cut
open Go.RowKit Go.Proofs.YtjlbimnafbngaaaW.PrintWords Go.Proofs.YtjlbimnafbngaaaW.PrintLast Go.Proofs.YtjlbimnafbngaaaW.PrintMore Go.Proofs.Ytjlbimnafbngaaa.BitMath Go.Proofs.Ytjlbimnafbngaaa.PScriptCut Go.Proofs.Ytjlbimnafbngaaa.Fam
set_option linter.unusedSimpArgs false
set_option linter.unusedVariables false

def C1 : Bool × List (List Nat × List Nat) := (true, [([], []), ([0], [0]), ([1], [1]), ([], []), ([3], [3]), ([4, 2], [4]), ([2, 5], [2, 5]), ([], []), ([7, 6, 5, 0, 1, 2, 3, 4, 5, 6, 7], [6, 7])])
def C1B : List Nat := [0, 1, 3, 0, 8, 31, 63, 0, 255]
theorem C1_tab : rtab .any (opsOf Try.f3 1) = C1 := by kernel_rfl
theorem C1_bits : waitsOk C1.2 C1B = true := by kernel_rfl

/-- A list as long, with other numbers. -/
def other (p : List Int) : List Int := p.map (fun x => wrap64 (x + 1))
theorem other_length (p : List Int) : (other p).length = p.length := by unfold other; simp
theorem other_mark (p : List Int) : (other p ++ [-77]).getD p.length 0 = -77 := by
  have h : p.length = (other p).length := (other_length p).symm
  rw [h, List.getD_eq_getElem?_getD, List.getElem?_append_right (Nat.le_refl _)]
  simp

set_option maxHeartbeats 8000000 in
set_option maxRecDepth 100000 in
theorem walk (A0 A1 : Option Addr) (c0 c1 : Nat) (p d : List Int) (a : Int) (w : World) (hp0 : Kd.C (Kd.int .i64) w A0 p.length p) (hc0 : p.length ≤ c0) (hd0 : Kd.C (Kd.int .i64) w A1 d.length d) (hc1 : d.length ≤ c1) (hp : p.length ≤ 1048576) (hd : d.length ≤ 1048576) (ha : In64 a) :
    Calls Try.prog 3 #[.agg #[.slice A0 p.length c0, .slice A1 d.length c1], .int .i64 a] w fun e w' => e = .returned (.bool true) ∧ Below w.heap.size w w' := by
  have HP := Aside0.mk hp0
  have HD := Aside0.mk hd0
  have HC0 := Aside0.mk hc0
  have HC1 := Aside0.mk hc1
  have HLp := Aside0.mk hp
  have HLd := Aside0.mk hd
  have HA := Aside0.mk ha
  clear hp0 hd0 hc0 hc1 hp hd ha
  have HS0 := Aside0.mk ((HS.start 24 w).new #[.slice A0 p.length c0, .slice A1 d.length c1])
  go_enter Try.func3, Try.ntmps3
  go_upto_region 1 with fail
  go_cut [5] (fun v5 wc => ∃ (g5 gp cp gd cd : Nat), v5 = .pointer (some ⟨g5, 0, none⟩) ∧ Aside0 (HS 24 w wc [(w.heap.size, #[.slice A0 p.length c0, .slice A1 d.length c1]), (g5, #[.slice (some ⟨gp, 0, none⟩) p.length cp, .slice (some ⟨gd, 0, none⟩) d.length cd])]
    [(.slice (some ⟨gp, 0, none⟩) (p.length + 1) cp, other p ++ [-77]), (.slice (some ⟨gd, 0, none⟩) (d.length + 1) cd, other d ++ [-77])]))
  case first =>
    generalize w.alloc (.cells #[.slice A0 p.length c0, .slice A1 d.length c1] 24) = w1 at HS0 ⊢
    have HS1 := Aside0.mk (show HS 24 w w1.drew _ _ from HS0.out.drawn 1 rfl)
    clear HS0
    refine start_ (n := 9) (S := (fun w' => w'.cell? ⟨w.heap.size, 0, none⟩ = some (.slice A0 p.length c0) ∧ w'.cell? ⟨w.heap.size, 1, none⟩ = some (.slice A1 d.length c1))) (ds := [8]) #[false, false, false, false, false, false, false, false, false] (by kernel_rfl) rfl rfl ⟨(blk_cell (HS1.out.blk (i := 0) rfl) 0).trans rfl, (blk_cell (HS1.out.blk (i := 0) rfl) 1).trans rfl⟩ (fun hHeld => ?_); refine with_tabW C1_tab C1_bits (fun HT_ HW_ => ?_)
    generalize w1.drew = w2 at HS1 hHeld ⊢
    refine pure_ (i := 0) (N := some 14) (v := ?_) (a' := ?_) #[true, false, false, false, false, false, false, false, false] rfl rfl (any_of HT_.out (by kernel_rfl)) (fun _ _ _ h => h) (Or.inl ⟨by rfl, ?_⟩) ?_ ?_
    rotate_left
    · intro w'
      go_simp
      with_reducible rfl
    rotate_left
    · simp only [Act.put, List.setIfInBounds_toArray, List.set_cons_zero, List.set_cons_succ, i64_w, i32_w]
      rfl
    refine pure_ (i := 3) (N := some 17) (v := ?_) (a' := ?_) #[true, false, false, true, false, false, false, false, false] rfl rfl (any_of HT_.out (by kernel_rfl)) (fun _ _ _ h => h) (Or.inl ⟨by rfl, ?_⟩) ?_ ?_
    rotate_left
    · intro w'
      go_simp
      with_reducible rfl
    rotate_left
    · simp only [Act.put, List.setIfInBounds_toArray, List.set_cons_zero, List.set_cons_succ, i64_w, i32_w]
      rfl
    refine take_ (i := 1) (N := some 15) (v := ?_) (a' := ?_) #[true, true, false, true, false, false, false, false, false] rfl rfl (take_ofW HT_.out HW_.out (by kernel_rfl)) (fun _ _ _ h => h) (Or.inl ⟨by rfl, ?_⟩) hHeld ?_ ?_
    rotate_left
    · rintro w' ⟨s0, s1⟩
      go_simp
      with_reducible rfl
    rotate_left
    · simp only [Act.put, List.setIfInBounds_toArray, List.set_cons_zero, List.set_cons_succ, i64_w, i32_w]
      rfl
    refine take_ (i := 4) (N := some 18) (v := ?_) (a' := ?_) #[true, true, false, true, true, false, false, false, false] rfl rfl (take_ofW HT_.out HW_.out (by kernel_rfl)) (fun _ _ _ h => h) (Or.inl ⟨by rfl, ?_⟩) hHeld ?_ ?_
    rotate_left
    · rintro w' ⟨s0, s1⟩
      go_simp
      with_reducible rfl
    rotate_left
    · simp only [Act.put, List.setIfInBounds_toArray, List.set_cons_zero, List.set_cons_succ, i64_w, i32_w]
      rfl
    refine two_ (i := 2) (j := 7) (Ni := some 16) (Nj := some 5) #[true, true, true, true, true, false, false, false, false] #[true, true, false, true, true, false, false, true, false] rfl rfl rfl rfl (two_of HT_.out (by kernel_rfl)) (by decide) (by decide) (fun K hK => ?_) (fun K hK => ?_)
    · refine goes_ Try.func14 (by kernel_rfl) rfl #[.slice A0 p.length c0] (by rfl) rfl rfl (by (try simp only [List.map_toArray, List.map_cons, List.map_nil]); first | done | rfl) ?_
      with_reducible refine (Mark.moved_calls A0 c0 p _ (Kd.C_below HP.out HS1.out.hb) HC0.out (by have := HLp.out; omega)).mono ?_
      rintro e wp ⟨gp, cp, rfl, hM, hb⟩
      have HS2 := Aside0.mk (of_marked HS1.out hM hb)
      clear hM hb HS1
      refine ⟨_, rfl, ?_⟩
      refine hK.out _ _ ⟨(blk_cell (HS2.out.blk (i := 0) rfl) 0).trans rfl, (blk_cell (HS2.out.blk (i := 0) rfl) 1).trans rfl⟩ (fun hHeld => ?_)
      clear hK K
      refine norm_ (a' := ?_) ?_ ?_
      rotate_left
      · show Act.put _ (some 16) _ = _
        simp only [Act.put, List.setIfInBounds_toArray, List.set_cons_zero, List.set_cons_succ, i64_w, i32_w]
        rfl
      refine two_ (i := 5) (j := 7) (Ni := some 19) (Nj := some 5) #[true, true, true, true, true, true, false, false, false] #[true, true, true, true, true, false, false, true, false] rfl rfl rfl rfl (two_of HT_.out (by kernel_rfl)) (by decide) (by decide) (fun K hK => ?_) (fun K hK => ?_)
      · refine goes_ Try.func14 (by kernel_rfl) rfl #[.slice A1 d.length c1] (by rfl) rfl rfl (by (try simp only [List.map_toArray, List.map_cons, List.map_nil]); first | done | rfl) ?_
        with_reducible refine (Mark.moved_calls A1 c1 d _ (Kd.C_below HD.out HS2.out.hb) HC1.out (by have := HLd.out; omega)).mono ?_
        rintro e wd ⟨gd, cd, rfl, hM, hb⟩
        have HS3 := Aside0.mk (of_marked HS2.out hM hb)
        clear hM hb HS2
        refine ⟨_, rfl, ?_⟩
        refine hK.out _ _ ⟨(blk_cell (HS3.out.blk (i := 0) rfl) 0).trans rfl, (blk_cell (HS3.out.blk (i := 0) rfl) 1).trans rfl⟩ (fun hHeld => ?_)
        clear hK K
        refine norm_ (a' := ?_) ?_ ?_
        rotate_left
        · show Act.put _ (some 19) _ = _
          simp only [Act.put, List.setIfInBounds_toArray, List.set_cons_zero, List.set_cons_succ, i64_w, i32_w]
          rfl
        refine pure_ (i := 6) (N := some 20) (v := ?_) (a' := ?_) #[true, true, true, true, true, true, true, false, false] rfl rfl (any_of HT_.out (by kernel_rfl)) (fun _ _ _ h => h) (Or.inl ⟨by rfl, ?_⟩) ?_ ?_
        rotate_left
        · intro w'
          go_simp
          with_reducible rfl
        rotate_left
        · simp only [Act.put, List.setIfInBounds_toArray, List.set_cons_zero, List.set_cons_succ, i64_w, i32_w]
          rfl
        have HS4 := Aside0.mk (HS3.out.new #[.slice none 0 0, .slice none 0 0])
        obtain ⟨g5, eg5⟩ : ∃ g, g = wd.heap.size := ⟨_, rfl⟩
        refine one_ (i := 7) (N := some 5) #[true, true, true, true, true, true, true, true, false] rfl rfl (one_of HT_.out (by kernel_rfl)) (by decide) (fun K hK => ?_)
        refine value_ (w1 := ?_) (v := ?_) (by rfl) rfl ?_ ?_
        rotate_left 2
        · go_simp
          constructor
          · rfl
          · rfl
        refine hK.out _ _ ⟨(blk_cell (HS4.out.blk (i := 0) rfl) 0).trans rfl, (blk_cell (HS4.out.blk (i := 0) rfl) 1).trans rfl⟩ (fun hHeld => ?_)
        clear hK K
        refine norm_ (a' := ?_) ?_ ?_
        rotate_left
        · show Act.put _ (some 5) _ = _
          simp only [Act.put, List.setIfInBounds_toArray, List.set_cons_zero, List.set_cons_succ, i64_w, i32_w]
          rfl
        rw [← eg5] at HS4 ⊢
        clear eg5 HS3
        generalize wd.alloc (.cells #[.slice none 0 0, .slice none 0 0] 24) = wda at HS4 hHeld ⊢
        have hf0 := blk_frozen (HS4.out.blk (i := 1) rfl) 0
        have hf1 := blk_frozen (HS4.out.blk (i := 1) rfl) 1
        have hx0 := (blk_cell (HS4.out.blk (i := 1) rfl) 0).trans rfl
        have hx1 := (blk_cell (HS4.out.blk (i := 1) rfl) 1).trans rfl
        refine last_ (i := 8) (N := none) #[true, true, true, true, true, true, true, true, true] rfl rfl (one_of HT_.out (by kernel_rfl)) (by decide) (fun K hK => ?_)
        refine skip_ (w1 := ?_) (by rfl) rfl ?_ ?_
        rotate_left
        · go_simp
          rfl
        refine hK.out _ _ ?_
        clear hK K
        refine done_ (done_of HT_.out (by kernel_rfl)) ?_
        clear HT_ HW_ hHeld
        go_wp2_with fail
        go_meet
        exact ⟨_, _, _, _, _, rfl, ⟨(HS4.out.field (by decide) (i := 1) rfl 0 _ _ rfl).field (by decide) (i := 1) rfl 1 _ _ rfl⟩⟩
      · have HS3 := Aside0.mk (HS2.out.new #[.slice none 0 0, .slice none 0 0])
        obtain ⟨g5, eg5⟩ : ∃ g, g = wp.heap.size := ⟨_, rfl⟩
        refine value_ (w1 := ?_) (v := ?_) (by rfl) rfl ?_ ?_
        rotate_left 2
        · go_simp
          constructor
          · rfl
          · rfl
        refine hK.out _ _ ⟨(blk_cell (HS3.out.blk (i := 0) rfl) 0).trans rfl, (blk_cell (HS3.out.blk (i := 0) rfl) 1).trans rfl⟩ (fun hHeld => ?_)
        clear hK K
        refine norm_ (a' := ?_) ?_ ?_
        rotate_left
        · show Act.put _ (some 5) _ = _
          simp only [Act.put, List.setIfInBounds_toArray, List.set_cons_zero, List.set_cons_succ, i64_w, i32_w]
          rfl
        rw [← eg5] at HS3 ⊢
        clear eg5 HS2
        generalize wp.alloc (.cells #[.slice none 0 0, .slice none 0 0] 24) = wpa at HS3 hHeld ⊢
        refine one_ (i := 5) (N := some 19) #[true, true, true, true, true, true, false, true, false] rfl rfl (one_of HT_.out (by kernel_rfl)) (by decide) (fun K hK => ?_)
        refine goes_ Try.func14 (by kernel_rfl) rfl #[.slice A1 d.length c1] (by rfl) rfl rfl (by (try simp only [List.map_toArray, List.map_cons, List.map_nil]); first | done | rfl) ?_
        with_reducible refine (Mark.moved_calls A1 c1 d _ (Kd.C_below HD.out HS3.out.hb) HC1.out (by have := HLd.out; omega)).mono ?_
        rintro e wd ⟨gd, cd, rfl, hM, hb⟩
        have HS4 := Aside0.mk (of_marked HS3.out hM hb)
        clear hM hb HS3
        refine ⟨_, rfl, ?_⟩
        refine hK.out _ _ ⟨(blk_cell (HS4.out.blk (i := 0) rfl) 0).trans rfl, (blk_cell (HS4.out.blk (i := 0) rfl) 1).trans rfl⟩ (fun hHeld => ?_)
        clear hK K
        refine norm_ (a' := ?_) ?_ ?_
        rotate_left
        · show Act.put _ (some 19) _ = _
          simp only [Act.put, List.setIfInBounds_toArray, List.set_cons_zero, List.set_cons_succ, i64_w, i32_w]
          rfl
        refine pure_ (i := 6) (N := some 20) (v := ?_) (a' := ?_) #[true, true, true, true, true, true, true, true, false] rfl rfl (any_of HT_.out (by kernel_rfl)) (fun _ _ _ h => h) (Or.inl ⟨by rfl, ?_⟩) ?_ ?_
        rotate_left
        · intro w'
          go_simp
          with_reducible rfl
        rotate_left
        · simp only [Act.put, List.setIfInBounds_toArray, List.set_cons_zero, List.set_cons_succ, i64_w, i32_w]
          rfl
        have hf0 := blk_frozen (HS4.out.blk (i := 1) rfl) 0
        have hf1 := blk_frozen (HS4.out.blk (i := 1) rfl) 1
        have hx0 := (blk_cell (HS4.out.blk (i := 1) rfl) 0).trans rfl
        have hx1 := (blk_cell (HS4.out.blk (i := 1) rfl) 1).trans rfl
        refine last_ (i := 8) (N := none) #[true, true, true, true, true, true, true, true, true] rfl rfl (one_of HT_.out (by kernel_rfl)) (by decide) (fun K hK => ?_)
        refine skip_ (w1 := ?_) (by rfl) rfl ?_ ?_
        rotate_left
        · go_simp
          rfl
        refine hK.out _ _ ?_
        clear hK K
        refine done_ (done_of HT_.out (by kernel_rfl)) ?_
        clear HT_ HW_ hHeld
        go_wp2_with fail
        go_meet
        exact ⟨_, _, _, _, _, rfl, ⟨(HS4.out.field (by decide) (i := 1) rfl 0 _ _ rfl).field (by decide) (i := 1) rfl 1 _ _ rfl⟩⟩
    · have HS2 := Aside0.mk (HS1.out.new #[.slice none 0 0, .slice none 0 0])
      obtain ⟨g5, eg5⟩ : ∃ g, g = w2.heap.size := ⟨_, rfl⟩
      refine value_ (w1 := ?_) (v := ?_) (by rfl) rfl ?_ ?_
      rotate_left 2
      · go_simp
        constructor
        · rfl
        · rfl
      refine hK.out _ _ ⟨(blk_cell (HS2.out.blk (i := 0) rfl) 0).trans rfl, (blk_cell (HS2.out.blk (i := 0) rfl) 1).trans rfl⟩ (fun hHeld => ?_)
      clear hK K
      refine norm_ (a' := ?_) ?_ ?_
      rotate_left
      · show Act.put _ (some 5) _ = _
        simp only [Act.put, List.setIfInBounds_toArray, List.set_cons_zero, List.set_cons_succ, i64_w, i32_w]
        rfl
      rw [← eg5] at HS2 ⊢
      clear eg5 HS1
      generalize w2.alloc (.cells #[.slice none 0 0, .slice none 0 0] 24) = w2a at HS2 hHeld ⊢
      refine one_ (i := 2) (N := some 16) #[true, true, true, true, true, false, false, true, false] rfl rfl (one_of HT_.out (by kernel_rfl)) (by decide) (fun K hK => ?_)
      refine goes_ Try.func14 (by kernel_rfl) rfl #[.slice A0 p.length c0] (by rfl) rfl rfl (by (try simp only [List.map_toArray, List.map_cons, List.map_nil]); first | done | rfl) ?_
      with_reducible refine (Mark.moved_calls A0 c0 p _ (Kd.C_below HP.out HS2.out.hb) HC0.out (by have := HLp.out; omega)).mono ?_
      rintro e wp ⟨gp, cp, rfl, hM, hb⟩
      have HS3 := Aside0.mk (of_marked HS2.out hM hb)
      clear hM hb HS2
      refine ⟨_, rfl, ?_⟩
      refine hK.out _ _ ⟨(blk_cell (HS3.out.blk (i := 0) rfl) 0).trans rfl, (blk_cell (HS3.out.blk (i := 0) rfl) 1).trans rfl⟩ (fun hHeld => ?_)
      clear hK K
      refine norm_ (a' := ?_) ?_ ?_
      rotate_left
      · show Act.put _ (some 16) _ = _
        simp only [Act.put, List.setIfInBounds_toArray, List.set_cons_zero, List.set_cons_succ, i64_w, i32_w]
        rfl
      refine one_ (i := 5) (N := some 19) #[true, true, true, true, true, true, false, true, false] rfl rfl (one_of HT_.out (by kernel_rfl)) (by decide) (fun K hK => ?_)
      refine goes_ Try.func14 (by kernel_rfl) rfl #[.slice A1 d.length c1] (by rfl) rfl rfl (by (try simp only [List.map_toArray, List.map_cons, List.map_nil]); first | done | rfl) ?_
      with_reducible refine (Mark.moved_calls A1 c1 d _ (Kd.C_below HD.out HS3.out.hb) HC1.out (by have := HLd.out; omega)).mono ?_
      rintro e wd ⟨gd, cd, rfl, hM, hb⟩
      have HS4 := Aside0.mk (of_marked HS3.out hM hb)
      clear hM hb HS3
      refine ⟨_, rfl, ?_⟩
      refine hK.out _ _ ⟨(blk_cell (HS4.out.blk (i := 0) rfl) 0).trans rfl, (blk_cell (HS4.out.blk (i := 0) rfl) 1).trans rfl⟩ (fun hHeld => ?_)
      clear hK K
      refine norm_ (a' := ?_) ?_ ?_
      rotate_left
      · show Act.put _ (some 19) _ = _
        simp only [Act.put, List.setIfInBounds_toArray, List.set_cons_zero, List.set_cons_succ, i64_w, i32_w]
        rfl
      refine pure_ (i := 6) (N := some 20) (v := ?_) (a' := ?_) #[true, true, true, true, true, true, true, true, false] rfl rfl (any_of HT_.out (by kernel_rfl)) (fun _ _ _ h => h) (Or.inl ⟨by rfl, ?_⟩) ?_ ?_
      rotate_left
      · intro w'
        go_simp
        with_reducible rfl
      rotate_left
      · simp only [Act.put, List.setIfInBounds_toArray, List.set_cons_zero, List.set_cons_succ, i64_w, i32_w]
        rfl
      have hf0 := blk_frozen (HS4.out.blk (i := 1) rfl) 0
      have hf1 := blk_frozen (HS4.out.blk (i := 1) rfl) 1
      have hx0 := (blk_cell (HS4.out.blk (i := 1) rfl) 0).trans rfl
      have hx1 := (blk_cell (HS4.out.blk (i := 1) rfl) 1).trans rfl
      refine last_ (i := 8) (N := none) #[true, true, true, true, true, true, true, true, true] rfl rfl (one_of HT_.out (by kernel_rfl)) (by decide) (fun K hK => ?_)
      refine skip_ (w1 := ?_) (by rfl) rfl ?_ ?_
      rotate_left
      · go_simp
        rfl
      refine hK.out _ _ ?_
      clear hK K
      refine done_ (done_of HT_.out (by kernel_rfl)) ?_
      clear HT_ HW_ hHeld
      go_wp2_with fail
      go_meet
      exact ⟨_, _, _, _, _, rfl, ⟨(HS4.out.field (by decide) (i := 1) rfl 0 _ _ rfl).field (by decide) (i := 1) rfl 1 _ _ rfl⟩⟩
  case rest =>
    obtain ⟨g5, gp, cp, gd, cd, rfl, HS1⟩ := hcut
    clear HS0
    obtain ⟨t, HT⟩ : ∃ t, Aside0 (t = p.take (cutN a p.length)) := ⟨_, ⟨rfl⟩⟩
    have HTl := Aside0.mk (show t.length ≤ p.length by rw [HT.out]; exact List.length_take_le' _ _)
    have hc50 : wc.cell? ⟨g5, 0, none⟩ = some (Value.slice (some ⟨gp, 0, none⟩) p.length cp) := (blk_cell (HS1.out.blk (i := 1) rfl) 0).trans rfl
    have hc51 : wc.cell? ⟨g5, 1, none⟩ = some (Value.slice (some ⟨gd, 0, none⟩) d.length cd) := (blk_cell (HS1.out.blk (i := 1) rfl) 1).trans rfl
    go_wp2_with fail
    clear hc50 hc51
    with_reducible refine (cut_calls (some ⟨gp, 0, none⟩) (some ⟨gd, 0, none⟩) p.length d.length cp cd (other p) (other d) a wc (other_length p) (other_length d) (mark_C HS1.out (i := 0) rfl (other_length p)).2 (by have := (mark_C HS1.out (i := 0) rfl (other_length p)).1; omega) (mark_C HS1.out (i := 1) rfl (other_length d)).2 (by have := (mark_C HS1.out (i := 1) rfl (other_length d)).1; omega) (by have := HLp.out; omega) (by have := HLd.out; omega)).mono ?_
    rintro e w3 ⟨v0, v1, rfl, _, _, hb⟩
    have HS2 := Aside0.mk (HS1.out.below hb)
    clear hb HS1
    have hc50 : w3.cell? ⟨g5, 0, none⟩ = some (Value.slice (some ⟨gp, 0, none⟩) p.length cp) := (blk_cell (HS2.out.blk (i := 1) rfl) 0).trans rfl
    have hc51 : w3.cell? ⟨g5, 1, none⟩ = some (Value.slice (some ⟨gd, 0, none⟩) d.length cd) := (blk_cell (HS2.out.blk (i := 1) rfl) 1).trans rfl
    have hc20 : w3.cell? ⟨w.heap.size, 0, none⟩ = some (Value.slice A0 p.length c0) := (blk_cell (HS2.out.blk (i := 0) rfl) 0).trans rfl
    have hc21 : w3.cell? ⟨w.heap.size, 1, none⟩ = some (Value.slice A1 d.length c1) := (blk_cell (HS2.out.blk (i := 0) rfl) 1).trans rfl
    go_wp2_with fail
    clear hc50 hc51 hc20 hc21
    with_reducible refine (Mark.back_calls gp p.length cp w.heap.size (other p ++ [-77]) A0 c0 p w w3 (marked HS2.out (i := 0) rfl (by simp [other_length])) HP.out (Nat.le_refl _) HS2.out.hb rfl).mono ?_
    rintro e w4 ⟨rfl, hM, hb, hk⟩
    rw [other_mark p] at hM
    have HS3 := Aside0.mk (show HS 24 w w4 [(w.heap.size, #[.slice A0 p.length c0, .slice A1 d.length c1]), (g5, #[.slice (some ⟨gp, 0, none⟩) p.length cp, .slice (some ⟨gd, 0, none⟩) d.length cd])] [(.slice (some ⟨gp, 0, none⟩) (p.length + 1) cp, p ++ [-77]), (.slice (some ⟨gd, 0, none⟩) (d.length + 1) cd, other d ++ [-77])] from of_back HS2.out (by decide) (i := 0) rfl hM hb hk)
    clear hM hb hk HS2
    have hc50 : w4.cell? ⟨g5, 0, none⟩ = some (Value.slice (some ⟨gp, 0, none⟩) p.length cp) := (blk_cell (HS3.out.blk (i := 1) rfl) 0).trans rfl
    have hc51 : w4.cell? ⟨g5, 1, none⟩ = some (Value.slice (some ⟨gd, 0, none⟩) d.length cd) := (blk_cell (HS3.out.blk (i := 1) rfl) 1).trans rfl
    have hc20 : w4.cell? ⟨w.heap.size, 0, none⟩ = some (Value.slice A0 p.length c0) := (blk_cell (HS3.out.blk (i := 0) rfl) 0).trans rfl
    have hc21 : w4.cell? ⟨w.heap.size, 1, none⟩ = some (Value.slice A1 d.length c1) := (blk_cell (HS3.out.blk (i := 0) rfl) 1).trans rfl
    go_wp2_with fail
    clear hc50 hc51 hc20 hc21
    with_reducible refine (Mark.back_calls gd d.length cd w.heap.size (other d ++ [-77]) A1 c1 d w w4 (marked HS3.out (i := 1) rfl (by simp [other_length])) HD.out (Nat.le_refl _) HS3.out.hb rfl).mono ?_
    rintro e w5 ⟨rfl, hM, hb, hk⟩
    rw [other_mark d] at hM
    have HS4 := Aside0.mk (show HS 24 w w5 [(w.heap.size, #[.slice A0 p.length c0, .slice A1 d.length c1]), (g5, #[.slice (some ⟨gp, 0, none⟩) p.length cp, .slice (some ⟨gd, 0, none⟩) d.length cd])] [(.slice (some ⟨gp, 0, none⟩) (p.length + 1) cp, p ++ [-77]), (.slice (some ⟨gd, 0, none⟩) (d.length + 1) cd, d ++ [-77])] from of_back HS3.out (by decide) (i := 1) rfl hM hb hk)
    clear hM hb hk HS3
    have hc50 : w5.cell? ⟨g5, 0, none⟩ = some (Value.slice (some ⟨gp, 0, none⟩) p.length cp) := (blk_cell (HS4.out.blk (i := 1) rfl) 0).trans rfl
    have hc51 : w5.cell? ⟨g5, 1, none⟩ = some (Value.slice (some ⟨gd, 0, none⟩) d.length cd) := (blk_cell (HS4.out.blk (i := 1) rfl) 1).trans rfl
    go_wp2_with fail
    clear hc50 hc51
    with_reducible refine (cut_calls (some ⟨gp, 0, none⟩) (some ⟨gd, 0, none⟩) p.length d.length cp cd p d a _ rfl rfl (mark_C HS4.out (i := 0) rfl rfl).2 (by have := (mark_C HS4.out (i := 0) rfl rfl).1; omega) (mark_C HS4.out (i := 1) rfl rfl).2 (by have := (mark_C HS4.out (i := 1) rfl rfl).1; omega) (by have := HLp.out; omega) (by have := HLd.out; omega)).mono ?_
    rintro e wa ⟨v0, v1, rfl, r0, r1, hb⟩
    rw [← HT.out] at r0
    obtain ⟨Aa, ca, rfl, haa, _⟩ := Kd.R_reads r0
    obtain ⟨Da, ka, rfl, hab, _⟩ := Kd.R_reads r1
    have HCa := Aside0.mk (And.intro haa hab)
    clear haa hab
    obtain ⟨ga, eg⟩ : ∃ g, g = wa.heap.size := ⟨_, rfl⟩
    have HS5 := Aside0.mk (show HS 24 w (wa.alloc (.cells #[.slice Aa t.length ca, .slice Da d.length ka] 24)) [(w.heap.size, #[.slice A0 p.length c0, .slice A1 d.length c1]), (g5, #[.slice (some ⟨gp, 0, none⟩) p.length cp, .slice (some ⟨gd, 0, none⟩) d.length cd]), (ga, #[.slice Aa t.length ca, .slice Da d.length ka])] [(.slice (some ⟨gp, 0, none⟩) (p.length + 1) cp, p ++ [-77]), (.slice (some ⟨gd, 0, none⟩) (d.length + 1) cd, d ++ [-77]), (.slice Aa t.length ca, t), (.slice Da d.length ka, d)] from by rw [eg]; exact (HS4.out.made2 r0 r1 hb).new _)
    clear r0 r1 hb HS4
    have hc50 : (wa.alloc (.cells #[.slice Aa t.length ca, .slice Da d.length ka] 24)).cell? ⟨g5, 0, none⟩ = some (Value.slice (some ⟨gp, 0, none⟩) p.length cp) := (blk_cell (HS5.out.blk (i := 1) rfl) 0).trans rfl
    have hc51 : (wa.alloc (.cells #[.slice Aa t.length ca, .slice Da d.length ka] 24)).cell? ⟨g5, 1, none⟩ = some (Value.slice (some ⟨gd, 0, none⟩) d.length cd) := (blk_cell (HS5.out.blk (i := 1) rfl) 1).trans rfl
    go_wp2_with fail
    clear hc50 hc51
    rw [← eg]
    clear eg
    generalize wa.alloc (.cells #[.slice Aa t.length ca, .slice Da d.length ka] 24) = waa at HS5 ⊢
    with_reducible refine (cut_calls (some ⟨gp, 0, none⟩) (some ⟨gd, 0, none⟩) p.length d.length cp cd p d a _ rfl rfl (mark_C HS5.out (i := 0) rfl rfl).2 (by have := (mark_C HS5.out (i := 0) rfl rfl).1; omega) (mark_C HS5.out (i := 1) rfl rfl).2 (by have := (mark_C HS5.out (i := 1) rfl rfl).1; omega) (by have := HLp.out; omega) (by have := HLd.out; omega)).mono ?_
    rintro e wg ⟨v0, v1, rfl, r0, r1, hb⟩
    rw [← HT.out] at r0
    obtain ⟨Ag, cg, rfl, hga, _⟩ := Kd.R_reads r0
    obtain ⟨Dg, kg, rfl, hgb, _⟩ := Kd.R_reads r1
    have HCg := Aside0.mk (And.intro hga hgb)
    clear hga hgb
    obtain ⟨gg, eg⟩ : ∃ g, g = wg.heap.size := ⟨_, rfl⟩
    have HS6 := Aside0.mk (show HS 24 w (wg.alloc (.cells #[.slice Ag t.length cg, .slice Dg d.length kg] 24)) [(w.heap.size, #[.slice A0 p.length c0, .slice A1 d.length c1]), (g5, #[.slice (some ⟨gp, 0, none⟩) p.length cp, .slice (some ⟨gd, 0, none⟩) d.length cd]), (ga, #[.slice Aa t.length ca, .slice Da d.length ka]), (gg, #[.slice Ag t.length cg, .slice Dg d.length kg])] [(.slice (some ⟨gp, 0, none⟩) (p.length + 1) cp, p ++ [-77]), (.slice (some ⟨gd, 0, none⟩) (d.length + 1) cd, d ++ [-77]), (.slice Aa t.length ca, t), (.slice Da d.length ka, d), (.slice Ag t.length cg, t), (.slice Dg d.length kg, d)] from by rw [eg]; exact (HS5.out.made2 r0 r1 hb).new _)
    clear r0 r1 hb HS5
    have hc50 : (wg.alloc (.cells #[.slice Ag t.length cg, .slice Dg d.length kg] 24)).cell? ⟨g5, 0, none⟩ = some (Value.slice (some ⟨gp, 0, none⟩) p.length cp) := (blk_cell (HS6.out.blk (i := 1) rfl) 0).trans rfl
    have hc51 : (wg.alloc (.cells #[.slice Ag t.length cg, .slice Dg d.length kg] 24)).cell? ⟨g5, 1, none⟩ = some (Value.slice (some ⟨gd, 0, none⟩) d.length cd) := (blk_cell (HS6.out.blk (i := 1) rfl) 1).trans rfl
    go_wp2_with fail
    clear hc50 hc51
    rw [← eg]
    clear eg
    generalize wg.alloc (.cells #[.slice Ag t.length cg, .slice Dg d.length kg] 24) = wga at HS6 ⊢
    with_reducible refine (cut_calls (some ⟨gp, 0, none⟩) (some ⟨gd, 0, none⟩) p.length d.length cp cd p d _ _ rfl rfl (mark_C HS6.out (i := 0) rfl rfl).2 (by have := (mark_C HS6.out (i := 0) rfl rfl).1; omega) (mark_C HS6.out (i := 1) rfl rfl).2 (by have := (mark_C HS6.out (i := 1) rfl rfl).1; omega) (by have := HLp.out; omega) (by have := HLd.out; omega)).mono ?_
    rintro e wo ⟨v0, v1, rfl, r0, r1, hb⟩
    generalize hgt : p.take (cutN _ p.length) = t2 at r0
    have HT2 := Aside0.mk (show t2.length ≤ p.length by rw [← hgt]; exact List.length_take_le' _ _)
    clear hgt
    obtain ⟨Ao, co, rfl, hoa, _⟩ := Kd.R_reads r0
    obtain ⟨Do, ko, rfl, hob, _⟩ := Kd.R_reads r1
    have HCo := Aside0.mk (And.intro hoa hob)
    clear hoa hob
    obtain ⟨go, eg⟩ : ∃ g, g = wo.heap.size := ⟨_, rfl⟩
    have HS7 := Aside0.mk (show HS 24 w (wo.alloc (.cells #[.slice Ao t2.length co, .slice Do d.length ko] 24)) [(w.heap.size, #[.slice A0 p.length c0, .slice A1 d.length c1]), (g5, #[.slice (some ⟨gp, 0, none⟩) p.length cp, .slice (some ⟨gd, 0, none⟩) d.length cd]), (ga, #[.slice Aa t.length ca, .slice Da d.length ka]), (gg, #[.slice Ag t.length cg, .slice Dg d.length kg]), (go, #[.slice Ao t2.length co, .slice Do d.length ko])] [(.slice (some ⟨gp, 0, none⟩) (p.length + 1) cp, p ++ [-77]), (.slice (some ⟨gd, 0, none⟩) (d.length + 1) cd, d ++ [-77]), (.slice Aa t.length ca, t), (.slice Da d.length ka, d), (.slice Ag t.length cg, t), (.slice Dg d.length kg, d), (.slice Ao t2.length co, t2), (.slice Do d.length ko, d)] from by rw [eg]; exact (HS6.out.made2 r0 r1 hb).new _)
    clear r0 r1 hb HS6
    have hc50 : (wo.alloc (.cells #[.slice Ao t2.length co, .slice Do d.length ko] 24)).cell? ⟨g5, 0, none⟩ = some (Value.slice (some ⟨gp, 0, none⟩) p.length cp) := (blk_cell (HS7.out.blk (i := 1) rfl) 0).trans rfl
    have hc51 : (wo.alloc (.cells #[.slice Ao t2.length co, .slice Do d.length ko] 24)).cell? ⟨g5, 1, none⟩ = some (Value.slice (some ⟨gd, 0, none⟩) d.length cd) := (blk_cell (HS7.out.blk (i := 1) rfl) 1).trans rfl
    have hc20 : (wo.alloc (.cells #[.slice Ao t2.length co, .slice Do d.length ko] 24)).cell? ⟨w.heap.size, 0, none⟩ = some (Value.slice A0 p.length c0) := (blk_cell (HS7.out.blk (i := 0) rfl) 0).trans rfl
    have hc21 : (wo.alloc (.cells #[.slice Ao t2.length co, .slice Do d.length ko] 24)).cell? ⟨w.heap.size, 1, none⟩ = some (Value.slice A1 d.length c1) := (blk_cell (HS7.out.blk (i := 0) rfl) 1).trans rfl
    go_wp2_with fail
    clear hc50 hc51 hc20 hc21
    rw [← eg]
    clear eg
    generalize wo.alloc (.cells #[.slice Ao t2.length co, .slice Do d.length ko] 24) = woa at HS7 ⊢
    with_reducible refine (plunderref10_Cut.calls 2097200 A0 c0 p A1 c1 d a _ _ _ (Kd.C_below HP.out HS7.out.hb) HC0.out (Kd.C_below HD.out HS7.out.hb) HC1.out (refcut_f p d a (by have := HLp.out; omega) (by have := HLd.out; omega) 2097200 (by have := HLp.out; have := HLd.out; omega))).mono ?_
    rintro e wr ⟨v0, v1, rfl, r0, r1, hb⟩
    rw [← HT.out] at r0
    obtain ⟨Ar, cr, rfl, hra, _⟩ := Kd.R_reads r0
    obtain ⟨Dr, kr, rfl, hrb, _⟩ := Kd.R_reads r1
    have HCr := Aside0.mk (And.intro hra hrb)
    clear hra hrb
    obtain ⟨gr, eg⟩ : ∃ g, g = wr.heap.size := ⟨_, rfl⟩
    have HS8 := Aside0.mk (show HS 24 w (wr.alloc (.cells #[.slice Ar t.length cr, .slice Dr d.length kr] 24)) [(w.heap.size, #[.slice A0 p.length c0, .slice A1 d.length c1]), (g5, #[.slice (some ⟨gp, 0, none⟩) p.length cp, .slice (some ⟨gd, 0, none⟩) d.length cd]), (ga, #[.slice Aa t.length ca, .slice Da d.length ka]), (gg, #[.slice Ag t.length cg, .slice Dg d.length kg]), (go, #[.slice Ao t2.length co, .slice Do d.length ko]), (gr, #[.slice Ar t.length cr, .slice Dr d.length kr])] [(.slice (some ⟨gp, 0, none⟩) (p.length + 1) cp, p ++ [-77]), (.slice (some ⟨gd, 0, none⟩) (d.length + 1) cd, d ++ [-77]), (.slice Aa t.length ca, t), (.slice Da d.length ka, d), (.slice Ag t.length cg, t), (.slice Dg d.length kg, d), (.slice Ao t2.length co, t2), (.slice Do d.length ko, d), (.slice Ar t.length cr, t), (.slice Dr d.length kr, d)] from by rw [eg]; exact (HS7.out.made2 r0 r1 hb).new _)
    clear r0 r1 hb HS7
    have hc50 : (wr.alloc (.cells #[.slice Ar t.length cr, .slice Dr d.length kr] 24)).cell? ⟨g5, 0, none⟩ = some (Value.slice (some ⟨gp, 0, none⟩) p.length cp) := (blk_cell (HS8.out.blk (i := 1) rfl) 0).trans rfl
    have hc51 : (wr.alloc (.cells #[.slice Ar t.length cr, .slice Dr d.length kr] 24)).cell? ⟨g5, 1, none⟩ = some (Value.slice (some ⟨gd, 0, none⟩) d.length cd) := (blk_cell (HS8.out.blk (i := 1) rfl) 1).trans rfl
    have hca0 : (wr.alloc (.cells #[.slice Ar t.length cr, .slice Dr d.length kr] 24)).cell? ⟨ga, 0, none⟩ = some (Value.slice Aa t.length ca) := (blk_cell (HS8.out.blk (i := 2) rfl) 0).trans rfl
    have hca1 : (wr.alloc (.cells #[.slice Ar t.length cr, .slice Dr d.length kr] 24)).cell? ⟨ga, 1, none⟩ = some (Value.slice Da d.length ka) := (blk_cell (HS8.out.blk (i := 2) rfl) 1).trans rfl
    have hcr0 : (wr.alloc (.cells #[.slice Ar t.length cr, .slice Dr d.length kr] 24)).cell? ⟨gr, 0, none⟩ = some (Value.slice Ar t.length cr) := (blk_cell (HS8.out.blk (i := 5) rfl) 0).trans rfl
    have hcr1 : (wr.alloc (.cells #[.slice Ar t.length cr, .slice Dr d.length kr] 24)).cell? ⟨gr, 1, none⟩ = some (Value.slice Dr d.length kr) := (blk_cell (HS8.out.blk (i := 5) rfl) 1).trans rfl
    go_wp2_with fail
    clear hc50 hc51 hca0 hca1 hcr0 hcr1
    rw [← eg]
    clear eg
    generalize wr.alloc (.cells #[.slice Ar t.length cr, .slice Dr d.length kr] 24) = wra at HS8 ⊢
    with_reducible refine (same_calls Aa Da Ar Dr t.length d.length ca ka cr kr t d _ rfl rfl (HS8.out.C (i := 2) rfl).2.2 (HS8.out.C (i := 2) rfl).2.1 (HS8.out.C (i := 3) rfl).2.2 (HS8.out.C (i := 3) rfl).2.1 (HS8.out.C (i := 8) rfl).2.2 (HS8.out.C (i := 8) rfl).2.1 (HS8.out.C (i := 9) rfl).2.2 (HS8.out.C (i := 9) rfl).2.1 (by have := HLp.out; have := HTl.out; omega) (by have := HLd.out; omega)).mono ?_
    rintro e wq1 ⟨rfl, hb⟩
    have HS9 := Aside0.mk (HS8.out.below hb)
    clear hb HS8
    have hcg0 : wq1.cell? ⟨gg, 0, none⟩ = some (Value.slice Ag t.length cg) := (blk_cell (HS9.out.blk (i := 3) rfl) 0).trans rfl
    have hcg1 : wq1.cell? ⟨gg, 1, none⟩ = some (Value.slice Dg d.length kg) := (blk_cell (HS9.out.blk (i := 3) rfl) 1).trans rfl
    have hcr0 : wq1.cell? ⟨gr, 0, none⟩ = some (Value.slice Ar t.length cr) := (blk_cell (HS9.out.blk (i := 5) rfl) 0).trans rfl
    have hcr1 : wq1.cell? ⟨gr, 1, none⟩ = some (Value.slice Dr d.length kr) := (blk_cell (HS9.out.blk (i := 5) rfl) 1).trans rfl
    go_wp2_with fail
    clear hcg0 hcg1 hcr0 hcr1
    with_reducible refine (same_calls Ag Dg Ar Dr t.length d.length cg kg cr kr t d _ rfl rfl (HS9.out.C (i := 4) rfl).2.2 (HS9.out.C (i := 4) rfl).2.1 (HS9.out.C (i := 5) rfl).2.2 (HS9.out.C (i := 5) rfl).2.1 (HS9.out.C (i := 8) rfl).2.2 (HS9.out.C (i := 8) rfl).2.1 (HS9.out.C (i := 9) rfl).2.2 (HS9.out.C (i := 9) rfl).2.1 (by have := HLp.out; have := HTl.out; omega) (by have := HLd.out; omega)).mono ?_
    rintro e wq2 ⟨rfl, hb⟩
    have HS10 := Aside0.mk (HS9.out.below hb)
    clear hb HS9
    go_wp2_with fail
    go_loopw [10] (fun v w' => ∃ (i : Nat) (xa : List Int), i ≤ t.length ∧ xa.length = t.length ∧ v = .int .i64 i ∧ Aside0 (HS 24 w w' [(w.heap.size, #[.slice A0 p.length c0, .slice A1 d.length c1]), (g5, #[.slice (some ⟨gp, 0, none⟩) p.length cp, .slice (some ⟨gd, 0, none⟩) d.length cd]), (ga, #[.slice Aa t.length ca, .slice Da d.length ka]), (gg, #[.slice Ag t.length cg, .slice Dg d.length kg]), (go, #[.slice Ao t2.length co, .slice Do d.length ko]), (gr, #[.slice Ar t.length cr, .slice Dr d.length kr])] [(.slice (some ⟨gp, 0, none⟩) (p.length + 1) cp, p ++ [-77]), (.slice (some ⟨gd, 0, none⟩) (d.length + 1) cd, d ++ [-77]), (.slice Aa t.length ca, xa), (.slice Da d.length ka, d), (.slice Ag t.length cg, t), (.slice Dg d.length kg, d), (.slice Ao t2.length co, t2), (.slice Do d.length ko, d), (.slice Ar t.length cr, t), (.slice Dr d.length kr, d)])) (fun v _ => t.length - (intOf v).toNat)
    case atStart => exact ⟨0, _, Nat.zero_le _, rfl, rfl, HS10⟩
    case round =>
      clear HS10
      obtain ⟨i, xa, hi, hxs, rfl, HS10⟩ := hrel
      obtain ⟨wr1, ewr⟩ : ∃ w_ : World, w_ = wr := ⟨_, rfl⟩
      subst ewr
      have Hxa := Aside0.mk hxs
      clear hxs
      have hca0 : wr1.cell? ⟨ga, 0, none⟩ = some (Value.slice Aa t.length ca) := (blk_cell (HS10.out.blk (i := 2) rfl) 0).trans rfl
      have hlm : (t.length : Int) ≤ 1048576 := by have := HLp.out; have := HTl.out; have := HLd.out; omega
      by_cases hlt : i < t.length
      · obtain ⟨gx, eo⟩ := form_at HS10.out (i := 2) rfl (by omega)
        subst eo
        have hat := at_store HS10.out (i := 2) rfl i (by have := Hxa.out; omega)
        obtain ⟨hcx, hfx⟩ := hat
        have hi0 : (0 : Int) ≤ (i : Int) := by omega
        have hiw : (i : Int) < (t.length : Int) := by omega
        have HSn := Aside0.mk (of_store HS10.out (by decide) (i := 2) rfl i (-17 - (i : Int)))
        have HXn := Aside0.mk (show (xa.set i (-17 - (i : Int))).length = t.length by rw [List.length_set]; exact Hxa.out)
        clear HS10
        go_wp2
        go_roundw
        case measure => simp [intOf]; omega
        case rel => exact ⟨i + 1, _, by omega, HXn.out, by go_num, HSn⟩
      · have hie : i = t.length := by omega
        subst hie
        skip
        clear hi hlt hlm
        go_wp2_with fail
        clear hca0
        go_loopw [11] (fun v w' => ∃ (i : Nat) (xb : List Int), i ≤ d.length ∧ xb.length = d.length ∧ v = .int .i64 i ∧ Aside0 (HS 24 w w' [(w.heap.size, #[.slice A0 p.length c0, .slice A1 d.length c1]), (g5, #[.slice (some ⟨gp, 0, none⟩) p.length cp, .slice (some ⟨gd, 0, none⟩) d.length cd]), (ga, #[.slice Aa t.length ca, .slice Da d.length ka]), (gg, #[.slice Ag t.length cg, .slice Dg d.length kg]), (go, #[.slice Ao t2.length co, .slice Do d.length ko]), (gr, #[.slice Ar t.length cr, .slice Dr d.length kr])] [(.slice (some ⟨gp, 0, none⟩) (p.length + 1) cp, p ++ [-77]), (.slice (some ⟨gd, 0, none⟩) (d.length + 1) cd, d ++ [-77]), (.slice Aa t.length ca, xa), (.slice Da d.length ka, xb), (.slice Ag t.length cg, t), (.slice Dg d.length kg, d), (.slice Ao t2.length co, t2), (.slice Do d.length ko, d), (.slice Ar t.length cr, t), (.slice Dr d.length kr, d)])) (fun v _ => d.length - (intOf v).toNat)
        case atStart => exact ⟨0, _, Nat.zero_le _, rfl, rfl, HS10⟩
        case round =>
          clear HS10
          obtain ⟨i, xb, hi, hxs, rfl, HS10⟩ := hrel
          obtain ⟨wr2, ewr⟩ : ∃ w_ : World, w_ = wr := ⟨_, rfl⟩
          subst ewr
          have Hxb := Aside0.mk hxs
          clear hxs
          have hca1 : wr2.cell? ⟨ga, 1, none⟩ = some (Value.slice Da d.length ka) := (blk_cell (HS10.out.blk (i := 2) rfl) 1).trans rfl
          have hlm : (d.length : Int) ≤ 1048576 := by have := HLp.out; have := HTl.out; have := HLd.out; omega
          by_cases hlt : i < d.length
          · obtain ⟨gx, eo⟩ := form_at HS10.out (i := 3) rfl (by omega)
            subst eo
            have hat := at_store HS10.out (i := 3) rfl i (by have := Hxb.out; omega)
            obtain ⟨hcx, hfx⟩ := hat
            have hi0 : (0 : Int) ≤ (i : Int) := by omega
            have hiw : (i : Int) < (d.length : Int) := by omega
            have HSn := Aside0.mk (of_store HS10.out (by decide) (i := 3) rfl i (1000 + (i : Int)))
            have HXn := Aside0.mk (show (xb.set i (1000 + (i : Int))).length = d.length by rw [List.length_set]; exact Hxb.out)
            clear HS10
            go_wp2
            go_roundw
            case measure => simp [intOf]; omega
            case rel => exact ⟨i + 1, _, by omega, HXn.out, by go_num, HSn⟩
          · have hie : i = d.length := by omega
            subst hie
            have hco0 : wr2.cell? ⟨go, 0, none⟩ = some (Value.slice Ao t2.length co) := (blk_cell (HS10.out.blk (i := 4) rfl) 0).trans rfl
            have hco1 : wr2.cell? ⟨go, 1, none⟩ = some (Value.slice Do d.length ko) := (blk_cell (HS10.out.blk (i := 4) rfl) 1).trans rfl
            skip
            clear hi hlt hlm
            go_wp2_with fail
            clear hca1
            obtain ⟨sp0, hsp, hspl⟩ := spoilt_f t2 (by have := HLp.out; have := HT2.out; have := HLd.out; omega)
            have HSL0 := Aside0.mk hspl
            refine (plunderlaw10_spoilt.calls (t2.length + 1) _ _ t2 sp0 w _ HS10.out.hb (HS10.out.R (i := 6) rfl) hsp).mono ?_
            rintro e ws0 ⟨vs, rfl, r0, hb, hk⟩
            have HS11 := Aside0.mk (HS10.out.given (by decide) (i := 6) rfl r0 (fun b h => h) hb hk)
            clear hsp hspl hb hk HS10
            obtain ⟨E0, e0, rfl, _, _⟩ := Kd.R_reads r0
            clear r0
            replace HS11 : Aside0 (HS 24 w ws0 [(w.heap.size, #[.slice A0 p.length c0, .slice A1 d.length c1]), (g5, #[.slice (some ⟨gp, 0, none⟩) p.length cp, .slice (some ⟨gd, 0, none⟩) d.length cd]), (ga, #[.slice Aa t.length ca, .slice Da d.length ka]), (gg, #[.slice Ag t.length cg, .slice Dg d.length kg]), (go, #[.slice Ao t2.length co, .slice Do d.length ko]), (gr, #[.slice Ar t.length cr, .slice Dr d.length kr])] [(.slice (some ⟨gp, 0, none⟩) (p.length + 1) cp, p ++ [-77]), (.slice (some ⟨gd, 0, none⟩) (d.length + 1) cd, d ++ [-77]), (.slice Aa t.length ca, xa), (.slice Da d.length ka, xb), (.slice Ag t.length cg, t), (.slice Dg d.length kg, d), (.slice E0 sp0.length e0, sp0), (.slice Do d.length ko, d), (.slice Ar t.length cr, t), (.slice Dr d.length kr, d)]) := HS11
            have hco0 : ws0.cell? ⟨go, 0, none⟩ = some (Value.slice Ao t2.length co) := (blk_cell (HS11.out.blk (i := 4) rfl) 0).trans rfl
            have hco1 : ws0.cell? ⟨go, 1, none⟩ = some (Value.slice Do d.length ko) := (blk_cell (HS11.out.blk (i := 4) rfl) 1).trans rfl
            have hf0 := blk_frozen (HS11.out.blk (i := 4) rfl) 0
            have HS12 := Aside0.mk (show HS 24 w (ws0.setCell ⟨go, 0, none⟩ (Value.slice E0 sp0.length e0)) [(w.heap.size, #[.slice A0 p.length c0, .slice A1 d.length c1]), (g5, #[.slice (some ⟨gp, 0, none⟩) p.length cp, .slice (some ⟨gd, 0, none⟩) d.length cd]), (ga, #[.slice Aa t.length ca, .slice Da d.length ka]), (gg, #[.slice Ag t.length cg, .slice Dg d.length kg]), (go, #[Value.slice E0 sp0.length e0, Value.slice Do d.length ko]), (gr, #[.slice Ar t.length cr, .slice Dr d.length kr])] [(.slice (some ⟨gp, 0, none⟩) (p.length + 1) cp, p ++ [-77]), (.slice (some ⟨gd, 0, none⟩) (d.length + 1) cd, d ++ [-77]), (.slice Aa t.length ca, xa), (.slice Da d.length ka, xb), (.slice Ag t.length cg, t), (.slice Dg d.length kg, d), (.slice E0 sp0.length e0, sp0), (.slice Do d.length ko, d), (.slice Ar t.length cr, t), (.slice Dr d.length kr, d)] from HS11.out.field (by decide) (i := 4) rfl 0 _ _ rfl)
            clear HS11
            have hq0 : (ws0.setCell ⟨go, 0, none⟩ (Value.slice E0 sp0.length e0)).cell? ⟨go, 0, none⟩ = some (Value.slice E0 sp0.length e0) := (blk_cell (HS12.out.blk (i := 4) rfl) 0).trans rfl
            have hq1 : (ws0.setCell ⟨go, 0, none⟩ (Value.slice E0 sp0.length e0)).cell? ⟨go, 1, none⟩ = some (Value.slice Do d.length ko) := (blk_cell (HS12.out.blk (i := 4) rfl) 1).trans rfl
            go_wp2_with fail
            clear hq0 hq1 hco0 hco1 hf0
            generalize ws0.setCell ⟨go, 0, none⟩ (Value.slice E0 sp0.length e0) = wt0 at HS12 ⊢
            obtain ⟨sp1, hsp, hspl⟩ := spoilt_f d (by have := HLp.out; have := HT2.out; have := HLd.out; omega)
            have HSL1 := Aside0.mk hspl
            refine (plunderlaw10_spoilt.calls (d.length + 1) _ _ d sp1 w _ HS12.out.hb (HS12.out.R (i := 7) rfl) hsp).mono ?_
            rintro e ws1 ⟨vs, rfl, r0, hb, hk⟩
            have HS13 := Aside0.mk (HS12.out.given (by decide) (i := 7) rfl r0 (fun b h => h) hb hk)
            clear hsp hspl hb hk HS12
            obtain ⟨E1, e1, rfl, _, _⟩ := Kd.R_reads r0
            clear r0
            replace HS13 : Aside0 (HS 24 w ws1 [(w.heap.size, #[.slice A0 p.length c0, .slice A1 d.length c1]), (g5, #[.slice (some ⟨gp, 0, none⟩) p.length cp, .slice (some ⟨gd, 0, none⟩) d.length cd]), (ga, #[.slice Aa t.length ca, .slice Da d.length ka]), (gg, #[.slice Ag t.length cg, .slice Dg d.length kg]), (go, #[Value.slice E0 sp0.length e0, Value.slice Do d.length ko]), (gr, #[.slice Ar t.length cr, .slice Dr d.length kr])] [(.slice (some ⟨gp, 0, none⟩) (p.length + 1) cp, p ++ [-77]), (.slice (some ⟨gd, 0, none⟩) (d.length + 1) cd, d ++ [-77]), (.slice Aa t.length ca, xa), (.slice Da d.length ka, xb), (.slice Ag t.length cg, t), (.slice Dg d.length kg, d), (.slice E0 sp0.length e0, sp0), (.slice E1 sp1.length e1, sp1), (.slice Ar t.length cr, t), (.slice Dr d.length kr, d)]) := HS13
            have hco0 : ws1.cell? ⟨go, 0, none⟩ = some (Value.slice E0 sp0.length e0) := (blk_cell (HS13.out.blk (i := 4) rfl) 0).trans rfl
            have hco1 : ws1.cell? ⟨go, 1, none⟩ = some (Value.slice Do d.length ko) := (blk_cell (HS13.out.blk (i := 4) rfl) 1).trans rfl
            have hf1 := blk_frozen (HS13.out.blk (i := 4) rfl) 1
            have HS14 := Aside0.mk (show HS 24 w (ws1.setCell ⟨go, 1, none⟩ (Value.slice E1 sp1.length e1)) [(w.heap.size, #[.slice A0 p.length c0, .slice A1 d.length c1]), (g5, #[.slice (some ⟨gp, 0, none⟩) p.length cp, .slice (some ⟨gd, 0, none⟩) d.length cd]), (ga, #[.slice Aa t.length ca, .slice Da d.length ka]), (gg, #[.slice Ag t.length cg, .slice Dg d.length kg]), (go, #[Value.slice E0 sp0.length e0, Value.slice E1 sp1.length e1]), (gr, #[.slice Ar t.length cr, .slice Dr d.length kr])] [(.slice (some ⟨gp, 0, none⟩) (p.length + 1) cp, p ++ [-77]), (.slice (some ⟨gd, 0, none⟩) (d.length + 1) cd, d ++ [-77]), (.slice Aa t.length ca, xa), (.slice Da d.length ka, xb), (.slice Ag t.length cg, t), (.slice Dg d.length kg, d), (.slice E0 sp0.length e0, sp0), (.slice E1 sp1.length e1, sp1), (.slice Ar t.length cr, t), (.slice Dr d.length kr, d)] from HS13.out.field (by decide) (i := 4) rfl 1 _ _ rfl)
            clear HS13
            go_wp2_with fail
            clear hco0 hco1 hf1
            generalize ws1.setCell ⟨go, 1, none⟩ (Value.slice E1 sp1.length e1) = wt1 at HS14 ⊢
            go_loopw [12] (fun v w' => ∃ (k n1 n2 n3 n4 b1 b2 b3 b4 : Nat) (y1 y2 y3 y4 : List Int) (B1 B2 B3 B4 : Option Addr), k ≤ 64 ∧ v = .int .i64 k ∧ Aside0 (n1 = t.length + k ∧ n2 = d.length + k ∧ n3 = sp0.length + k ∧ n4 = sp1.length + k) ∧ Aside0 (HS 24 w w' [(w.heap.size, #[.slice A0 p.length c0, .slice A1 d.length c1]), (g5, #[.slice (some ⟨gp, 0, none⟩) p.length cp, .slice (some ⟨gd, 0, none⟩) d.length cd]), (ga, #[.slice B1 n1 b1, .slice B2 n2 b2]), (gg, #[.slice Ag t.length cg, .slice Dg d.length kg]), (go, #[.slice B3 n3 b3, .slice B4 n4 b4]), (gr, #[.slice Ar t.length cr, .slice Dr d.length kr])] [(.slice (some ⟨gp, 0, none⟩) (p.length + 1) cp, p ++ [-77]), (.slice (some ⟨gd, 0, none⟩) (d.length + 1) cd, d ++ [-77]), (.slice B1 n1 b1, y1), (.slice B2 n2 b2, y2), (.slice Ag t.length cg, t), (.slice Dg d.length kg, d), (.slice B3 n3 b3, y3), (.slice B4 n4 b4, y4), (.slice Ar t.length cr, t), (.slice Dr d.length kr, d)])) (fun v _ => 64 - (intOf v).toNat)
            case atStart => exact ⟨0, _, _, _, _, _, _, _, _, _, _, _, _, _, _, _, _, by omega, rfl, ⟨rfl, rfl, rfl, rfl⟩, HS14⟩
            case round =>
              clear HS14
              obtain ⟨k, n1, n2, n3, n4, b1, b2, b3, b4, y1, y2, y3, y4, B1, B2, B3, B4, hk, rfl, HN, HSa⟩ := hrel
              obtain ⟨wr3, ewr⟩ : ∃ w_ : World, w_ = wr := ⟨_, rfl⟩
              subst ewr
              have HLn := Aside0.mk (show n1 ≤ 2000000 ∧ n2 ≤ 2000000 ∧ n3 ≤ 2000000 ∧ n4 ≤ 2000000 by have := HN.out; have := HLp.out; have := HLd.out; have := HTl.out; have := HT2.out; have := HSL0.out; have := HSL1.out; omega)
              by_cases hlt : k < 64
              · have hz0 : wr3.cell? ⟨ga, 0, none⟩ = some (Value.slice B1 n1 b1) := (blk_cell (HSa.out.blk (i := 2) rfl) 0).trans rfl
                go_wp2_with (first | ((with_reducible refine gate_builtin (b := .append) (xs := #[.tmp 96, .tmp 97]) rfl ?_); at_builtin; refine Kd.R_append (Kd.int .i64) (w0 := w) w.heap.size rfl (.tmp 96) (.tmp 97) 22 3 (.int .i64 0) 8 rfl Try.underlying22 info3 rfl (by decide) (by omega) (.slice B1 n1 b1) y1 (-5000) [.int .i64 (-5000)] (fun _ => True) (fun _ => False) rfl rfl ?aP (fun _ hk => hk.elim) ?aF ?aO ?aB ?aS ?aL ?_; (case aP => exact rfl); (case aF => exact (fun _ _ => trivial)); (case aO => exact Kd.R_mono (HSa.out.R (i := 2) rfl) (fun _ _ => trivial)); (case aB => exact HSa.out.hb); (case aS => exact below_size HSa.out.hb); (case aL => have h1 := (HSa.out.C (i := 2) rfl).1; have h2 := HLn.out; omega); intro v1 wa1 ho hb hg hat; obtain ⟨F1, m1, f1, e1⟩ : ∃ A n c, v1 = Value.slice A n c := (by obtain ⟨A, c, e⟩ := Kd.R_slice ho; exact ⟨A, _, c, e⟩); subst e1; have HSb := Aside0.mk (show HS 24 w wa1 [(w.heap.size, #[.slice A0 p.length c0, .slice A1 d.length c1]), (g5, #[.slice (some ⟨gp, 0, none⟩) p.length cp, .slice (some ⟨gd, 0, none⟩) d.length cd]), (ga, #[.slice B1 n1 b1, .slice B2 n2 b2]), (gg, #[.slice Ag t.length cg, .slice Dg d.length kg]), (go, #[.slice B3 n3 b3, .slice B4 n4 b4]), (gr, #[.slice Ar t.length cr, .slice Dr d.length kr])] [(.slice (some ⟨gp, 0, none⟩) (p.length + 1) cp, p ++ [-77]), (.slice (some ⟨gd, 0, none⟩) (d.length + 1) cd, d ++ [-77]), (.slice F1 m1 f1, y1 ++ [-5000]), (.slice B2 n2 b2, y2), (.slice Ag t.length cg, t), (.slice Dg d.length kg, d), (.slice B3 n3 b3, y3), (.slice B4 n4 b4, y4), (.slice Ar t.length cr, t), (.slice Dr d.length kr, d)] from HSa.out.appended (by decide) (i := 2) rfl ho hb hg hat); have HM1 := Aside0.mk (show m1 = n1 + 1 by have h1 := (HSa.out.C (i := 2) rfl).1; have h2 := (HSb.out.C (i := 2) rfl).1; simp at h2; omega); clear ho hb hg hat HSa hz0; have hu0 : wa1.cell? ⟨ga, 0, none⟩ = some (Value.slice B1 n1 b1) := (blk_cell (HSb.out.blk (i := 2) rfl) 0).trans rfl; have hv0 := blk_frozen (HSb.out.blk (i := 2) rfl) 0) | ((with_reducible refine gate_store (t := 22) (p := 99) rfl ?_); refine store_event (t := 22) (p := 99) (v := ?vo1) (w1 := (wa1.setCell ⟨ga, 0, none⟩ (Value.slice F1 m1 f1))) ?hg ?ho ?hn ?hr ?_; (case ho => rfl); (case hg => rfl); (case hn => rfl); (case hr => first | (go_simp; done) | (go_simp; rfl)); intro wb1 hw; have HSc := Aside0.mk (show HS 24 w wb1 [(w.heap.size, #[.slice A0 p.length c0, .slice A1 d.length c1]), (g5, #[.slice (some ⟨gp, 0, none⟩) p.length cp, .slice (some ⟨gd, 0, none⟩) d.length cd]), (ga, #[Value.slice F1 m1 f1, Value.slice B2 n2 b2]), (gg, #[.slice Ag t.length cg, .slice Dg d.length kg]), (go, #[.slice B3 n3 b3, .slice B4 n4 b4]), (gr, #[.slice Ar t.length cr, .slice Dr d.length kr])] [(.slice (some ⟨gp, 0, none⟩) (p.length + 1) cp, p ++ [-77]), (.slice (some ⟨gd, 0, none⟩) (d.length + 1) cd, d ++ [-77]), (.slice F1 m1 f1, y1 ++ [-5000]), (.slice B2 n2 b2, y2), (.slice Ag t.length cg, t), (.slice Dg d.length kg, d), (.slice B3 n3 b3, y3), (.slice B4 n4 b4, y4), (.slice Ar t.length cr, t), (.slice Dr d.length kr, d)] from by rw [hw]; exact HSb.out.field (by decide) (i := 2) rfl 0 _ _ rfl); clear hw hu0 hv0 HSb; have hz1 : wb1.cell? ⟨ga, 1, none⟩ = some (Value.slice B2 n2 b2) := (blk_cell (HSc.out.blk (i := 2) rfl) 1).trans rfl) | ((with_reducible refine gate_builtin (b := .append) (xs := #[.tmp 101, .tmp 102]) rfl ?_); at_builtin; refine Kd.R_append (Kd.int .i64) (w0 := w) w.heap.size rfl (.tmp 101) (.tmp 102) 22 3 (.int .i64 0) 8 rfl Try.underlying22 info3 rfl (by decide) (by omega) (.slice B2 n2 b2) y2 (-6000) [.int .i64 (-6000)] (fun _ => True) (fun _ => False) rfl rfl ?aP (fun _ hk => hk.elim) ?aF ?aO ?aB ?aS ?aL ?_; (case aP => exact rfl); (case aF => exact (fun _ _ => trivial)); (case aO => exact Kd.R_mono (HSc.out.R (i := 3) rfl) (fun _ _ => trivial)); (case aB => exact HSc.out.hb); (case aS => exact below_size HSc.out.hb); (case aL => have h1 := (HSc.out.C (i := 3) rfl).1; have h2 := HLn.out; omega); intro v1 wa2 ho hb hg hat; obtain ⟨F2, m2, f2, e1⟩ : ∃ A n c, v1 = Value.slice A n c := (by obtain ⟨A, c, e⟩ := Kd.R_slice ho; exact ⟨A, _, c, e⟩); subst e1; have HSd := Aside0.mk (show HS 24 w wa2 [(w.heap.size, #[.slice A0 p.length c0, .slice A1 d.length c1]), (g5, #[.slice (some ⟨gp, 0, none⟩) p.length cp, .slice (some ⟨gd, 0, none⟩) d.length cd]), (ga, #[Value.slice F1 m1 f1, Value.slice B2 n2 b2]), (gg, #[.slice Ag t.length cg, .slice Dg d.length kg]), (go, #[.slice B3 n3 b3, .slice B4 n4 b4]), (gr, #[.slice Ar t.length cr, .slice Dr d.length kr])] [(.slice (some ⟨gp, 0, none⟩) (p.length + 1) cp, p ++ [-77]), (.slice (some ⟨gd, 0, none⟩) (d.length + 1) cd, d ++ [-77]), (.slice F1 m1 f1, y1 ++ [-5000]), (.slice F2 m2 f2, y2 ++ [-6000]), (.slice Ag t.length cg, t), (.slice Dg d.length kg, d), (.slice B3 n3 b3, y3), (.slice B4 n4 b4, y4), (.slice Ar t.length cr, t), (.slice Dr d.length kr, d)] from HSc.out.appended (by decide) (i := 3) rfl ho hb hg hat); have HM2 := Aside0.mk (show m2 = n2 + 1 by have h1 := (HSc.out.C (i := 3) rfl).1; have h2 := (HSd.out.C (i := 3) rfl).1; simp at h2; omega); clear ho hb hg hat HSc hz1; have hu1 : wa2.cell? ⟨ga, 1, none⟩ = some (Value.slice B2 n2 b2) := (blk_cell (HSd.out.blk (i := 2) rfl) 1).trans rfl; have hv1 := blk_frozen (HSd.out.blk (i := 2) rfl) 1) | ((with_reducible refine gate_store (t := 22) (p := 104) rfl ?_); refine store_event (t := 22) (p := 104) (v := ?vo2) (w1 := (wa2.setCell ⟨ga, 1, none⟩ (Value.slice F2 m2 f2))) ?hg ?ho ?hn ?hr ?_; (case ho => rfl); (case hg => rfl); (case hn => rfl); (case hr => first | (go_simp; done) | (go_simp; rfl)); intro wb2 hw; have HSe := Aside0.mk (show HS 24 w wb2 [(w.heap.size, #[.slice A0 p.length c0, .slice A1 d.length c1]), (g5, #[.slice (some ⟨gp, 0, none⟩) p.length cp, .slice (some ⟨gd, 0, none⟩) d.length cd]), (ga, #[Value.slice F1 m1 f1, Value.slice F2 m2 f2]), (gg, #[.slice Ag t.length cg, .slice Dg d.length kg]), (go, #[.slice B3 n3 b3, .slice B4 n4 b4]), (gr, #[.slice Ar t.length cr, .slice Dr d.length kr])] [(.slice (some ⟨gp, 0, none⟩) (p.length + 1) cp, p ++ [-77]), (.slice (some ⟨gd, 0, none⟩) (d.length + 1) cd, d ++ [-77]), (.slice F1 m1 f1, y1 ++ [-5000]), (.slice F2 m2 f2, y2 ++ [-6000]), (.slice Ag t.length cg, t), (.slice Dg d.length kg, d), (.slice B3 n3 b3, y3), (.slice B4 n4 b4, y4), (.slice Ar t.length cr, t), (.slice Dr d.length kr, d)] from by rw [hw]; exact HSd.out.field (by decide) (i := 2) rfl 1 _ _ rfl); clear hw hu1 hv1 HSd; have hz2 : wb2.cell? ⟨go, 0, none⟩ = some (Value.slice B3 n3 b3) := (blk_cell (HSe.out.blk (i := 4) rfl) 0).trans rfl) | ((with_reducible refine gate_builtin (b := .append) (xs := #[.tmp 106, .tmp 107]) rfl ?_); at_builtin; refine Kd.R_append (Kd.int .i64) (w0 := w) w.heap.size rfl (.tmp 106) (.tmp 107) 22 3 (.int .i64 0) 8 rfl Try.underlying22 info3 rfl (by decide) (by omega) (.slice B3 n3 b3) y3 (-7000) [.int .i64 (-7000)] (fun _ => True) (fun _ => False) rfl rfl ?aP (fun _ hk => hk.elim) ?aF ?aO ?aB ?aS ?aL ?_; (case aP => exact rfl); (case aF => exact (fun _ _ => trivial)); (case aO => exact Kd.R_mono (HSe.out.R (i := 6) rfl) (fun _ _ => trivial)); (case aB => exact HSe.out.hb); (case aS => exact below_size HSe.out.hb); (case aL => have h1 := (HSe.out.C (i := 6) rfl).1; have h2 := HLn.out; omega); intro v1 wa3 ho hb hg hat; obtain ⟨F3, m3, f3, e1⟩ : ∃ A n c, v1 = Value.slice A n c := (by obtain ⟨A, c, e⟩ := Kd.R_slice ho; exact ⟨A, _, c, e⟩); subst e1; have HSf := Aside0.mk (show HS 24 w wa3 [(w.heap.size, #[.slice A0 p.length c0, .slice A1 d.length c1]), (g5, #[.slice (some ⟨gp, 0, none⟩) p.length cp, .slice (some ⟨gd, 0, none⟩) d.length cd]), (ga, #[Value.slice F1 m1 f1, Value.slice F2 m2 f2]), (gg, #[.slice Ag t.length cg, .slice Dg d.length kg]), (go, #[.slice B3 n3 b3, .slice B4 n4 b4]), (gr, #[.slice Ar t.length cr, .slice Dr d.length kr])] [(.slice (some ⟨gp, 0, none⟩) (p.length + 1) cp, p ++ [-77]), (.slice (some ⟨gd, 0, none⟩) (d.length + 1) cd, d ++ [-77]), (.slice F1 m1 f1, y1 ++ [-5000]), (.slice F2 m2 f2, y2 ++ [-6000]), (.slice Ag t.length cg, t), (.slice Dg d.length kg, d), (.slice F3 m3 f3, y3 ++ [-7000]), (.slice B4 n4 b4, y4), (.slice Ar t.length cr, t), (.slice Dr d.length kr, d)] from HSe.out.appended (by decide) (i := 6) rfl ho hb hg hat); have HM3 := Aside0.mk (show m3 = n3 + 1 by have h1 := (HSe.out.C (i := 6) rfl).1; have h2 := (HSf.out.C (i := 6) rfl).1; simp at h2; omega); clear ho hb hg hat HSe hz2; have hu2 : wa3.cell? ⟨go, 0, none⟩ = some (Value.slice B3 n3 b3) := (blk_cell (HSf.out.blk (i := 4) rfl) 0).trans rfl; have hv2 := blk_frozen (HSf.out.blk (i := 4) rfl) 0) | ((with_reducible refine gate_store (t := 22) (p := 109) rfl ?_); refine store_event (t := 22) (p := 109) (v := ?vo3) (w1 := (wa3.setCell ⟨go, 0, none⟩ (Value.slice F3 m3 f3))) ?hg ?ho ?hn ?hr ?_; (case ho => rfl); (case hg => rfl); (case hn => rfl); (case hr => first | (go_simp; done) | (go_simp; rfl)); intro wb3 hw; have HSg := Aside0.mk (show HS 24 w wb3 [(w.heap.size, #[.slice A0 p.length c0, .slice A1 d.length c1]), (g5, #[.slice (some ⟨gp, 0, none⟩) p.length cp, .slice (some ⟨gd, 0, none⟩) d.length cd]), (ga, #[Value.slice F1 m1 f1, Value.slice F2 m2 f2]), (gg, #[.slice Ag t.length cg, .slice Dg d.length kg]), (go, #[Value.slice F3 m3 f3, Value.slice B4 n4 b4]), (gr, #[.slice Ar t.length cr, .slice Dr d.length kr])] [(.slice (some ⟨gp, 0, none⟩) (p.length + 1) cp, p ++ [-77]), (.slice (some ⟨gd, 0, none⟩) (d.length + 1) cd, d ++ [-77]), (.slice F1 m1 f1, y1 ++ [-5000]), (.slice F2 m2 f2, y2 ++ [-6000]), (.slice Ag t.length cg, t), (.slice Dg d.length kg, d), (.slice F3 m3 f3, y3 ++ [-7000]), (.slice B4 n4 b4, y4), (.slice Ar t.length cr, t), (.slice Dr d.length kr, d)] from by rw [hw]; exact HSf.out.field (by decide) (i := 4) rfl 0 _ _ rfl); clear hw hu2 hv2 HSf; have hz3 : wb3.cell? ⟨go, 1, none⟩ = some (Value.slice B4 n4 b4) := (blk_cell (HSg.out.blk (i := 4) rfl) 1).trans rfl) | ((with_reducible refine gate_builtin (b := .append) (xs := #[.tmp 111, .tmp 112]) rfl ?_); at_builtin; refine Kd.R_append (Kd.int .i64) (w0 := w) w.heap.size rfl (.tmp 111) (.tmp 112) 22 3 (.int .i64 0) 8 rfl Try.underlying22 info3 rfl (by decide) (by omega) (.slice B4 n4 b4) y4 (-8000) [.int .i64 (-8000)] (fun _ => True) (fun _ => False) rfl rfl ?aP (fun _ hk => hk.elim) ?aF ?aO ?aB ?aS ?aL ?_; (case aP => exact rfl); (case aF => exact (fun _ _ => trivial)); (case aO => exact Kd.R_mono (HSg.out.R (i := 7) rfl) (fun _ _ => trivial)); (case aB => exact HSg.out.hb); (case aS => exact below_size HSg.out.hb); (case aL => have h1 := (HSg.out.C (i := 7) rfl).1; have h2 := HLn.out; omega); intro v1 wa4 ho hb hg hat; obtain ⟨F4, m4, f4, e1⟩ : ∃ A n c, v1 = Value.slice A n c := (by obtain ⟨A, c, e⟩ := Kd.R_slice ho; exact ⟨A, _, c, e⟩); subst e1; have HSh := Aside0.mk (show HS 24 w wa4 [(w.heap.size, #[.slice A0 p.length c0, .slice A1 d.length c1]), (g5, #[.slice (some ⟨gp, 0, none⟩) p.length cp, .slice (some ⟨gd, 0, none⟩) d.length cd]), (ga, #[Value.slice F1 m1 f1, Value.slice F2 m2 f2]), (gg, #[.slice Ag t.length cg, .slice Dg d.length kg]), (go, #[Value.slice F3 m3 f3, Value.slice B4 n4 b4]), (gr, #[.slice Ar t.length cr, .slice Dr d.length kr])] [(.slice (some ⟨gp, 0, none⟩) (p.length + 1) cp, p ++ [-77]), (.slice (some ⟨gd, 0, none⟩) (d.length + 1) cd, d ++ [-77]), (.slice F1 m1 f1, y1 ++ [-5000]), (.slice F2 m2 f2, y2 ++ [-6000]), (.slice Ag t.length cg, t), (.slice Dg d.length kg, d), (.slice F3 m3 f3, y3 ++ [-7000]), (.slice F4 m4 f4, y4 ++ [-8000]), (.slice Ar t.length cr, t), (.slice Dr d.length kr, d)] from HSg.out.appended (by decide) (i := 7) rfl ho hb hg hat); have HM4 := Aside0.mk (show m4 = n4 + 1 by have h1 := (HSg.out.C (i := 7) rfl).1; have h2 := (HSh.out.C (i := 7) rfl).1; simp at h2; omega); clear ho hb hg hat HSg hz3; have hu3 : wa4.cell? ⟨go, 1, none⟩ = some (Value.slice B4 n4 b4) := (blk_cell (HSh.out.blk (i := 4) rfl) 1).trans rfl; have hv3 := blk_frozen (HSh.out.blk (i := 4) rfl) 1) | ((with_reducible refine gate_store (t := 22) (p := 114) rfl ?_); refine store_event (t := 22) (p := 114) (v := ?vo4) (w1 := (wa4.setCell ⟨go, 1, none⟩ (Value.slice F4 m4 f4))) ?hg ?ho ?hn ?hr ?_; (case ho => rfl); (case hg => rfl); (case hn => rfl); (case hr => first | (go_simp; done) | (go_simp; rfl)); intro wb4 hw; have HSi := Aside0.mk (show HS 24 w wb4 [(w.heap.size, #[.slice A0 p.length c0, .slice A1 d.length c1]), (g5, #[.slice (some ⟨gp, 0, none⟩) p.length cp, .slice (some ⟨gd, 0, none⟩) d.length cd]), (ga, #[Value.slice F1 m1 f1, Value.slice F2 m2 f2]), (gg, #[.slice Ag t.length cg, .slice Dg d.length kg]), (go, #[Value.slice F3 m3 f3, Value.slice F4 m4 f4]), (gr, #[.slice Ar t.length cr, .slice Dr d.length kr])] [(.slice (some ⟨gp, 0, none⟩) (p.length + 1) cp, p ++ [-77]), (.slice (some ⟨gd, 0, none⟩) (d.length + 1) cd, d ++ [-77]), (.slice F1 m1 f1, y1 ++ [-5000]), (.slice F2 m2 f2, y2 ++ [-6000]), (.slice Ag t.length cg, t), (.slice Dg d.length kg, d), (.slice F3 m3 f3, y3 ++ [-7000]), (.slice F4 m4 f4, y4 ++ [-8000]), (.slice Ar t.length cr, t), (.slice Dr d.length kr, d)] from by rw [hw]; exact HSh.out.field (by decide) (i := 4) rfl 1 _ _ rfl); clear hw hu3 hv3 HSh))
                go_roundw
                case measure => simp [intOf]; omega
                case rel => exact ⟨k + 1, _, _, _, _, _, _, _, _, _, _, _, _, _, _, _, _, by omega, by go_num, ⟨by have h1 := HM1.out; have h2 := HM2.out; have h3 := HM3.out; have h4 := HM4.out; have h5 := HN.out; omega⟩, HSi⟩
              · obtain rfl : k = 64 := by omega
                clear hk hlt
                obtain ⟨en1, _, _, en4⟩ := HN.out
                subst en1 en4
                clear HN HLn
                have HS15 := HSa
                clear HSa
                have hc50 : wr3.cell? ⟨g5, 0, none⟩ = some (Value.slice (some ⟨gp, 0, none⟩) p.length cp) := (blk_cell (HS15.out.blk (i := 1) rfl) 0).trans rfl
                have hc51 : wr3.cell? ⟨g5, 1, none⟩ = some (Value.slice (some ⟨gd, 0, none⟩) d.length cd) := (blk_cell (HS15.out.blk (i := 1) rfl) 1).trans rfl
                go_wp2_with fail
                clear hc50 hc51
                with_reducible refine (cut_calls (some ⟨gp, 0, none⟩) (some ⟨gd, 0, none⟩) p.length d.length cp cd p d a _ rfl rfl (mark_C HS15.out (i := 0) rfl rfl).2 (by have := (mark_C HS15.out (i := 0) rfl rfl).1; omega) (mark_C HS15.out (i := 1) rfl rfl).2 (by have := (mark_C HS15.out (i := 1) rfl rfl).1; omega) (by have := HLp.out; omega) (by have := HLd.out; omega)).mono ?_
                rintro e wl ⟨v0, v1, rfl, r0, r1, hb⟩
                rw [← HT.out] at r0
                obtain ⟨Al, cl, rfl, hla, _⟩ := Kd.R_reads r0
                obtain ⟨Dl, kl, rfl, hlb, _⟩ := Kd.R_reads r1
                have HCl := Aside0.mk (And.intro hla hlb)
                clear hla hlb
                obtain ⟨gl, eg⟩ : ∃ g, g = wl.heap.size := ⟨_, rfl⟩
                have HS16 := Aside0.mk (show HS 24 w (wl.alloc (.cells #[.slice Al t.length cl, .slice Dl d.length kl] 24)) [(w.heap.size, #[.slice A0 p.length c0, .slice A1 d.length c1]), (g5, #[.slice (some ⟨gp, 0, none⟩) p.length cp, .slice (some ⟨gd, 0, none⟩) d.length cd]), (ga, #[.slice B1 (t.length + 64) b1, .slice B2 n2 b2]), (gg, #[.slice Ag t.length cg, .slice Dg d.length kg]), (go, #[.slice B3 n3 b3, .slice B4 (sp1.length + 64) b4]), (gr, #[.slice Ar t.length cr, .slice Dr d.length kr]), (gl, #[.slice Al t.length cl, .slice Dl d.length kl])] [(.slice (some ⟨gp, 0, none⟩) (p.length + 1) cp, p ++ [-77]), (.slice (some ⟨gd, 0, none⟩) (d.length + 1) cd, d ++ [-77]), (.slice B1 (t.length + 64) b1, y1), (.slice B2 n2 b2, y2), (.slice Ag t.length cg, t), (.slice Dg d.length kg, d), (.slice B3 n3 b3, y3), (.slice B4 (sp1.length + 64) b4, y4), (.slice Ar t.length cr, t), (.slice Dr d.length kr, d), (.slice Al t.length cl, t), (.slice Dl d.length kl, d)] from by rw [eg]; exact (HS15.out.made2 r0 r1 hb).new _)
                clear r0 r1 hb HS15
                have hc50 : (wl.alloc (.cells #[.slice Al t.length cl, .slice Dl d.length kl] 24)).cell? ⟨g5, 0, none⟩ = some (Value.slice (some ⟨gp, 0, none⟩) p.length cp) := (blk_cell (HS16.out.blk (i := 1) rfl) 0).trans rfl
                have hc51 : (wl.alloc (.cells #[.slice Al t.length cl, .slice Dl d.length kl] 24)).cell? ⟨g5, 1, none⟩ = some (Value.slice (some ⟨gd, 0, none⟩) d.length cd) := (blk_cell (HS16.out.blk (i := 1) rfl) 1).trans rfl
                have hc20 : (wl.alloc (.cells #[.slice Al t.length cl, .slice Dl d.length kl] 24)).cell? ⟨w.heap.size, 0, none⟩ = some (Value.slice A0 p.length c0) := (blk_cell (HS16.out.blk (i := 0) rfl) 0).trans rfl
                have hc21 : (wl.alloc (.cells #[.slice Al t.length cl, .slice Dl d.length kl] 24)).cell? ⟨w.heap.size, 1, none⟩ = some (Value.slice A1 d.length c1) := (blk_cell (HS16.out.blk (i := 0) rfl) 1).trans rfl
                go_wp2_with fail
                clear hc50 hc51 hc20 hc21
                rw [← eg]
                clear eg
                generalize wl.alloc (.cells #[.slice Al t.length cl, .slice Dl d.length kl] 24) = wla at HS16 ⊢
                with_reducible refine (same_calls (some ⟨gp, 0, none⟩) (some ⟨gd, 0, none⟩) A0 A1 p.length d.length cp cd c0 c1 p d _ rfl rfl (mark_C HS16.out (i := 0) rfl rfl).2 (by have := (mark_C HS16.out (i := 0) rfl rfl).1; omega) (mark_C HS16.out (i := 1) rfl rfl).2 (by have := (mark_C HS16.out (i := 1) rfl rfl).1; omega) (Kd.C_below HP.out HS16.out.hb) HC0.out (Kd.C_below HD.out HS16.out.hb) HC1.out (by have := HLp.out; omega) (by have := HLd.out; omega)).mono ?_
                rintro e wy1 ⟨rfl, hb⟩
                have HS17 := Aside0.mk (HS16.out.below hb)
                clear hb HS16
                have hc50 : wy1.cell? ⟨g5, 0, none⟩ = some (Value.slice (some ⟨gp, 0, none⟩) p.length cp) := (blk_cell (HS17.out.blk (i := 1) rfl) 0).trans rfl
                have hc51 : wy1.cell? ⟨g5, 1, none⟩ = some (Value.slice (some ⟨gd, 0, none⟩) d.length cd) := (blk_cell (HS17.out.blk (i := 1) rfl) 1).trans rfl
                go_wp2_with fail
                clear hc50 hc51
                refine (Mark.marked_calls gp p.length cp w.heap.size (p ++ [-77]) _ (marked HS17.out (i := 0) rfl (by simp)) (by simp [List.getD_eq_getElem?_getD])).mono ?_
                rintro e wy2 ⟨rfl, ⟨m, rfl⟩⟩
                have HS18 := Aside0.mk (HS17.out.drawn m rfl)
                clear HS17
                generalize World.drewN _ m = wy2 at HS18 ⊢
                have hc50 : wy2.cell? ⟨g5, 0, none⟩ = some (Value.slice (some ⟨gp, 0, none⟩) p.length cp) := (blk_cell (HS18.out.blk (i := 1) rfl) 0).trans rfl
                have hc51 : wy2.cell? ⟨g5, 1, none⟩ = some (Value.slice (some ⟨gd, 0, none⟩) d.length cd) := (blk_cell (HS18.out.blk (i := 1) rfl) 1).trans rfl
                go_wp2_with fail
                clear hc50 hc51
                refine (Mark.marked_calls gd d.length cd w.heap.size (d ++ [-77]) _ (marked HS18.out (i := 1) rfl (by simp)) (by simp [List.getD_eq_getElem?_getD])).mono ?_
                rintro e wy3 ⟨rfl, ⟨m, rfl⟩⟩
                have HS19 := Aside0.mk (HS18.out.drawn m rfl)
                clear HS18
                generalize World.drewN _ m = wy3 at HS19 ⊢
                have hcg0 : wy3.cell? ⟨gg, 0, none⟩ = some (Value.slice Ag t.length cg) := (blk_cell (HS19.out.blk (i := 3) rfl) 0).trans rfl
                have hcg1 : wy3.cell? ⟨gg, 1, none⟩ = some (Value.slice Dg d.length kg) := (blk_cell (HS19.out.blk (i := 3) rfl) 1).trans rfl
                have hcr0 : wy3.cell? ⟨gr, 0, none⟩ = some (Value.slice Ar t.length cr) := (blk_cell (HS19.out.blk (i := 5) rfl) 0).trans rfl
                have hcr1 : wy3.cell? ⟨gr, 1, none⟩ = some (Value.slice Dr d.length kr) := (blk_cell (HS19.out.blk (i := 5) rfl) 1).trans rfl
                go_wp2_with fail
                clear hcg0 hcg1 hcr0 hcr1
                with_reducible refine (same_calls Ag Dg Ar Dr t.length d.length cg kg cr kr t d _ rfl rfl (HS19.out.C (i := 4) rfl).2.2 (HS19.out.C (i := 4) rfl).2.1 (HS19.out.C (i := 5) rfl).2.2 (HS19.out.C (i := 5) rfl).2.1 (HS19.out.C (i := 8) rfl).2.2 (HS19.out.C (i := 8) rfl).2.1 (HS19.out.C (i := 9) rfl).2.2 (HS19.out.C (i := 9) rfl).2.1 (by have := HLp.out; have := HTl.out; omega) (by have := HLd.out; omega)).mono ?_
                rintro e wz0 ⟨rfl, hb⟩
                have HS20 := Aside0.mk (HS19.out.below hb)
                clear hb HS19
                have hcl0 : wz0.cell? ⟨gl, 0, none⟩ = some (Value.slice Al t.length cl) := (blk_cell (HS20.out.blk (i := 6) rfl) 0).trans rfl
                have hcl1 : wz0.cell? ⟨gl, 1, none⟩ = some (Value.slice Dl d.length kl) := (blk_cell (HS20.out.blk (i := 6) rfl) 1).trans rfl
                have hcr0 : wz0.cell? ⟨gr, 0, none⟩ = some (Value.slice Ar t.length cr) := (blk_cell (HS20.out.blk (i := 5) rfl) 0).trans rfl
                have hcr1 : wz0.cell? ⟨gr, 1, none⟩ = some (Value.slice Dr d.length kr) := (blk_cell (HS20.out.blk (i := 5) rfl) 1).trans rfl
                go_wp2_with fail
                clear hcl0 hcl1 hcr0 hcr1
                with_reducible refine (same_calls Al Dl Ar Dr t.length d.length cl kl cr kr t d _ rfl rfl (HS20.out.C (i := 10) rfl).2.2 (HS20.out.C (i := 10) rfl).2.1 (HS20.out.C (i := 11) rfl).2.2 (HS20.out.C (i := 11) rfl).2.1 (HS20.out.C (i := 8) rfl).2.2 (HS20.out.C (i := 8) rfl).2.1 (HS20.out.C (i := 9) rfl).2.2 (HS20.out.C (i := 9) rfl).2.1 (by have := HLp.out; have := HTl.out; omega) (by have := HLd.out; omega)).mono ?_
                rintro e wz1 ⟨rfl, hb⟩
                have HS21 := Aside0.mk (HS20.out.below hb)
                clear hb HS20
                have hca0 : wz1.cell? ⟨ga, 0, none⟩ = some (Value.slice B1 (t.length + 64) b1) := (blk_cell (HS21.out.blk (i := 2) rfl) 0).trans rfl
                have hca1 : wz1.cell? ⟨ga, 1, none⟩ = some (Value.slice B2 n2 b2) := (blk_cell (HS21.out.blk (i := 2) rfl) 1).trans rfl
                have hcr0 : wz1.cell? ⟨gr, 0, none⟩ = some (Value.slice Ar t.length cr) := (blk_cell (HS21.out.blk (i := 5) rfl) 0).trans rfl
                have hcr1 : wz1.cell? ⟨gr, 1, none⟩ = some (Value.slice Dr d.length kr) := (blk_cell (HS21.out.blk (i := 5) rfl) 1).trans rfl
                have hco0 : wz1.cell? ⟨go, 0, none⟩ = some (Value.slice B3 n3 b3) := (blk_cell (HS21.out.blk (i := 4) rfl) 0).trans rfl
                have hco1 : wz1.cell? ⟨go, 1, none⟩ = some (Value.slice B4 (sp1.length + 64) b4) := (blk_cell (HS21.out.blk (i := 4) rfl) 1).trans rfl
                have ht1 : (t.length : Int) ≤ 1048576 := by have := HLp.out; have := HTl.out; omega
                have hs1 : 0 < sp1.length := by have := HSL1.out; omega
                go_wp2
                go_ret
                exact ⟨by simp; try omega, HS21.out.hb⟩
end Go.Proofs.Ytjlbimnafbngaaa.Cut
