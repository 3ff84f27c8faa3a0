/- The law ScriptEncode answers true for every script whose lists are no longer than the bound. -/
import Derived.Test.YtjlbimnafbngaaaDoorMarks
import Derived.Test.YtjlbimnafbngaaaDoorRefEnc
import Derived.Deep.DeepCutAuto
namespace Go.Proofs.YtjlbimnafbngaaaDoor.Enc
open Go.RowKit Go.Proofs.YtjlbimnafbngaaaDoorW.PrintWords Go.Proofs.YtjlbimnafbngaaaDoorW.PrintLast Go.Proofs.YtjlbimnafbngaaaDoorW.PrintMore Go.Proofs.YtjlbimnafbngaaaDoor.BitMath Go.Proofs.YtjlbimnafbngaaaDoor.PScriptEncode Go.Proofs.YtjlbimnafbngaaaDoor.Fam Go.Proofs.YtjlbimnafbngaaaDoor.Fmt
set_option linter.unusedSimpArgs false
set_option linter.unusedVariables false

def E1 : Bool × List (List Nat × List Nat) := (true, [([], []), ([0], [0]), ([1], [1]), ([], []), ([3], [3]), ([4, 2], [4]), ([2, 5], [2, 5]), ([], []), ([7, 6, 5, 0, 1, 2, 3, 4, 5, 6, 7], [6, 7])])
def E1B : List Nat := [0, 1, 3, 0, 8, 31, 63, 0, 255]
theorem E1_tab : rtab .any (opsOf Tryd.f3 1) = E1 := by kernel_rfl
theorem E1_bits : waitsOk E1.2 E1B = true := by kernel_rfl

/-- A list as long, with other numbers. -/
def other (p : List Int) : List Int := p.map (fun x => wrap64 (x + 1))
theorem other_length (p : List Int) : (other p).length = p.length := by unfold other; simp
theorem other_in (p : List Int) : ∀ x, x ∈ other p → In64 x := by
  intro x hx
  obtain ⟨y, _, rfl⟩ := List.mem_map.1 hx
  unfold In64 wrap64
  omega
theorem other_mark (p : List Int) : (other p ++ [-77]).getD p.length 0 = -77 := by
  have h : p.length = (other p).length := (other_length p).symm
  rw [h, List.getD_eq_getElem?_getD, List.getElem?_append_right (Nat.le_refl _)]
  simp
theorem encode2 (A0 : Option Addr) (n0 c0 : Nat) (l0 : List Int) (A1 : Option Addr) (n1 c1 : Nat) (l1 : List Int) (w : World) (h0 : l0.length = n0) (h1 : l1.length = n1) (hr0 : Kd.C (Kd.int .i64) w A0 l0.length l0) (hr1 : Kd.C (Kd.int .i64) w A1 l1.length l1) (hT : PowAt w) (hw0 : ∀ x, x ∈ l0 → In64 x) (hw1 : ∀ x, x ∈ l1 → In64 x) (hm0 : l0.length ≤ 1048576) (hm1 : l1.length ≤ 1048576) :
    Calls Tryd.prog 7 #[.agg #[.slice A0 n0 c0, .slice A1 n1 c1]] w fun e w' => e = .returned (.tuple #[.string (encF l0 l1).1, .int .i64 (encF l0 l1).2]) ∧ Below w.heap.size w w' := by
  subst h0 h1
  exact encode_calls A0 c0 l0 A1 c1 l1 w hr0 hr1 hT hw0 hw1 hm0 hm1

set_option maxHeartbeats 8000000 in
set_option maxRecDepth 100000 in
theorem walk (A0 A1 : Option Addr) (c0 c1 : Nat) (p d : List Int) (w : World) (hp0 : Kd.C (Kd.int .i64) w A0 p.length p) (hc0 : p.length ≤ c0) (hd0 : Kd.C (Kd.int .i64) w A1 d.length d) (hc1 : d.length ≤ c1) (hp : p.length ≤ 1048576) (hd : d.length ≤ 1048576) (hpi : ∀ x, x ∈ p → In64 x) (hdi : ∀ x, x ∈ d → In64 x) (hT : PowAt w) :
    Calls Tryd.prog 3 #[.agg #[.slice A0 p.length c0, .slice A1 d.length c1]] w fun e w' => e = .returned (.bool true) ∧ Below w.heap.size w w' := by
  have HP := Aside0.mk hp0
  have HD := Aside0.mk hd0
  have HC0 := Aside0.mk hc0
  have HC1 := Aside0.mk hc1
  have HLp := Aside0.mk hp
  have HLd := Aside0.mk hd
  have HIp := Aside0.mk hpi
  have HId := Aside0.mk hdi
  have HT := Aside0.mk hT
  clear hp0 hd0 hc0 hc1 hp hd hpi hdi hT
  have HS0 := Aside0.mk ((HS.start 24 w).new #[.slice A0 p.length c0, .slice A1 d.length c1])
  go_enter Tryd.func3, Tryd.ntmps3
  go_upto_region 1 with fail
  go_cut [3] (fun v3 wc => ∃ (g5 gp cp gd cd : Nat), v3 = .pointer (some ⟨g5, 0, none⟩) ∧ Aside0 (HS 24 w wc [(w.heap.size, #[.slice A0 p.length c0, .slice A1 d.length c1]), (g5, #[.slice (some ⟨gp, 0, none⟩) p.length cp, .slice (some ⟨gd, 0, none⟩) d.length cd])]
    [(.slice (some ⟨gp, 0, none⟩) (p.length + 1) cp, other p ++ [-77]), (.slice (some ⟨gd, 0, none⟩) (d.length + 1) cd, other d ++ [-77])]))
  case first =>
    generalize w.alloc (.cells #[.slice A0 p.length c0, .slice A1 d.length c1] 24) = w1 at HS0 ⊢
    have HS1 := Aside0.mk (show HS 24 w w1.drew _ _ from HS0.out.drawn 1 rfl)
    clear HS0
    refine start_ (n := 9) (S := (fun w' => w'.cell? ⟨w.heap.size, 0, none⟩ = some (.slice A0 p.length c0) ∧ w'.cell? ⟨w.heap.size, 1, none⟩ = some (.slice A1 d.length c1))) (ds := [8]) #[false, false, false, false, false, false, false, false, false] (by kernel_rfl) rfl rfl ⟨(blk_cell (HS1.out.blk (i := 0) rfl) 0).trans rfl, (blk_cell (HS1.out.blk (i := 0) rfl) 1).trans rfl⟩ (fun hHeld => ?_); refine with_tabW E1_tab E1_bits (fun HT_ HW_ => ?_)
    generalize w1.drew = w2 at HS1 hHeld ⊢
    refine pure_ (i := 0) (N := some 8) (v := ?_) (a' := ?_) #[true, false, false, false, false, false, false, false, false] rfl rfl (any_of HT_.out (by kernel_rfl)) (fun _ _ _ h => h) (Or.inl ⟨by rfl, ?_⟩) ?_ ?_
    rotate_left
    · intro w'
      go_simp
      with_reducible rfl
    rotate_left
    · simp only [Act.put, List.setIfInBounds_toArray, List.set_cons_zero, List.set_cons_succ, i64_w, i32_w]
      rfl
    refine pure_ (i := 3) (N := some 11) (v := ?_) (a' := ?_) #[true, false, false, true, false, false, false, false, false] rfl rfl (any_of HT_.out (by kernel_rfl)) (fun _ _ _ h => h) (Or.inl ⟨by rfl, ?_⟩) ?_ ?_
    rotate_left
    · intro w'
      go_simp
      with_reducible rfl
    rotate_left
    · simp only [Act.put, List.setIfInBounds_toArray, List.set_cons_zero, List.set_cons_succ, i64_w, i32_w]
      rfl
    refine take_ (i := 1) (N := some 9) (v := ?_) (a' := ?_) #[true, true, false, true, false, false, false, false, false] rfl rfl (take_ofW HT_.out HW_.out (by kernel_rfl)) (fun _ _ _ h => h) (Or.inl ⟨by rfl, ?_⟩) hHeld ?_ ?_
    rotate_left
    · rintro w' ⟨s0, s1⟩
      go_simp
      with_reducible rfl
    rotate_left
    · simp only [Act.put, List.setIfInBounds_toArray, List.set_cons_zero, List.set_cons_succ, i64_w, i32_w]
      rfl
    refine take_ (i := 4) (N := some 12) (v := ?_) (a' := ?_) #[true, true, false, true, true, false, false, false, false] rfl rfl (take_ofW HT_.out HW_.out (by kernel_rfl)) (fun _ _ _ h => h) (Or.inl ⟨by rfl, ?_⟩) hHeld ?_ ?_
    rotate_left
    · rintro w' ⟨s0, s1⟩
      go_simp
      with_reducible rfl
    rotate_left
    · simp only [Act.put, List.setIfInBounds_toArray, List.set_cons_zero, List.set_cons_succ, i64_w, i32_w]
      rfl
    refine two_ (i := 2) (j := 7) (Ni := some 10) (Nj := some 3) #[true, true, true, true, true, false, false, false, false] #[true, true, false, true, true, false, false, true, false] rfl rfl rfl rfl (two_of HT_.out (by kernel_rfl)) (by decide) (by decide) (fun K hK => ?_) (fun K hK => ?_)
    · refine goes_ Tryd.func6 (by kernel_rfl) rfl #[.slice A0 p.length c0] (by rfl) rfl rfl (by (try simp only [List.map_toArray, List.map_cons, List.map_nil]); first | done | rfl) ?_
      with_reducible refine (Mark.moved_calls A0 c0 p _ (Kd.C_below HP.out HS1.out.hb) HC0.out (by have := HLp.out; omega)).mono ?_
      rintro e wp ⟨gp, cp, rfl, hM, hb⟩
      have HS2 := Aside0.mk (of_marked HS1.out hM hb)
      clear hM hb HS1
      refine ⟨_, rfl, ?_⟩
      refine hK.out _ _ ⟨(blk_cell (HS2.out.blk (i := 0) rfl) 0).trans rfl, (blk_cell (HS2.out.blk (i := 0) rfl) 1).trans rfl⟩ (fun hHeld => ?_)
      clear hK K
      refine norm_ (a' := ?_) ?_ ?_
      rotate_left
      · show Act.put _ (some 10) _ = _
        simp only [Act.put, List.setIfInBounds_toArray, List.set_cons_zero, List.set_cons_succ, i64_w, i32_w]
        rfl
      refine two_ (i := 5) (j := 7) (Ni := some 13) (Nj := some 3) #[true, true, true, true, true, true, false, false, false] #[true, true, true, true, true, false, false, true, false] rfl rfl rfl rfl (two_of HT_.out (by kernel_rfl)) (by decide) (by decide) (fun K hK => ?_) (fun K hK => ?_)
      · refine goes_ Tryd.func6 (by kernel_rfl) rfl #[.slice A1 d.length c1] (by rfl) rfl rfl (by (try simp only [List.map_toArray, List.map_cons, List.map_nil]); first | done | rfl) ?_
        with_reducible refine (Mark.moved_calls A1 c1 d _ (Kd.C_below HD.out HS2.out.hb) HC1.out (by have := HLd.out; omega)).mono ?_
        rintro e wd ⟨gd, cd, rfl, hM, hb⟩
        have HS3 := Aside0.mk (of_marked HS2.out hM hb)
        clear hM hb HS2
        refine ⟨_, rfl, ?_⟩
        refine hK.out _ _ ⟨(blk_cell (HS3.out.blk (i := 0) rfl) 0).trans rfl, (blk_cell (HS3.out.blk (i := 0) rfl) 1).trans rfl⟩ (fun hHeld => ?_)
        clear hK K
        refine norm_ (a' := ?_) ?_ ?_
        rotate_left
        · show Act.put _ (some 13) _ = _
          simp only [Act.put, List.setIfInBounds_toArray, List.set_cons_zero, List.set_cons_succ, i64_w, i32_w]
          rfl
        refine pure_ (i := 6) (N := some 14) (v := ?_) (a' := ?_) #[true, true, true, true, true, true, true, false, false] rfl rfl (any_of HT_.out (by kernel_rfl)) (fun _ _ _ h => h) (Or.inl ⟨by rfl, ?_⟩) ?_ ?_
        rotate_left
        · intro w'
          go_simp
          with_reducible rfl
        rotate_left
        · simp only [Act.put, List.setIfInBounds_toArray, List.set_cons_zero, List.set_cons_succ, i64_w, i32_w]
          rfl
        have HS4 := Aside0.mk (HS3.out.new #[.slice none 0 0, .slice none 0 0])
        obtain ⟨g5, eg5⟩ : ∃ g, g = wd.heap.size := ⟨_, rfl⟩
        refine one_ (i := 7) (N := some 3) #[true, true, true, true, true, true, true, true, false] rfl rfl (one_of HT_.out (by kernel_rfl)) (by decide) (fun K hK => ?_)
        refine value_ (w1 := ?_) (v := ?_) (by rfl) rfl ?_ ?_
        rotate_left 2
        · go_simp
          constructor
          · rfl
          · rfl
        refine hK.out _ _ ⟨(blk_cell (HS4.out.blk (i := 0) rfl) 0).trans rfl, (blk_cell (HS4.out.blk (i := 0) rfl) 1).trans rfl⟩ (fun hHeld => ?_)
        clear hK K
        refine norm_ (a' := ?_) ?_ ?_
        rotate_left
        · show Act.put _ (some 3) _ = _
          simp only [Act.put, List.setIfInBounds_toArray, List.set_cons_zero, List.set_cons_succ, i64_w, i32_w]
          rfl
        rw [← eg5] at HS4 ⊢
        clear eg5 HS3
        generalize wd.alloc (.cells #[.slice none 0 0, .slice none 0 0] 24) = wda at HS4 hHeld ⊢
        have hf0 := blk_frozen (HS4.out.blk (i := 1) rfl) 0
        have hf1 := blk_frozen (HS4.out.blk (i := 1) rfl) 1
        have hx0 := (blk_cell (HS4.out.blk (i := 1) rfl) 0).trans rfl
        have hx1 := (blk_cell (HS4.out.blk (i := 1) rfl) 1).trans rfl
        refine last_ (i := 8) (N := none) #[true, true, true, true, true, true, true, true, true] rfl rfl (one_of HT_.out (by kernel_rfl)) (by decide) (fun K hK => ?_)
        refine skip_ (w1 := ?_) (by rfl) rfl ?_ ?_
        rotate_left
        · go_simp
          rfl
        refine hK.out _ _ ?_
        clear hK K
        refine done_ (done_of HT_.out (by kernel_rfl)) ?_
        clear HT_ HW_ hHeld
        go_wp2_with fail
        go_meet
        exact ⟨_, _, _, _, _, rfl, ⟨(HS4.out.field (by decide) (i := 1) rfl 0 _ _ rfl).field (by decide) (i := 1) rfl 1 _ _ rfl⟩⟩
      · have HS3 := Aside0.mk (HS2.out.new #[.slice none 0 0, .slice none 0 0])
        obtain ⟨g5, eg5⟩ : ∃ g, g = wp.heap.size := ⟨_, rfl⟩
        refine value_ (w1 := ?_) (v := ?_) (by rfl) rfl ?_ ?_
        rotate_left 2
        · go_simp
          constructor
          · rfl
          · rfl
        refine hK.out _ _ ⟨(blk_cell (HS3.out.blk (i := 0) rfl) 0).trans rfl, (blk_cell (HS3.out.blk (i := 0) rfl) 1).trans rfl⟩ (fun hHeld => ?_)
        clear hK K
        refine norm_ (a' := ?_) ?_ ?_
        rotate_left
        · show Act.put _ (some 3) _ = _
          simp only [Act.put, List.setIfInBounds_toArray, List.set_cons_zero, List.set_cons_succ, i64_w, i32_w]
          rfl
        rw [← eg5] at HS3 ⊢
        clear eg5 HS2
        generalize wp.alloc (.cells #[.slice none 0 0, .slice none 0 0] 24) = wpa at HS3 hHeld ⊢
        refine one_ (i := 5) (N := some 13) #[true, true, true, true, true, true, false, true, false] rfl rfl (one_of HT_.out (by kernel_rfl)) (by decide) (fun K hK => ?_)
        refine goes_ Tryd.func6 (by kernel_rfl) rfl #[.slice A1 d.length c1] (by rfl) rfl rfl (by (try simp only [List.map_toArray, List.map_cons, List.map_nil]); first | done | rfl) ?_
        with_reducible refine (Mark.moved_calls A1 c1 d _ (Kd.C_below HD.out HS3.out.hb) HC1.out (by have := HLd.out; omega)).mono ?_
        rintro e wd ⟨gd, cd, rfl, hM, hb⟩
        have HS4 := Aside0.mk (of_marked HS3.out hM hb)
        clear hM hb HS3
        refine ⟨_, rfl, ?_⟩
        refine hK.out _ _ ⟨(blk_cell (HS4.out.blk (i := 0) rfl) 0).trans rfl, (blk_cell (HS4.out.blk (i := 0) rfl) 1).trans rfl⟩ (fun hHeld => ?_)
        clear hK K
        refine norm_ (a' := ?_) ?_ ?_
        rotate_left
        · show Act.put _ (some 13) _ = _
          simp only [Act.put, List.setIfInBounds_toArray, List.set_cons_zero, List.set_cons_succ, i64_w, i32_w]
          rfl
        refine pure_ (i := 6) (N := some 14) (v := ?_) (a' := ?_) #[true, true, true, true, true, true, true, true, false] rfl rfl (any_of HT_.out (by kernel_rfl)) (fun _ _ _ h => h) (Or.inl ⟨by rfl, ?_⟩) ?_ ?_
        rotate_left
        · intro w'
          go_simp
          with_reducible rfl
        rotate_left
        · simp only [Act.put, List.setIfInBounds_toArray, List.set_cons_zero, List.set_cons_succ, i64_w, i32_w]
          rfl
        have hf0 := blk_frozen (HS4.out.blk (i := 1) rfl) 0
        have hf1 := blk_frozen (HS4.out.blk (i := 1) rfl) 1
        have hx0 := (blk_cell (HS4.out.blk (i := 1) rfl) 0).trans rfl
        have hx1 := (blk_cell (HS4.out.blk (i := 1) rfl) 1).trans rfl
        refine last_ (i := 8) (N := none) #[true, true, true, true, true, true, true, true, true] rfl rfl (one_of HT_.out (by kernel_rfl)) (by decide) (fun K hK => ?_)
        refine skip_ (w1 := ?_) (by rfl) rfl ?_ ?_
        rotate_left
        · go_simp
          rfl
        refine hK.out _ _ ?_
        clear hK K
        refine done_ (done_of HT_.out (by kernel_rfl)) ?_
        clear HT_ HW_ hHeld
        go_wp2_with fail
        go_meet
        exact ⟨_, _, _, _, _, rfl, ⟨(HS4.out.field (by decide) (i := 1) rfl 0 _ _ rfl).field (by decide) (i := 1) rfl 1 _ _ rfl⟩⟩
    · have HS2 := Aside0.mk (HS1.out.new #[.slice none 0 0, .slice none 0 0])
      obtain ⟨g5, eg5⟩ : ∃ g, g = w2.heap.size := ⟨_, rfl⟩
      refine value_ (w1 := ?_) (v := ?_) (by rfl) rfl ?_ ?_
      rotate_left 2
      · go_simp
        constructor
        · rfl
        · rfl
      refine hK.out _ _ ⟨(blk_cell (HS2.out.blk (i := 0) rfl) 0).trans rfl, (blk_cell (HS2.out.blk (i := 0) rfl) 1).trans rfl⟩ (fun hHeld => ?_)
      clear hK K
      refine norm_ (a' := ?_) ?_ ?_
      rotate_left
      · show Act.put _ (some 3) _ = _
        simp only [Act.put, List.setIfInBounds_toArray, List.set_cons_zero, List.set_cons_succ, i64_w, i32_w]
        rfl
      rw [← eg5] at HS2 ⊢
      clear eg5 HS1
      generalize w2.alloc (.cells #[.slice none 0 0, .slice none 0 0] 24) = w2a at HS2 hHeld ⊢
      refine one_ (i := 2) (N := some 10) #[true, true, true, true, true, false, false, true, false] rfl rfl (one_of HT_.out (by kernel_rfl)) (by decide) (fun K hK => ?_)
      refine goes_ Tryd.func6 (by kernel_rfl) rfl #[.slice A0 p.length c0] (by rfl) rfl rfl (by (try simp only [List.map_toArray, List.map_cons, List.map_nil]); first | done | rfl) ?_
      with_reducible refine (Mark.moved_calls A0 c0 p _ (Kd.C_below HP.out HS2.out.hb) HC0.out (by have := HLp.out; omega)).mono ?_
      rintro e wp ⟨gp, cp, rfl, hM, hb⟩
      have HS3 := Aside0.mk (of_marked HS2.out hM hb)
      clear hM hb HS2
      refine ⟨_, rfl, ?_⟩
      refine hK.out _ _ ⟨(blk_cell (HS3.out.blk (i := 0) rfl) 0).trans rfl, (blk_cell (HS3.out.blk (i := 0) rfl) 1).trans rfl⟩ (fun hHeld => ?_)
      clear hK K
      refine norm_ (a' := ?_) ?_ ?_
      rotate_left
      · show Act.put _ (some 10) _ = _
        simp only [Act.put, List.setIfInBounds_toArray, List.set_cons_zero, List.set_cons_succ, i64_w, i32_w]
        rfl
      refine one_ (i := 5) (N := some 13) #[true, true, true, true, true, true, false, true, false] rfl rfl (one_of HT_.out (by kernel_rfl)) (by decide) (fun K hK => ?_)
      refine goes_ Tryd.func6 (by kernel_rfl) rfl #[.slice A1 d.length c1] (by rfl) rfl rfl (by (try simp only [List.map_toArray, List.map_cons, List.map_nil]); first | done | rfl) ?_
      with_reducible refine (Mark.moved_calls A1 c1 d _ (Kd.C_below HD.out HS3.out.hb) HC1.out (by have := HLd.out; omega)).mono ?_
      rintro e wd ⟨gd, cd, rfl, hM, hb⟩
      have HS4 := Aside0.mk (of_marked HS3.out hM hb)
      clear hM hb HS3
      refine ⟨_, rfl, ?_⟩
      refine hK.out _ _ ⟨(blk_cell (HS4.out.blk (i := 0) rfl) 0).trans rfl, (blk_cell (HS4.out.blk (i := 0) rfl) 1).trans rfl⟩ (fun hHeld => ?_)
      clear hK K
      refine norm_ (a' := ?_) ?_ ?_
      rotate_left
      · show Act.put _ (some 13) _ = _
        simp only [Act.put, List.setIfInBounds_toArray, List.set_cons_zero, List.set_cons_succ, i64_w, i32_w]
        rfl
      refine pure_ (i := 6) (N := some 14) (v := ?_) (a' := ?_) #[true, true, true, true, true, true, true, true, false] rfl rfl (any_of HT_.out (by kernel_rfl)) (fun _ _ _ h => h) (Or.inl ⟨by rfl, ?_⟩) ?_ ?_
      rotate_left
      · intro w'
        go_simp
        with_reducible rfl
      rotate_left
      · simp only [Act.put, List.setIfInBounds_toArray, List.set_cons_zero, List.set_cons_succ, i64_w, i32_w]
        rfl
      have hf0 := blk_frozen (HS4.out.blk (i := 1) rfl) 0
      have hf1 := blk_frozen (HS4.out.blk (i := 1) rfl) 1
      have hx0 := (blk_cell (HS4.out.blk (i := 1) rfl) 0).trans rfl
      have hx1 := (blk_cell (HS4.out.blk (i := 1) rfl) 1).trans rfl
      refine last_ (i := 8) (N := none) #[true, true, true, true, true, true, true, true, true] rfl rfl (one_of HT_.out (by kernel_rfl)) (by decide) (fun K hK => ?_)
      refine skip_ (w1 := ?_) (by rfl) rfl ?_ ?_
      rotate_left
      · go_simp
        rfl
      refine hK.out _ _ ?_
      clear hK K
      refine done_ (done_of HT_.out (by kernel_rfl)) ?_
      clear HT_ HW_ hHeld
      go_wp2_with fail
      go_meet
      exact ⟨_, _, _, _, _, rfl, ⟨(HS4.out.field (by decide) (i := 1) rfl 0 _ _ rfl).field (by decide) (i := 1) rfl 1 _ _ rfl⟩⟩
  case rest =>
    obtain ⟨g5, gp, cp, gd, cd, rfl, HS1⟩ := hcut
    clear HS0
    have hc50 : wc.cell? ⟨g5, 0, none⟩ = some (Value.slice (some ⟨gp, 0, none⟩) p.length cp) := (blk_cell (HS1.out.blk (i := 1) rfl) 0).trans rfl
    have hc51 : wc.cell? ⟨g5, 1, none⟩ = some (Value.slice (some ⟨gd, 0, none⟩) d.length cd) := (blk_cell (HS1.out.blk (i := 1) rfl) 1).trans rfl
    go_wp2_with fail
    clear hc50 hc51
    with_reducible refine (encode2 (some ⟨gp, 0, none⟩) p.length cp (other p) (some ⟨gd, 0, none⟩) d.length cd (other d) _ (other_length p) (other_length d) (mark_C HS1.out (i := 0) rfl (other_length p)).2 (mark_C HS1.out (i := 1) rfl (other_length d)).2 (HT.out.below HS1.out.hb) (other_in p) (other_in d) (by rw [other_length]; exact HLp.out) (by rw [other_length]; exact HLd.out)).mono ?_
    rintro e w3 ⟨rfl, hb⟩
    have HS2 := Aside0.mk (HS1.out.below hb)
    clear hb HS1
    have hc50 : w3.cell? ⟨g5, 0, none⟩ = some (Value.slice (some ⟨gp, 0, none⟩) p.length cp) := (blk_cell (HS2.out.blk (i := 1) rfl) 0).trans rfl
    have hc51 : w3.cell? ⟨g5, 1, none⟩ = some (Value.slice (some ⟨gd, 0, none⟩) d.length cd) := (blk_cell (HS2.out.blk (i := 1) rfl) 1).trans rfl
    have hc20 : w3.cell? ⟨w.heap.size, 0, none⟩ = some (Value.slice A0 p.length c0) := (blk_cell (HS2.out.blk (i := 0) rfl) 0).trans rfl
    have hc21 : w3.cell? ⟨w.heap.size, 1, none⟩ = some (Value.slice A1 d.length c1) := (blk_cell (HS2.out.blk (i := 0) rfl) 1).trans rfl
    generalize encF (other p) (other d) = eo
    go_wp2_with fail
    clear hc50 hc51 hc20 hc21
    with_reducible refine (Mark.back_calls gp p.length cp w.heap.size (other p ++ [-77]) A0 c0 p w w3 (marked HS2.out (i := 0) rfl (by simp [other_length])) HP.out (Nat.le_refl _) HS2.out.hb rfl).mono ?_
    rintro e w4 ⟨rfl, hM, hb, hk⟩
    rw [other_mark p] at hM
    have HS3 := Aside0.mk (show HS 24 w w4 [(w.heap.size, #[.slice A0 p.length c0, .slice A1 d.length c1]), (g5, #[.slice (some ⟨gp, 0, none⟩) p.length cp, .slice (some ⟨gd, 0, none⟩) d.length cd])] [(.slice (some ⟨gp, 0, none⟩) (p.length + 1) cp, p ++ [-77]), (.slice (some ⟨gd, 0, none⟩) (d.length + 1) cd, other d ++ [-77])] from of_back HS2.out (by decide) (i := 0) rfl hM hb hk)
    clear hM hb hk HS2
    have hc50 : w4.cell? ⟨g5, 0, none⟩ = some (Value.slice (some ⟨gp, 0, none⟩) p.length cp) := (blk_cell (HS3.out.blk (i := 1) rfl) 0).trans rfl
    have hc51 : w4.cell? ⟨g5, 1, none⟩ = some (Value.slice (some ⟨gd, 0, none⟩) d.length cd) := (blk_cell (HS3.out.blk (i := 1) rfl) 1).trans rfl
    have hc20 : w4.cell? ⟨w.heap.size, 0, none⟩ = some (Value.slice A0 p.length c0) := (blk_cell (HS3.out.blk (i := 0) rfl) 0).trans rfl
    have hc21 : w4.cell? ⟨w.heap.size, 1, none⟩ = some (Value.slice A1 d.length c1) := (blk_cell (HS3.out.blk (i := 0) rfl) 1).trans rfl
    go_wp2_with fail
    clear hc50 hc51 hc20 hc21
    with_reducible refine (Mark.back_calls gd d.length cd w.heap.size (other d ++ [-77]) A1 c1 d w w4 (marked HS3.out (i := 1) rfl (by simp [other_length])) HD.out (Nat.le_refl _) HS3.out.hb rfl).mono ?_
    rintro e w5 ⟨rfl, hM, hb, hk⟩
    rw [other_mark d] at hM
    have HS4 := Aside0.mk (show HS 24 w w5 [(w.heap.size, #[.slice A0 p.length c0, .slice A1 d.length c1]), (g5, #[.slice (some ⟨gp, 0, none⟩) p.length cp, .slice (some ⟨gd, 0, none⟩) d.length cd])] [(.slice (some ⟨gp, 0, none⟩) (p.length + 1) cp, p ++ [-77]), (.slice (some ⟨gd, 0, none⟩) (d.length + 1) cd, d ++ [-77])] from of_back HS3.out (by decide) (i := 1) rfl hM hb hk)
    clear hM hb hk HS3
    have hc50 : w5.cell? ⟨g5, 0, none⟩ = some (Value.slice (some ⟨gp, 0, none⟩) p.length cp) := (blk_cell (HS4.out.blk (i := 1) rfl) 0).trans rfl
    have hc51 : w5.cell? ⟨g5, 1, none⟩ = some (Value.slice (some ⟨gd, 0, none⟩) d.length cd) := (blk_cell (HS4.out.blk (i := 1) rfl) 1).trans rfl
    go_wp2_with fail
    clear hc50 hc51
    with_reducible refine (encode2 (some ⟨gp, 0, none⟩) p.length cp (p) (some ⟨gd, 0, none⟩) d.length cd (d) _ (rfl) (rfl) (mark_C HS4.out (i := 0) rfl (rfl)).2 (mark_C HS4.out (i := 1) rfl (rfl)).2 (HT.out.below HS4.out.hb) (HIp.out) (HId.out) (by exact HLp.out) (by exact HLd.out)).mono ?_
    rintro e w6 ⟨rfl, hb⟩
    have HS5 := Aside0.mk (HS4.out.below hb)
    clear hb HS4
    have hc20 : w6.cell? ⟨w.heap.size, 0, none⟩ = some (Value.slice A0 p.length c0) := (blk_cell (HS5.out.blk (i := 0) rfl) 0).trans rfl
    have hc21 : w6.cell? ⟨w.heap.size, 1, none⟩ = some (Value.slice A1 d.length c1) := (blk_cell (HS5.out.blk (i := 0) rfl) 1).trans rfl
    obtain ⟨es, ee, hee⟩ : ∃ es ee, encF p d = (es, ee) := ⟨_, _, rfl⟩
    have HEE := Aside0.mk hee
    rw [hee]
    clear hee
    go_wp2_with fail
    clear hc20 hc21
    with_reducible refine (rencode_calls A0 c0 p A1 c1 d _ (Kd.C_below HP.out HS5.out.hb) (Kd.C_below HD.out HS5.out.hb) HIp.out HId.out HLp.out HLd.out).mono ?_
    rintro e w7 ⟨rfl, hb⟩
    have HS6 := Aside0.mk (HS5.out.below hb)
    clear hb HS5
    rw [HEE.out]
    have hc50 : w7.cell? ⟨g5, 0, none⟩ = some (Value.slice (some ⟨gp, 0, none⟩) p.length cp) := (blk_cell (HS6.out.blk (i := 1) rfl) 0).trans rfl
    have hc51 : w7.cell? ⟨g5, 1, none⟩ = some (Value.slice (some ⟨gd, 0, none⟩) d.length cd) := (blk_cell (HS6.out.blk (i := 1) rfl) 1).trans rfl
    have hc20 : w7.cell? ⟨w.heap.size, 0, none⟩ = some (Value.slice A0 p.length c0) := (blk_cell (HS6.out.blk (i := 0) rfl) 0).trans rfl
    have hc21 : w7.cell? ⟨w.heap.size, 1, none⟩ = some (Value.slice A1 d.length c1) := (blk_cell (HS6.out.blk (i := 0) rfl) 1).trans rfl
    go_wp2_with fail
    clear hc50 hc51 hc20 hc21
    with_reducible refine (same_calls (some ⟨gp, 0, none⟩) (some ⟨gd, 0, none⟩) A0 A1 p.length d.length cp cd c0 c1 p d _ rfl rfl (mark_C HS6.out (i := 0) rfl rfl).2 (by have := (mark_C HS6.out (i := 0) rfl rfl).1; omega) (mark_C HS6.out (i := 1) rfl rfl).2 (by have := (mark_C HS6.out (i := 1) rfl rfl).1; omega) (Kd.C_below HP.out HS6.out.hb) HC0.out (Kd.C_below HD.out HS6.out.hb) HC1.out (by have := HLp.out; omega) (by have := HLd.out; omega)).mono ?_
    rintro e w8 ⟨rfl, hb⟩
    have HS7 := Aside0.mk (HS6.out.below hb)
    clear hb HS6
    have hc50 : w8.cell? ⟨g5, 0, none⟩ = some (Value.slice (some ⟨gp, 0, none⟩) p.length cp) := (blk_cell (HS7.out.blk (i := 1) rfl) 0).trans rfl
    have hc51 : w8.cell? ⟨g5, 1, none⟩ = some (Value.slice (some ⟨gd, 0, none⟩) d.length cd) := (blk_cell (HS7.out.blk (i := 1) rfl) 1).trans rfl
    go_wp2_with fail
    clear hc50 hc51
    refine (Mark.marked_calls gp p.length cp w.heap.size (p ++ [-77]) _ (marked HS7.out (i := 0) rfl (by simp)) (by simp [List.getD_eq_getElem?_getD])).mono ?_
    rintro e w9 ⟨rfl, ⟨m, rfl⟩⟩
    have HS8 := Aside0.mk (HS7.out.drawn m rfl)
    clear HS7
    generalize World.drewN _ m = w9 at HS8 ⊢
    have hc50 : w9.cell? ⟨g5, 0, none⟩ = some (Value.slice (some ⟨gp, 0, none⟩) p.length cp) := (blk_cell (HS8.out.blk (i := 1) rfl) 0).trans rfl
    have hc51 : w9.cell? ⟨g5, 1, none⟩ = some (Value.slice (some ⟨gd, 0, none⟩) d.length cd) := (blk_cell (HS8.out.blk (i := 1) rfl) 1).trans rfl
    go_wp2_with fail
    clear hc50 hc51
    refine (Mark.marked_calls gd d.length cd w.heap.size (d ++ [-77]) _ (marked HS8.out (i := 1) rfl (by simp)) (by simp [List.getD_eq_getElem?_getD])).mono ?_
    rintro e w10 ⟨rfl, ⟨m, rfl⟩⟩
    have HS9 := Aside0.mk (HS8.out.drawn m rfl)
    clear HS8
    generalize World.drewN _ m = w10 at HS9 ⊢
    go_wp2
    go_ret
    exact ⟨by simp, HS9.out.hb⟩
end Go.Proofs.YtjlbimnafbngaaaDoor.Enc
