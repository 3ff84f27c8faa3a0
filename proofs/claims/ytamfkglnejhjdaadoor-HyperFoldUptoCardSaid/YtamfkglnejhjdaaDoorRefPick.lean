/- The document's run: the next pick. -/
import Derived.Test.YtamfkglnejhjdaaDoorRefSmall
namespace Go.Proofs.YtamfkglnejhjdaaDoor.Ref
open Go.RowKit Go.Proofs.YtamfkglnejhjdaaDoorW.PrintWords Go.Proofs.YtamfkglnejhjdaaDoorW.PrintLast Go.Proofs.YtamfkglnejhjdaaDoorW.PrintMore Go.Proofs.YtamfkglnejhjdaaDoor.PHyperFold
set_option linter.unusedVariables false
set_option linter.unusedSimpArgs false

theorem pick_eq (x : Int) (n : Nat) (hn : 0 < n) (hn2 : n ≤ 4194304) : (if x.tmod n < 0 then wrap64 (x.tmod n + n) else x.tmod n) = ((x % (n : Int)).toNat : Int) := by
  have h1 := Int.emod_nonneg x (b := (n : Int)) (by omega)
  have h2 := Int.emod_lt_of_pos x (b := (n : Int)) (by omega)
  have h3 := Int.tmod_eq_emod (a := x) (b := (n : Int))
  split
  · rename_i h
    split at h3
    · omega
    · rw [BitMath.wrap_id (by unfold BitMath.In64; omega)]; omega
  · rename_i h
    split at h3 <;> omega
def R47a : Bool × List (List Nat × List Nat) := (true, [([], []), ([0], [0]), ([1], [1]), ([2], [2]), ([], []), ([4], [4]), ([5], [5]), ([6], [6]), ([7], [7]), ([3, 8], [3, 8])])
def R47aB : List Nat := [0, 1, 3, 7, 0, 16, 48, 112, 240, 511]
theorem R47a_tab : rtab .any (opsOf Tryd.f67 2) = R47a := by kernel_rfl
theorem R47a_bits : waitsOk R47a.2 R47aB = true := by kernel_rfl
def R47b : Bool × List (List Nat × List Nat) := (true, [([], []), ([0], [0]), ([1], [1]), ([2], [2]), ([], []), ([4], [4]), ([5], [5]), ([6], [6]), ([3, 7], [3, 7]), ([8], [8]), ([9, 0, 1, 2, 3, 4, 5, 6, 7, 8, 9], [9])])
def R47bB : List Nat := [0, 1, 3, 7, 0, 16, 48, 112, 255, 511, 1023]
theorem R47b_tab : rtab .any (opsOf Tryd.f67 3) = R47b := by kernel_rfl
theorem R47b_bits : waitsOk R47b.2 R47bB = true := by kernel_rfl

def picked (g : Gr) : Gr := { g with nx := if g.nx < g.ps.length then g.nx + 1 else g.nx }
set_option maxHeartbeats 8000000 in
set_option maxRecDepth 100000 in
theorem pick_calls {w0 w : World} {gr : Nat} {g : Gr} (h : RS w0 w gr g) (n : Nat) (hn : 0 < n) (hn2 : n ≤ 4194304) (hp : g.ps.length ≤ 1048576) (hnx : g.nx ≤ g.ps.length) :
    Calls Tryd.prog 67 #[.pointer (some ⟨gr, 0, none⟩), .int .i64 n] w fun e w' => e = .returned (.int .i64 (Play.pickOf (g.ps.drop g.nx) n)) ∧ RS w0 w' gr (picked g) ∧ Only 70 w w' := by
  obtain ⟨pA, pc, hpo, hC⟩ : ∃ pA pc, g.po = (pA, g.ps.length, pc) ∧ (Kd.int .i64).C w pA g.ps.length g.ps := ⟨g.po.1, g.po.2.2, by rw [← h.pk.2.1], Kd.C_below h.pk.1 h.hb⟩
  have z5 := h.cell.2.2.2.2.2.1
  have z4 : w.cell? ⟨gr, 4, none⟩ = some (.slice pA g.ps.length pc) := by rw [h.cell.2.2.2.2.1, hpo]; rfl
  have HW := Aside0.mk h
  have hp2 : (g.ps.length : Int) ≤ 1048576 := by omega
  have hn0 : ¬ (n : Int) = 0 := by omega
  have hn0b : ((n : Int) == 0) = false := by simp; omega
  have hnb : (n : Int) ≤ 4194304 := by omega
  have HN := Aside0.mk (And.intro hn hn2)
  by_cases hlt : g.nx < g.ps.length
  · obtain ⟨ad, rfl, zx⟩ := (Kd.reads_of_C (d := (0 : Int)) hC).at_ (g.nx : Int) (by omega) (by omega)
    rw [Int.toNat_natCast] at zx
    have hhead : (g.ps.drop g.nx).headD 0 = rdOf 0 g.ps (g.nx : Int) := by
      unfold rdOf
      rw [Int.toNat_natCast, List.drop_eq_getElem_cons hlt]
      simp [List.getD_eq_getElem?_getD, List.getElem?_eq_getElem hlt]
    have hpk : Play.pickOf (g.ps.drop g.nx) n = (rdOf 0 g.ps (g.nx : Int) % (n : Int)).toNat := by unfold Play.pickOf; rw [hhead]
    obtain ⟨x, hx⟩ : ∃ x, rdOf 0 g.ps (g.nx : Int) = x := ⟨_, rfl⟩
    rw [hx] at zx hpk
    have HPK := Aside0.mk hpk
    have HZX := Aside0.mk (show w.drew.cell? (ad.add g.nx) = some (.int .i64 x) from zx)
    have HLT := Aside0.mk hlt
    have d1 : decide (g.nx < g.ps.length) = true := decide_eq_true hlt
    have d2 : decide ((g.nx : Int) < (g.ps.length : Int)) = true := decide_eq_true (by omega)
    have d3 : g.nx < g.ps.length := hlt
    have d4 : (g.nx : Int) < (g.ps.length : Int) := by omega
    have hnx2 : (g.nx : Int) + 1 ≤ 1048577 := by omega
    clear h hC hn hn2 hp hnx hhead hpk hx zx hlt
    go_enter Tryd.func67, Tryd.ntmps67
    go_upto_region 2 with fail
    refine start_ (n := 10) (S := (fun w' => w'.cell? ⟨gr, 5, none⟩ = some (.int .i64 (g.nx : Int)) ∧ w'.cell? ⟨gr, 4, none⟩ = some (.slice (some ad) g.ps.length pc))) (ds := [9]) #[false, false, false, false, false, false, false, false, false, false] (by kernel_rfl) rfl rfl ⟨z5, z4⟩ (fun hHeld => ?_); refine with_tabW R47a_tab R47a_bits (fun HT_ HW_ => ?_)
    have HW2 := Aside0.mk (HW.out.below (Drawn0.below (w := w) (w' := w.drew) ⟨⟨1, rfl⟩⟩))
    have HC2 := Aside0.mk (show w.drew.cell? ⟨gr, 5, none⟩ = some (.int .i64 (g.nx : Int)) ∧ w.drew.cell? ⟨gr, 4, none⟩ = some (.slice (some ad) g.ps.length pc) from ⟨z5, z4⟩)
    have HO2 := Aside0.mk (show Only 70 w w.drew from fun _ _ _ h _ => h)
    clear HW z5 z4
    generalize w.drew = w2 at HW2 HC2 HO2 HZX hHeld ⊢
    refine pure_ (i := 0) (N := some 6) (v := ?_) (a' := ?_) #[true, false, false, false, false, false, false, false, false, false] rfl rfl (any_of HT_.out (by kernel_rfl)) (fun _ _ _ h => h) (Or.inl ⟨by rfl, ?_⟩) ?_ ?_
    rotate_left
    · intro w'
      go_simp
      with_reducible rfl
    rotate_left
    · simp only [Act.put, List.setIfInBounds_toArray, List.set_cons_zero, List.set_cons_succ, i64_w, i32_w]
      rfl
    refine pure_ (i := 1) (N := some 7) (v := ?_) (a' := ?_) #[true, true, false, false, false, false, false, false, false, false] rfl rfl (any_of HT_.out (by kernel_rfl)) (fun _ _ _ h => h) (Or.inl ⟨by rfl, ?_⟩) ?_ ?_
    rotate_left
    · intro w'
      go_simp
      with_reducible rfl
    rotate_left
    · simp only [Act.put, List.setIfInBounds_toArray, List.set_cons_zero, List.set_cons_succ, i64_w, i32_w]
      rfl
    refine pure_ (i := 2) (N := some 8) (v := ?_) (a' := ?_) #[true, true, true, false, false, false, false, false, false, false] rfl rfl (any_of HT_.out (by kernel_rfl)) (fun _ _ _ h => h) (Or.inl ⟨by rfl, ?_⟩) ?_ ?_
    rotate_left
    · intro w'
      go_simp
      with_reducible rfl
    rotate_left
    · simp only [Act.put, List.setIfInBounds_toArray, List.set_cons_zero, List.set_cons_succ, i64_w, i32_w]
      rfl
    refine take_ (i := 3) (N := some 9) (v := ?_) (a' := ?_) #[true, true, true, true, false, false, false, false, false, false] rfl rfl (take_ofW HT_.out HW_.out (by kernel_rfl)) (fun _ _ _ h => h) (Or.inl ⟨by rfl, ?_⟩) hHeld ?_ ?_
    rotate_left
    · rintro w' ⟨s0, s1⟩
      go_simp
      with_reducible rfl
    rotate_left
    · simp only [Act.put, List.setIfInBounds_toArray, List.set_cons_zero, List.set_cons_succ, i64_w, i32_w]
      rfl
    refine pure_ (i := 4) (N := some 10) (v := ?_) (a' := ?_) #[true, true, true, true, true, false, false, false, false, false] rfl rfl (any_of HT_.out (by kernel_rfl)) (fun _ _ _ h => h) (Or.inl ⟨by rfl, ?_⟩) ?_ ?_
    rotate_left
    · intro w'
      go_simp
      with_reducible rfl
    rotate_left
    · simp only [Act.put, List.setIfInBounds_toArray, List.set_cons_zero, List.set_cons_succ, i64_w, i32_w]
      rfl
    refine pure_ (i := 5) (N := some 11) (v := ?_) (a' := ?_) #[true, true, true, true, true, true, false, false, false, false] rfl rfl (any_of HT_.out (by kernel_rfl)) (fun _ _ _ h => h) (Or.inl ⟨by rfl, ?_⟩) ?_ ?_
    rotate_left
    · intro w'
      go_simp
      with_reducible rfl
    rotate_left
    · simp only [Act.put, List.setIfInBounds_toArray, List.set_cons_zero, List.set_cons_succ, i64_w, i32_w]
      rfl
    refine pure_ (i := 6) (N := some 12) (v := ?_) (a' := ?_) #[true, true, true, true, true, true, true, false, false, false] rfl rfl (any_of HT_.out (by kernel_rfl)) (fun _ _ _ h => h) (Or.inl ⟨by rfl, ?_⟩) ?_ ?_
    rotate_left
    · intro w'
      go_simp
      with_reducible rfl
    rotate_left
    · simp only [Act.put, List.setIfInBounds_toArray, List.set_cons_zero, List.set_cons_succ, i64_w, i32_w]
      rfl
    refine take_ (i := 7) (N := some 13) (v := ?_) (a' := ?_) #[true, true, true, true, true, true, true, true, false, false] rfl rfl (take_ofW HT_.out HW_.out (by kernel_rfl)) (fun _ _ _ h => h) (Or.inl ⟨by rfl, ?_⟩) hHeld ?_ ?_
    rotate_left
    · rintro w' ⟨s0, s1⟩
      go_simp
      with_reducible rfl
    rotate_left
    · simp only [Act.put, List.setIfInBounds_toArray, List.set_cons_zero, List.set_cons_succ, i64_w, i32_w]
      rfl
    refine pure_ (i := 8) (N := some 14) (v := ?_) (a' := ?_) #[true, true, true, true, true, true, true, true, true, false] rfl rfl (any_of HT_.out (by kernel_rfl)) (fun _ _ _ h => h) (Or.inl ⟨by rfl, ?_⟩) ?_ ?_
    rotate_left
    · intro w'
      go_simp
      with_reducible rfl
    rotate_left
    · simp only [Act.put, List.setIfInBounds_toArray, List.set_cons_zero, List.set_cons_succ, i64_w, i32_w]
      rfl
    refine pure_ (i := 9) (N := some 15) (v := ?_) (a' := ?_) #[true, true, true, true, true, true, true, true, true, true] rfl rfl (any_of HT_.out (by kernel_rfl)) (fun _ _ _ h => h) (Or.inl ⟨by rfl, ?_⟩) ?_ ?_
    rotate_left
    · intro w'
      go_simp
      with_reducible rfl
    rotate_left
    · simp only [Act.put, List.setIfInBounds_toArray, List.set_cons_zero, List.set_cons_succ, i64_w, i32_w]
      rfl
    refine done_ (done_of HT_.out (by kernel_rfl)) ?_
    clear HT_ HW_ hHeld

    go_upto_region 3 with fail
    obtain ⟨z5, z4⟩ := HC2.out
    have zx := HZX.out
    refine start_ (n := 11) (S := (fun w' => w'.cell? ⟨gr, 5, none⟩ = some (.int .i64 (g.nx : Int)) ∧ w'.cell? ⟨gr, 4, none⟩ = some (.slice (some ad) g.ps.length pc) ∧ w'.cell? (ad.add g.nx) = some (.int .i64 x))) (ds := [10]) #[false, false, false, false, false, false, false, false, false, false, false] (by kernel_rfl) rfl rfl ⟨z5, z4, zx⟩ (fun hHeld => ?_); refine with_tabW R47b_tab R47b_bits (fun HT_ HW_ => ?_)
    have HW3 := Aside0.mk (HW2.out.below (Drawn0.below (w := w2) (w' := w2.drew) ⟨⟨1, rfl⟩⟩))
    have HC3 := Aside0.mk (show w2.drew.cell? ⟨gr, 5, none⟩ = some (.int .i64 (g.nx : Int)) from z5)
    have HO3 := Aside0.mk (show Only 70 w w2.drew from fun _ _ _ h h2 => HO2.out _ _ _ h h2)
    clear HW2 z5 z4 zx
    generalize w2.drew = w3 at HW3 HC3 HO3 hHeld ⊢
    refine pure_ (i := 0) (N := some 16) (v := ?_) (a' := ?_) #[true, false, false, false, false, false, false, false, false, false, false] rfl rfl (any_of HT_.out (by kernel_rfl)) (fun _ _ _ h => h) (Or.inl ⟨by rfl, ?_⟩) ?_ ?_
    rotate_left
    · intro w'
      go_simp
      with_reducible rfl
    rotate_left
    · simp only [Act.put, List.setIfInBounds_toArray, List.set_cons_zero, List.set_cons_succ, i64_w, i32_w]
      rfl
    refine pure_ (i := 1) (N := some 17) (v := ?_) (a' := ?_) #[true, true, false, false, false, false, false, false, false, false, false] rfl rfl (any_of HT_.out (by kernel_rfl)) (fun _ _ _ h => h) (Or.inl ⟨by rfl, ?_⟩) ?_ ?_
    rotate_left
    · intro w'
      go_simp
      with_reducible rfl
    rotate_left
    · simp only [Act.put, List.setIfInBounds_toArray, List.set_cons_zero, List.set_cons_succ, i64_w, i32_w]
      rfl
    refine pure_ (i := 2) (N := some 18) (v := ?_) (a' := ?_) #[true, true, true, false, false, false, false, false, false, false, false] rfl rfl (any_of HT_.out (by kernel_rfl)) (fun _ _ _ h => h) (Or.inl ⟨by rfl, ?_⟩) ?_ ?_
    rotate_left
    · intro w'
      go_simp
      with_reducible rfl
    rotate_left
    · simp only [Act.put, List.setIfInBounds_toArray, List.set_cons_zero, List.set_cons_succ, i64_w, i32_w]
      rfl
    refine take_ (i := 3) (N := some 19) (v := ?_) (a' := ?_) #[true, true, true, true, false, false, false, false, false, false, false] rfl rfl (take_ofW HT_.out HW_.out (by kernel_rfl)) (fun _ _ _ h => h) (Or.inl ⟨by rfl, ?_⟩) hHeld ?_ ?_
    rotate_left
    · rintro w' ⟨s0, s1, s2⟩
      go_simp
      with_reducible rfl
    rotate_left
    · simp only [Act.put, List.setIfInBounds_toArray, List.set_cons_zero, List.set_cons_succ, i64_w, i32_w]
      rfl
    refine pure_ (i := 4) (N := some 20) (v := ?_) (a' := ?_) #[true, true, true, true, true, false, false, false, false, false, false] rfl rfl (any_of HT_.out (by kernel_rfl)) (fun _ _ _ h => h) (Or.inl ⟨by rfl, ?_⟩) ?_ ?_
    rotate_left
    · intro w'
      go_simp
      with_reducible rfl
    rotate_left
    · simp only [Act.put, List.setIfInBounds_toArray, List.set_cons_zero, List.set_cons_succ, i64_w, i32_w]
      rfl
    refine pure_ (i := 5) (N := some 21) (v := ?_) (a' := ?_) #[true, true, true, true, true, true, false, false, false, false, false] rfl rfl (any_of HT_.out (by kernel_rfl)) (fun _ _ _ h => h) (Or.inl ⟨by rfl, ?_⟩) ?_ ?_
    rotate_left
    · intro w'
      go_simp
      with_reducible rfl
    rotate_left
    · simp only [Act.put, List.setIfInBounds_toArray, List.set_cons_zero, List.set_cons_succ, i64_w, i32_w]
      rfl
    refine pure_ (i := 6) (N := some 22) (v := ?_) (a' := ?_) #[true, true, true, true, true, true, true, false, false, false, false] rfl rfl (any_of HT_.out (by kernel_rfl)) (fun _ _ _ h => h) (Or.inl ⟨by rfl, ?_⟩) ?_ ?_
    rotate_left
    · intro w'
      go_simp
      with_reducible rfl
    rotate_left
    · simp only [Act.put, List.setIfInBounds_toArray, List.set_cons_zero, List.set_cons_succ, i64_w, i32_w]
      rfl
    refine take_ (i := 7) (N := some 23) (v := ?_) (a' := ?_) #[true, true, true, true, true, true, true, true, false, false, false] rfl rfl (take_ofW HT_.out HW_.out (by kernel_rfl)) (fun _ _ _ h => h) (Or.inl ⟨by rfl, ?_⟩) hHeld ?_ ?_
    rotate_left
    · rintro w' ⟨s0, s1, s2⟩
      go_simp
      with_reducible rfl
    rotate_left
    · simp only [Act.put, List.setIfInBounds_toArray, List.set_cons_zero, List.set_cons_succ, i64_w, i32_w]
      rfl
    refine pure_ (i := 8) (N := some 24) (v := ?_) (a' := ?_) #[true, true, true, true, true, true, true, true, true, false, false] rfl rfl (any_of HT_.out (by kernel_rfl)) (fun _ _ _ h => h) (Or.inl ⟨by rfl, ?_⟩) ?_ ?_
    rotate_left
    · intro w'
      go_simp
      with_reducible rfl
    rotate_left
    · simp only [Act.put, List.setIfInBounds_toArray, List.set_cons_zero, List.set_cons_succ, i64_w, i32_w]
      rfl
    refine take_ (i := 9) (N := some 25) (v := ?_) (a' := ?_) #[true, true, true, true, true, true, true, true, true, true, false] rfl rfl (take_ofW HT_.out HW_.out (by kernel_rfl)) (fun _ _ _ h => h) (Or.inl ⟨by rfl, ?_⟩) hHeld ?_ ?_
    rotate_left
    · rintro w' ⟨s0, s1, s2⟩
      go_simp
      with_reducible rfl
    rotate_left
    · simp only [Act.put, List.setIfInBounds_toArray, List.set_cons_zero, List.set_cons_succ, i64_w, i32_w]
      rfl
    refine pure_ (i := 10) (N := some 5) (v := ?_) (a' := ?_) #[true, true, true, true, true, true, true, true, true, true, true] rfl rfl (any_of HT_.out (by kernel_rfl)) (fun _ _ _ h => h) (Or.inl ⟨by rfl, ?_⟩) ?_ ?_
    rotate_left
    · intro w'
      go_simp
      with_reducible rfl
    rotate_left
    · simp only [Act.put, List.setIfInBounds_toArray, List.set_cons_zero, List.set_cons_succ, i64_w, i32_w]
      rfl
    refine done_ (done_of HT_.out (by kernel_rfl)) ?_
    clear HT_ HW_ hHeld

    have z5 := HC3.out
    have zf : w3.frozen? ⟨gr, 5, none⟩ = false := blk_frozen HW3.out.bp 5
    obtain ⟨W4, hW4⟩ : ∃ W4, w3.setCell ⟨gr, 5, none⟩ (.int .i64 ((g.nx : Int) + 1)) = W4 := ⟨_, rfl⟩
    have HO4 := Aside0.mk (show Only 70 w W4 from hW4 ▸ HO3.out.trans (Only.set HW3.out.bp))
    have HW4 := Aside0.mk (show RS w0 W4 gr (picked g) from by
      rw [← hW4]
      refine HW3.out.num 5 _ (picked g) ?_ ?_ ⟨rfl, rfl⟩
      · simp [cells, picked, HLT.out]
      · exact ⟨HW3.out.rw.v, HW3.out.rw.t, HW3.out.rw.m, HW3.out.rw.l⟩)
    clear d1 d2 d3 d4
    have he := pick_eq x n HN.out.1 HN.out.2
    by_cases hneg : x.tmod n < 0
    · rw [if_pos hneg] at he
      have h1 := Int.lt_tmod_of_pos x (show (0 : Int) < (n : Int) by omega)
      rw [BitMath.wrap_id (by unfold BitMath.In64; omega)] at he
      have HE := Aside0.mk he
      clear he
      go_wp2
      go_ret
      exact ⟨by rw [HPK.out, ← HE.out]; rfl, HW4.out, HO4.out⟩
    · rw [if_neg hneg] at he
      have HE := Aside0.mk he
      clear he
      have hneg2 : 0 ≤ x.tmod n := by omega
      go_wp2
      go_ret
      exact ⟨by rw [HPK.out, ← HE.out]; rfl, HW4.out, HO4.out⟩
  · have hhead : (g.ps.drop g.nx).headD 0 = 0 := by rw [List.drop_eq_nil_of_le (by omega)]; rfl
    have hpk : Play.pickOf (g.ps.drop g.nx) n = 0 := by unfold Play.pickOf; rw [hhead]; simp
    have HPK := Aside0.mk hpk
    have HLT := Aside0.mk hlt
    have d1 : decide (g.nx < g.ps.length) = false := decide_eq_false hlt
    have d2 : decide ((g.nx : Int) < (g.ps.length : Int)) = false := decide_eq_false (by omega)
    have hnx2 : (g.nx : Int) ≤ 1048577 := by omega
    clear h hC hn hn2 hp hnx hhead hpk hlt
    go_enter Tryd.func67, Tryd.ntmps67
    go_upto_region 2 with fail
    refine start_ (n := 10) (S := (fun w' => w'.cell? ⟨gr, 5, none⟩ = some (.int .i64 (g.nx : Int)) ∧ w'.cell? ⟨gr, 4, none⟩ = some (.slice pA g.ps.length pc))) (ds := [9]) #[false, false, false, false, false, false, false, false, false, false] (by kernel_rfl) rfl rfl ⟨z5, z4⟩ (fun hHeld => ?_); refine with_tabW R47a_tab R47a_bits (fun HT_ HW_ => ?_)
    have HW2 := Aside0.mk (HW.out.below (Drawn0.below (w := w) (w' := w.drew) ⟨⟨1, rfl⟩⟩))
    have HC2 := Aside0.mk (show w.drew.cell? ⟨gr, 5, none⟩ = some (.int .i64 (g.nx : Int)) ∧ w.drew.cell? ⟨gr, 4, none⟩ = some (.slice pA g.ps.length pc) from ⟨z5, z4⟩)
    have HO2 := Aside0.mk (show Only 70 w w.drew from fun _ _ _ h _ => h)
    clear HW z5 z4
    generalize w.drew = w2 at HW2 HC2 HO2 hHeld ⊢
    refine pure_ (i := 0) (N := some 6) (v := ?_) (a' := ?_) #[true, false, false, false, false, false, false, false, false, false] rfl rfl (any_of HT_.out (by kernel_rfl)) (fun _ _ _ h => h) (Or.inl ⟨by rfl, ?_⟩) ?_ ?_
    rotate_left
    · intro w'
      go_simp
      with_reducible rfl
    rotate_left
    · simp only [Act.put, List.setIfInBounds_toArray, List.set_cons_zero, List.set_cons_succ, i64_w, i32_w]
      rfl
    refine pure_ (i := 1) (N := some 7) (v := ?_) (a' := ?_) #[true, true, false, false, false, false, false, false, false, false] rfl rfl (any_of HT_.out (by kernel_rfl)) (fun _ _ _ h => h) (Or.inl ⟨by rfl, ?_⟩) ?_ ?_
    rotate_left
    · intro w'
      go_simp
      with_reducible rfl
    rotate_left
    · simp only [Act.put, List.setIfInBounds_toArray, List.set_cons_zero, List.set_cons_succ, i64_w, i32_w]
      rfl
    refine pure_ (i := 2) (N := some 8) (v := ?_) (a' := ?_) #[true, true, true, false, false, false, false, false, false, false] rfl rfl (any_of HT_.out (by kernel_rfl)) (fun _ _ _ h => h) (Or.inl ⟨by rfl, ?_⟩) ?_ ?_
    rotate_left
    · intro w'
      go_simp
      with_reducible rfl
    rotate_left
    · simp only [Act.put, List.setIfInBounds_toArray, List.set_cons_zero, List.set_cons_succ, i64_w, i32_w]
      rfl
    refine take_ (i := 3) (N := some 9) (v := ?_) (a' := ?_) #[true, true, true, true, false, false, false, false, false, false] rfl rfl (take_ofW HT_.out HW_.out (by kernel_rfl)) (fun _ _ _ h => h) (Or.inl ⟨by rfl, ?_⟩) hHeld ?_ ?_
    rotate_left
    · rintro w' ⟨s0, s1⟩
      go_simp
      with_reducible rfl
    rotate_left
    · simp only [Act.put, List.setIfInBounds_toArray, List.set_cons_zero, List.set_cons_succ, i64_w, i32_w]
      rfl
    refine pure_ (i := 4) (N := some 10) (v := ?_) (a' := ?_) #[true, true, true, true, true, false, false, false, false, false] rfl rfl (any_of HT_.out (by kernel_rfl)) (fun _ _ _ h => h) (Or.inl ⟨by rfl, ?_⟩) ?_ ?_
    rotate_left
    · intro w'
      go_simp
      with_reducible rfl
    rotate_left
    · simp only [Act.put, List.setIfInBounds_toArray, List.set_cons_zero, List.set_cons_succ, i64_w, i32_w]
      rfl
    refine pure_ (i := 5) (N := some 11) (v := ?_) (a' := ?_) #[true, true, true, true, true, true, false, false, false, false] rfl rfl (any_of HT_.out (by kernel_rfl)) (fun _ _ _ h => h) (Or.inl ⟨by rfl, ?_⟩) ?_ ?_
    rotate_left
    · intro w'
      go_simp
      with_reducible rfl
    rotate_left
    · simp only [Act.put, List.setIfInBounds_toArray, List.set_cons_zero, List.set_cons_succ, i64_w, i32_w]
      rfl
    refine pure_ (i := 6) (N := some 12) (v := ?_) (a' := ?_) #[true, true, true, true, true, true, true, false, false, false] rfl rfl (any_of HT_.out (by kernel_rfl)) (fun _ _ _ h => h) (Or.inl ⟨by rfl, ?_⟩) ?_ ?_
    rotate_left
    · intro w'
      go_simp
      with_reducible rfl
    rotate_left
    · simp only [Act.put, List.setIfInBounds_toArray, List.set_cons_zero, List.set_cons_succ, i64_w, i32_w]
      rfl
    refine take_ (i := 7) (N := some 13) (v := ?_) (a' := ?_) #[true, true, true, true, true, true, true, true, false, false] rfl rfl (take_ofW HT_.out HW_.out (by kernel_rfl)) (fun _ _ _ h => h) (Or.inl ⟨by rfl, ?_⟩) hHeld ?_ ?_
    rotate_left
    · rintro w' ⟨s0, s1⟩
      go_simp
      with_reducible rfl
    rotate_left
    · simp only [Act.put, List.setIfInBounds_toArray, List.set_cons_zero, List.set_cons_succ, i64_w, i32_w]
      rfl
    refine pure_ (i := 8) (N := some 14) (v := ?_) (a' := ?_) #[true, true, true, true, true, true, true, true, true, false] rfl rfl (any_of HT_.out (by kernel_rfl)) (fun _ _ _ h => h) (Or.inl ⟨by rfl, ?_⟩) ?_ ?_
    rotate_left
    · intro w'
      go_simp
      with_reducible rfl
    rotate_left
    · simp only [Act.put, List.setIfInBounds_toArray, List.set_cons_zero, List.set_cons_succ, i64_w, i32_w]
      rfl
    refine pure_ (i := 9) (N := some 15) (v := ?_) (a' := ?_) #[true, true, true, true, true, true, true, true, true, true] rfl rfl (any_of HT_.out (by kernel_rfl)) (fun _ _ _ h => h) (Or.inl ⟨by rfl, ?_⟩) ?_ ?_
    rotate_left
    · intro w'
      go_simp
      with_reducible rfl
    rotate_left
    · simp only [Act.put, List.setIfInBounds_toArray, List.set_cons_zero, List.set_cons_succ, i64_w, i32_w]
      rfl
    refine done_ (done_of HT_.out (by kernel_rfl)) ?_
    clear HT_ HW_ hHeld

    go_wp2
    go_ret
    refine ⟨by rw [HPK.out]; simp, ?_, HO2.out⟩
    rw [show picked g = g from by unfold picked; rw [if_neg HLT.out]]
    exact HW2.out
theorem pick_at {w0 w : World} {gr : Nat} {g : Gr} (h : RS w0 w gr g) (n : Nat) (hn : 0 < n) (hn2 : n ≤ 4194304) (hp : g.ps.length ≤ 1048576) (hnx : g.nx ≤ g.ps.length) (y : Int) (hy : y = (n : Int)) :
    Calls Tryd.prog 67 #[.pointer (some ⟨gr, 0, none⟩), .int .i64 y] w fun e w' => e = .returned (.int .i64 (Play.pickOf (g.ps.drop g.nx) n)) ∧ RS w0 w' gr (picked g) ∧ Only 70 w w' := by
  subst hy
  exact pick_calls h n hn hn2 hp hnx
end Go.Proofs.YtamfkglnejhjdaaDoor.Ref
