/- The document's run: its last task's place, the view in hand. -/
import Derived.Test.YtamfkglnejhjdaaDoorRefState
import Derived.Test.YtamfkglnejhjdaaDoorBitMath
import Derived.Deep.DeepCutAuto
namespace Go.Proofs.YtamfkglnejhjdaaDoor.Ref
open Go.RowKit Go.Proofs.YtamfkglnejhjdaaDoorW.PrintWords Go.Proofs.YtamfkglnejhjdaaDoorW.PrintLast Go.Proofs.YtamfkglnejhjdaaDoorW.PrintMore Go.Proofs.YtamfkglnejhjdaaDoor.PHyperFold
set_option linter.unusedVariables false
set_option linter.unusedSimpArgs false

theorem add0 (b m : Nat) : (⟨b, 0, none⟩ : Addr).add m = ⟨b, m, none⟩ := by unfold Addr.add; split <;> simp_all
section
variable {w0 w w1 : World} {gr base T : Nat} {g g2 : Gr}
theorem RS.task_at (h : RS w0 w gr g) (k : Nat) (hk : k < g.ts.length) : ∃ b c A1 c1, w.cell? ⟨gr, 3, none⟩ = some (.slice (some ⟨b, 0, none⟩) g.ts.length c) ∧ g.tk = (some ⟨b, 0, none⟩, g.ts.length, c) ∧ w.cell? ⟨b, k * 2, none⟩ = some (.int .i64 (g.ts.getD k z96).f0) ∧
    w.cell? ⟨b, k * 2 + 1, none⟩ = some (.slice A1 (g.ts.getD k z96).f1.length c1) ∧ (g.ts.getD k z96).f1.length ≤ c1 ∧ (Kd.int .i64).C w A1 (g.ts.getD k z96).f1.length (g.ts.getD k z96).f1 ∧ w.frozen? ⟨b, k * 2 + 1, none⟩ = false ∧ ∃ cells, w.heap[b]? = some (.cells cells 96 (0, 0)) := by
  obtain ⟨e1, e2, e3⟩ := R_header h.rw.t
  obtain ⟨b, e4, _, _, cells, hc⟩ := R_head h.rw.t (by omega)
  obtain ⟨ad, A1, c1, e5, x1, x2, l1, C1⟩ := at_T96 e3 (k : Int) (by omega) (by omega)
  rw [e4] at e5
  injection e5 with e5
  subst e5
  have hs : g.tk = (some ⟨b, 0, none⟩, g.ts.length, g.tk.2.2) := by rw [← e4, ← e1]
  rw [Int.toNat_natCast, add0] at x1 x2
  refine ⟨b, g.tk.2.2, A1, c1, ?_, hs, ?_, ?_, l1, C1, blk_frozen hc _, cells, hc⟩
  · rw [h.cell.2.2.2.1]; exact congrArg some (by show Value.slice g.tk.1 g.tk.2.1 g.tk.2.2 = _; rw [e4, e1])
  · simpa [rd_T96] using x1
  · simpa [rd_T96] using x2
end
set_option maxHeartbeats 4000000 in
set_option maxRecDepth 100000 in
theorem last_calls {w0 w : World} {gr : Nat} {g : Gr} (h : RS w0 w gr g) (hl : g.ts.length ≤ 4194304) :
    Calls Tryd.prog 51 #[.pointer (some ⟨gr, 0, none⟩)] w fun e w' => e = .returned (.int .i64 ((g.ts.length : Int) - 1)) ∧ w' = w := by
  obtain ⟨A, n, c, hx, hn⟩ : ∃ A n c, w.cell? ⟨gr, 3, none⟩ = some (.slice A n c) ∧ n = g.ts.length := ⟨_, _, _, h.cell.2.2.2.1, (R_header h.rw.t).1⟩
  subst hn
  have hl2 : (g.ts.length : Int) ≤ 4194304 := by omega
  have hw : wrap64 ((g.ts.length : Int) - 1) = (g.ts.length : Int) - 1 := BitMath.wrap_id (by unfold BitMath.In64; omega)
  clear h hl
  go_enter Tryd.func51, Tryd.ntmps51
  go_wp2
  go_ret
  exact ⟨by first | rfl | rw [hw], rfl⟩
def R45 : Bool × List (List Nat × List Nat) := (true, [([], []), ([0], [0]), ([1], [1]), ([2], [2]), ([], []), ([4], [4]), ([3, 5], [3, 5]), ([6], [6]), ([7], [7]), ([8, 5, 0, 1, 2, 3, 4, 5, 6, 7, 8], [8])])
def R45B : List Nat := [0, 1, 3, 7, 0, 16, 63, 127, 255, 511]
theorem R45_tab : rtab .any (opsOf Tryd.f65 1) = R45 := by kernel_rfl
theorem R45_bits : waitsOk R45.2 R45B = true := by kernel_rfl

set_option maxHeartbeats 8000000 in
set_option maxRecDepth 100000 in
theorem hand_calls {w0 w : World} {gr : Nat} {g : Gr} (h : RS w0 w gr g) {tl : List S96} {x : S96} (ht : g.ts = tl ++ [x]) (hx : 0 < x.f1.length) (hx2 : x.f1.length ≤ 4194304) (hl : g.ts.length ≤ 4194304) :
    Calls Tryd.prog 65 #[.pointer (some ⟨gr, 0, none⟩)] w fun e w' => e = .returned (.int .i64 (x.f1.getD (x.f1.length - 1) 0)) ∧ Drawn0 w w' := by
  obtain ⟨k, hk⟩ : ∃ k, tl.length = k := ⟨_, rfl⟩
  have hlen : g.ts.length = k + 1 := by rw [ht, List.length_append, hk]; rfl
  have hget : g.ts.getD k z96 = x := by rw [ht, ← hk]; simp
  obtain ⟨b, c, A1, c1, y1, y2, _, y3, _, yC, _, _⟩ := h.task_at k (by omega)
  rw [hget] at y3 yC
  rw [hlen] at y1 y2
  obtain ⟨ad, rfl, yx⟩ := (Kd.reads_of_C (d := (0 : Int)) yC).at_ ((x.f1.length : Int) - 1) (by omega) (by omega)
  obtain ⟨n, hn⟩ : ∃ n, x.f1.length = n + 1 := ⟨x.f1.length - 1, by omega⟩
  have HV := Aside0.mk (show rdOf 0 x.f1 ((x.f1.length : Int) - 1) = x.f1.getD (x.f1.length - 1) 0 by unfold rdOf; congr 1; omega)
  have HL := Aside0.mk hl
  have HW := Aside0.mk h
  rw [HV.out] at yx
  rw [hn] at y3 yx hx2 ⊢
  rw [show ((((n + 1 : Nat) : Int) - 1).toNat) = n by omega] at yx
  obtain ⟨v, hv⟩ : ∃ v, x.f1.getD (n + 1 - 1) 0 = v := ⟨_, rfl⟩
  rw [hv] at yx ⊢
  have HYX := Aside0.mk yx
  have HLen := Aside0.mk (show (g.ts.length : Int) - 1 = (k : Int) by omega)
  have hk4 : (k : Int) ≤ 4194304 := by omega
  have hn4 : (n : Int) + 1 ≤ 4194304 := by omega
  have l1 : ((k : Int) < (k : Int) + 1) = True := eq_true (by omega)
  have l2 : ((n : Int) < (n : Int) + 1) = True := eq_true (by omega)
  have hw2 : wrap64 ((n : Int) + 1 - 1) = (n : Int) := by rw [BitMath.wrap_id (by unfold BitMath.In64; omega)]; omega
  have hw4 : wrap64 (n : Int) = (n : Int) := BitMath.wrap_id (by unfold BitMath.In64; omega)
  clear h ht hx hx2 hl hk hlen hget y2 hn HV hv yx yC
  go_enter Tryd.func65, Tryd.ntmps65
  go_upto_region 1 with fail
  refine start_ (n := 10) (S := (fun w' => w'.cell? ⟨gr, 3, none⟩ = some (.slice (some ⟨b, 0, none⟩) (k + 1) c) ∧ w'.cell? ⟨b, k * 2 + 1, none⟩ = some (.slice (some ad) (n + 1) c1))) (ds := [9]) #[false, false, false, false, false, false, false, false, false, false] (by kernel_rfl) rfl rfl ⟨y1, y3⟩ (fun hHeld => ?_); refine with_tabW R45_tab R45_bits (fun HT_ HW_ => ?_)
  have HW2 := Aside0.mk (HW.out.below (Drawn0.below (w := w) (w' := w.drew) ⟨⟨1, rfl⟩⟩))
  have HX2 := Aside0.mk (show w.drew.cell? (ad.add n) = some (.int .i64 v) from HYX.out)
  have HD2 := Aside0.mk (show Drawn0 w w.drew from ⟨⟨1, rfl⟩⟩)
  have HS2 := Aside0.mk (show w.drew.cell? ⟨gr, 3, none⟩ = some (.slice (some ⟨b, 0, none⟩) (k + 1) c) ∧ w.drew.cell? ⟨b, k * 2 + 1, none⟩ = some (.slice (some ad) (n + 1) c1) from ⟨y1, y3⟩)
  clear HW HYX y1 y3
  generalize w.drew = w2 at HW2 HX2 HD2 HS2 hHeld ⊢
  refine pure_ (i := 0) (N := some 4) (v := ?_) (a' := ?_) #[true, false, false, false, false, false, false, false, false, false] rfl rfl (any_of HT_.out (by kernel_rfl)) (fun _ _ _ h => h) (Or.inl ⟨by rfl, ?_⟩) ?_ ?_
  rotate_left
  · intro w'
    go_simp
    with_reducible rfl
  rotate_left
  · simp only [Act.put, List.setIfInBounds_toArray, List.set_cons_zero, List.set_cons_succ, i64_w, i32_w]
    rfl
  refine pure_ (i := 1) (N := some 5) (v := ?_) (a' := ?_) #[true, true, false, false, false, false, false, false, false, false] rfl rfl (any_of HT_.out (by kernel_rfl)) (fun _ _ _ h => h) (Or.inl ⟨by rfl, ?_⟩) ?_ ?_
  rotate_left
  · intro w'
    go_simp
    with_reducible rfl
  rotate_left
  · simp only [Act.put, List.setIfInBounds_toArray, List.set_cons_zero, List.set_cons_succ, i64_w, i32_w]
    rfl
  refine pure_ (i := 2) (N := some 6) (v := ?_) (a' := ?_) #[true, true, true, false, false, false, false, false, false, false] rfl rfl (any_of HT_.out (by kernel_rfl)) (fun _ _ _ h => h) (Or.inl ⟨by rfl, ?_⟩) ?_ ?_
  rotate_left
  · intro w'
    go_simp
    with_reducible rfl
  rotate_left
  · simp only [Act.put, List.setIfInBounds_toArray, List.set_cons_zero, List.set_cons_succ, i64_w, i32_w]
    rfl
  refine pure_ (i := 4) (N := some 8) (v := ?_) (a' := ?_) #[true, true, true, false, true, false, false, false, false, false] rfl rfl (any_of HT_.out (by kernel_rfl)) (fun _ _ _ h => h) (Or.inl ⟨by rfl, ?_⟩) ?_ ?_
  rotate_left
  · intro w'
    go_simp
    with_reducible rfl
  rotate_left
  · simp only [Act.put, List.setIfInBounds_toArray, List.set_cons_zero, List.set_cons_succ, i64_w, i32_w]
    rfl
  refine take_ (i := 3) (N := some 7) (v := ?_) (a' := ?_) #[true, true, true, true, true, false, false, false, false, false] rfl rfl (take_ofW HT_.out HW_.out (by kernel_rfl)) (fun _ _ _ h => h) (Or.inl ⟨by rfl, ?_⟩) hHeld ?_ ?_
  rotate_left
  · rintro w' ⟨s0, s1⟩
    go_simp
    with_reducible rfl
  rotate_left
  · simp only [Act.put, List.setIfInBounds_toArray, List.set_cons_zero, List.set_cons_succ, i64_w, i32_w]
    rfl
  refine one_ (i := 5) (N := some 9) #[true, true, true, true, true, true, false, false, false, false] rfl rfl (one_of HT_.out (by kernel_rfl)) (by decide) (fun K hK => ?_)
  refine goes_ Tryd.func51 (by kernel_rfl) rfl #[.pointer (some ⟨gr, 0, none⟩)] (by rfl) rfl rfl (by (try simp only [List.map_toArray, List.map_cons, List.map_nil]); first | done | rfl) ?_
  with_reducible refine (last_calls HW2.out HL.out).mono ?_
  rintro e w3 ⟨rfl, rfl⟩
  rw [HLen.out]
  refine ⟨_, rfl, ?_⟩
  refine hK.out _ _ HS2.out (fun hHeld => ?_)
  clear hK K
  refine norm_ (a' := ?_) ?_ ?_
  rotate_left
  · show Act.put _ (some 9) _ = _
    simp only [Act.put, List.setIfInBounds_toArray, List.set_cons_zero, List.set_cons_succ, i64_w, i32_w]
    rfl
  refine pure_ (i := 6) (N := some 10) (v := ?_) (a' := ?_) #[true, true, true, true, true, true, true, false, false, false] rfl rfl (any_of HT_.out (by kernel_rfl)) (fun _ _ _ h => h) (Or.inl ⟨by rfl, ?_⟩) ?_ ?_
  rotate_left
  · intro w'
    go_simp
    with_reducible rfl
  rotate_left
  · simp only [Act.put, List.setIfInBounds_toArray, List.set_cons_zero, List.set_cons_succ, i64_w, i32_w]
    rfl
  refine pure_ (i := 7) (N := some 11) (v := ?_) (a' := ?_) #[true, true, true, true, true, true, true, true, false, false] rfl rfl (any_of HT_.out (by kernel_rfl)) (fun _ _ _ h => h) (Or.inl ⟨by rfl, ?_⟩) ?_ ?_
  rotate_left
  · intro w'
    go_simp
    with_reducible rfl
  rotate_left
  · simp only [Act.put, List.setIfInBounds_toArray, List.set_cons_zero, List.set_cons_succ, i64_w, i32_w]
    rfl
  refine take_ (i := 8) (N := some 12) (v := ?_) (a' := ?_) #[true, true, true, true, true, true, true, true, true, false] rfl rfl (take_ofW HT_.out HW_.out (by kernel_rfl)) (fun _ _ _ h => h) (Or.inl ⟨by rfl, ?_⟩) hHeld ?_ ?_
  rotate_left
  · rintro w' ⟨s0, s1⟩
    go_simp
    with_reducible rfl
  rotate_left
  · simp only [Act.put, List.setIfInBounds_toArray, List.set_cons_zero, List.set_cons_succ, i64_w, i32_w]
    rfl
  refine pure_ (i := 9) (N := some 3) (v := ?_) (a' := ?_) #[true, true, true, true, true, true, true, true, true, true] rfl rfl (any_of HT_.out (by kernel_rfl)) (fun _ _ _ h => h) (Or.inl ⟨by rfl, ?_⟩) ?_ ?_
  rotate_left
  · intro w'
    go_simp
    with_reducible rfl
  rotate_left
  · simp only [Act.put, List.setIfInBounds_toArray, List.set_cons_zero, List.set_cons_succ, i64_w, i32_w]
    rfl
  refine done_ (done_of HT_.out (by kernel_rfl)) ?_
  clear HT_ HW_ hHeld

  have yx := HX2.out
  go_wp2
  go_ret
  exact ⟨rfl, HD2.out⟩
end Go.Proofs.YtamfkglnejhjdaaDoor.Ref
