/- The document's run: a view made. -/
import Derived.Test.YtamfkglnejhjdaaDoorRefPick
namespace Go.Proofs.YtamfkglnejhjdaaDoor.Ref
open Go.RowKit Go.Proofs.YtamfkglnejhjdaaDoorW.PrintWords Go.Proofs.YtamfkglnejhjdaaDoorW.PrintLast Go.Proofs.YtamfkglnejhjdaaDoorW.PrintMore Go.Proofs.YtamfkglnejhjdaaDoor.PHyperFold
set_option linter.unusedVariables false
set_option linter.unusedSimpArgs false

theorem infoView : (Tryd.prog.info? 66).map (fun i => (i.zero, i.size, i.bytes)) = some (some (.agg #[.slice none 0 0, .int .i64 0]), 2, 32) := by kernel_rfl
section
variable {w0 w w1 : World} {gr base T : Nat} {g g2 : Gr}
/-- The views' row has grown. -/
theorem RS.views_only (h : RS w0 w gr g) (hg : w.grownBy w1 (slv g.vo).ownBlock) : Only 66 w w1 := Only.grown hg (typed_of h.rw.v)
theorem RS.view_made (h : RS w0 w gr g) {t1 : Sl} {v : S66} (ho : k66.R 66 w1 w0.heap.size (fun _ => True) (slv t1) (g.vs ++ [v])) (hb : Below w0.heap.size w0 w1) (hg : w.grownBy w1 (slv g.vo).ownBlock) :
    RS w0 (w1.setCell ⟨gr, 2, none⟩ (slv t1)) gr { g with vo := t1, vs := g.vs ++ [v] } :=
  h.put (T := 66) (by decide) (h.views_only hg) hb 2 _ _ rfl (h.rw.views (h.views_only hg) ho) ⟨rfl, rfl⟩
end
def R39 : Bool × List (List Nat × List Nat) := (true, [([], []), ([], []), ([1], [1]), ([2], [2]), ([3], [3]), ([], []), ([5], [5]), ([6], [6]), ([7], [7]), ([8], [8]), ([9], [9]), ([4, 10], [4, 10]), ([0, 0, 1, 2, 3, 4, 5, 6, 7, 8, 9, 10, 11], [0]), ([12, 0, 1, 2, 3, 4, 5, 6, 7, 8, 9, 10, 11], [12]), ([13, 11, 11, 0, 1, 2, 3, 4, 5, 6, 7, 8, 9, 10, 11], [11, 13])])
def R39B : List Nat := [0, 0, 2, 6, 14, 0, 32, 96, 224, 480, 992, 2046, 4095, 8191, 16383]
theorem R39_tab : rtab .any (opsOf Tryd.f48 1) = R39 := by kernel_rfl
theorem R39_bits : waitsOk R39.2 R39B = true := by kernel_rfl

set_option maxHeartbeats 8000000 in
set_option maxRecDepth 100000 in
theorem made_calls {w0 w : World} {gr : Nat} {g : Gr} (h : RS w0 w gr g) (hl : g.vs.length ≤ 4194304) :
    Calls Tryd.prog 48 #[.pointer (some ⟨gr, 0, none⟩)] w fun e w' => e = .returned (.int .i64 (g.vs.length : Int)) ∧ ∃ vo, RS w0 w' gr { g with vo := vo, vs := g.vs ++ [⟨[], g.un⟩] } := by
  obtain ⟨vA, vc, hvo⟩ : ∃ vA vc, g.vo = (vA, g.vs.length, vc) := ⟨g.vo.1, g.vo.2.2, by rw [← (R_header h.rw.v).1]⟩
  have HCells := Aside0.mk (show ∀ w', RS w0 w' gr g → w'.cell? ⟨gr, 2, none⟩ = some (.slice vA g.vs.length vc) ∧ w'.cell? ⟨gr, 1, none⟩ = some (.int .i64 g.un) from fun w' h' => ⟨by rw [h'.cell.2.2.1, hvo]; rfl, h'.cell.2.1⟩)
  have HGrown := Aside0.mk (show ∀ w' w1, RS w0 w' gr g → w'.grownBy w1 (Value.slice vA g.vs.length vc).ownBlock → (w1.cell? ⟨gr, 2, none⟩ = some (.slice vA g.vs.length vc) ∧ w1.cell? ⟨gr, 1, none⟩ = some (.int .i64 g.un)) ∧ w1.frozen? ⟨gr, 2, none⟩ = false from fun w' w1 h' hg => by
    have ho := h'.views_only (by rw [hvo]; exact hg)
    have bp := ho gr _ _ h'.bp (by decide)
    refine ⟨⟨(blk_cell bp 2).trans ?_, (blk_cell bp 1).trans rfl⟩, blk_frozen bp 2⟩
    show some (slv g.vo) = _
    rw [hvo]; rfl)
  have HRow := Aside0.mk (show ∀ w', RS w0 w' gr g → k66.R 66 w' w0.heap.size (fun _ => True) (.slice vA g.vs.length vc) g.vs from fun w' h' => by
    have h1 := h'.rw.v
    rw [hvo] at h1
    exact h1)
  have HL := Aside0.mk hl
  have HW := Aside0.mk h
  have HVo := Aside0.mk hvo
  have hl2 : (g.vs.length : Int) ≤ 4194304 := by omega
  clear h hl hvo
  obtain ⟨Pst, hI, hE⟩ : ∃ Pst : World → Prop, (∀ vo w', RS w0 w' gr { g with vo := vo, vs := g.vs ++ [⟨[], g.un⟩] } → Pst w') ∧ (∀ w', Pst w' → ∃ vo, RS w0 w' gr { g with vo := vo, vs := g.vs ++ [⟨[], g.un⟩] }) := ⟨fun w' => ∃ vo, RS w0 w' gr { g with vo := vo, vs := g.vs ++ [⟨[], g.un⟩] }, fun vo w' h => ⟨vo, h⟩, fun w' h => h⟩
  have HI := Aside0.mk hI
  refine Calls.mono (?_ : Calls Tryd.prog 48 #[.pointer (some ⟨gr, 0, none⟩)] w fun e w' => e = .returned (.int .i64 (g.vs.length : Int)) ∧ Pst w') (fun e w' ⟨h1, h2⟩ => ⟨h1, hE w' h2⟩)
  clear hI hE
  go_enter Tryd.func48, Tryd.ntmps48
  go_upto_region 1 with fail
  refine start_ (n := 15) (S := (fun w' => w'.cell? ⟨gr, 2, none⟩ = some (.slice vA g.vs.length vc) ∧ w'.cell? ⟨gr, 1, none⟩ = some (.int .i64 g.un))) (ds := [14]) #[false, false, false, false, false, false, false, false, false, false, false, false, false, false, false] (by kernel_rfl) rfl rfl (HCells.out w HW.out) (fun hHeld => ?_); refine with_tabW R39_tab R39_bits (fun HT_ HW_ => ?_)
  have HW2 := Aside0.mk (HW.out.below (Drawn0.below (w := w) (w' := w.drew) ⟨⟨1, rfl⟩⟩))
  clear HW
  generalize w.drew = w2 at HW2 hHeld ⊢
  refine pure_ (i := 0) (N := some 3) (v := ?_) (a' := ?_) #[true, false, false, false, false, false, false, false, false, false, false, false, false, false, false] rfl rfl (any_of HT_.out (by kernel_rfl)) (fun _ _ _ h => h) (Or.inl ⟨by rfl, ?_⟩) ?_ ?_
  rotate_left
  · intro w'
    go_simp
    with_reducible rfl
  rotate_left
  · simp only [Act.put, List.setIfInBounds_toArray, List.set_cons_zero, List.set_cons_succ, i64_w, i32_w]
    rfl
  refine pure_ (i := 1) (N := some 4) (v := ?_) (a' := ?_) #[true, true, false, false, false, false, false, false, false, false, false, false, false, false, false] rfl rfl (any_of HT_.out (by kernel_rfl)) (fun _ _ _ h => h) (Or.inl ⟨by rfl, ?_⟩) ?_ ?_
  rotate_left
  · intro w'
    go_simp
    with_reducible rfl
  rotate_left
  · simp only [Act.put, List.setIfInBounds_toArray, List.set_cons_zero, List.set_cons_succ, i64_w, i32_w]
    rfl
  refine pure_ (i := 2) (N := some 5) (v := ?_) (a' := ?_) #[true, true, true, false, false, false, false, false, false, false, false, false, false, false, false] rfl rfl (any_of HT_.out (by kernel_rfl)) (fun _ _ _ h => h) (Or.inl ⟨by rfl, ?_⟩) ?_ ?_
  rotate_left
  · intro w'
    go_simp
    with_reducible rfl
  rotate_left
  · simp only [Act.put, List.setIfInBounds_toArray, List.set_cons_zero, List.set_cons_succ, i64_w, i32_w]
    rfl
  refine pure_ (i := 3) (N := some 6) (v := ?_) (a' := ?_) #[true, true, true, true, false, false, false, false, false, false, false, false, false, false, false] rfl rfl (any_of HT_.out (by kernel_rfl)) (fun _ _ _ h => h) (Or.inl ⟨by rfl, ?_⟩) ?_ ?_
  rotate_left
  · intro w'
    go_simp
    with_reducible rfl
  rotate_left
  · simp only [Act.put, List.setIfInBounds_toArray, List.set_cons_zero, List.set_cons_succ, i64_w, i32_w]
    rfl
  refine take_ (i := 4) (N := some 7) (v := ?_) (a' := ?_) #[true, true, true, true, true, false, false, false, false, false, false, false, false, false, false] rfl rfl (take_ofW HT_.out HW_.out (by kernel_rfl)) (fun _ _ _ h => h) (Or.inl ⟨by rfl, ?_⟩) hHeld ?_ ?_
  rotate_left
  · rintro w' ⟨s0, s1⟩
    go_simp
    with_reducible rfl
  rotate_left
  · simp only [Act.put, List.setIfInBounds_toArray, List.set_cons_zero, List.set_cons_succ, i64_w, i32_w]
    rfl
  refine pure_ (i := 5) (N := some 8) (v := ?_) (a' := ?_) #[true, true, true, true, true, true, false, false, false, false, false, false, false, false, false] rfl rfl (any_of HT_.out (by kernel_rfl)) (fun _ _ _ h => h) (Or.inl ⟨by rfl, ?_⟩) ?_ ?_
  rotate_left
  · intro w'
    go_simp
    with_reducible rfl
  rotate_left
  · simp only [Act.put, List.setIfInBounds_toArray, List.set_cons_zero, List.set_cons_succ, i64_w, i32_w]
    rfl
  refine pure_ (i := 6) (N := some 9) (v := ?_) (a' := ?_) #[true, true, true, true, true, true, true, false, false, false, false, false, false, false, false] rfl rfl (any_of HT_.out (by kernel_rfl)) (fun _ _ _ h => h) (Or.inl ⟨by rfl, ?_⟩) ?_ ?_
  rotate_left
  · intro w'
    go_simp
    with_reducible rfl
  rotate_left
  · simp only [Act.put, List.setIfInBounds_toArray, List.set_cons_zero, List.set_cons_succ, i64_w, i32_w]
    rfl
  refine pure_ (i := 7) (N := some 10) (v := ?_) (a' := ?_) #[true, true, true, true, true, true, true, true, false, false, false, false, false, false, false] rfl rfl (any_of HT_.out (by kernel_rfl)) (fun _ _ _ h => h) (Or.inl ⟨by rfl, ?_⟩) ?_ ?_
  rotate_left
  · intro w'
    go_simp
    with_reducible rfl
  rotate_left
  · simp only [Act.put, List.setIfInBounds_toArray, List.set_cons_zero, List.set_cons_succ, i64_w, i32_w]
    rfl
  refine take_ (i := 8) (N := some 11) (v := ?_) (a' := ?_) #[true, true, true, true, true, true, true, true, true, false, false, false, false, false, false] rfl rfl (take_ofW HT_.out HW_.out (by kernel_rfl)) (fun _ _ _ h => h) (Or.inl ⟨by rfl, ?_⟩) hHeld ?_ ?_
  rotate_left
  · rintro w' ⟨s0, s1⟩
    go_simp
    with_reducible rfl
  rotate_left
  · simp only [Act.put, List.setIfInBounds_toArray, List.set_cons_zero, List.set_cons_succ, i64_w, i32_w]
    rfl
  refine pure_ (i := 9) (N := some 12) (v := ?_) (a' := ?_) #[true, true, true, true, true, true, true, true, true, true, false, false, false, false, false] rfl rfl (any_of HT_.out (by kernel_rfl)) (fun _ _ _ h => h) (Or.inl ⟨by rfl, ?_⟩) ?_ ?_
  rotate_left
  · intro w'
    go_simp
    with_reducible rfl
  rotate_left
  · simp only [Act.put, List.setIfInBounds_toArray, List.set_cons_zero, List.set_cons_succ, i64_w, i32_w]
    rfl
  refine one_ (i := 10) (N := some 13) #[true, true, true, true, true, true, true, true, true, true, true, false, false, false, false] rfl rfl (one_of HT_.out (by kernel_rfl)) (by decide) (fun K hK => ?_)
  refine value_ (w1 := ?_) (v := ?_) (by rfl) rfl ?_ ?_
  rotate_left 2
  · go_simp
    constructor
    · rfl
    · rfl
  refine hK.out _ _ (HCells.out _ (HW2.out.below (below_alloc (Below.refl _ _) _))) (fun hHeld => ?_)
  clear hK K
  refine norm_ (a' := ?_) ?_ ?_
  rotate_left
  · show Act.put _ (some 13) _ = _
    simp only [Act.put, List.setIfInBounds_toArray, List.set_cons_zero, List.set_cons_succ, i64_w, i32_w]
    rfl
  refine one_ (i := 11) (N := some 14) #[true, true, true, true, true, true, true, true, true, true, true, true, false, false, false] rfl rfl (one_of HT_.out (by kernel_rfl)) (by decide) (fun K hK => ?_)
  refine Kd.R_append_step k66 (w0 := w0) w0.heap.size (by rfl) (.tmp 7) (.tmp 13) 67 66 (.agg #[.slice none 0 0, .int .i64 0]) 32 rfl Tryd.underlying67 infoView rfl (by decide) (by omega) (.slice vA g.vs.length vc) g.vs ⟨[], g.un⟩ [.slice none 0 0, .int .i64 g.un] (fun _ => True) (fun _ => False) rfl rfl ?aP (fun _ hk => hk.elim) ?aF ?aO ?aB ?aS ?aL ?_
  (case aP => exact k66_mkM _ _ _ ⟨[], g.un⟩ (Kd.R_nil _ _ _ _ _))
  (case aB => exact HW2.out.hb)
  (case aF => exact fun _ _ => trivial)
  (case aO => exact HRow.out w2 HW2.out)
  (case aS => exact below_size HW2.out.hb)
  (case aL => have := HL.out; omega)
  intro v1 w5 ho hb hg hat
  obtain ⟨A1, c1, rfl, _, _⟩ := Kd.R_reads ho
  have HG := Aside0.mk (And.intro ho (And.intro hb hg))
  clear ho hb hg hat
  refine hK.out _ _ (HGrown.out w2 w5 HW2.out HG.out.2.2).1 (fun hHeld => ?_)
  clear hK K
  refine norm_ (a' := ?_) ?_ ?_
  rotate_left
  · show Act.put _ (some 14) _ = _
    simp only [Act.put, List.setIfInBounds_toArray, List.set_cons_zero, List.set_cons_succ, i64_w, i32_w]
    rfl
  refine pure_ (i := 12) (N := some 15) (v := ?_) (a' := ?_) #[true, true, true, true, true, true, true, true, true, true, true, true, true, false, false] rfl rfl (any_of HT_.out (by kernel_rfl)) (fun _ _ _ h => h) (Or.inl ⟨by rfl, ?_⟩) ?_ ?_
  rotate_left
  · intro w'
    go_simp
    with_reducible rfl
  rotate_left
  · simp only [Act.put, List.setIfInBounds_toArray, List.set_cons_zero, List.set_cons_succ, i64_w, i32_w]
    rfl
  refine pure_ (i := 13) (N := some 16) (v := ?_) (a' := ?_) #[true, true, true, true, true, true, true, true, true, true, true, true, true, true, false] rfl rfl (any_of HT_.out (by kernel_rfl)) (fun _ _ _ h => h) (Or.inl ⟨by rfl, ?_⟩) ?_ ?_
  rotate_left
  · intro w'
    go_simp
    with_reducible rfl
  rotate_left
  · simp only [Act.put, List.setIfInBounds_toArray, List.set_cons_zero, List.set_cons_succ, i64_w, i32_w]
    rfl
  have hfz := (HGrown.out w2 w5 HW2.out HG.out.2.2).2
  refine last_ (i := 14) (N := none) #[true, true, true, true, true, true, true, true, true, true, true, true, true, true, true] rfl rfl (one_of HT_.out (by kernel_rfl)) (by decide) (fun K hK => ?_)
  refine skip_ (w1 := ?_) (by rfl) rfl ?_ ?_
  rotate_left
  · go_simp
    rfl
  refine hK.out _ _ ?_
  clear hK K
  refine done_ (done_of HT_.out (by kernel_rfl)) ?_
  clear HT_ HW_ hHeld

  have hv := HW2.out.view_made (t1 := (A1, (g.vs ++ [(⟨[], g.un⟩ : S66)]).length, c1)) HG.out.1 HG.out.2.1 (by rw [HVo.out]; exact HG.out.2.2)
  have hl5 : (g.vs ++ [(⟨[], g.un⟩ : S66)]).length = g.vs.length + 1 := by simp
  rw [hl5] at hv
  replace hv : RS w0 (w5.setCell ⟨gr, 2, none⟩ (.slice A1 (g.vs.length + 1) c1)) gr { g with vo := (A1, g.vs.length + 1, c1), vs := g.vs ++ [⟨[], g.un⟩] } := hv
  have HV := Aside0.mk hv
  generalize w5.setCell ⟨gr, 2, none⟩ (.slice A1 (g.vs.length + 1) c1) = w6 at HV ⊢
  clear hv HG HW2 hfz hl5
  have x2 : w6.cell? ⟨gr, 2, none⟩ = some (.slice A1 (g.vs.length + 1) c1) := HV.out.cell.2.2.1
  have hw2 : wrap64 ((g.vs.length : Int) + 1 - 1) = (g.vs.length : Int) := by rw [BitMath.wrap_id (by unfold BitMath.In64; omega)]; omega
  have hw4 : wrap64 (g.vs.length : Int) = (g.vs.length : Int) := BitMath.wrap_id (by unfold BitMath.In64; omega)
  go_wp2
  go_ret
  exact ⟨rfl, HI.out _ _ HV.out⟩
end Go.Proofs.YtamfkglnejhjdaaDoor.Ref
