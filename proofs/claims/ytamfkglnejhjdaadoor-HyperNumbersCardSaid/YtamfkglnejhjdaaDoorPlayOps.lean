/- hyper.Fold's closures, and a view more: hyper.play[int64]. -/
import Derived.Test.YtamfkglnejhjdaaDoorPlayA
import Derived.Test.YtamfkglnejhjdaaDoorOpsLaw
namespace Go.Proofs.YtamfkglnejhjdaaDoor.PlayState
open Go.RowKit Go.Proofs.YtamfkglnejhjdaaDoorW.PrintWords Go.Proofs.YtamfkglnejhjdaaDoorW.PrintLast Go.Proofs.YtamfkglnejhjdaaDoorW.PrintMore Go.Proofs.YtamfkglnejhjdaaDoor.Fam Go.Proofs.YtamfkglnejhjdaaDoor.PHyperFold Go.Proofs.YtamfkglnejhjdaaDoor.Mon Go.Proofs.YtamfkglnejhjdaaDoor.FoldLaw Go.Proofs.YtamfkglnejhjdaaDoor.BitMath
set_option linter.unusedVariables false
set_option linter.unusedSimpArgs false
theorem opsapply_calls {op : Int} (hop : HasUnit op) (a b : Int) (w : World) :
    Calls Tryd.prog 21 #[.int .i64 op, .int .i64 a, .int .i64 b] w fun e w' => e = .returned (.tuple #[.int .i64 (wk op a b), .int .i64 0]) ∧ Below w.heap.size w w' := by
  have hb0 : 0 ≤ op ∧ op < 16 := by unfold HasUnit at hop; omega
  have HI := Aside0.mk (fun w => ops_isOp.calls op true w (isOp_yes hb0))
  have HW := Aside0.mk (fun w => ops_work.calls op a b (wk op a b) w (work_wk hop a b))
  clear hop hb0
  go_enter Tryd.func21, Tryd.ntmps21
  go_wp2_with fail
  refine (HI.out _).mono ?_
  rintro e w1 ⟨rfl, hd⟩
  have HB := Aside0.mk (show Below w.heap.size w w1 from by first | exact hd | exact hd.below)
  clear hd
  go_wp2_with fail
  refine (HW.out _).mono ?_
  rintro e w2 ⟨rfl, hd⟩
  have HB2 := Aside0.mk (below_step HB.out (by first | exact hd | exact hd.below))
  clear hd HB
  go_wp2
  go_ret2
  exact ⟨rfl, HB2.out⟩
theorem fresh_calls (gU : Nat) (un : Int) (w : World) (hU : w.cell? ⟨gU, 0, none⟩ = some (.int .i64 un)) : Calls Tryd.prog 22 #[.pointer (some ⟨gU, 0, none⟩)] w fun e w' => e = .returned (.int .i64 un) ∧ Below w.heap.size w w' := by
  go_enter Tryd.func22, Tryd.ntmps22
  go_wp2
  go_ret
  exact ⟨rfl, Below.refl _ _⟩
theorem look_calls (a : Int) (w : World) : Calls Tryd.prog 23 #[.int .i64 a] w fun e w' => e = .returned (.tuple #[]) ∧ Below w.heap.size w w' := by
  go_enter Tryd.func23, Tryd.ntmps23
  go_wp2
  go_end0
  exact ⟨rfl, Below.refl _ _⟩
theorem both_calls (gO : Nat) {op : Int} (hop : HasUnit op) (a b : Int) (w : World) (hO : w.cell? ⟨gO, 0, none⟩ = some (.int .i64 op)) : Calls Tryd.prog 20 #[.int .i64 a, .int .i64 b, .pointer (some ⟨gO, 0, none⟩)] w fun e w' => e = .returned (.int .i64 (wk op a b)) ∧ Below w.heap.size w w' := by
  have HA := Aside0.mk (fun w => opsapply_calls hop a b w)
  clear hop
  go_enter Tryd.func20, Tryd.ntmps20
  go_wp2_with fail
  refine (HA.out _).mono ?_
  rintro e w1 ⟨rfl, hb⟩
  have HB := Aside0.mk hb
  clear hb HA hO
  go_wp2
  go_ret
  exact ⟨rfl, HB.out⟩
section
variable {w0 w w1 : World} {gp : Nat} {f : List Value} {g : Gh}
theorem PS.typed2 (h : PS w0 w gp f g) : ∀ b, (slv g.vo).ownBlock = some b → ∃ cells t, w.heap[b]? = some (.cells cells t (0, 0)) ∧ 2 = t := fun b hb => by
  obtain ⟨cells, hc⟩ := own_typed (h.f2.own _ (List.mem_cons_self ..)) b hb
  exact ⟨cells, 2, hc, rfl⟩
theorem PS.stays2 (h : PS w0 w gp f g) (hg : w.grownBy w1 (slv g.vo).ownBlock) {b t : Nat} {cs : Array Value} (h1 : w.heap[b]? = some (.cells cs t (0, 0))) (ht : t ≠ 2) : w1.heap[b]? = w.heap[b]? := by
  refine hg.block b (blk_lt h1) (fun e => ?_)
  obtain ⟨cells, t', h2, rfl⟩ := h.typed2 b e.symm
  rw [h1] at h2
  injection h2 with h2
  injection h2 with _ h2
  exact ht h2
/-- A view more: the views have grown, their header is written into the play object. -/
theorem PS.view_made (h : PS w0 w gp f g) (hf : f.length = 4) {ok : Nat → Prop} {t1 : Sl} {x : Int}
    (ho : Kd.R (Kd.int .i64) 2 w1 w0.heap.size ok (slv t1) (g.vs ++ [x])) (hb : Below w0.heap.size w0 w1) (hg : w.grownBy w1 (slv g.vo).ownBlock) (hat : (slv t1).ownBlock = (slv g.vo).ownBlock ∨ ∃ b, (slv t1).ownBlock = some b ∧ w.heap.size ≤ b) :
    PS w0 (w1.setCell ⟨gp, 4, none⟩ (slv t1)) gp f { g with vs := g.vs ++ [x], vo := t1 } := by
  have ty : ∀ {e : Nat}, e ≠ 2 → ∀ b, (slv g.vo).ownBlock = some b → ∃ cells t, w.heap[b]? = some (.cells cells t (0, 0)) ∧ e ≠ t := fun he b hb => by
    obtain ⟨cells, t, hc, rfl⟩ := h.typed2 b hb
    exact ⟨cells, _, hc, he⟩
  have bp := (h.stays2 hg h.bp (by decide)).trans h.bp
  have f3 := fam_grown h.f3 hg (ty (by decide))
  have f24 := fam_grown h.f24 hg (ty (by decide))
  have mg := mg_grown h.mg k3_E hg (ty (by decide))
  have f2 := fam_grew (h1 := fun _ => rfl) h.f2 0 rfl ho hg hat
  simp only [List.set_cons_zero] at f2
  have keep : ∀ b, b < w1.heap.size → b ≠ gp → (w1.setCell ⟨gp, 4, none⟩ (slv t1)).heap[b]? = w1.heap[b]? := fun b hb hn =>
    ((Kept.refl w1 (fun k => k = gp)).setCell (p := ⟨gp, 4, none⟩) (.inl rfl) (slv t1)).2 b hb hn
  refine ⟨hb.setCell (p := ⟨gp, 4, none⟩) h.gep _, ?_, h.gep, f2.far bp (by decide) keep, f3.far bp (by decide) keep, f24.far bp (by decide) keep, ?_, h.pk⟩
  · obtain ⟨a, b, c', d, rfl⟩ : ∃ a b c' d, f = [a, b, c', d] := by
      match f, hf with
      | [a, b, c', d], _ => exact ⟨a, b, c', d, rfl⟩
    exact blk_put bp 4 _ rfl
  · exact mg_grown mg k3_E (row := some gp) ⟨rfl, rfl, rfl, by simp, fun b hb hn => keep b hb (fun e => hn (by rw [e]))⟩ (fun b hb => by injection hb with hb; subst hb; exact ⟨_, _, bp, by decide⟩)
/-- A view's number is written where it lies. -/
theorem PS.view_put (h : PS w0 w gp f g) {gv n c : Nat} (hvo : g.vo = (some ⟨gv, 0, none⟩, n, c)) (i : Nat) (x : Int) : PS w0 (w.setCell ⟨gv, i, none⟩ (.int .i64 x)) gp f { g with vs := g.vs.set i x } := by
  have e : (slv g.vo) = .slice (some ⟨gv, 0, none⟩) n c := by rw [hvo]; rfl
  have f2 := h.f2
  rw [e] at f2
  obtain ⟨cells2, h2⟩ := own_typed (f2.own _ (List.mem_cons_self ..)) gv rfl
  have hbase : w0.heap.size ≤ gv ∧ gv < w.heap.size := f2.lt (List.mem_cons_self ..) rfl
  have keep : ∀ b, b < w.heap.size → b ≠ gv → (w.setCell ⟨gv, i, none⟩ (.int .i64 x)).heap[b]? = w.heap[b]? := fun b hb hn =>
    ((Kept.refl w (fun k => k = gv)).setCell (p := ⟨gv, i, none⟩) (.inl rfl) (.int .i64 x)).2 b hb hn
  have f2' := fam_wrote (h1 := fun _ => rfl) f2 0 rfl i x
  simp only [List.set_cons_zero] at f2'
  have n1 : gp ≠ gv := blk_ne h.bp h2 (by decide)
  refine ⟨h.hb.setCell (p := ⟨gv, i, none⟩) hbase.1 _, (keep gp (blk_lt h.bp) n1).trans h.bp, h.gep, ?_, h.f3.far h2 (by decide) keep, h.f24.far h2 (by decide) keep, ?_, h.pk⟩
  · show Fam (Value.int .i64) 2 _ _ [(slv g.vo, g.vs.set i x)]
    rw [e]
    exact f2'
  · exact mg_grown h.mg k3_E (row := some gv) ⟨rfl, rfl, rfl, by simp, fun b hb hn => keep b hb (fun e => hn (by rw [e]))⟩ (fun b hb => by injection hb with hb; subst hb; exact ⟨_, _, h2, by decide⟩)
end
end Go.Proofs.YtamfkglnejhjdaaDoor.PlayState
