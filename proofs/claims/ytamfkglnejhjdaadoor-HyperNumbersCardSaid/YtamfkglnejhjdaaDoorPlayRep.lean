/- hyper.play[int64]: the play told as a play on lists; what a merge writes. -/
import Derived.Test.YtamfkglnejhjdaaDoorPlayMade
import Derived.Test.YtamfkglnejhjdaaDoorPlayC
namespace Go.Proofs.YtamfkglnejhjdaaDoor.PlayState
open Go.RowKit Go.Proofs.YtamfkglnejhjdaaDoorW.PrintWords Go.Proofs.YtamfkglnejhjdaaDoor.Fam Go.Proofs.YtamfkglnejhjdaaDoor.Play
set_option linter.unusedVariables false
def mgs (l : List Mg) : List (Int × Int × Int) := l.map (fun m : Mg => ((m.1 : Int), (m.2.1 : Int), (m.2.2 : Int)))
structure Rep0 (F : List Int → Int) (s : St (List Int)) (g : Gh) : Prop where
  vs : g.vs = s.views.map F
  rs : g.rs.map (·.2) = s.up.reverse.map ints ++ [ints s.cur]
  sp : g.sp.2 = ints s.spawns.reverse
  ps : g.ps = s.picks
  ms : g.ms = mgs s.merges
structure Rep (F : List Int → Int) (s : St (List Int)) (g : Gh) : Prop extends Rep0 F s g where
  oh : g.oh = g.rs.map (·.1)
section
variable {F : List Int → Int} {s : St (List Int)} {g : Gh}
theorem Rep0.views_len (h : Rep0 F s g) : g.vs.length = s.views.length := by rw [h.vs, List.length_map]
theorem Rep0.rows_len (h : Rep0 F s g) : g.rs.length = s.up.length + 1 := by
  have := congrArg List.length h.rs
  simpa using this
/-- The last row. -/
theorem Rep0.last (h : Rep0 F s g) : ∃ (rs : List Hd) (c : Hd), g.rs = rs ++ [c] ∧ c.2 = ints s.cur ∧ rs.map (·.2) = s.up.reverse.map ints ∧ rs.length = s.up.length := by
  have hl := h.rows_len
  have hne : g.rs ≠ [] := fun e => by rw [e] at hl; simp at hl
  refine ⟨g.rs.dropLast, g.rs.getLast hne, (List.dropLast_concat_getLast hne).symm, ?_, ?_, by rw [List.length_dropLast]; omega⟩
  · have e := h.rs
    rw [← List.dropLast_concat_getLast hne, List.map_append] at e
    have := List.append_inj' e rfl
    simpa using this.2
  · have e := h.rs
    rw [← List.dropLast_concat_getLast hne, List.map_append] at e
    exact (List.append_inj' e rfl).1
theorem Rep0.view (h : Rep0 F s g) {i : Nat} (hi : i < s.views.length) : g.vs.getD i 0 = F (s.views.getD i []) := by
  rw [h.vs]; simp [List.getD_eq_getElem?_getD, hi]
end
end Go.Proofs.YtamfkglnejhjdaaDoor.PlayState
namespace Go.Proofs.YtamfkglnejhjdaaDoor.PlayState
open Go.RowKit Go.Proofs.YtamfkglnejhjdaaDoorW.PrintWords Go.Proofs.YtamfkglnejhjdaaDoorW.PrintLast Go.Proofs.YtamfkglnejhjdaaDoorW.PrintMore Go.Proofs.YtamfkglnejhjdaaDoor.Fam Go.Proofs.YtamfkglnejhjdaaDoor.Play
set_option linter.unusedVariables false
theorem info103 : (Tryd.prog.info? 103).map (fun i => (i.zero, i.size, i.bytes)) = some (some (.agg #[.int .i64 0, .int .i64 0, .int .i64 0]), 3, 24) := by kernel_rfl
section
variable {w0 w w1 : World} {gp : Nat} {f : List Value} {g : Gh}
/-- The last row has been written in place, or lies elsewhere; its outer header is as it was. -/
theorem PS.row_cut (h : PS w0 w gp f g) {rs : List Hd} {c : Hd} (hr : g.rs = rs ++ [c]) {ok : Nat → Prop} {t1 : Sl} {xs1 : List Int}
    (ho : Kd.R (Kd.int .i64) 3 w1 w0.heap.size ok (slv t1) xs1) (hb : Below w0.heap.size w0 w1) (hg : w.grownBy w1 (slv c.1).ownBlock) (hat : (slv t1).ownBlock = (slv c.1).ownBlock ∨ ∃ b, (slv t1).ownBlock = some b ∧ w.heap.size ≤ b) :
    PS w0 w1 gp f { g with rs := rs ++ [(t1, xs1)] } := by
  have hq : (g.rs.map hv ++ [hv g.sp])[rs.length]? = some (slv c.1, c.2) := by
    rw [hr, List.map_append, List.append_assoc, List.getElem?_append_right (by simp)]
    simp [hv]
  have hmem : (slv c.1, c.2) ∈ g.rs.map hv ++ [hv g.sp] := List.mem_iff_getElem?.2 ⟨_, hq⟩
  have ty : ∀ {e : Nat}, e ≠ 3 → ∀ b, (slv c.1).ownBlock = some b → ∃ cells t, w.heap[b]? = some (.cells cells t (0, 0)) ∧ e ≠ t := fun he b hb => by
    obtain ⟨cells, t, h1, rfl⟩ := h.typed3 hmem b hb
    exact ⟨cells, _, h1, he⟩
  have bp := (h.stays3 hmem hg h.bp (by decide)).trans h.bp
  have f3 := fam_grew (h1 := fun _ => rfl) h.f3 rs.length hq ho hg hat
  refine ⟨hb, bp, h.gep, fam_grown h.f2 hg (ty (by decide)), ?_, fam_grown h.f24 hg (ty (by decide)), mg_grown h.mg k3_E hg (ty (by decide)), h.pk⟩
  rw [show (g.rs.map hv ++ [hv g.sp]).set rs.length (slv t1, xs1) = (rs ++ [(t1, xs1)]).map hv ++ [hv g.sp] from by
    rw [hr, List.map_append, List.append_assoc, List.set_append_right _ _ (by simp)]
    simp [hv]] at f3
  exact f3
/-- The last row's header is put into the outer row. -/
theorem PS.row_put (h : PS w0 w gp f g) {os : List Sl} {o : Sl} (hoh : g.oh = os ++ [o]) {gr n cr : Nat} (hro : g.ro = (some ⟨gr, 0, none⟩, n, cr)) (t1 : Sl) :
    PS w0 (w.setCell ⟨gr, os.length, none⟩ (slv t1)) gp f { g with oh := os ++ [t1] } := by
  have f24 := h.f24
  rw [show slv g.ro = .slice (some ⟨gr, 0, none⟩) n cr from by rw [hro]; rfl] at f24
  have f24' := fam_wrote (h1 := slv_one) f24 0 rfl os.length t1
  have hbase : w0.heap.size ≤ gr ∧ gr < w.heap.size := f24.lt (List.mem_cons_self ..) rfl
  obtain ⟨cells24, h24⟩ := own_typed (f24.own _ (List.mem_cons_self ..)) gr rfl
  have keep : ∀ b, b < w.heap.size → b ≠ gr → (w.setCell ⟨gr, os.length, none⟩ (slv t1)).heap[b]? = w.heap[b]? := fun b hb hn =>
    ((Kept.refl w (fun k => k = gr)).setCell (p := ⟨gr, os.length, none⟩) (.inl rfl) (slv t1)).2 b hb hn
  have n1 : gp ≠ gr := blk_ne h.bp h24 (by decide)
  refine ⟨h.hb.setCell (p := ⟨gr, os.length, none⟩) hbase.1 _, (keep gp (blk_lt h.bp) n1).trans h.bp, h.gep, h.f2.far h24 (by decide) keep, h.f3.far h24 (by decide) keep, ?_, ?_, h.pk⟩
  · simp only [List.set_cons_zero] at f24'
    rw [show slv ({ g with oh := os ++ [t1] } : Gh).ro = .slice (some ⟨gr, 0, none⟩) n cr from by show slv g.ro = _; rw [hro]; rfl]
    show Fam slv 24 _ _ [(_, os ++ [t1])]
    rw [hoh, List.set_append_right _ _ (Nat.le_refl _), Nat.sub_self] at f24'
    exact f24'
  · exact mg_grown h.mg k3_E (row := some gr) ⟨rfl, rfl, rfl, by simp, fun b hb hn => keep b hb (fun e => hn (by rw [e]))⟩ (fun b hb => by injection hb with hb; subst hb; exact ⟨_, _, h24, by decide⟩)
theorem PS.typed103 (h : PS w0 w gp f g) : ∀ b, (slv g.mo).ownBlock = some b → ∃ cells, w.heap[b]? = some (.cells cells 103 (0, 0)) := Kd.R_typed h.mg
theorem PS.stays103 (h : PS w0 w gp f g) (hg : w.grownBy w1 (slv g.mo).ownBlock) {b t : Nat} {cs : Array Value} (h1 : w.heap[b]? = some (.cells cs t (0, 0))) (ht : t ≠ 103) : w1.heap[b]? = w.heap[b]? := by
  refine hg.block b (blk_lt h1) (fun e => ?_)
  obtain ⟨cells, h2⟩ := h.typed103 b e.symm
  rw [h1] at h2
  injection h2 with h2
  injection h2 with _ h2
  exact ht h2
/-- A merge has been told, the header of the merges is written. -/
theorem PS.told (h : PS w0 w gp f g) (hf : f.length = 4) {ok : Nat → Prop} {t1 : Sl} {ms1 : List (Int × Int × Int)}
    (ho : Kd.R k3 103 w1 w0.heap.size ok (slv t1) ms1) (hb : Below w0.heap.size w0 w1) (hg : w.grownBy w1 (slv g.mo).ownBlock) :
    PS w0 (w1.setCell ⟨gp, 8, none⟩ (slv t1)) gp f { g with ms := ms1, mo := t1 } := by
  have ty : ∀ {e : Nat}, e ≠ 103 → ∀ b, (slv g.mo).ownBlock = some b → ∃ cells t, w.heap[b]? = some (.cells cells t (0, 0)) ∧ e ≠ t := fun he b hb => by
    obtain ⟨cells, h1⟩ := h.typed103 b hb
    exact ⟨cells, _, h1, he⟩
  have bp := (h.stays103 hg h.bp (by decide)).trans h.bp
  have f2 := fam_grown h.f2 hg (ty (by decide))
  have f3 := fam_grown h.f3 hg (ty (by decide))
  have f24 := fam_grown h.f24 hg (ty (by decide))
  have keep : ∀ b, b < w1.heap.size → b ≠ gp → (w1.setCell ⟨gp, 8, none⟩ (slv t1)).heap[b]? = w1.heap[b]? := fun b hb hn =>
    ((Kept.refl w1 (fun k => k = gp)).setCell (p := ⟨gp, 8, none⟩) (.inl rfl) (slv t1)).2 b hb hn
  refine ⟨hb.setCell (p := ⟨gp, 8, none⟩) h.gep _, ?_, h.gep, f2.far bp (by decide) keep, f3.far bp (by decide) keep, f24.far bp (by decide) keep, ?_, h.pk⟩
  · obtain ⟨a, b, c', d, rfl⟩ : ∃ a b c' d, f = [a, b, c', d] := by
      match f, hf with
      | [a, b, c', d], _ => exact ⟨a, b, c', d, rfl⟩
    exact blk_put bp 8 _ rfl
  · exact mg_grown (Kd.R_mono ho (fun _ _ => trivial)) k3_E (row := some gp) ⟨rfl, rfl, rfl, by simp, fun b hb hn => keep b hb (fun e => hn (by rw [e]))⟩ (fun b hb => by injection hb with hb; subst hb; exact ⟨_, _, bp, by decide⟩)
end
/-- What holds at the head of a merge's round: s0 as the merge began, s as it stands. -/
structure ML (F : List Int → Int) (w0 w : World) (gp : Nat) (f : List Value) (t : Nat) (pre : List Nat) (L : List Int) (s0 s : St (List Int)) (g : Gh) (rs : List Hd) (ro : Sl) (oh : List Sl) (tr : Sl) (V M : Nat) : Prop where
  ps : PS w0 w gp f g
  rep : Rep0 F s g
  hrs : g.rs = rs ++ [(tr, ints s.cur)]
  hro : g.ro = ro
  hoh : g.oh = oh
  mi : MI pre s.cur s.views L
  go : s.merge red t = s0.merge red t
  hV : s.views.length ≤ V
  hM : s.merges.length + s.cur.length ≤ M
end Go.Proofs.YtamfkglnejhjdaaDoor.PlayState

namespace Go.Proofs.YtamfkglnejhjdaaDoor.PlayState
open Go.RowKit Go.Proofs.YtamfkglnejhjdaaDoorW.PrintWords
set_option linter.unusedVariables false
set_option maxHeartbeats 2000000 in
set_option maxRecDepth 100000 in
theorem mod_calls (x : Int) (n : Nat) (hn : 0 < n) (hn2 : n ≤ 4194304) (w : World) :
    Calls Tryd.prog 58 #[.int .i64 x, .int .i64 (n : Int)] w fun e w' => e = .returned (.int .i64 (x % (n : Int))) ∧ Drawn0 w w' := by
  have h1 := Int.emod_nonneg x (show (n : Int) ≠ 0 by omega)
  have h2 := Int.emod_lt_of_pos x (show (0 : Int) < (n : Int) by omega)
  have h3 : ((n : Int)).natAbs = n := by omega
  have ht := Int.tmod_eq_emod (a := x) (b := (n : Int))
  have HL := Aside0.mk h1
  have HU := Aside0.mk h2
  have c3 : decide ((n : Int) < 1) = false := decide_eq_false (by omega)
  have c4 : ((n : Int) == 0) = false := beq_eq_false_iff_ne.mpr (by omega)
  have c5 : ((n : Int) != 0) = true := bne_iff_ne.mpr (by omega)
  by_cases hc : 0 ≤ x ∨ (n : Int) ∣ x
  · rw [if_pos hc] at ht
    have HR := Aside0.mk (show x.tmod (n : Int) = x % (n : Int) by omega)
    have c6 : decide (x.tmod (n : Int) < 0) = false := decide_eq_false (by omega)
    clear ht h1 h2 h3 hc
    go_enter Tryd.func58, Tryd.ntmps58
    go_wp2
    go_ret
    exact ⟨by rw [← HR.out]; rfl, by repeat (first | exact Drawn0.refl _ | apply Drawn0.step)⟩
  · rw [if_neg hc, h3] at ht
    have HR := Aside0.mk (show wrap64 (x.tmod (n : Int) + (n : Int)) = x % (n : Int) by rw [BitMath.wrap_id (by unfold BitMath.In64; omega)]; omega)
    have c6 : decide (x.tmod (n : Int) < 0) = true := decide_eq_true (by omega)
    clear ht h1 h2 h3 hc
    go_enter Tryd.func58, Tryd.ntmps58
    go_wp2
    go_ret
    exact ⟨by rw [← HR.out]; rfl, by repeat (first | exact Drawn0.refl _ | apply Drawn0.step)⟩
end Go.Proofs.YtamfkglnejhjdaaDoor.PlayState
