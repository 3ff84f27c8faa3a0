/- hyper.Fold: what it answers. -/
import Derived.Test.YtamfkglnejhjdaaDoorPlayRun
import Derived.Test.YtamfkglnejhjdaaDoorFoldV
import Derived.Test.YtamfkglnejhjdaaDoorOpsFold
namespace Go.Proofs.YtamfkglnejhjdaaDoor.PlayState
open Go.RowKit Go.Proofs.YtamfkglnejhjdaaDoorW.PrintWords Go.Proofs.YtamfkglnejhjdaaDoorW.PrintLast Go.Proofs.YtamfkglnejhjdaaDoorW.PrintMore Go.Proofs.YtamfkglnejhjdaaDoor.Fam Go.Proofs.YtamfkglnejhjdaaDoor.PHyperFold Go.Proofs.YtamfkglnejhjdaaDoor.Play Go.Proofs.YtamfkglnejhjdaaDoor.Base Go.Proofs.YtamfkglnejhjdaaDoor.Refuse Go.Proofs.YtamfkglnejhjdaaDoor.Mon Go.Proofs.YtamfkglnejhjdaaDoor.FoldLaw Go.Proofs.YtamfkglnejhjdaaDoor.Tab Go.Proofs.YtamfkglnejhjdaaDoor.BitMath
open Go.Proofs.YtamfkglnejhjdaaDoor.Ref (foldV ready_unit0)
set_option linter.unusedVariables false
set_option linter.unusedSimpArgs false
theorem fnOk_of (w0 : World) (gU gO : Nat) {op : Int} (hop : HasUnit op) (hU : gU < w0.heap.size ∧ w0.cell? ⟨gU, 0, none⟩ = some (.int .i64 (un op))) (hO : gO < w0.heap.size ∧ w0.cell? ⟨gO, 0, none⟩ = some (.int .i64 op)) : FnOk w0 gU gO (HalvesLaw.F op) In64 := by
  refine ⟨hU, fun w' a b hb ha hb2 => ?_, fun w' a x hb ha hx => ?_⟩
  · have := both_calls gO hop (HalvesLaw.F op a) (HalvesLaw.F op b) w' ((hb.cell (p := ⟨gO, 0, none⟩) hO.1).trans hO.2)
    rw [← HalvesLaw.F_app op hop a b ha hb2] at this
    exact this
  · have := both_calls gO hop (HalvesLaw.F op a) x w' ((hb.cell (p := ⟨gO, 0, none⟩) hO.1).trans hO.2)
    rw [show wk op (HalvesLaw.F op a) x = HalvesLaw.F op (a ++ [x]) by unfold HalvesLaw.F; rw [List.foldl_append]; rfl] at this
    exact this
theorem PS.start (w : World) (gU gO : Nat) (pA : Option Addr) (pc : Nat) (ps : List Int) (hC : Kd.C (Kd.int .i64) w pA ps.length ps) (hc : ps.length ≤ pc) {gp : Nat} {w1 : World} (hgp : gp = w.heap.size) (hb : Below w.heap.size w w1)
    (hbox : w1.heap[gp]? = some (.cells #[.func (.func 22) #[] #[.pointer (some ⟨gU, 0, none⟩)], .func (.func 20) #[] #[.pointer (some ⟨gO, 0, none⟩)], .func (.func 20) #[] #[.pointer (some ⟨gO, 0, none⟩)], .func (.func 23) #[] #[], .slice none 0 0, .slice none 0 0, .slice none 0 0, .slice pA ps.length pc, .slice none 0 0] 61 (0, 0))) :
    PS w w1 gp (fF gU gO) { vs := [], rs := [], sp := ((none, 0, 0), []), vo := (none, 0, 0), ro := (none, 0, 0), mo := (none, 0, 0), po := (pA, ps.length, pc), ps := ps, ms := [], oh := [] } := by
  have nil : ∀ {α : Type} {enc : α → Value} {e : Nat} (h1 : ∀ x : α, (enc x).oneCell' = true), Fam enc e w1 w.heap.size [((.slice none 0 0 : Value), ([] : List α))] := fun h1 => fam_nil_mid (h1 := h1) (L1 := []) (Fam.nil _ _)
  exact ⟨hb, hbox, by omega, nil (fun _ => rfl), nil (fun _ => rfl), nil slv_one, Kd.R_nil _ _ _ _ _, hC, rfl, hc⟩
set_option maxHeartbeats 16000000 in
set_option maxRecDepth 100000 in
theorem hfold_calls (op : Int) (A0 : Option Addr) (c0 : Nat) (l0 : List S46) (A1_ : Option Addr) (c1_ : Nat) (l1 : List Bool) (A2_ : Option Addr) (c2_ : Nat) (l2 : List Int) (w : World) (hr0 : Kd.C k46 w A0 l0.length l0) (hc0 : l0.length ≤ c0) (hr1 : Kd.C Kd.bool w A1_ l1.length l1) (hc1 : l1.length ≤ c1_) (hr2 : Kd.C (Kd.int .i64) w A2_ l2.length l2) (hc2 : l2.length ≤ c2_) (hI : ∀ d, d ∈ l0 → In64 d.f1) (hUn : UnitsAt w) :
    Calls Tryd.prog 7 #[.int .i64 op, .slice A0 l0.length c0, .slice A1_ l1.length c1_, .slice A2_ l2.length c2_] w fun e w' => e = .returned (.tuple #[.int .i64 (foldV op l0 l1 l2).1, .int .i64 (foldV op l0 l1 l2).2]) ∧ Below w.heap.size w w' := by
  have hmf : ∀ (fn : Fn) (first cap : Array Value) (w : World), (Instr.makeFunc fn first cap).run Tryd.prog w = .ok (.func fn first cap) w := fun _ _ _ _ => rfl
  have hu58 := Tryd.underlying58
  have hu61 := Tryd.underlying61
  have HR0 := Aside0.mk hr0
  have HC0 := Aside0.mk hc0
  have HR1 := Aside0.mk hr1
  have HC1 := Aside0.mk hc1
  have HR2 := Aside0.mk hr2
  have HC2 := Aside0.mk hc2
  have HI := Aside0.mk hI
  have HUn := Aside0.mk hUn
  obtain ⟨fv, hfv⟩ : ∃ fv, (foldP op []).1 = fv := ⟨_, rfl⟩
  obtain ⟨er, her⟩ : ∃ er, (readyP op 0).2 = er := ⟨_, rfl⟩
  have hfe : (foldP op []).2 = er := by
    unfold foldP
    rw [show (([] : List Int).length : Int) = 0 from rfl, her]
    split
    · rename_i h; exact h.symm
    · rfl
  have HFold := Aside0.mk (show ∀ w1, Below w.heap.size w w1 → Calls Tryd.prog 11 #[.int .i64 op, .slice none 0 0] w1 fun e w' => e = .returned (.tuple #[.int .i64 fv, .int .i64 er]) ∧ Below w1.heap.size w1 w' from fun w1 hb => by
    have h := fold_calls op none 0 [] w1 (Kd.R_reads' (Kd.R_nil (Kd.int .i64) 2 w1 0 (fun _ => True))).2.2 (by simp) (hUn.below hb)
    rw [hfv, hfe] at h
    exact h)
  have HRef := Aside0.mk (fun w1 (hb : Below w.heap.size w w1) => hyper_refuse.calls 8200 A0 c0 l0 A1_ c1_ l1 A2_ c2_ l2 (refF l0 l1 l2) w1 (Kd.C_below hr0 hb) hc0 (Kd.C_below hr1 hb) hc1 (Kd.C_below hr2 hb) hc2 (refuse_f l0 l1 l2 8200 (Nat.le_refl _)))
  clear hr0 hc0 hr1 hc1 hr2 hc2 hI hfe hfv hUn
  by_cases h0 : er = 0
  · subst h0
    obtain ⟨hop, hun⟩ := ready_unit0 her
    obtain ⟨e2, he2⟩ : ∃ e2, refF l0 l1 l2 = e2 := ⟨_, rfl⟩
    have HE2 := Aside0.mk he2
    rw [he2] at HRef
    have hfold : foldV op l0 l1 l2 = if e2 = 0 then (HalvesLaw.F op ((play red l1 l2 (l0.map dd)).views.getD 0 []), 0) else (0, e2) := by
      unfold foldV
      rw [if_pos her, he2]
    rw [hfold]
    clear hfold
    have HU := Aside0.mk (show ∀ w1, Below w.heap.size w w1 → Calls Tryd.prog 19 #[.int .i64 op] w1 fun e w' => e = .returned (.tuple #[.int .i64 (un op), .bool true]) ∧ Below w1.heap.size w1 w' from fun w1 hb => by
      have h := unit_calls op w1 (HUn.out.below hb)
      rw [hun] at h
      exact h)
    have HOp := Aside0.mk hop
    clear hun her he2 hop
    by_cases h2 : e2 = 0
    · subst h2
      rw [if_pos rfl]
      go_enter Tryd.func7, Tryd.ntmps7
      go_wp2_with ((with_reducible refine gate_dst (N := 4) rfl ?_); refine box_event ?hg (N := 4) ?hd (cs := #[.int .i64 op]) (t := 3) ?hr ?_; (case hd => rfl); (case hg => rfl); (case hr => first | (go_simp; done) | (go_simp; rfl)); intro gO hg w1 hbox hb; have HB1 := Aside0.mk hb; have BO := Aside0.mk hbox; have HGO := Aside0.mk hg; clear hb hbox hg; have xo : w1.cell? ⟨gO, 0, none⟩ = some (.int .i64 op) := (blk_cell BO.out 0).trans rfl)
      refine (HFold.out w1 HB1.out).mono ?_
      rintro e_ w2 ⟨rfl, hb⟩
      have HB2 := Aside0.mk (below_step HB1.out hb)
      have BO2 := Aside0.mk (blk_below BO.out hb)
      clear hb HFold xo BO
      go_wp2_with fail
      refine (HRef.out w2 HB2.out).mono ?_
      rintro e_ w3 ⟨rfl, hb⟩
      have HB3 := Aside0.mk (below_step HB2.out hb)
      have BO3 := Aside0.mk (blk_below BO2.out hb)
      clear hb HRef HB2 BO2
      have xo : w3.cell? ⟨gO, 0, none⟩ = some (.int .i64 op) := (blk_cell BO3.out 0).trans rfl
      go_wp2_with fail
      refine (HU.out w3 HB3.out).mono ?_
      rintro e_ w4 ⟨rfl, hb⟩
      have HB4 := Aside0.mk (below_step HB3.out hb)
      have BO4 := Aside0.mk (blk_below BO3.out hb)
      clear hb HU HB3 BO3 xo
      have xo : w4.cell? ⟨gO, 0, none⟩ = some (.int .i64 op) := (blk_cell BO4.out 0).trans rfl
      go_wp2_with (first | ((with_reducible refine gate_dst (N := 13) rfl ?_); refine box_event ?hg (N := 13) ?hd (cs := #[.int .i64 0]) (t := 2) ?hr ?_; (case hd => rfl); (case hg => rfl); (case hr => first | (go_simp; done) | (go_simp; rfl)); intro gU hg w5 hbox hb; have HB5 := Aside0.mk hb; have BU := Aside0.mk hbox; have HGU := Aside0.mk hg; clear hb hbox hg; have xu : w5.cell? ⟨gU, 0, none⟩ = some (.int .i64 0) := (blk_cell BU.out 0).trans rfl; have zu := blk_frozen BU.out 0) | ((with_reducible refine gate_dst (N := 44) rfl ?_); refine box_event ?hg (N := 44) ?hd (cs := #[.func (.func 22) #[] #[.pointer (some ⟨gU, 0, none⟩)], .func (.func 20) #[] #[.pointer (some ⟨gO, 0, none⟩)], .func (.func 20) #[] #[.pointer (some ⟨gO, 0, none⟩)], .func (.func 23) #[] #[], .slice none 0 0, .slice none 0 0, .slice none 0 0, .slice A2_ l2.length c2_, .slice none 0 0]) (t := 61) ?hr ?_; (case hd => rfl); (case hg => rfl); (case hr => first | (go_simp; done) | (go_simp; rfl)); intro gp hg w7 hbox hb; have HB7 := Aside0.mk hb; have BP := Aside0.mk hbox; have HGP := Aside0.mk hg; clear hb hbox hg))
      have HGU2 := Aside0.mk (show w4.heap.size ≤ gU from by rw [HGU.out]; exact Nat.le_refl _)
      have HB6 := Aside0.mk (show Below w4.heap.size w4 (w5.setCell ⟨gU, 0, none⟩ (.int .i64 (un op))) from HB5.out.setCell (p := ⟨gU, 0, none⟩) HGU2.out _)
      have BU6 := Aside0.mk (show (w5.setCell ⟨gU, 0, none⟩ (.int .i64 (un op))).heap[gU]? = some (.cells #[.int .i64 (un op)] 2 (0, 0)) from blk_put BU.out 0 _ rfl)
      generalize w5.setCell ⟨gU, 0, none⟩ (.int .i64 (un op)) = w6 at HB6 BU6 HB7 HGP
      have BO6 := Aside0.mk (blk_below BO4.out HB6.out)
      have HBw := Aside0.mk (below_step HB4.out HB6.out)
      obtain ⟨q0, q1, q2, q3⟩ := (refF_cases l0 l1 l2).1 HE2.out
      have hFn := fnOk_of w6 gU gO HOp.out ⟨blk_lt BU6.out, (blk_cell BU6.out 0).trans rfl⟩ ⟨blk_lt BO6.out, (blk_cell BO6.out 0).trans rfl⟩
      have hps := PS.start w6 gU gO A2_ c2_ l2 (Kd.C_below HR2.out HBw.out) HC2.out HGP.out HB7.out BP.out
      refine (run_walk hFn A0 c0 l0 A1_ c1_ l1 (Kd.C_below HR0.out HBw.out) HC0.out (Kd.C_below HR1.out HBw.out) HC1.out l2 _ hps q0 q1 q3 HI.out).mono ?_
      rintro e_ w8 ⟨rfl, g, hp, hrep⟩
      have HB8 := Aside0.mk (below_step HBw.out hp.hb)
      obtain ⟨s4, hs4⟩ : ∃ s4, play red l1 l2 (l0.map dd) = s4 := ⟨_, rfl⟩
      rw [hs4] at hrep
      have HS4 := Aside0.mk hs4
      have hvl : 0 < s4.views.length := by
        have h := Inv.run l1 (l0.map dd) 0 (Play.start red l2) [] (Inv.start l2) q3
        rw [List.nil_append] at h
        obtain ⟨i1, i2, i3⟩ := Inv.finish (l0.map dd).length _ _ _ h rfl
        have hb := i1.bound
        rw [i2, i3] at hb
        have := hb 0 (by simp [live])
        rw [← hs4]
        exact this
      obtain ⟨gv, vc, _, hF⟩ := view_facts hrep.toRep0 (fF_len gU gO) hvl hp
      obtain ⟨⟨x4, y0⟩, _⟩ := hF w8 hp
      obtain ⟨vn, hvn⟩ : ∃ vn, s4.views.length = vn := ⟨_, rfl⟩
      rw [hvn] at x4
      obtain ⟨fx, hfx⟩ : ∃ fx, HalvesLaw.F op (s4.views.getD 0 []) = fx := ⟨_, rfl⟩
      rw [hfx] at y0
      have HFx := Aside0.mk hfx
      have vn1 : ((0 : Int) < (vn : Int)) = True := eq_true (by omega)
      have vn2 : (0 < vn) = True := eq_true (by omega)
      clear hF hp hrep hs4 hvl hvn hfx q0 q1 q2 q3 hFn hps HB7 BP HGP BU6 BO6 BO4 xo xu zu
      go_wp2
      go_ret2
      exact ⟨by rw [HS4.out, HFx.out]; rfl, HB8.out⟩
    · rw [if_neg h2]
      have h2b : (e2 == 0) = false := beq_eq_false_iff_ne.mpr h2
      have h2c : (e2 != 0) = true := bne_iff_ne.mpr h2
      clear h2
      go_enter Tryd.func7, Tryd.ntmps7
      go_wp2_with ((with_reducible refine gate_dst (N := 4) rfl ?_); refine box_event ?hg (N := 4) ?hd (cs := #[.int .i64 op]) (t := 3) ?hr ?_; (case hd => rfl); (case hg => rfl); (case hr => first | (go_simp; done) | (go_simp; rfl)); intro gO hg w1 hbox hb; have HB1 := Aside0.mk hb; have BO := Aside0.mk hbox; have HGO := Aside0.mk hg; clear hb hbox hg; have xo : w1.cell? ⟨gO, 0, none⟩ = some (.int .i64 op) := (blk_cell BO.out 0).trans rfl)
      refine (HFold.out w1 HB1.out).mono ?_
      rintro e_ w2 ⟨rfl, hb⟩
      have HB2 := Aside0.mk (below_step HB1.out hb)
      have BO2 := Aside0.mk (blk_below BO.out hb)
      clear hb HFold xo BO
      go_wp2_with fail
      refine (HRef.out w2 HB2.out).mono ?_
      rintro e_ w3 ⟨rfl, hb⟩
      have HB3 := Aside0.mk (below_step HB2.out hb)
      clear hb HRef HB2
      go_wp2
      go_ret2
      exact ⟨rfl, HB3.out⟩
  · have hfold : foldV op l0 l1 l2 = (0, er) := by
      unfold foldV
      rw [her, if_neg h0]
    rw [hfold]
    have h2b : (er == 0) = false := beq_eq_false_iff_ne.mpr h0
    have h2c : (er != 0) = true := bne_iff_ne.mpr h0
    clear hfold her h0
    go_enter Tryd.func7, Tryd.ntmps7
    go_wp2_with ((with_reducible refine gate_dst (N := 4) rfl ?_); refine box_event ?hg (N := 4) ?hd (cs := #[.int .i64 op]) (t := 3) ?hr ?_; (case hd => rfl); (case hg => rfl); (case hr => first | (go_simp; done) | (go_simp; rfl)); intro gO hg w1 hbox hb; have HB1 := Aside0.mk hb; have BO := Aside0.mk hbox; have HGO := Aside0.mk hg; clear hb hbox hg; have xo : w1.cell? ⟨gO, 0, none⟩ = some (.int .i64 op) := (blk_cell BO.out 0).trans rfl)
    refine (HFold.out w1 HB1.out).mono ?_
    rintro e_ w2 ⟨rfl, hb⟩
    have HB2 := Aside0.mk (below_step HB1.out hb)
    have BO2 := Aside0.mk (blk_below BO.out hb)
    clear hb HFold xo BO
    go_wp2
    go_ret2
    exact ⟨rfl, HB2.out⟩
end Go.Proofs.YtamfkglnejhjdaaDoor.PlayState
