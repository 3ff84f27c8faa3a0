/- The law HyperNumbers: what it answers. -/
import Derived.Test.YtamfkglnejhjdaaDoorNumPure
import Derived.Test.YtamfkglnejhjdaaDoorPlayFold
namespace Go.Proofs.YtamfkglnejhjdaaDoor.HLaw
open Go.RowKit Go.Proofs.YtamfkglnejhjdaaDoorW.PrintWords Go.Proofs.YtamfkglnejhjdaaDoorW.PrintLast Go.Proofs.YtamfkglnejhjdaaDoorW.PrintMore Go.Proofs.YtamfkglnejhjdaaDoor.PHyperFold Go.Proofs.YtamfkglnejhjdaaDoor.BitMath Go.Proofs.YtamfkglnejhjdaaDoor.Tab Go.Proofs.YtamfkglnejhjdaaDoor.Play Go.Proofs.YtamfkglnejhjdaaDoor.FoldLaw
open Go.Proofs.YtamfkglnejhjdaaDoor.PlayState (hfold_calls)
open Go.Proofs.YtamfkglnejhjdaaDoor.Ref (foldV)
open Go.Proofs.YtamfkglnejhjdaaDoor.Refuse (refF)
open Go.Proofs.YtamfkglnejhjdaaDoor.Base (dd)
set_option linter.unusedVariables false
set_option linter.unusedSimpArgs false
set_option maxHeartbeats 16000000 in
set_option maxRecDepth 100000 in
theorem hnum_calls (op : Int) (A0 : Option Addr) (c0 : Nat) (l0 : List S46) (A1 : Option Addr) (c1 : Nat) (l1 : List Bool) (A2 : Option Addr) (c2 : Nat) (l2 : List Int) (w : World) (h00 : Kd.C k46 w A0 l0.length l0) (h01 : l0.length ≤ c0) (h10 : Kd.C Kd.bool w A1 l1.length l1) (h11 : l1.length ≤ c1) (h20 : Kd.C (Kd.int .i64) w A2 l2.length l2) (h21 : l2.length ≤ c2)
    (hI : ∀ d, d ∈ l0 → In64 d.f1) (hUn : UnitsAt w) :
    Calls Tryd.prog 4 #[.int .i64 op, .agg #[.slice A0 l0.length c0, .slice A1 l1.length c1, .slice A2 l2.length c2]] w fun e w' => e = .returned (.bool true) ∧ Below w.heap.size w w' := by
  have hu26 := Tryd.underlying26
  have hu29 := Tryd.underlying29
  have H0 := Aside0.mk (And.intro h00 h01)
  have H1 := Aside0.mk (And.intro h10 h11)
  have H2 := Aside0.mk (And.intro h20 h21)
  have HI := Aside0.mk hI
  have HUn := Aside0.mk hUn
  clear h00 h01 h10 h11 h20 h21 hI hUn
  have HNil := Aside0.mk (show ∀ w1, Below w.heap.size w w1 → Calls Tryd.prog 11 #[.int .i64 op, .slice none 0 0] w1 fun e w' => e = .returned (.tuple #[.int .i64 (foldP op []).1, .int .i64 (readyP op 0).2]) ∧ Below w1.heap.size w1 w' from fun w1 hb => by
    have h := fold_calls op none 0 [] w1 (Kd.R_reads' (Kd.R_nil (Kd.int .i64) 2 w1 0 (fun _ => True))).2.2 (by simp) (HUn.out.below hb)
    rw [foldP_nil] at h
    exact h)
  have HOk := Aside0.mk (right_f l0 l1 l2 8200 (Nat.le_refl _))
  obtain ⟨⟨fv, fe⟩, hfv⟩ : ∃ r, foldV op l0 l1 l2 = r := ⟨_, rfl⟩
  obtain ⟨nv, hnv⟩ : ∃ nv, (foldP op []).1 = nv := ⟨_, rfl⟩
  rw [hnv] at HNil
  have HFv := Aside0.mk hfv
  clear hfv hnv
  by_cases h0 : (readyP op 0).2 = 0
  · have HR0 := Aside0.mk h0
    rw [h0] at HNil
    cases hok : okG l0 l1 l2 with
    | false =>
      obtain ⟨e1, e2⟩ := foldV_bad h0 hok
      rw [hok] at HOk
      have e3 := HFv.out
      rw [e1] at e3
      obtain ⟨rfl, rfl⟩ := Prod.mk.inj e3
      obtain ⟨er, her⟩ : ∃ er, refF l0 l1 l2 = er := ⟨_, rfl⟩
      rw [her] at e2 HFv
      have e2b : (er == 0) = false := beq_eq_false_iff_ne.mpr e2
      have e2c : (er != 0) = true := bne_iff_ne.mpr e2
      clear e1 e3 her h0 hok e2
      go_enter Tryd.func4, Tryd.ntmps4
      go_wp2_with ((with_reducible refine gate_dst (N := 3) rfl ?_); refine box_event ?hg (N := 3) ?hd (cs := #[.slice A0 l0.length c0, .slice A1 l1.length c1, .slice A2 l2.length c2]) (t := 26) ?hr ?_; (case hd => rfl); (case hg => rfl); (case hr => first | (go_simp; done) | (go_simp; rfl)); intro gb hg w1 hbox hb; have HW1 := Aside0.mk hb; have BK1 := Aside0.mk hbox; clear hb hbox hg; have x0 : w1.cell? ⟨gb, 0, none⟩ = some (.slice A0 l0.length c0) := (blk_cell BK1.out 0).trans rfl; have x1 : w1.cell? ⟨gb, 1, none⟩ = some (.slice A1 l1.length c1) := (blk_cell BK1.out 1).trans rfl; have x2 : w1.cell? ⟨gb, 2, none⟩ = some (.slice A2 l2.length c2) := (blk_cell BK1.out 2).trans rfl)
      refine (hfold_calls op A0 c0 l0 A1 c1 l1 A2 c2 l2 w1 (Kd.C_below H0.out.1 HW1.out) H0.out.2 (Kd.C_below H1.out.1 HW1.out) H1.out.2 (Kd.C_below H2.out.1 HW1.out) H2.out.2 HI.out (HUn.out.below HW1.out)).mono ?_
      rintro e w2 ⟨rfl, hb⟩
      rw [HFv.out]
      dsimp only
      have HW2 := Aside0.mk (below_step HW1.out hb)
      have BK2 := Aside0.mk (blk_below BK1.out hb)
      clear hb x0 x1 x2
      go_wp2_with fail
      refine (HNil.out w2 HW2.out).mono ?_
      rintro e w3 ⟨rfl, hb⟩
      have HW3 := Aside0.mk (below_step HW2.out hb)
      have BK3 := Aside0.mk (blk_below BK2.out hb)
      clear hb HNil
      have x0 : w3.cell? ⟨gb, 0, none⟩ = some (.slice A0 l0.length c0) := (blk_cell BK3.out 0).trans rfl
      have x1 : w3.cell? ⟨gb, 1, none⟩ = some (.slice A1 l1.length c1) := (blk_cell BK3.out 1).trans rfl
      have x2 : w3.cell? ⟨gb, 2, none⟩ = some (.slice A2 l2.length c2) := (blk_cell BK3.out 2).trans rfl
      go_wp2_with fail
      refine (plunderlaw23_right.calls 8200 A0 c0 l0 A1 c1 l1 A2 c2 l2 _ w3 (Kd.C_below H0.out.1 HW3.out) H0.out.2 (Kd.C_below H1.out.1 HW3.out) H1.out.2 (Kd.C_below H2.out.1 HW3.out) H2.out.2 HOk.out).mono ?_
      rintro e w4 ⟨rfl, hb⟩
      have HW4 := Aside0.mk (below_step HW3.out hb)
      have BK4 := Aside0.mk (blk_below BK3.out hb)
      clear hb x0 x1 x2
      have x0 : w4.cell? ⟨gb, 0, none⟩ = some (.slice A0 l0.length c0) := (blk_cell BK4.out 0).trans rfl
      have x1 : w4.cell? ⟨gb, 1, none⟩ = some (.slice A1 l1.length c1) := (blk_cell BK4.out 1).trans rfl
      have x2 : w4.cell? ⟨gb, 2, none⟩ = some (.slice A2 l2.length c2) := (blk_cell BK4.out 2).trans rfl
      go_wp2
      go_ret
      exact ⟨by first | rfl | simp [e2b, e2c], HW4.out⟩
    | true =>
      have e1 := foldV_ok h0 hok
      have hlen := (okG_iff.1 hok).1
      have hpl := puts_le' (l0.map dd)
      rw [List.length_map] at hpl
      have e5 := foldP_wk h0 (puts (l0.map dd)) (by omega)
      have hp := puts_f l0 hlen l0.length (Nat.le_refl _) 8200 (by omega)
      rw [List.take_length] at hp
      rw [hok] at HOk
      have e3 := HFv.out
      rw [e1] at e3
      obtain ⟨rfl, rfl⟩ := Prod.mk.inj e3
      obtain ⟨ps, hps⟩ : ∃ ps, puts (l0.map dd) = ps := ⟨_, rfl⟩
      rw [hps] at hpl e5 hp HFv
      obtain ⟨fx, hfx⟩ : ∃ fx, HalvesLaw.F op ps = fx := ⟨_, rfl⟩
      rw [hfx] at HFv
      rw [hfx] at e5
      have HP := Aside0.mk hp
      have HF5 := Aside0.mk e5
      have HPl := Aside0.mk (show ps.length ≤ 9223372036854775807 by omega)
      clear e1 e3 hlen hpl e5 hp hps hfx h0 hok HR0
      go_enter Tryd.func4, Tryd.ntmps4
      go_wp2_with ((with_reducible refine gate_dst (N := 3) rfl ?_); refine box_event ?hg (N := 3) ?hd (cs := #[.slice A0 l0.length c0, .slice A1 l1.length c1, .slice A2 l2.length c2]) (t := 26) ?hr ?_; (case hd => rfl); (case hg => rfl); (case hr => first | (go_simp; done) | (go_simp; rfl)); intro gb hg w1 hbox hb; have HW1 := Aside0.mk hb; have BK1 := Aside0.mk hbox; clear hb hbox hg; have x0 : w1.cell? ⟨gb, 0, none⟩ = some (.slice A0 l0.length c0) := (blk_cell BK1.out 0).trans rfl; have x1 : w1.cell? ⟨gb, 1, none⟩ = some (.slice A1 l1.length c1) := (blk_cell BK1.out 1).trans rfl; have x2 : w1.cell? ⟨gb, 2, none⟩ = some (.slice A2 l2.length c2) := (blk_cell BK1.out 2).trans rfl)
      refine (hfold_calls op A0 c0 l0 A1 c1 l1 A2 c2 l2 w1 (Kd.C_below H0.out.1 HW1.out) H0.out.2 (Kd.C_below H1.out.1 HW1.out) H1.out.2 (Kd.C_below H2.out.1 HW1.out) H2.out.2 HI.out (HUn.out.below HW1.out)).mono ?_
      rintro e w2 ⟨rfl, hb⟩
      rw [HFv.out]
      dsimp only
      have HW2 := Aside0.mk (below_step HW1.out hb)
      have BK2 := Aside0.mk (blk_below BK1.out hb)
      clear hb x0 x1 x2
      go_wp2_with fail
      refine (HNil.out w2 HW2.out).mono ?_
      rintro e w3 ⟨rfl, hb⟩
      have HW3 := Aside0.mk (below_step HW2.out hb)
      have BK3 := Aside0.mk (blk_below BK2.out hb)
      clear hb HNil
      have x0 : w3.cell? ⟨gb, 0, none⟩ = some (.slice A0 l0.length c0) := (blk_cell BK3.out 0).trans rfl
      have x1 : w3.cell? ⟨gb, 1, none⟩ = some (.slice A1 l1.length c1) := (blk_cell BK3.out 1).trans rfl
      have x2 : w3.cell? ⟨gb, 2, none⟩ = some (.slice A2 l2.length c2) := (blk_cell BK3.out 2).trans rfl
      go_wp2_with fail
      refine (plunderlaw23_right.calls 8200 A0 c0 l0 A1 c1 l1 A2 c2 l2 _ w3 (Kd.C_below H0.out.1 HW3.out) H0.out.2 (Kd.C_below H1.out.1 HW3.out) H1.out.2 (Kd.C_below H2.out.1 HW3.out) H2.out.2 HOk.out).mono ?_
      rintro e w4 ⟨rfl, hb⟩
      have HW4 := Aside0.mk (below_step HW3.out hb)
      have BK4 := Aside0.mk (blk_below BK3.out hb)
      clear hb x0 x1 x2
      have x0 : w4.cell? ⟨gb, 0, none⟩ = some (.slice A0 l0.length c0) := (blk_cell BK4.out 0).trans rfl
      have x1 : w4.cell? ⟨gb, 1, none⟩ = some (.slice A1 l1.length c1) := (blk_cell BK4.out 1).trans rfl
      have x2 : w4.cell? ⟨gb, 2, none⟩ = some (.slice A2 l2.length c2) := (blk_cell BK4.out 2).trans rfl
      go_wp2_with fail
      refine (plunderlaw23_puts.calls 8200 A0 c0 l0 _ ps w4 (Kd.C_below H0.out.1 HW4.out) H0.out.2 HP.out).mono ?_
      rintro e w5 ⟨v0, rfl, ho, hb⟩
      obtain ⟨Q0, q0, rfl⟩ := Kd.R_slice ho
      have HQ := Aside0.mk (Kd.R_reads' ho).2.2
      have HW5 := Aside0.mk (below_step HW4.out hb)
      clear hb ho x0 x1 x2
      go_wp2_with fail
      refine (fold_calls op Q0 q0 ps w5 HQ.out HPl.out (HUn.out.below HW5.out)).mono ?_
      rintro e w6 ⟨rfl, hb⟩
      rw [HF5.out]
      dsimp only
      have HW6 := Aside0.mk (below_step HW5.out hb)
      clear hb
      go_wp2
      go_ret
      exact ⟨by first | rfl | simp, HW6.out⟩
  · have e1 := foldV_no h0 l0 l1 l2
    have e3 := HFv.out
    rw [e1] at e3
    obtain ⟨rfl, rfl⟩ := Prod.mk.inj e3
    obtain ⟨er, her⟩ : ∃ er, (readyP op 0).2 = er := ⟨_, rfl⟩
    rw [her] at h0 HFv HNil
    have h0b : (er == 0) = false := beq_eq_false_iff_ne.mpr h0
    have h0c : (er != 0) = true := bne_iff_ne.mpr h0
    clear e1 e3 her h0
    go_enter Tryd.func4, Tryd.ntmps4
    go_wp2_with ((with_reducible refine gate_dst (N := 3) rfl ?_); refine box_event ?hg (N := 3) ?hd (cs := #[.slice A0 l0.length c0, .slice A1 l1.length c1, .slice A2 l2.length c2]) (t := 26) ?hr ?_; (case hd => rfl); (case hg => rfl); (case hr => first | (go_simp; done) | (go_simp; rfl)); intro gb hg w1 hbox hb; have HW1 := Aside0.mk hb; have BK1 := Aside0.mk hbox; clear hb hbox hg; have x0 : w1.cell? ⟨gb, 0, none⟩ = some (.slice A0 l0.length c0) := (blk_cell BK1.out 0).trans rfl; have x1 : w1.cell? ⟨gb, 1, none⟩ = some (.slice A1 l1.length c1) := (blk_cell BK1.out 1).trans rfl; have x2 : w1.cell? ⟨gb, 2, none⟩ = some (.slice A2 l2.length c2) := (blk_cell BK1.out 2).trans rfl)
    refine (hfold_calls op A0 c0 l0 A1 c1 l1 A2 c2 l2 w1 (Kd.C_below H0.out.1 HW1.out) H0.out.2 (Kd.C_below H1.out.1 HW1.out) H1.out.2 (Kd.C_below H2.out.1 HW1.out) H2.out.2 HI.out (HUn.out.below HW1.out)).mono ?_
    rintro e w2 ⟨rfl, hb⟩
    rw [HFv.out]
    dsimp only
    have HW2 := Aside0.mk (below_step HW1.out hb)
    have BK2 := Aside0.mk (blk_below BK1.out hb)
    clear hb x0 x1 x2
    go_wp2_with fail
    refine (HNil.out w2 HW2.out).mono ?_
    rintro e w3 ⟨rfl, hb⟩
    have HW3 := Aside0.mk (below_step HW2.out hb)
    have BK3 := Aside0.mk (blk_below BK2.out hb)
    clear hb HNil
    have x0 : w3.cell? ⟨gb, 0, none⟩ = some (.slice A0 l0.length c0) := (blk_cell BK3.out 0).trans rfl
    have x1 : w3.cell? ⟨gb, 1, none⟩ = some (.slice A1 l1.length c1) := (blk_cell BK3.out 1).trans rfl
    have x2 : w3.cell? ⟨gb, 2, none⟩ = some (.slice A2 l2.length c2) := (blk_cell BK3.out 2).trans rfl
    go_wp2
    go_ret
    exact ⟨by first | rfl | simp, HW3.out⟩
end Go.Proofs.YtamfkglnejhjdaaDoor.HLaw
