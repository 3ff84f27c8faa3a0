/- The document's Play: what it answers. -/
import Derived.Test.YtamfkglnejhjdaaRefWhole
import Derived.Test.YtamfkglnejhjdaaRefRefused
import Derived.Test.YtamfkglnejhjdaaBaseR
import Derived.Test.YtamfkglnejhjdaaPlayD
namespace Go.Proofs.Ytamfkglnejhjdaa.Ref
open Go.RowKit Go.Proofs.YtamfkglnejhjdaaW.PrintWords Go.Proofs.YtamfkglnejhjdaaW.PrintLast Go.Proofs.YtamfkglnejhjdaaW.PrintMore Go.Proofs.Ytamfkglnejhjdaa.PHyperSerial Go.Proofs.Ytamfkglnejhjdaa.Kinds
open Go.Proofs.Ytamfkglnejhjdaa.Play Go.Proofs.Ytamfkglnejhjdaa.Base Go.Proofs.Ytamfkglnejhjdaa.Refuse
open Go.Proofs.Ytamfkglnejhjdaa.PlayState (playF puts_le play_first play_inv)
set_option linter.unusedVariables false
set_option linter.unusedSimpArgs false
theorem apply_calls {w0 w : World} {gr : Nat} {g : Gr} (h : RS w0 w gr g) (hop : g.op = -1) (a b : Int) :
    Calls Try.prog 46 #[.pointer (some ⟨gr, 0, none⟩), .int .i64 a, .int .i64 b] w fun e w' => e = .returned (.int .i64 0) ∧ w' = w := by
  have x0 := h.cell.1
  rw [hop] at x0
  clear h hop
  go_enter Try.func46, Try.ntmps46
  go_wp2
  go_ret
  exact ⟨rfl, rfl⟩
theorem join_none (w0 : World) (gr : Nat) : JoinOk w0 gr (-1) (fun _ => 0) (fun _ => True) := fun w g a b h hop _ _ =>
  (apply_calls h hop 0 0).mono fun e w' ⟨h1, h2⟩ => ⟨h1, by rw [h2]; exact Below.refl _ _⟩
theorem put_none (w0 : World) (gr : Nat) : PutOk w0 gr (-1) (fun _ => 0) (fun _ => True) := fun w g a x h hop _ _ =>
  (apply_calls h hop 0 x).mono fun e w' ⟨h1, h2⟩ => ⟨h1, by rw [h2]; exact Below.refl _ _⟩
theorem refused_f (l0 : List S46) (l1 : List Bool) (l2 : List Int) (k : Nat) (hk : 8200 ≤ k) : plunderref23_Refused.f k l0 l1 l2 = some (refF l0 l1 l2) := by
  unfold plunderref23_Refused.f refF
  by_cases h0 : l0.length > 4096
  · rw [if_pos (by omega), if_pos (.inl h0)]
  · rw [if_neg (by omega)]
    by_cases h1 : l1.length > 4096
    · rw [if_pos (by omega), if_pos (.inr (.inl h1))]
    · rw [if_neg (by omega)]
      by_cases h2 : l2.length > 1048576
      · rw [if_pos (by omega), if_pos (.inr (.inr h2))]
      · rw [if_neg (by omega), if_neg (by omega), Base.refcheck_f l0 k hk]
        rfl
/-- What the document's Play leaves behind. -/
def REnd (w w' : World) (e : Ending) (r : List Int × Int × List S44 × List (List Int) × Int) : Prop :=
  ∃ v0_ v2_ v3_ : Value, e = .returned (.tuple #[.agg #[v0_, .int .i64 r.2.1, v2_, v3_], .int .i64 r.2.2.2.2]) ∧ Kd.R (Kd.int .i64) 2 w' w.heap.size (fun _ => True) v0_ r.1 ∧ Kd.R k44 44 w' w.heap.size (fun _ => True) v2_ r.2.2.1 ∧ Kd.R kL 28 w' w.heap.size (fun _ => True) v3_ r.2.2.2.1 ∧ Below w.heap.size w w'
theorem REnd.stores {w w' : World} {e : Ending} {r : List Int × Int × List S44 × List (List Int) × Int} {g : Nat} {cs : Array Value} (h : REnd w w' e r) (hb : w'.heap[g]? = some (.cells cs 39 (0, 0))) (hg : w.heap.size ≤ g) (i : Nat) (u : Value) : REnd w (w'.setCell ⟨g, i, none⟩ u) e r := by
  obtain ⟨v0, v2, v3, h1, h2, h3, h4, h5⟩ := h
  exact ⟨v0, v2, v3, h1, R_only h2 (by decide) (Only.set hb), R_only h3 (fun q hq => by rw [E_m q hq]; decide) (Only.set hb), R_only h4 (fun q hq => by rcases E_l q hq with rfl | rfl <;> decide) (Only.set hb), h5.setCell (p := ⟨g, i, none⟩) hg u⟩
set_option maxHeartbeats 16000000 in
set_option maxRecDepth 100000 in
theorem refplay_calls (A0 : Option Addr) (c0 : Nat) (l0 : List S46) (A1_ : Option Addr) (c1_ : Nat) (l1 : List Bool) (A2_ : Option Addr) (c2_ : Nat) (l2 : List Int) (w : World) (hr0 : Kd.C k46 w A0 l0.length l0) (hc0 : l0.length ≤ c0) (hr1 : Kd.C Kd.bool w A1_ l1.length l1) (hc1 : l1.length ≤ c1_) (hr2 : Kd.C (Kd.int .i64) w A2_ l2.length l2) (hc2 : l2.length ≤ c2_) :
    Calls Try.prog 16 #[.slice A0 l0.length c0, .slice A1_ l1.length c1_, .slice A2_ l2.length c2_] w fun e w' => REnd w w' e (playF l0 l1 l2) := by
  have hu39 := Try.underlying39
  have HR0 := Aside0.mk hr0
  have HC0 := Aside0.mk hc0
  have HR1 := Aside0.mk hr1
  have HC1 := Aside0.mk hc1
  have HR2 := Aside0.mk hr2
  have HC2 := Aside0.mk hc2
  have b1 := below_alloc (Below.refl w.heap.size w) (.cells #[.slice none 0 0, .int .i64 0, .slice none 0 0, .slice none 0 0] 39)
  have HB1 := Aside0.mk b1
  have HN1 := Aside0.mk (blk_new w (.cells #[.slice none 0 0, .int .i64 0, .slice none 0 0, .slice none 0 0] 39))
  obtain ⟨e, he⟩ : ∃ e, e = refF l0 l1 l2 := ⟨_, rfl⟩
  have HE := Aside0.mk he
  have HRef := Aside0.mk (plunderref23_Refused.calls 8200 A0 c0 l0 A1_ c1_ l1 A2_ c2_ l2 e (w.alloc (.cells #[.slice none 0 0, .int .i64 0, .slice none 0 0, .slice none 0 0] 39)) (Kd.C_below hr0 b1) hc0 (Kd.C_below hr1 b1) hc1 (Kd.C_below hr2 b1) hc2 (by rw [he]; exact refused_f l0 l1 l2 8200 (Nat.le_refl _)))
  clear hr0 hc0 hr1 hc1 hr2 hc2 b1 he
  by_cases h0 : e = 0
  · subst h0
    go_enter Try.func16, Try.ntmps16
    go_wp2_with fail
    refine HRef.out.mono ?_
    rintro e_ w1 ⟨rfl, hb⟩
    have HB2 := Aside0.mk (below_step HB1.out (by exact hb))
    have HBR := Aside0.mk (blk_below HN1.out hb)
    clear hb HRef HB1 HN1
    go_wp2_with fail
    obtain ⟨q0, q1, q2, q3⟩ := (refF_cases l0 l1 l2).1 HE.out.symm
    refine (whole_calls A0 c0 l0 A1_ c1_ l1 A2_ c2_ l2 w1 (fun _ => 0) (-1) 0 (fun _ => True) (Kd.C_below HR0.out HB2.out) HC0.out (Kd.C_below HR1.out HB2.out) (Kd.C_below HR2.out HB2.out) HC2.out q0 q1 q2 q3 (fun gr => join_none w1 gr) (fun gr => put_none w1 gr) (fun _ _ => trivial) rfl).mono ?_
    rintro e_ w2 ⟨gp, g, rfl, hrs, hrep, hmd, hfo⟩
    have hle : w.heap.size ≤ w1.heap.size := below_size HB2.out
    have hBw := below_step HB2.out hrs.hb
    obtain ⟨⟨fA, fn, fc⟩, hfoe⟩ : ∃ t : Sl, g.fo = t := ⟨_, rfl⟩
    obtain ⟨⟨mA, mn, mc⟩, hmoe⟩ : ∃ t : Sl, g.mo = t := ⟨_, rfl⟩
    obtain ⟨⟨kA, kn, kc⟩, hloe⟩ : ∃ t : Sl, g.lo = t := ⟨_, rfl⟩
    obtain ⟨md, hmde⟩ : ∃ md, g.md = md := ⟨_, rfl⟩
    have hx0 : w2.cell? ⟨gp, 7, none⟩ = some (.slice fA fn fc) := (blk_cell hrs.bp 7).trans (by show some (slv g.fo) = _; rw [hfoe]; rfl)
    have hx1 : w2.cell? ⟨gp, 8, none⟩ = some (.int .i64 md) := (blk_cell hrs.bp 8).trans (by show some (Value.int .i64 g.md) = _; rw [hmde])
    have hx2 : w2.cell? ⟨gp, 9, none⟩ = some (.slice mA mn mc) := (blk_cell hrs.bp 9).trans (by show some (slv g.mo) = _; rw [hmoe]; rfl)
    have hx3 : w2.cell? ⟨gp, 10, none⟩ = some (.slice kA kn kc) := (blk_cell hrs.bp 10).trans (by show some (slv g.lo) = _; rw [hloe]; rfl)
    obtain ⟨gr, hgr⟩ : ∃ gr, w.heap.size = gr := ⟨_, rfl⟩
    have hbr := blk_below (show w1.heap[w.heap.size]? = _ from HBR.out) hrs.hb
    rw [hgr] at hbr ⊢
    have hy0 : w2.cell? ⟨gr, 0, none⟩ = some (.slice none 0 0) := (blk_cell hbr 0).trans rfl
    have hy1 : w2.cell? ⟨gr, 1, none⟩ = some (.int .i64 0) := (blk_cell hbr 1).trans rfl
    have hy2 : w2.cell? ⟨gr, 2, none⟩ = some (.slice none 0 0) := (blk_cell hbr 2).trans rfl
    have hy3 : w2.cell? ⟨gr, 3, none⟩ = some (.slice none 0 0) := (blk_cell hbr 3).trans rfl
    have hz0 := blk_frozen hbr 0
    have hz1 := blk_frozen hbr 1
    have hz2 := blk_frozen hbr 2
    have hz3 := blk_frozen hbr 3
    have HEnd : Aside0 (REnd w w2 (.returned (.tuple #[.agg #[.slice fA fn fc, .int .i64 md, .slice mA mn mc, .slice kA kn kc], .int .i64 0])) (playF l0 l1 l2)) := by
      have hv := (play_first (l1 := l1) (l2 := l2) q3).1
      have e1 : playF l0 l1 l2 = ((play red l1 l2 (l0.map dd)).views.getD 0 [], ((play red l1 l2 (l0.map dd)).views.length : Int), (play red l1 l2 (l0.map dd)).merges.map PlayState.mS, (play red l1 l2 (l0.map dd)).looks, 0) := by
        unfold playF
        rw [if_pos HE.out.symm]
      rw [e1]
      have r1 := hfo
      have r2 := hrs.rw.m
      have r3 := hrs.rw.l
      rw [hfoe] at r1
      rw [hmoe, hrep.ms] at r2
      rw [hloe, hrep.ls] at r3
      refine ⟨⟨_, _, _, ?_, Kd.R_lower r1 hle, Kd.R_lower (show Kd.R k44 44 w2 w1.heap.size (fun _ => True) (.slice mA mn mc) _ from r2) hle, Kd.R_lower r3 hle, hBw⟩⟩
      rw [← hmde, hmd]
      rfl
    have HGR := Aside0.mk hgr
    have HBr := Aside0.mk hbr
    clear hrs hrep hmd hfo hle hBw hfoe hmoe hloe hmde hbr hgr q0 q1 q2 q3 HBR
    go_wp2
    refine bodyPost_ret (results_ct rfl _ _ gr 39 #[.slice fA fn fc, .int .i64 md, .slice mA mn mc, .slice kA kn kc] (0, 0) _ rfl (blk_put (cs := #[.slice fA fn fc, .int .i64 md, .slice mA mn mc, .slice none 0 0]) (blk_put (cs := #[.slice fA fn fc, .int .i64 md, .slice none 0 0, .slice none 0 0]) (blk_put (cs := #[.slice fA fn fc, .int .i64 0, .slice none 0 0, .slice none 0 0]) (blk_put HBr.out 0 _ rfl) 1 _ rfl) 2 _ rfl) 3 _ rfl) Try.underlying39 rfl (by kernel_rfl)) rfl ?_
    have hge : w.heap.size ≤ gr := by rw [HGR.out]; exact Nat.le_refl _
    have k1 := HEnd.out.stores HBr.out hge 0 (.slice fA fn fc)
    have k2 := k1.stores (blk_set HBr.out 0 _) hge 1 (.int .i64 md)
    have k3 := k2.stores (blk_set (blk_set HBr.out 0 _) 1 _) hge 2 (.slice mA mn mc)
    exact k3.stores (blk_set (blk_set (blk_set HBr.out 0 _) 1 _) 2 _) hge 3 (.slice kA kn kc)
  · have h0b : (e == 0) = false := beq_eq_false_iff_ne.mpr h0
    have h0c : (e != 0) = true := bne_iff_ne.mpr h0
    have HNE := Aside0.mk h0
    clear h0
    go_enter Try.func16, Try.ntmps16
    go_wp2_with fail
    refine HRef.out.mono ?_
    rintro e_ w1 ⟨rfl, hb⟩
    have HB2 := Aside0.mk (below_step HB1.out (by exact hb))
    have hbr := blk_below HN1.out hb
    clear hb HRef HB1 HN1
    obtain ⟨gr, hgr⟩ : ∃ gr, w.heap.size = gr := ⟨_, rfl⟩
    rw [hgr] at hbr ⊢
    have hy0 : w1.cell? ⟨gr, 0, none⟩ = some (.slice none 0 0) := (blk_cell hbr 0).trans rfl
    have hy1 : w1.cell? ⟨gr, 1, none⟩ = some (.int .i64 0) := (blk_cell hbr 1).trans rfl
    have hy2 : w1.cell? ⟨gr, 2, none⟩ = some (.slice none 0 0) := (blk_cell hbr 2).trans rfl
    have hy3 : w1.cell? ⟨gr, 3, none⟩ = some (.slice none 0 0) := (blk_cell hbr 3).trans rfl
    have hz0 := blk_frozen hbr 0
    have hz1 := blk_frozen hbr 1
    have hz2 := blk_frozen hbr 2
    have hz3 := blk_frozen hbr 3
    have HEnd : Aside0 (REnd w w1 (.returned (.tuple #[.agg #[.slice none 0 0, .int .i64 0, .slice none 0 0, .slice none 0 0], .int .i64 e])) (playF l0 l1 l2)) := by
      have e1 : playF l0 l1 l2 = ([], 0, [], [], e) := by
        unfold playF
        rw [← HE.out, if_neg HNE.out]
      rw [e1]
      exact ⟨⟨_, _, _, rfl, Kd.R_nil _ _ _ _ _, Kd.R_nil _ _ _ _ _, Kd.R_nil _ _ _ _ _, HB2.out⟩⟩
    have HBR := Aside0.mk hbr
    have HGR := Aside0.mk hgr
    clear hbr hgr
    go_wp2
    refine bodyPost_ret (results_ct rfl _ _ gr 39 #[.slice none 0 0, .int .i64 0, .slice none 0 0, .slice none 0 0] (0, 0) _ rfl (blk_put (cs := #[.slice none 0 0, .int .i64 0, .slice none 0 0, .slice none 0 0]) (blk_put (cs := #[.slice none 0 0, .int .i64 0, .slice none 0 0, .slice none 0 0]) (blk_put (cs := #[.slice none 0 0, .int .i64 0, .slice none 0 0, .slice none 0 0]) (blk_put HBR.out 0 _ rfl) 1 _ rfl) 2 _ rfl) 3 _ rfl) Try.underlying39 rfl (by kernel_rfl)) rfl ?_
    have hge : w.heap.size ≤ gr := by rw [HGR.out]; exact Nat.le_refl _
    have k1 := HEnd.out.stores HBR.out hge 0 (.slice none 0 0)
    have k2 := k1.stores (blk_set HBR.out 0 _) hge 1 (.int .i64 0)
    have k3 := k2.stores (blk_set (blk_set HBR.out 0 _) 1 _) hge 2 (.slice none 0 0)
    exact k3.stores (blk_set (blk_set (blk_set HBR.out 0 _) 1 _) 2 _) hge 3 (.slice none 0 0)
end Go.Proofs.Ytamfkglnejhjdaa.Ref
