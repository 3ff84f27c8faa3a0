/- The document's Fold: what it answers. -/
import Derived.Test.YtamfkglnejhjdaaDoorMon
import Derived.Test.YtamfkglnejhjdaaDoorRefWhole
import Derived.Test.YtamfkglnejhjdaaDoorRefOpsC
import Derived.Test.YtamfkglnejhjdaaDoorOpsLaw
import Derived.Test.YtamfkglnejhjdaaDoorRefuse
namespace Go.Proofs.YtamfkglnejhjdaaDoor.HalvesLaw
open Go.RowKit Go.Proofs.YtamfkglnejhjdaaDoor.BitMath Go.Proofs.YtamfkglnejhjdaaDoor.Mon
/-- The fold from the unit. -/
def F (op : Int) (l : List Int) : Int := l.foldl (wk op) (un op)
theorem fold_in (op : Int) (l : List Int) (hl : ∀ x ∈ l, In64 x) : ∀ a, In64 a → In64 (l.foldl (wk op) a) := by
  induction l with
  | nil => intro a h; exact h
  | cons x r ih => intro a h; exact ih (fun y hy => hl y (by simp [hy])) _ (wk_in op h (hl x (by simp)))
theorem F_in (op : Int) (l : List Int) (hl : ∀ x ∈ l, In64 x) : In64 (F op l) := fold_in op l hl _ (un_in op)
theorem fold_F (op : Int) (hop : HasUnit op) (l : List Int) (hl : ∀ x ∈ l, In64 x) : ∀ a, In64 a → l.foldl (wk op) a = wk op a (F op l) := by
  induction l with
  | nil => intro a h; exact (wk_unit' op hop h).symm
  | cons x r ih =>
    intro a h
    have hx := hl x (by simp)
    have hr : ∀ y ∈ r, In64 y := fun y hy => hl y (by simp [hy])
    have e1 := ih hr _ (wk_in op h hx)
    have e2 := ih hr _ (wk_in op (un_in op) hx)
    show r.foldl (wk op) (wk op a x) = wk op a (r.foldl (wk op) (wk op (un op) x))
    rw [e1, e2, wk_unit op hop hx, wk_assoc]
theorem F_app (op : Int) (hop : HasUnit op) (l r : List Int) (hl : ∀ x ∈ l, In64 x) (hr : ∀ x ∈ r, In64 x) : F op (l ++ r) = wk op (F op l) (F op r) := by
  unfold F
  rw [List.foldl_append]
  exact fold_F op hop r hr _ (F_in op l hl)
end Go.Proofs.YtamfkglnejhjdaaDoor.HalvesLaw
namespace Go.Proofs.YtamfkglnejhjdaaDoor.Ref
open Go.RowKit Go.Proofs.YtamfkglnejhjdaaDoorW.PrintWords Go.Proofs.YtamfkglnejhjdaaDoorW.PrintLast Go.Proofs.YtamfkglnejhjdaaDoorW.PrintMore Go.Proofs.YtamfkglnejhjdaaDoor.PHyperFold
open Go.Proofs.YtamfkglnejhjdaaDoor.Play Go.Proofs.YtamfkglnejhjdaaDoor.Base Go.Proofs.YtamfkglnejhjdaaDoor.Refuse Go.Proofs.YtamfkglnejhjdaaDoor.Mon Go.Proofs.YtamfkglnejhjdaaDoor.FoldLaw Go.Proofs.YtamfkglnejhjdaaDoor.Tab Go.Proofs.YtamfkglnejhjdaaDoor.BitMath
set_option linter.unusedVariables false
set_option linter.unusedSimpArgs false
theorem apply_calls {w0 w : World} {gr : Nat} {g : Gr} (h : RS w0 w gr g) {op : Int} (hop : HasUnit op) (hg : g.op = op) (a b : Int) (ha : In64 a) (hb : In64 b) :
    Calls Tryd.prog 66 #[.pointer (some ⟨gr, 0, none⟩), .int .i64 a, .int .i64 b] w fun e w' => e = .returned (.int .i64 (wk op a b)) ∧ Below w.heap.size w w' := by
  have hb0 : 0 ≤ op ∧ op < 16 := by unfold HasUnit at hop; omega
  have hA : plunderref1_Apply.f 200 op a b = some (wk op a b, 0) := by
    unfold plunderref1_Apply.f
    rw [if_neg (by omega), if_neg (by omega), ref_work op a b ha hb 200 (by omega), Option.bind_some, wkA_wk hop]
  have HC := Aside0.mk (plunderref1_Apply.calls 200 op a b _ _ w hA)
  have x0 := h.cell.1
  rw [hg] at x0
  have l1 : decide (op < 0) = false := decide_eq_false (by omega)
  clear h hop hg ha hb hA hb0
  go_enter Tryd.func66, Tryd.ntmps66
  go_wp2_with fail
  refine HC.out.mono ?_
  rintro e w2 ⟨rfl, hd⟩
  have HB := Aside0.mk hd.below
  clear hd HC x0
  go_wp2
  go_ret
  exact ⟨rfl, HB.out⟩
theorem join_op (w0 : World) (gr : Nat) {op : Int} (hop : HasUnit op) : JoinOk w0 gr op (HalvesLaw.F op) In64 := fun w g a b h hg ha hb => by
  have := apply_calls h hop hg _ _ (HalvesLaw.F_in op a ha) (HalvesLaw.F_in op b hb)
  rw [← HalvesLaw.F_app op hop a b ha hb] at this
  exact this
theorem put_op (w0 : World) (gr : Nat) {op : Int} (hop : HasUnit op) : PutOk w0 gr op (HalvesLaw.F op) In64 := fun w g a x h hg ha hx => by
  have := apply_calls h hop hg _ _ (HalvesLaw.F_in op a ha) hx
  rw [show wk op (HalvesLaw.F op a) x = HalvesLaw.F op (a ++ [x]) by unfold HalvesLaw.F; rw [List.foldl_append]; rfl] at this
  exact this
theorem refused_f (l0 : List S46) (l1 : List Bool) (l2 : List Int) (k : Nat) (hk : 8200 ≤ k) (hc : plunderref19_Check.f k l0 = some (Base.chkF l0)) : plunderref23_Refused.f k l0 l1 l2 = some (refF l0 l1 l2) := by
  unfold plunderref23_Refused.f refF
  by_cases h0 : l0.length > 4096
  · rw [if_pos (by omega), if_pos (.inl h0)]
  · rw [if_neg (by omega)]
    by_cases h1 : l1.length > 4096
    · rw [if_pos (by omega), if_pos (.inr (.inl h1))]
    · rw [if_neg (by omega)]
      by_cases h2 : l2.length > 1048576
      · rw [if_pos (by omega), if_pos (.inr (.inr h2))]
      · rw [if_neg (by omega), if_neg (by omega), hc]
        rfl
/-- What Fold answers. -/
def foldV (op : Int) (l0 : List S46) (l1 : List Bool) (l2 : List Int) : Int × Int :=
  if (readyP op 0).2 = 0 then (if refF l0 l1 l2 = 0 then (HalvesLaw.F op ((play red l1 l2 (l0.map dd)).views.getD 0 []), 0) else (0, refF l0 l1 l2)) else (0, (readyP op 0).2)
theorem ready_unit0 {op : Int} (h : (readyP op 0).2 = 0) : HasUnit op ∧ unitOf op = (un op, true) := by
  have hu : HasUnit op := by
    unfold readyP at h
    split at h
    · split at h
      · rename_i h2; exact hasUnit_of h2
      · exact absurd h (by decide)
    · exact absurd h (by decide)
  exact ⟨hu, unitOf_un hu⟩
set_option maxHeartbeats 16000000 in
set_option maxRecDepth 100000 in
theorem reffold_calls (op : Int) (A0 : Option Addr) (c0 : Nat) (l0 : List S46) (A1_ : Option Addr) (c1_ : Nat) (l1 : List Bool) (A2_ : Option Addr) (c2_ : Nat) (l2 : List Int) (w : World) (hr0 : Kd.C k46 w A0 l0.length l0) (hc0 : l0.length ≤ c0) (hr1 : Kd.C Kd.bool w A1_ l1.length l1) (hc1 : l1.length ≤ c1_) (hr2 : Kd.C (Kd.int .i64) w A2_ l2.length l2) (hc2 : l2.length ≤ c2_) (hI : ∀ d, d ∈ l0 → In64 d.f1)
    (hchk : plunderref19_Check.f 8200 l0 = some (Base.chkF l0)) :
    Calls Tryd.prog 8 #[.int .i64 op, .slice A0 l0.length c0, .slice A1_ l1.length c1_, .slice A2_ l2.length c2_] w fun e w' => e = .returned (.tuple #[.int .i64 (foldV op l0 l1 l2).1, .int .i64 (foldV op l0 l1 l2).2]) ∧ Below w.heap.size w w' := by
  have HR0 := Aside0.mk hr0
  have HC0 := Aside0.mk hc0
  have HR1 := Aside0.mk hr1
  have HC1 := Aside0.mk hc1
  have HR2 := Aside0.mk hr2
  have HC2 := Aside0.mk hc2
  have HI := Aside0.mk hI
  obtain ⟨fv, hfv⟩ : ∃ fv, (foldP op []).1 = fv := ⟨_, rfl⟩
  obtain ⟨er, her⟩ : ∃ er, (readyP op 0).2 = er := ⟨_, rfl⟩
  have hfe : (foldP op []).2 = er := by
    unfold foldP
    rw [show (([] : List Int).length : Int) = 0 from rfl, her]
    split
    · rename_i h; exact h.symm
    · rfl
  have hF := ref_fold op [] (by simp) (by simp)
  rw [hfv, hfe] at hF
  have HFold := Aside0.mk (plunderref1_Fold.calls _ op none 0 [] fv er w (Kd.R_reads' (Kd.R_nil (Kd.int .i64) 2 w 0 (fun _ => True))).2.2 (Nat.le_refl _) hF)
  have HRef := Aside0.mk (fun w1 (hb : Below w.heap.size w w1) => plunderref23_Refused.calls 8200 A0 c0 l0 A1_ c1_ l1 A2_ c2_ l2 (refF l0 l1 l2) w1 (Kd.C_below hr0 hb) hc0 (Kd.C_below hr1 hb) hc1 (Kd.C_below hr2 hb) hc2 (refused_f l0 l1 l2 8200 (Nat.le_refl _) hchk))
  clear hr0 hc0 hr1 hc1 hr2 hc2 hI hF hchk hfe hfv
  by_cases h0 : er = 0
  · subst h0
    obtain ⟨hop, hun⟩ := ready_unit0 her
    obtain ⟨e2, he2⟩ : ∃ e2, refF l0 l1 l2 = e2 := ⟨_, rfl⟩
    have HE2 := Aside0.mk he2
    rw [he2] at HRef
    have hfold : foldV op l0 l1 l2 = if e2 = 0 then (HalvesLaw.F op ((play red l1 l2 (l0.map dd)).views.getD 0 []), 0) else (0, e2) := by
      unfold foldV
      rw [if_pos her, he2]
    rw [hfold]
    clear hfold
    have hU := ref_unit op 200 (by omega)
    rw [hun] at hU
    have HU := Aside0.mk (fun w1 => plunderref1_Unit.calls 200 op (un op) true w1 hU)
    have HOp := Aside0.mk hop
    clear hun hU her he2 hop
    by_cases h2 : e2 = 0
    · subst h2
      rw [if_pos rfl]
      go_enter Tryd.func8, Tryd.ntmps8
      go_wp2_with fail
      refine HFold.out.mono ?_
      rintro e_ w1 ⟨rfl, hd⟩
      have HB1 := Aside0.mk hd.below
      clear hd HFold
      go_wp2_with fail
      refine (HRef.out w1 HB1.out).mono ?_
      rintro e_ w2 ⟨rfl, hb⟩
      have HB2 := Aside0.mk (below_step HB1.out hb)
      clear hb HRef HB1
      go_wp2_with fail
      refine (HU.out w2).mono ?_
      rintro e_ w3 ⟨rfl, hd⟩
      have HB3 := Aside0.mk (below_step HB2.out hd.below)
      clear hd HU HB2
      go_wp2_with fail
      obtain ⟨q0, q1, q2, q3⟩ := (refF_cases l0 l1 l2).1 HE2.out
      refine (whole_calls A0 c0 l0 A1_ c1_ l1 A2_ c2_ l2 w3 (HalvesLaw.F op) op (un op) In64 (Kd.C_below HR0.out HB3.out) HC0.out (Kd.C_below HR1.out HB3.out) (Kd.C_below HR2.out HB3.out) HC2.out q0 q1 q2 q3 (fun gr => join_op w3 gr HOp.out) (fun gr => put_op w3 gr HOp.out) HI.out rfl).mono ?_
      rintro e_ w4 ⟨gp, g, rfl, hrs, hrep, hmd, hfo⟩
      have HB4 := Aside0.mk (below_step HB3.out hrs.hb)
      obtain ⟨s4, hs4⟩ : ∃ s4, play red l1 l2 (l0.map dd) = s4 := ⟨_, rfl⟩
      rw [hs4] at hrep hmd hfo
      have HS4 := Aside0.mk hs4
      have hvl : 0 < s4.views.length := by
        have h := Inv.run l1 (l0.map dd) 0 (Play.start red l2) [] (Inv.start l2) q3
        rw [List.nil_append] at h
        obtain ⟨i1, i2, i3⟩ := Inv.finish (l0.map dd).length _ _ _ h rfl
        have hb := i1.bound
        rw [i2, i3] at hb
        have := hb 0 (by simp [live])
        rw [← hs4]
        exact this
      obtain ⟨vb, vc, A1, c1, hvo, _, y0, _⟩ := hrs.view_R 0 (by rw [hrep.views_len]; exact hvl)
      rw [hrep.view hvl] at y0
      obtain ⟨vn, hvn⟩ : ∃ vn, s4.views.length = vn := ⟨_, rfl⟩
      have hvo2 : g.vo = (some ⟨vb, 0, none⟩, vn, vc) := by rw [hvo, hrep.views_len, hvn]
      have x2 : w4.cell? ⟨gp, 2, none⟩ = some (.slice (some ⟨vb, 0, none⟩) vn vc) := by rw [hrs.cell.2.2.1, hvo2]; rfl
      obtain ⟨fx, hfx⟩ : ∃ fx, HalvesLaw.F op (s4.views.getD 0 []) = fx := ⟨_, rfl⟩
      have HFx := Aside0.mk hfx
      replace y0 : w4.cell? ⟨vb, 1, none⟩ = some (.int .i64 fx) := by rw [← hfx]; exact y0
      have vn1 : ((0 : Int) < (vn : Int)) = True := eq_true (by omega)
      have vn2 : (0 < vn) = True := eq_true (by omega)
      clear hrs hrep hmd hfo hs4 hvl hvo hvn hvo2 hfx q0 q1 q2 q3 HB3
      go_wp2
      go_ret2
      exact ⟨by rw [HS4.out, HFx.out]; rfl, HB4.out⟩
    · rw [if_neg h2]
      have h2b : (e2 == 0) = false := beq_eq_false_iff_ne.mpr h2
      have h2c : (e2 != 0) = true := bne_iff_ne.mpr h2
      clear h2
      go_enter Tryd.func8, Tryd.ntmps8
      go_wp2_with fail
      refine HFold.out.mono ?_
      rintro e_ w1 ⟨rfl, hd⟩
      have HB1 := Aside0.mk hd.below
      clear hd HFold
      go_wp2_with fail
      refine (HRef.out w1 HB1.out).mono ?_
      rintro e_ w2 ⟨rfl, hb⟩
      have HB2 := Aside0.mk (below_step HB1.out hb)
      clear hb HRef HB1
      go_wp2
      go_ret2
      exact ⟨rfl, HB2.out⟩
  · have hfold : foldV op l0 l1 l2 = (0, er) := by
      unfold foldV
      rw [her, if_neg h0]
    rw [hfold]
    have h2b : (er == 0) = false := beq_eq_false_iff_ne.mpr h0
    have h2c : (er != 0) = true := bne_iff_ne.mpr h0
    clear hfold her h0
    go_enter Tryd.func8, Tryd.ntmps8
    go_wp2_with fail
    refine HFold.out.mono ?_
    rintro e_ w1 ⟨rfl, hd⟩
    have HB1 := Aside0.mk hd.below
    clear hd HFold HRef
    go_wp2
    go_ret2
    exact ⟨rfl, HB1.out⟩
end Go.Proofs.YtamfkglnejhjdaaDoor.Ref
