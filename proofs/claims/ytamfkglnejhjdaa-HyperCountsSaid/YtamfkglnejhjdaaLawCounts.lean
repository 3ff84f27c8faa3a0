/- The law HyperCounts: what it answers (began as a printed text). -/
import Derived.Test.YtamfkglnejhjdaaLawMade
import Derived.Test.YtamfkglnejhjdaaPlayD
namespace Go.Proofs.Ytamfkglnejhjdaa.HLaw
open Go.Proofs.Ytamfkglnejhjdaa.PHyperSerial Go.Proofs.Ytamfkglnejhjdaa.Kinds
open Go.Proofs.Ytamfkglnejhjdaa.PlayState (hyper_Play.f hyper_Play.calls)
open Go.RowKit Go.Proofs.YtamfkglnejhjdaaW.PrintWords Go.Proofs.YtamfkglnejhjdaaW.PrintLast Go.Proofs.YtamfkglnejhjdaaW.PrintMore
attribute [local go_sem] max2_int min2_int max_two min_two max_three min_three max_four min_four   -- for this text's walks alone
set_option linter.unusedVariables false
set_option linter.unusedSimpArgs false

/-! ### plunderlaw23_HyperCounts: function 5 -/
mutual
def plunderlaw23_HyperCounts.j0 : Nat → Bool → List (S46) → List Bool → List Int → List Int → Int → List (S44) → List (List Int) → Option (Bool)
  | 0, _, _, _, _, _, _, _, _ => none
  | k + 1, x53, x126000, x126001, x126002, x151000, x151001, x151002, x151003 => if x53 = true then (some false) else (if 0 ≤ x151001 then (if (x151001 : Int).toNat ≤ 281474976710656 then (plunderlaw23_HyperCounts.l0 k (List.replicate (x151001 : Int).toNat false) 0 0 x126000 x126001 x126002 x151000 x151001 x151002 x151003) else (none)) else (none))
def plunderlaw23_HyperCounts.l0 : Nat → List Bool → Int → Int → List (S46) → List Bool → List Int → List Int → Int → List (S44) → List (List Int) → Option (Bool)
  | 0, _, _, _, _, _, _, _, _, _, _ => none
  | k + 1, x7, x8, x9, x126000, x126001, x126002, x151000, x151001, x151002, x151003 => if x9 < (x151002.length : Int) then (if 0 ≤ x9 then (if ((rd_T44 x151002 x9).f1) < 0 then (plunderlaw23_HyperCounts.j2 k x7 x9 true x126000 x126001 x126002 x151000 x151001 x151002 x151003 ((rd_T44 x151002 x9).f0) ((rd_T44 x151002 x9).f1) ((rd_T44 x151002 x9).f2)) else (if ((rd_T44 x151002 x9).f1) ≥ ((rd_T44 x151002 x9).f2) then (plunderlaw23_HyperCounts.j2 k x7 x9 true x126000 x126001 x126002 x151000 x151001 x151002 x151003 ((rd_T44 x151002 x9).f0) ((rd_T44 x151002 x9).f1) ((rd_T44 x151002 x9).f2)) else (if ((rd_T44 x151002 x9).f2) ≥ x151001 then (plunderlaw23_HyperCounts.j2 k x7 x9 true x126000 x126001 x126002 x151000 x151001 x151002 x151003 ((rd_T44 x151002 x9).f0) ((rd_T44 x151002 x9).f1) ((rd_T44 x151002 x9).f2)) else (if 0 ≤ ((rd_T44 x151002 x9).f1) then (if ((rd_T44 x151002 x9).f1) < (x7.length : Int) then (if rdOf false x7 ((rd_T44 x151002 x9).f1) = true then (plunderlaw23_HyperCounts.j2 k x7 x9 true x126000 x126001 x126002 x151000 x151001 x151002 x151003 ((rd_T44 x151002 x9).f0) ((rd_T44 x151002 x9).f1) ((rd_T44 x151002 x9).f2)) else (if 0 ≤ ((rd_T44 x151002 x9).f2) then (if ((rd_T44 x151002 x9).f2) < (x7.length : Int) then (if rdOf false x7 ((rd_T44 x151002 x9).f2) = true then (plunderlaw23_HyperCounts.j2 k x7 x9 true x126000 x126001 x126002 x151000 x151001 x151002 x151003 ((rd_T44 x151002 x9).f0) ((rd_T44 x151002 x9).f1) ((rd_T44 x151002 x9).f2)) else (if ((rd_T44 x151002 x9).f0) < x8 then (plunderlaw23_HyperCounts.j2 k x7 x9 true x126000 x126001 x126002 x151000 x151001 x151002 x151003 ((rd_T44 x151002 x9).f0) ((rd_T44 x151002 x9).f1) ((rd_T44 x151002 x9).f2)) else (plunderlaw23_HyperCounts.j2 k x7 x9 (decide (((rd_T44 x151002 x9).f0) > (x126000.length : Int))) x126000 x126001 x126002 x151000 x151001 x151002 x151003 ((rd_T44 x151002 x9).f0) ((rd_T44 x151002 x9).f1) ((rd_T44 x151002 x9).f2)))) else (none)) else (none))) else (none)) else (none))))) else (none)) else (some true)
def plunderlaw23_HyperCounts.j2 : Nat → List Bool → Int → Bool → List (S46) → List Bool → List Int → List Int → Int → List (S44) → List (List Int) → Int → Int → Int → Option (Bool)
  | 0, _, _, _, _, _, _, _, _, _, _, _, _, _ => none
  | k + 1, x7, x9, x113, x126000, x126001, x126002, x151000, x151001, x151002, x151003, x157000, x157001, x157002 => if x113 = true then (some false) else (if x157000 < (x126000.length : Int) then (if 0 ≤ x157000 then (if ((rd_T46 x126000 x157000).f0) = 2 then (if 0 ≤ x157002 then (if x157002 < (x7.length : Int) then (plunderlaw23_HyperCounts.l0 k (x7.set (x157002 : Int).toNat true) x157000 (wrap64 (x9 + 1)) x126000 x126001 x126002 x151000 x151001 x151002 x151003) else (none)) else (none)) else (if ((rd_T46 x126000 x157000).f0) = 1 then (if 0 ≤ x157002 then (if x157002 < (x7.length : Int) then (plunderlaw23_HyperCounts.l0 k (x7.set (x157002 : Int).toNat true) x157000 (wrap64 (x9 + 1)) x126000 x126001 x126002 x151000 x151001 x151002 x151003) else (none)) else (none)) else (some false))) else (none)) else (if 0 ≤ x157002 then (if x157002 < (x7.length : Int) then (plunderlaw23_HyperCounts.l0 k (x7.set (x157002 : Int).toNat true) x157000 (wrap64 (x9 + 1)) x126000 x126001 x126002 x151000 x151001 x151002 x151003) else (none)) else (none)))
end
def plunderlaw23_HyperCounts.f (k : Nat) (l0_0 : List (S46)) (l0_1 : List Bool) (l0_2 : List Int) : Option (Bool) := (plunderlaw23_right.f k l0_0 l0_1 l0_2).bind fun t126 => (if t126 = true then ((hyper_Play.f l0_0 l0_1 l0_2).bind fun bt139 => (if bt139.2.2.2.2 = 0 then ((plunderlaw23_made.f k l0_0 l0_1 l0_2).bind fun t151 => (if bt139.2.1 = t151 then (plunderlaw23_HyperCounts.j0 k ((bt139.2.2.1.length : Int) != (wrap64 (bt139.2.1 - 1))) l0_0 l0_1 l0_2 bt139.1 bt139.2.1 bt139.2.2.1 bt139.2.2.2.1) else (plunderlaw23_HyperCounts.j0 k true l0_0 l0_1 l0_2 bt139.1 bt139.2.1 bt139.2.2.1 bt139.2.2.2.1))) else (plunderlaw23_HyperCounts.j0 k true l0_0 l0_1 l0_2 bt139.1 bt139.2.1 bt139.2.2.1 bt139.2.2.2.1))) else ((hyper_Play.f l0_0 l0_1 l0_2).bind fun bt127 => (some (bt127.2.2.2.2 != 0))))
theorem plunderlaw23_HyperCounts.mono_l : ∀ k, (∀ y0 y1 y2 y3 y4 y5 y6 y7, LeO (plunderlaw23_HyperCounts.j0 k y0 y1 y2 y3 y4 y5 y6 y7) (plunderlaw23_HyperCounts.j0 (k + 1) y0 y1 y2 y3 y4 y5 y6 y7)) ∧ (∀ y0 y1 y2 y3 y4 y5 y6 y7 y8 y9, LeO (plunderlaw23_HyperCounts.l0 k y0 y1 y2 y3 y4 y5 y6 y7 y8 y9) (plunderlaw23_HyperCounts.l0 (k + 1) y0 y1 y2 y3 y4 y5 y6 y7 y8 y9)) ∧ (∀ y0 y1 y2 y3 y4 y5 y6 y7 y8 y9 y10 y11 y12, LeO (plunderlaw23_HyperCounts.j2 k y0 y1 y2 y3 y4 y5 y6 y7 y8 y9 y10 y11 y12) (plunderlaw23_HyperCounts.j2 (k + 1) y0 y1 y2 y3 y4 y5 y6 y7 y8 y9 y10 y11 y12))
  | 0 => ⟨fun _ _ _ _ _ _ _ _ r h => by simp [plunderlaw23_HyperCounts.j0] at h, fun _ _ _ _ _ _ _ _ _ _ r h => by simp [plunderlaw23_HyperCounts.l0] at h, fun _ _ _ _ _ _ _ _ _ _ _ _ _ r h => by simp [plunderlaw23_HyperCounts.j2] at h⟩
  | k + 1 => by
    obtain ⟨ih0, ih1, ih2⟩ := plunderlaw23_HyperCounts.mono_l k
    refine ⟨?_, ?_, ?_⟩
    · intro y0 y1 y2 y3 y4 y5 y6 y7
      unfold plunderlaw23_HyperCounts.j0
      repeat' first
      | (with_reducible exact ih0 _ _ _ _ _ _ _ _)
      | (with_reducible exact ih1 _ _ _ _ _ _ _ _ _ _)
      | (with_reducible exact ih2 _ _ _ _ _ _ _ _ _ _ _ _ _)
      | (with_reducible exact plunderlaw23_made.mono _ _ _ _)
      | (with_reducible exact plunderlaw23_right.mono _ _ _ _)
      | (with_reducible exact LeO.refl _)
      | (with_reducible exact LeO.none _)
      | (with_reducible refine LeO.ite ?_ ?_)
      | (with_reducible refine LeO.bind ?_ (fun _ => ?_))
      | exact ih0 _ _ _ _ _ _ _ _
      | exact ih1 _ _ _ _ _ _ _ _ _ _
      | exact ih2 _ _ _ _ _ _ _ _ _ _ _ _ _
      | exact plunderlaw23_made.mono _ _ _ _
      | exact plunderlaw23_right.mono _ _ _ _
      | exact LeO.none _
      | refine LeO.ite ?_ ?_
      | refine LeO.bind ?_ (fun _ => ?_)
    · intro y0 y1 y2 y3 y4 y5 y6 y7 y8 y9
      unfold plunderlaw23_HyperCounts.l0
      repeat' first
      | (with_reducible exact ih0 _ _ _ _ _ _ _ _)
      | (with_reducible exact ih1 _ _ _ _ _ _ _ _ _ _)
      | (with_reducible exact ih2 _ _ _ _ _ _ _ _ _ _ _ _ _)
      | (with_reducible exact plunderlaw23_made.mono _ _ _ _)
      | (with_reducible exact plunderlaw23_right.mono _ _ _ _)
      | (with_reducible exact LeO.refl _)
      | (with_reducible exact LeO.none _)
      | (with_reducible refine LeO.ite ?_ ?_)
      | (with_reducible refine LeO.bind ?_ (fun _ => ?_))
      | exact ih0 _ _ _ _ _ _ _ _
      | exact ih1 _ _ _ _ _ _ _ _ _ _
      | exact ih2 _ _ _ _ _ _ _ _ _ _ _ _ _
      | exact plunderlaw23_made.mono _ _ _ _
      | exact plunderlaw23_right.mono _ _ _ _
      | exact LeO.none _
      | refine LeO.ite ?_ ?_
      | refine LeO.bind ?_ (fun _ => ?_)
    · intro y0 y1 y2 y3 y4 y5 y6 y7 y8 y9 y10 y11 y12
      unfold plunderlaw23_HyperCounts.j2
      repeat' first
      | (with_reducible exact ih0 _ _ _ _ _ _ _ _)
      | (with_reducible exact ih1 _ _ _ _ _ _ _ _ _ _)
      | (with_reducible exact ih2 _ _ _ _ _ _ _ _ _ _ _ _ _)
      | (with_reducible exact plunderlaw23_made.mono _ _ _ _)
      | (with_reducible exact plunderlaw23_right.mono _ _ _ _)
      | (with_reducible exact LeO.refl _)
      | (with_reducible exact LeO.none _)
      | (with_reducible refine LeO.ite ?_ ?_)
      | (with_reducible refine LeO.bind ?_ (fun _ => ?_))
      | exact ih0 _ _ _ _ _ _ _ _
      | exact ih1 _ _ _ _ _ _ _ _ _ _
      | exact ih2 _ _ _ _ _ _ _ _ _ _ _ _ _
      | exact plunderlaw23_made.mono _ _ _ _
      | exact plunderlaw23_right.mono _ _ _ _
      | exact LeO.none _
      | refine LeO.ite ?_ ?_
      | refine LeO.bind ?_ (fun _ => ?_)
theorem plunderlaw23_HyperCounts.mono : ∀ a0 a1 a2 k, LeO (plunderlaw23_HyperCounts.f k a0 a1 a2) (plunderlaw23_HyperCounts.f (k + 1) a0 a1 a2) := by
  intro a0 a1 a2 k
  obtain ⟨ih0, ih1, ih2⟩ := plunderlaw23_HyperCounts.mono_l k
  unfold plunderlaw23_HyperCounts.f
  repeat' first
      | (with_reducible exact ih0 _ _ _ _ _ _ _ _)
      | (with_reducible exact ih1 _ _ _ _ _ _ _ _ _ _)
      | (with_reducible exact ih2 _ _ _ _ _ _ _ _ _ _ _ _ _)
      | (with_reducible exact plunderlaw23_made.mono _ _ _ _)
      | (with_reducible exact plunderlaw23_right.mono _ _ _ _)
      | (with_reducible exact LeO.refl _)
      | (with_reducible exact LeO.none _)
      | (with_reducible refine LeO.ite ?_ ?_)
      | (with_reducible refine LeO.bind ?_ (fun _ => ?_))
      | exact ih0 _ _ _ _ _ _ _ _
      | exact ih1 _ _ _ _ _ _ _ _ _ _
      | exact ih2 _ _ _ _ _ _ _ _ _ _ _ _ _
      | exact plunderlaw23_made.mono _ _ _ _
      | exact plunderlaw23_right.mono _ _ _ _
      | exact LeO.none _
      | refine LeO.ite ?_ ?_
      | refine LeO.bind ?_ (fun _ => ?_)
def plunderlaw23_HyperCounts.T5 : Bool × List (List Nat × List Nat) := (true, [([], []), ([0], [0]), ([1], [1]), ([2], [2]), ([3, 2], [2, 3]), ([2], [2]), ([5, 2, 2], [2, 5]), ([4, 6, 2], [2, 4, 6]), ([2, 7], [2, 7]), ([8, 6], [8]), ([9], [9]), ([10, 9], [9, 10]), ([11, 9], [9, 11]), ([9], [9]), ([13, 9], [9, 13]), ([14, 9], [9, 14]), ([12, 15, 9], [9, 12, 15]), ([9, 16], [9, 16])])
def plunderlaw23_HyperCounts.B5 : List Nat := [0, 1, 3, 7, 15, 7, 39, 127, 255, 511, 1023, 2047, 4095, 1023, 9215, 25599, 65535, 131071]
theorem plunderlaw23_HyperCounts.tab5 : rtab .any (opsOf Try.f5 5) = plunderlaw23_HyperCounts.T5 := by kernel_rfl
theorem plunderlaw23_HyperCounts.bits5 : waitsOk plunderlaw23_HyperCounts.T5.2 plunderlaw23_HyperCounts.B5 = true := by kernel_rfl
set_option maxHeartbeats 8000000 in
set_option maxRecDepth 100000 in
theorem plunderlaw23_HyperCounts.calls (k : Nat) (A0_0 : Option Addr) (c0_0 : Nat) (l0_0 : List (S46)) (A0_1 : Option Addr) (c0_1 : Nat) (l0_1 : List Bool) (A0_2 : Option Addr) (c0_2 : Nat) (l0_2 : List Int) (r : Bool) (w : World) (hr0_0 : Kd.C k46 w A0_0 l0_0.length l0_0) (hc0_0 : l0_0.length ≤ c0_0) (hr0_1 : Kd.C Kd.bool w A0_1 l0_1.length l0_1) (hc0_1 : l0_1.length ≤ c0_1) (hr0_2 : Kd.C (Kd.int .i64) w A0_2 l0_2.length l0_2) (hc0_2 : l0_2.length ≤ c0_2) (h : plunderlaw23_HyperCounts.f k l0_0 l0_1 l0_2 = some r) :
    Calls Try.prog 5 #[.agg #[.slice A0_0 l0_0.length c0_0, .slice A0_1 l0_1.length c0_1, .slice A0_2 l0_2.length c0_2]] w fun e w' => e = .returned (.bool r) ∧ Below w.heap.size w w' := by
  have hu26 := Try.underlying26
  have hu39 := Try.underlying39
  have hu44 := Try.underlying44
  have HR0_0 := Aside0.mk hr0_0
  have HC0_0 := Aside0.mk hc0_0
  clear hr0_0 hc0_0
  have HR0_1 := Aside0.mk hr0_1
  have HC0_1 := Aside0.mk hc0_1
  clear hr0_1 hc0_1
  have HR0_2 := Aside0.mk hr0_2
  have HC0_2 := Aside0.mk hc0_2
  clear hr0_2 hc0_2
  have HB := Aside0.mk (Below.refl w.heap.size w)
  have H : ((plunderlaw23_right.f k l0_0 l0_1 l0_2).bind fun t126 => (if t126 = true then ((hyper_Play.f l0_0 l0_1 l0_2).bind fun bt139 => (if bt139.2.2.2.2 = 0 then ((plunderlaw23_made.f k l0_0 l0_1 l0_2).bind fun t151 => (if bt139.2.1 = t151 then (plunderlaw23_HyperCounts.j0 k ((bt139.2.2.1.length : Int) != (wrap64 (bt139.2.1 - 1))) l0_0 l0_1 l0_2 bt139.1 bt139.2.1 bt139.2.2.1 bt139.2.2.2.1) else (plunderlaw23_HyperCounts.j0 k true l0_0 l0_1 l0_2 bt139.1 bt139.2.1 bt139.2.2.1 bt139.2.2.2.1))) else (plunderlaw23_HyperCounts.j0 k true l0_0 l0_1 l0_2 bt139.1 bt139.2.1 bt139.2.2.1 bt139.2.2.2.1))) else ((hyper_Play.f l0_0 l0_1 l0_2).bind fun bt127 => (some (bt127.2.2.2.2 != 0))))) = some r := h
  clear h
  replace H := Option.bind_eq_some_iff.mp H
  obtain ⟨t126, A20, H⟩ := H
  replace H : (if t126 = true then ((hyper_Play.f l0_0 l0_1 l0_2).bind fun bt139 => (if bt139.2.2.2.2 = 0 then ((plunderlaw23_made.f k l0_0 l0_1 l0_2).bind fun t151 => (if bt139.2.1 = t151 then (plunderlaw23_HyperCounts.j0 k ((bt139.2.2.1.length : Int) != (wrap64 (bt139.2.1 - 1))) l0_0 l0_1 l0_2 bt139.1 bt139.2.1 bt139.2.2.1 bt139.2.2.2.1) else (plunderlaw23_HyperCounts.j0 k true l0_0 l0_1 l0_2 bt139.1 bt139.2.1 bt139.2.2.1 bt139.2.2.2.1))) else (plunderlaw23_HyperCounts.j0 k true l0_0 l0_1 l0_2 bt139.1 bt139.2.1 bt139.2.2.1 bt139.2.2.2.1))) else ((hyper_Play.f l0_0 l0_1 l0_2).bind fun bt127 => (some (bt127.2.2.2.2 != 0)))) = some r := H
  have A2 := Aside0.mk A20
  clear A20
  by_cases c3 : t126 = true
  · subst c3
    have H1 : ((hyper_Play.f l0_0 l0_1 l0_2).bind fun bt139 => (if bt139.2.2.2.2 = 0 then ((plunderlaw23_made.f k l0_0 l0_1 l0_2).bind fun t151 => (if bt139.2.1 = t151 then (plunderlaw23_HyperCounts.j0 k ((bt139.2.2.1.length : Int) != (wrap64 (bt139.2.1 - 1))) l0_0 l0_1 l0_2 bt139.1 bt139.2.1 bt139.2.2.1 bt139.2.2.2.1) else (plunderlaw23_HyperCounts.j0 k true l0_0 l0_1 l0_2 bt139.1 bt139.2.1 bt139.2.2.1 bt139.2.2.2.1))) else (plunderlaw23_HyperCounts.j0 k true l0_0 l0_1 l0_2 bt139.1 bt139.2.1 bt139.2.2.1 bt139.2.2.2.1))) = some r := by rw [if_pos rfl] at H; exact H
    clear H
    have H := H1
    clear H1
    replace H := Option.bind_eq_some_iff.mp H
    obtain ⟨⟨t139, t142, t143, t146, t149⟩, A40, H⟩ := H
    replace H : (if t149 = 0 then ((plunderlaw23_made.f k l0_0 l0_1 l0_2).bind fun t151 => (if t142 = t151 then (plunderlaw23_HyperCounts.j0 k ((t143.length : Int) != (wrap64 (t142 - 1))) l0_0 l0_1 l0_2 t139 t142 t143 t146) else (plunderlaw23_HyperCounts.j0 k true l0_0 l0_1 l0_2 t139 t142 t143 t146))) else (plunderlaw23_HyperCounts.j0 k true l0_0 l0_1 l0_2 t139 t142 t143 t146)) = some r := H
    have A4 := Aside0.mk A40
    clear A40
    have HC5 := Aside0.mk H
    clear H
    go_enter Try.func5, Try.ntmps5
    go_upto_region 5 with (first | ((with_reducible refine gate_dst (N := 1) rfl ?_); (try (refine gate_guard (by rfl) ?_; dsimp only)); refine box_event ?hg (N := 1) ?hd (cs := #[.slice A0_0 l0_0.length c0_0, .slice A0_1 l0_1.length c0_1, .slice A0_2 l0_2.length c0_2]) (t := 26) ?hr ?_; (case hd => rfl); (case hg => rfl); (case hr => first | (go_simp; done) | (go_simp; rfl)); intro gb125 hg w6 hbox hb; have n0_ := Aside0.mk (below_step (by repeat (first | (with_reducible first | exact HB.out | apply below_alloc | apply pw_below_drewN | apply below_drew1) | exact HB.out)) hb); have n1_ := Aside0.mk (hbox); have n2_ := Aside0.mk ((by rw [hg]; exact (below_size (by repeat (first | (with_reducible first | exact HB.out | apply below_alloc | apply pw_below_drewN | apply below_drew1) | exact HB.out))) : w.heap.size ≤ gb125)); have n3_ := Aside0.mk ((by rw [hg]; exact (below_size (by repeat (first | (with_reducible first | exact HB.out | apply below_alloc | apply pw_below_drewN | apply below_drew1) | exact HB.out))) : w.heap.size ≤ gb125)); clear HB; have HB := n0_; have BK125 := n1_; have GW125 := n2_; have GE125 := n3_; clear n0_ n1_ n2_ n3_; clear hb hbox hg; have hcz7_0 : w6.cell? ⟨gb125, 0, none⟩ = some (.slice A0_0 l0_0.length c0_0) := (blk_cell BK125.out 0).trans rfl; have hcz7_1 : w6.cell? ⟨gb125, 1, none⟩ = some (.slice A0_1 l0_1.length c0_1) := (blk_cell BK125.out 1).trans rfl; have hcz7_2 : w6.cell? ⟨gb125, 2, none⟩ = some (.slice A0_2 l0_2.length c0_2) := (blk_cell BK125.out 2).trans rfl; have hfz7_0 := blk_frozen BK125.out 0; have hfz7_1 := blk_frozen BK125.out 1; have hfz7_2 := blk_frozen BK125.out 2) | ((with_reducible refine gate_callee (f := 18) rfl ?_); refine goesL_ (some 12) rfl rfl Try.func18 (by kernel_rfl) rfl #[.agg #[.slice A0_0 l0_0.length c0_0, .slice A0_1 l0_1.length c0_1, .slice A0_2 l0_2.length c0_2]] rfl (by (try simp only [List.map_toArray, List.map_cons, List.map_nil]); first | done | rfl | (simp only [List.length_drop, List.length_take]; rfl)) ?_; (with_reducible refine (plunderlaw23_right.calls k _ _ l0_0 _ _ l0_1 _ _ l0_2 true _ ?side1 ?side2 ?side3 ?side4 ?side5 ?side6 A2.out).mono ?_); (case side1 => repeat (first | exact (Kd.C_below HR0_0.out HB.out) | (with_reducible refine Kd.C_alloc ?_ _) | (with_reducible refine Kd.C_drewN ?_ _) | (with_reducible refine Kd.C_drew ?_))); (case side2 => exact HC0_0.out); (case side3 => repeat (first | exact (Kd.C_below HR0_1.out HB.out) | (with_reducible refine Kd.C_alloc ?_ _) | (with_reducible refine Kd.C_drewN ?_ _) | (with_reducible refine Kd.C_drew ?_))); (case side4 => exact HC0_1.out); (case side5 => repeat (first | exact (Kd.C_below HR0_2.out HB.out) | (with_reducible refine Kd.C_alloc ?_ _) | (with_reducible refine Kd.C_drewN ?_ _) | (with_reducible refine Kd.C_drew ?_))); (case side6 => exact HC0_2.out); rintro e w8 ⟨rfl, hb⟩; refine ⟨_, rfl, ?_⟩; have n0_ := Aside0.mk (blk_below (g := gb125) (o := .cells #[.slice A0_0 l0_0.length c0_0, .slice A0_1 l0_1.length c0_1, .slice A0_2 l0_2.length c0_2] 26 (0, 0)) (by (with_reducible repeat (first | refine blk_drewN ?_ _ | refine blk_drew ?_ | refine blk_alloc ?_ _)); exact BK125.out) hb); have n1_ := Aside0.mk (below_step (by repeat (first | (with_reducible first | exact HB.out | apply below_alloc | apply pw_below_drewN | apply below_drew1 | refine below_set ?_ GE125.out) | exact HB.out)) hb); clear BK125; clear HB; have BK125 := n0_; have HB := n1_; clear n0_ n1_; (try clear hb); (try clear hb2); (try clear hk); (try clear hi); have hcz9_0 : w8.cell? ⟨gb125, 0, none⟩ = some (.slice A0_0 l0_0.length c0_0) := (blk_cell BK125.out 0).trans rfl; have hcz9_1 : w8.cell? ⟨gb125, 1, none⟩ = some (.slice A0_1 l0_1.length c0_1) := (blk_cell BK125.out 1).trans rfl; have hcz9_2 : w8.cell? ⟨gb125, 2, none⟩ = some (.slice A0_2 l0_2.length c0_2) := (blk_cell BK125.out 2).trans rfl; have hfz9_0 := blk_frozen BK125.out 0; have hfz9_1 := blk_frozen BK125.out 1; have hfz9_2 := blk_frozen BK125.out 2) | ((with_reducible refine gate_callee (f := 15) rfl ?_); refine goesL_ (some 33) rfl rfl Try.func15 (by kernel_rfl) rfl #[.slice A0_0 l0_0.length c0_0, .slice A0_1 l0_1.length c0_1, .slice A0_2 l0_2.length c0_2] rfl (by (try simp only [List.map_toArray, List.map_cons, List.map_nil]); first | done | rfl | (simp only [List.length_drop, List.length_take]; rfl)) ?_; (with_reducible refine (hyper_Play.calls _ _ l0_0 _ _ l0_1 _ _ l0_2 t139 t142 t143 t146 t149 _ ?side1 ?side2 ?side3 ?side4 ?side5 ?side6 A4.out).mono ?_); (case side1 => repeat (first | exact (Kd.C_below HR0_0.out HB.out) | (with_reducible refine Kd.C_alloc ?_ _) | (with_reducible refine Kd.C_drewN ?_ _) | (with_reducible refine Kd.C_drew ?_))); (case side2 => exact HC0_0.out); (case side3 => repeat (first | exact (Kd.C_below HR0_1.out HB.out) | (with_reducible refine Kd.C_alloc ?_ _) | (with_reducible refine Kd.C_drewN ?_ _) | (with_reducible refine Kd.C_drew ?_))); (case side4 => exact HC0_1.out); (case side5 => repeat (first | exact (Kd.C_below HR0_2.out HB.out) | (with_reducible refine Kd.C_alloc ?_ _) | (with_reducible refine Kd.C_drewN ?_ _) | (with_reducible refine Kd.C_drew ?_))); (case side6 => exact HC0_2.out); rintro e w10 ⟨v140, v144, v147, rfl, ho0, ho1, ho2, hb⟩; refine ⟨_, rfl, ?_⟩; have n0_ := Aside0.mk (Kd.R_lower ho0 (below_size (by repeat (first | (with_reducible first | exact HB.out | apply below_alloc | apply pw_below_drewN | apply below_drew1 | refine below_set ?_ GE125.out) | exact HB.out)))); have n1_ := Aside0.mk (Kd.R_lower ho1 (below_size (by repeat (first | (with_reducible first | exact HB.out | apply below_alloc | apply pw_below_drewN | apply below_drew1 | refine below_set ?_ GE125.out) | exact HB.out)))); have n2_ := Aside0.mk (Kd.S_lower ho2 (below_size (by repeat (first | (with_reducible first | exact HB.out | apply below_alloc | apply pw_below_drewN | apply below_drew1 | refine below_set ?_ GE125.out) | exact HB.out)))); have n3_ := Aside0.mk (blk_below (g := gb125) (o := .cells #[.slice A0_0 l0_0.length c0_0, .slice A0_1 l0_1.length c0_1, .slice A0_2 l0_2.length c0_2] 26 (0, 0)) (by (with_reducible repeat (first | refine blk_drewN ?_ _ | refine blk_drew ?_ | refine blk_alloc ?_ _)); exact BK125.out) hb); have n4_ := Aside0.mk (below_step (by repeat (first | (with_reducible first | exact HB.out | apply below_alloc | apply pw_below_drewN | apply below_drew1 | refine below_set ?_ GE125.out) | exact HB.out)) hb); clear BK125; clear HB; have HO141 := n0_; have HO145 := n1_; have HO148 := n2_; have BK125 := n3_; have HB := n4_; clear n0_ n1_ n2_ n3_ n4_; (try clear hb); (try clear hb2); (try clear hk); (try clear hi); (try clear ho0); (try clear ho1); (try clear ho2)) | ((with_reducible refine gate_dst (N := 5) rfl ?_); (try (refine gate_guard (by rfl) ?_; dsimp only)); refine box_event ?hg (N := 5) ?hd (cs := #[.slice none 0 0, .int .i64 0, .slice none 0 0, .slice none 0 0]) (t := 39) ?hr ?_; (case hd => rfl); (case hg => rfl); (case hr => first | (go_simp; done) | (go_simp; rfl)); intro gb150 hg w11 hbox hb; have n0_ := Aside0.mk (Kd.R_below (by (with_reducible repeat (first | apply Kd.R_alloc | apply Kd.R_drewN | apply Kd.R_drew)); exact HO141.out) hb); have n1_ := Aside0.mk (Kd.R_below (by (with_reducible repeat (first | apply Kd.R_alloc | apply Kd.R_drewN | apply Kd.R_drew)); exact HO145.out) hb); have n2_ := Aside0.mk (Kd.S_below (by (with_reducible repeat (first | apply Kd.S_alloc | apply Kd.S_drewN | apply Kd.S_drew)); exact HO148.out) hb); have n3_ := Aside0.mk (blk_below (g := gb125) (o := .cells #[.slice A0_0 l0_0.length c0_0, .slice A0_1 l0_1.length c0_1, .slice A0_2 l0_2.length c0_2] 26 (0, 0)) (by (with_reducible repeat (first | refine blk_drewN ?_ _ | refine blk_drew ?_ | refine blk_alloc ?_ _)); exact BK125.out) hb); have n4_ := Aside0.mk (below_step (by repeat (first | (with_reducible first | exact HB.out | apply below_alloc | apply pw_below_drewN | apply below_drew1 | refine below_set ?_ GE125.out) | exact HB.out)) hb); have n5_ := Aside0.mk (hbox); have n6_ := Aside0.mk ((by rw [hg]; exact (below_size (by repeat (first | (with_reducible first | exact HB.out | apply below_alloc | apply pw_below_drewN | apply below_drew1 | refine below_set ?_ GE125.out) | exact HB.out))) : w.heap.size ≤ gb150)); have n7_ := Aside0.mk ((by rw [hg]; exact (below_size (by repeat (first | (with_reducible first | exact HB.out | apply below_alloc | apply pw_below_drewN | apply below_drew1 | refine below_set ?_ GE125.out) | exact HB.out))) : w.heap.size ≤ gb150)); have n8_ := Aside0.mk ((by rw [hg]; exact Nat.ne_of_lt (blk_lt (g := gb125) (o := .cells #[.slice A0_0 l0_0.length c0_0, .slice A0_1 l0_1.length c0_1, .slice A0_2 l0_2.length c0_2] 26 (0, 0)) (by (with_reducible repeat (first | refine blk_drewN ?_ _ | refine blk_drew ?_ | refine blk_alloc ?_ _)); exact BK125.out)) : gb125 ≠ gb150)); have n9_ := Aside0.mk ((by rw [hg]; exact Nat.ne_of_gt (blk_lt (g := gb125) (o := .cells #[.slice A0_0 l0_0.length c0_0, .slice A0_1 l0_1.length c0_1, .slice A0_2 l0_2.length c0_2] 26 (0, 0)) (by (with_reducible repeat (first | refine blk_drewN ?_ _ | refine blk_drew ?_ | refine blk_alloc ?_ _)); exact BK125.out)) : gb150 ≠ gb125)); clear HO141; clear HO145; clear HO148; clear BK125; clear HB; have HO141 := n0_; have HO145 := n1_; have HO148 := n2_; have BK125 := n3_; have HB := n4_; have BK150 := n5_; have GW150 := n6_; have GE150 := n7_; have NB125_150 := n8_; have NB150_125 := n9_; clear n0_ n1_ n2_ n3_ n4_ n5_ n6_ n7_ n8_ n9_; clear hb hbox hg; obtain ⟨Ao12, co12, eo12⟩ := Kd.R_slice HO141.out; subst eo12; have hnb13 := NB150_125.out; have hnc13 := NB125_150.out; have hcz14_0 : w11.cell? ⟨gb150, 0, none⟩ = some (.slice none 0 0) := (blk_cell BK150.out 0).trans rfl; have hcz14_1 : w11.cell? ⟨gb150, 1, none⟩ = some (.int .i64 0) := (blk_cell BK150.out 1).trans rfl; have hcz14_2 : w11.cell? ⟨gb150, 2, none⟩ = some (.slice none 0 0) := (blk_cell BK150.out 2).trans rfl; have hcz14_3 : w11.cell? ⟨gb150, 3, none⟩ = some (.slice none 0 0) := (blk_cell BK150.out 3).trans rfl; have hfz14_0 := blk_frozen BK150.out 0; have hfz14_1 := blk_frozen BK150.out 1; have hfz14_2 := blk_frozen BK150.out 2; have hfz14_3 := blk_frozen BK150.out 3; obtain ⟨Ao15, co15, eo15⟩ := Kd.R_slice HO145.out; subst eo15; obtain ⟨Ao16, co16, eo16⟩ := Kd.S_slice HO148.out; subst eo16))
    (try simp only [Act.put, List.setIfInBounds_toArray, List.set_cons_zero, List.set_cons_succ])
    go_cut [53] (fun v53 wc => ∃ (kq : Nat) (x53_4 : Bool), v53 = .bool x53_4 ∧ Aside0 (plunderlaw23_HyperCounts.j0 kq x53_4 l0_0 l0_1 l0_2 t139 t142 t143 t146 = some r) ∧ Aside0 (kq ≤ k) ∧ Aside0 (Kd.R (Kd.int .i64) 2 wc w.heap.size (fun _ => True) (.slice Ao12 t139.length co12) t139) ∧ Aside0 (Kd.R k44 44 wc w.heap.size (fun _ => True) (.slice Ao15 t143.length co15) t143) ∧ Aside0 (Kd.S (Kd.slice 2 (Kd.int .i64)) 28 wc w.heap.size (fun k_ => some k_ ≠ ((.slice Ao12 t139.length co12) : Value).ownBlock) (.slice Ao16 t146.length co16) t146) ∧ Aside0 (wc.heap[gb125]? = some (.cells #[(.slice A0_0 l0_0.length c0_0), (.slice A0_1 l0_1.length c0_1), (.slice A0_2 l0_2.length c0_2)] 26 (0, 0))) ∧ Aside0 (wc.heap[gb150]? = some (.cells #[(.slice Ao12 t139.length co12), .int .i64 t142, (.slice Ao15 t143.length co15), (.slice Ao16 t146.length co16)] 39 (0, 0))) ∧ Aside0 (Below w.heap.size w wc))
    case first =>
      have H := HC5.out
      clear HC5
      by_cases c17 : t149 = 0
      · rw [if_pos c17] at H
        have c17b0 : (t149 == 0) = true := beq_iff_eq.mpr c17
        have c17b1 : (t149 != 0) = false := bne_eq_false_iff_eq.mpr c17
        clear c17
        (first | rw [c17b0] | (simp only [i64_w, i32_w]; rw [c17b0]) | skip)
        replace H := Option.bind_eq_some_iff.mp H
        obtain ⟨t151, A180, H⟩ := H
        replace H : (if t142 = t151 then (plunderlaw23_HyperCounts.j0 k ((t143.length : Int) != (wrap64 (t142 - 1))) l0_0 l0_1 l0_2 t139 t142 t143 t146) else (plunderlaw23_HyperCounts.j0 k true l0_0 l0_1 l0_2 t139 t142 t143 t146)) = some r := H
        have A18 := Aside0.mk A180
        clear A180
        by_cases c19 : t142 = t151
        · rw [if_pos c19] at H
          have c19b0 : (t142 == t151) = true := beq_iff_eq.mpr c19
          have c19b1 : (t142 != t151) = false := bne_eq_false_iff_eq.mpr c19
          clear c19
          have H' := Aside0.mk H
          clear H
          try go_wp2
          have n0_ : Aside0 (Kd.R (Kd.int .i64) 2 ((((w11.setCell ⟨gb150, 0, none⟩ (.slice Ao12 t139.length co12)).setCell ⟨gb150, 1, none⟩ (.int .i64 t142)).setCell ⟨gb150, 2, none⟩ (.slice Ao15 t143.length co15)).setCell ⟨gb150, 3, none⟩ (.slice Ao16 t146.length co16)) w.heap.size (fun _ => True) (.slice Ao12 t139.length co12) t139) := ⟨by (with_reducible repeat (first | apply Kd.R_alloc | apply Kd.R_drewN | apply Kd.R_drew)); exact Kd.R_mono (Kd.R_far (p := ⟨gb150, 3, none⟩) (Kd.R_far (p := ⟨gb150, 2, none⟩) (Kd.R_far (p := ⟨gb150, 1, none⟩) (Kd.R_far (p := ⟨gb150, 0, none⟩) (Kd.R_types HO141.out BK150.out (by decide)) (fun _ hk => hk.2) (.slice Ao12 t139.length co12)) (fun _ hk => hk.2) (.int .i64 t142)) (fun _ hk => hk.2) (.slice Ao15 t143.length co15)) (fun _ hk => hk.2) (.slice Ao16 t146.length co16)) (fun _ hk => trivial)⟩
          have n1_ : Aside0 (Kd.R k44 44 ((((w11.setCell ⟨gb150, 0, none⟩ (.slice Ao12 t139.length co12)).setCell ⟨gb150, 1, none⟩ (.int .i64 t142)).setCell ⟨gb150, 2, none⟩ (.slice Ao15 t143.length co15)).setCell ⟨gb150, 3, none⟩ (.slice Ao16 t146.length co16)) w.heap.size (fun _ => True) (.slice Ao15 t143.length co15) t143) := ⟨by (with_reducible repeat (first | apply Kd.R_alloc | apply Kd.R_drewN | apply Kd.R_drew)); exact Kd.R_mono (Kd.R_far (p := ⟨gb150, 3, none⟩) (Kd.R_far (p := ⟨gb150, 2, none⟩) (Kd.R_far (p := ⟨gb150, 1, none⟩) (Kd.R_far (p := ⟨gb150, 0, none⟩) (Kd.R_types HO145.out BK150.out (by decide)) (fun _ hk => hk.2) (.slice Ao12 t139.length co12)) (fun _ hk => hk.2) (.int .i64 t142)) (fun _ hk => hk.2) (.slice Ao15 t143.length co15)) (fun _ hk => hk.2) (.slice Ao16 t146.length co16)) (fun _ hk => trivial)⟩
          have n2_ : Aside0 (Kd.S (Kd.slice 2 (Kd.int .i64)) 28 ((((w11.setCell ⟨gb150, 0, none⟩ (.slice Ao12 t139.length co12)).setCell ⟨gb150, 1, none⟩ (.int .i64 t142)).setCell ⟨gb150, 2, none⟩ (.slice Ao15 t143.length co15)).setCell ⟨gb150, 3, none⟩ (.slice Ao16 t146.length co16)) w.heap.size (fun k_ => some k_ ≠ (.slice Ao12 t139.length co12 : Value).ownBlock) (.slice Ao16 t146.length co16) t146) := ⟨by (with_reducible repeat (first | apply Kd.S_alloc | apply Kd.S_drewN | apply Kd.S_drew)); exact Kd.S_mono (Kd.S_far (p := ⟨gb150, 3, none⟩) (Kd.S_far (p := ⟨gb150, 2, none⟩) (Kd.S_far (p := ⟨gb150, 1, none⟩) (Kd.S_far (p := ⟨gb150, 0, none⟩) (Kd.S_types HO148.out BK150.out (by decide)) (fun _ hk => hk.2) (.slice Ao12 t139.length co12)) (fun _ hk => hk.2) (.int .i64 t142)) (fun _ hk => hk.2) (.slice Ao15 t143.length co15)) (fun _ hk => hk.2) (.slice Ao16 t146.length co16)) (fun _ hk => hk.1)⟩
          have n3_ : Aside0 (((((w11.setCell ⟨gb150, 0, none⟩ (.slice Ao12 t139.length co12)).setCell ⟨gb150, 1, none⟩ (.int .i64 t142)).setCell ⟨gb150, 2, none⟩ (.slice Ao15 t143.length co15)).setCell ⟨gb150, 3, none⟩ (.slice Ao16 t146.length co16)).heap[gb125]? = some (.cells #[.slice A0_0 l0_0.length c0_0, .slice A0_1 l0_1.length c0_1, .slice A0_2 l0_2.length c0_2] 26 (0, 0))) := ⟨by (with_reducible repeat (first | refine blk_drewN ?_ _ | refine blk_drew ?_ | refine blk_alloc ?_ _)); refine blk_far ?_ NB125_150.out _; (with_reducible repeat (first | refine blk_drewN ?_ _ | refine blk_drew ?_ | refine blk_alloc ?_ _)); refine blk_far ?_ NB125_150.out _; (with_reducible repeat (first | refine blk_drewN ?_ _ | refine blk_drew ?_ | refine blk_alloc ?_ _)); refine blk_far ?_ NB125_150.out _; (with_reducible repeat (first | refine blk_drewN ?_ _ | refine blk_drew ?_ | refine blk_alloc ?_ _)); refine blk_far ?_ NB125_150.out _; (with_reducible repeat (first | refine blk_drewN ?_ _ | refine blk_drew ?_ | refine blk_alloc ?_ _)); exact BK125.out⟩
          have n4_ : Aside0 (((((w11.setCell ⟨gb150, 0, none⟩ (.slice Ao12 t139.length co12)).setCell ⟨gb150, 1, none⟩ (.int .i64 t142)).setCell ⟨gb150, 2, none⟩ (.slice Ao15 t143.length co15)).setCell ⟨gb150, 3, none⟩ (.slice Ao16 t146.length co16)).heap[gb150]? = some (.cells #[.slice Ao12 t139.length co12, .int .i64 t142, .slice Ao15 t143.length co15, .slice Ao16 t146.length co16] 39 (0, 0))) := ⟨by (with_reducible repeat (first | refine blk_drewN ?_ _ | refine blk_drew ?_ | refine blk_alloc ?_ _)); refine blk_put (cs := #[.slice Ao12 t139.length co12, .int .i64 t142, .slice Ao15 t143.length co15, .slice none 0 0]) ?_ 3 _ rfl; (with_reducible repeat (first | refine blk_drewN ?_ _ | refine blk_drew ?_ | refine blk_alloc ?_ _)); refine blk_put (cs := #[.slice Ao12 t139.length co12, .int .i64 t142, .slice none 0 0, .slice none 0 0]) ?_ 2 _ rfl; (with_reducible repeat (first | refine blk_drewN ?_ _ | refine blk_drew ?_ | refine blk_alloc ?_ _)); refine blk_put (cs := #[.slice Ao12 t139.length co12, .int .i64 0, .slice none 0 0, .slice none 0 0]) ?_ 1 _ rfl; (with_reducible repeat (first | refine blk_drewN ?_ _ | refine blk_drew ?_ | refine blk_alloc ?_ _)); refine blk_put (cs := #[.slice none 0 0, .int .i64 0, .slice none 0 0, .slice none 0 0]) ?_ 0 _ rfl; (with_reducible repeat (first | refine blk_drewN ?_ _ | refine blk_drew ?_ | refine blk_alloc ?_ _)); exact BK150.out⟩
          have n5_ : Aside0 (Below w.heap.size w ((((w11.setCell ⟨gb150, 0, none⟩ (.slice Ao12 t139.length co12)).setCell ⟨gb150, 1, none⟩ (.int .i64 t142)).setCell ⟨gb150, 2, none⟩ (.slice Ao15 t143.length co15)).setCell ⟨gb150, 3, none⟩ (.slice Ao16 t146.length co16))) := ⟨by repeat (first | (with_reducible first | exact HB.out | apply below_alloc | apply pw_below_drewN | apply below_drew1 | refine below_set ?_ GE125.out | refine below_set ?_ GE150.out) | exact HB.out)⟩
          (try clear HO141)
          (try clear HO145)
          (try clear HO148)
          (try clear BK125)
          (try clear BK150)
          (try clear HB)
          generalize ((((w11.setCell ⟨gb150, 0, none⟩ (.slice Ao12 t139.length co12)).setCell ⟨gb150, 1, none⟩ (.int .i64 t142)).setCell ⟨gb150, 2, none⟩ (.slice Ao15 t143.length co15)).setCell ⟨gb150, 3, none⟩ (.slice Ao16 t146.length co16)) = w20 at n0_ n1_ n2_ n3_ n4_ n5_ ⊢
          have HO141 := n0_
          have HO145 := n1_
          have HO148 := n2_
          have BK125 := n3_
          have BK150 := n4_
          have HB := n5_
          clear n0_ n1_ n2_ n3_ n4_ n5_
          have n0_ := Aside0.mk (Kd.R_drew HO141.out)
          have n1_ := Aside0.mk (Kd.R_drew HO145.out)
          have n2_ := Aside0.mk (Kd.S_drew HO148.out)
          have n3_ := Aside0.mk (blk_drew BK125.out)
          have n4_ := Aside0.mk (blk_drew BK150.out)
          have n5_ := Aside0.mk (below_drew1 HB.out)
          clear HO141
          clear HO145
          clear HO148
          clear BK125
          clear BK150
          clear HB
          have HO141 := n0_
          have HO145 := n1_
          have HO148 := n2_
          have BK125 := n3_
          have BK150 := n4_
          have HB := n5_
          clear n0_ n1_ n2_ n3_ n4_ n5_
          refine start_ (n := 18) (S := fun w' => w'.cell? ⟨gb150, 0, none⟩ = some (.slice Ao12 t139.length co12) ∧ w'.cell? ⟨gb150, 1, none⟩ = some (.int .i64 t142) ∧ w'.cell? ⟨gb150, 2, none⟩ = some (.slice Ao15 t143.length co15) ∧ w'.cell? ⟨gb150, 3, none⟩ = some (.slice Ao16 t146.length co16) ∧ w'.cell? ⟨gb125, 0, none⟩ = some (.slice A0_0 l0_0.length c0_0) ∧ w'.cell? ⟨gb125, 1, none⟩ = some (.slice A0_1 l0_1.length c0_1) ∧ w'.cell? ⟨gb125, 2, none⟩ = some (.slice A0_2 l0_2.length c0_2)) (ds := []) #[false, false, false, false, false, false, false, false, false, false, false, false, false, false, false, false, false, false] (by kernel_rfl) rfl rfl ⟨(blk_cell BK150.out 0).trans rfl, (blk_cell BK150.out 1).trans rfl, (blk_cell BK150.out 2).trans rfl, (blk_cell BK150.out 3).trans rfl, (blk_cell BK125.out 0).trans rfl, (blk_cell BK125.out 1).trans rfl, (blk_cell BK125.out 2).trans rfl⟩ (fun hHeld => ?_); refine with_tabW plunderlaw23_HyperCounts.tab5 plunderlaw23_HyperCounts.bits5 (fun HT_ HW_ => ?_)
          generalize w20.drew = w21 at HO141 HO145 HO148 BK125 BK150 HB hHeld ⊢
          refine pure_ (i := 0) (N := some 36) (v := ?_) (a' := ?_) #[true, false, false, false, false, false, false, false, false, false, false, false, false, false, false, false, false, false] rfl rfl (any_of HT_.out (by kernel_rfl)) (fun _ _ _ h => h) (Or.inl ⟨by rfl, ?_⟩) ?_ ?_
          rotate_left
          · intro w'
            go_simp
            with_reducible rfl
          rotate_left
          · simp only [Act.put, List.setIfInBounds_toArray, List.set_cons_zero, List.set_cons_succ, i64_w, i32_w]
            rfl
          refine pure_ (i := 1) (N := some 37) (v := ?_) (a' := ?_) #[true, true, false, false, false, false, false, false, false, false, false, false, false, false, false, false, false, false] rfl rfl (any_of HT_.out (by kernel_rfl)) (fun _ _ _ h => h) (Or.inl ⟨by rfl, ?_⟩) ?_ ?_
          rotate_left
          · intro w'
            go_simp
            with_reducible rfl
          rotate_left
          · simp only [Act.put, List.setIfInBounds_toArray, List.set_cons_zero, List.set_cons_succ, i64_w, i32_w]
            rfl
          refine pure_ (i := 2) (N := some 38) (v := ?_) (a' := ?_) #[true, true, true, false, false, false, false, false, false, false, false, false, false, false, false, false, false, false] rfl rfl (any_of HT_.out (by kernel_rfl)) (fun _ _ _ h => h) (Or.inl ⟨by rfl, ?_⟩) ?_ ?_
          rotate_left
          · intro w'
            go_simp
            with_reducible rfl
          rotate_left
          · simp only [Act.put, List.setIfInBounds_toArray, List.set_cons_zero, List.set_cons_succ, i64_w, i32_w]
            rfl
          refine pure_ (i := 3) (N := some 39) (v := ?_) (a' := ?_) #[true, true, true, true, false, false, false, false, false, false, false, false, false, false, false, false, false, false] rfl rfl (any_of HT_.out (by kernel_rfl)) (fun _ _ _ h => h) (Or.inl ⟨by rfl, ?_⟩) ?_ ?_
          rotate_left
          · intro w'
            go_simp
            with_reducible rfl
          rotate_left
          · simp only [Act.put, List.setIfInBounds_toArray, List.set_cons_zero, List.set_cons_succ, i64_w, i32_w]
            rfl
          refine take_ (i := 4) (N := some 40) (v := ?_) (a' := ?_) #[true, true, true, true, true, false, false, false, false, false, false, false, false, false, false, false, false, false] rfl rfl (take_ofW HT_.out HW_.out (by kernel_rfl)) (fun _ _ _ h => h) (Or.inl ⟨by rfl, ?_⟩) hHeld ?_ ?_
          rotate_left
          · rintro w' ⟨s0, s1, s2, s3, s4, s5, s6⟩
            go_simp
            with_reducible rfl
          rotate_left
          · simp only [Act.put, List.setIfInBounds_toArray, List.set_cons_zero, List.set_cons_succ, i64_w, i32_w]
            rfl
          refine take_ (i := 5) (N := some 41) (v := ?_) (a' := ?_) #[true, true, true, true, true, true, false, false, false, false, false, false, false, false, false, false, false, false] rfl rfl (take_ofW HT_.out HW_.out (by kernel_rfl)) (fun _ _ _ h => h) (Or.inl ⟨by rfl, ?_⟩) hHeld ?_ ?_
          rotate_left
          · rintro w' ⟨s0, s1, s2, s3, s4, s5, s6⟩
            go_simp
            with_reducible rfl
          rotate_left
          · simp only [Act.put, List.setIfInBounds_toArray, List.set_cons_zero, List.set_cons_succ, i64_w, i32_w]
            rfl
          refine one_ (i := 6) (N := some 42) #[true, true, true, true, true, true, true, false, false, false, false, false, false, false, false, false, false, false] rfl rfl (one_of HT_.out (by kernel_rfl)) (by decide) (fun K hK => ?_)
          refine goes_ Try.func19 (by kernel_rfl) rfl #[.agg #[.slice A0_0 l0_0.length c0_0, .slice A0_1 l0_1.length c0_1, .slice A0_2 l0_2.length c0_2]] (by rfl) rfl rfl (by (try simp only [List.map_toArray, List.map_cons, List.map_nil]); first | done | rfl | (simp only [List.length_drop, List.length_take]; rfl)) ?_
          with_reducible refine (plunderlaw23_made.calls k _ _ l0_0 _ _ l0_1 _ _ l0_2 t151 _ ?side1 ?side2 ?side3 ?side4 ?side5 ?side6 A18.out).mono ?_
          (case side1 => repeat (first | exact (Kd.C_below HR0_0.out HB.out) | (with_reducible refine Kd.C_alloc ?_ _) | (with_reducible refine Kd.C_drewN ?_ _) | (with_reducible refine Kd.C_drew ?_)))
          (case side2 => exact HC0_0.out)
          (case side3 => repeat (first | exact (Kd.C_below HR0_1.out HB.out) | (with_reducible refine Kd.C_alloc ?_ _) | (with_reducible refine Kd.C_drewN ?_ _) | (with_reducible refine Kd.C_drew ?_)))
          (case side4 => exact HC0_1.out)
          (case side5 => repeat (first | exact (Kd.C_below HR0_2.out HB.out) | (with_reducible refine Kd.C_alloc ?_ _) | (with_reducible refine Kd.C_drewN ?_ _) | (with_reducible refine Kd.C_drew ?_)))
          (case side6 => exact HC0_2.out)
          rintro e w22 ⟨rfl, hb⟩
          refine ⟨_, rfl, ?_⟩
          have n0_ := Aside0.mk (Kd.R_below (by (with_reducible repeat (first | apply Kd.R_alloc | apply Kd.R_drewN | apply Kd.R_drew)); exact HO141.out) hb)
          have n1_ := Aside0.mk (Kd.R_below (by (with_reducible repeat (first | apply Kd.R_alloc | apply Kd.R_drewN | apply Kd.R_drew)); exact HO145.out) hb)
          have n2_ := Aside0.mk (Kd.S_below (by (with_reducible repeat (first | apply Kd.S_alloc | apply Kd.S_drewN | apply Kd.S_drew)); exact HO148.out) hb)
          have n3_ := Aside0.mk (blk_below (g := gb125) (o := .cells #[.slice A0_0 l0_0.length c0_0, .slice A0_1 l0_1.length c0_1, .slice A0_2 l0_2.length c0_2] 26 (0, 0)) (by (with_reducible repeat (first | refine blk_drewN ?_ _ | refine blk_drew ?_ | refine blk_alloc ?_ _)); exact BK125.out) hb)
          have n4_ := Aside0.mk (blk_below (g := gb150) (o := .cells #[.slice Ao12 t139.length co12, .int .i64 t142, .slice Ao15 t143.length co15, .slice Ao16 t146.length co16] 39 (0, 0)) (by (with_reducible repeat (first | refine blk_drewN ?_ _ | refine blk_drew ?_ | refine blk_alloc ?_ _)); exact BK150.out) hb)
          have n5_ := Aside0.mk (below_step (by repeat (first | (with_reducible first | exact HB.out | apply below_alloc | apply pw_below_drewN | apply below_drew1 | refine below_set ?_ GE125.out | refine below_set ?_ GE150.out) | exact HB.out)) hb)
          clear HO141
          clear HO145
          clear HO148
          clear BK125
          clear BK150
          clear HB
          have HO141 := n0_
          have HO145 := n1_
          have HO148 := n2_
          have BK125 := n3_
          have BK150 := n4_
          have HB := n5_
          clear n0_ n1_ n2_ n3_ n4_ n5_
          (try clear hb)
          (try clear hb2)
          (try clear hk)
          (try clear hi)
          refine hK.out _ _ ⟨(blk_cell BK150.out 0).trans rfl, (blk_cell BK150.out 1).trans rfl, (blk_cell BK150.out 2).trans rfl, (blk_cell BK150.out 3).trans rfl, (blk_cell BK125.out 0).trans rfl, (blk_cell BK125.out 1).trans rfl, (blk_cell BK125.out 2).trans rfl⟩ (fun hHeld => ?_)
          clear hK K
          refine norm_ (a' := ?_) ?_ ?_
          rotate_left
          · show Act.put _ (some 42) _ = _
            simp only [Act.put, List.setIfInBounds_toArray, List.set_cons_zero, List.set_cons_succ, i64_w, i32_w]
            rfl
          refine pure_ (i := 7) (N := some 43) (v := ?_) (a' := ?_) #[true, true, true, true, true, true, true, true, false, false, false, false, false, false, false, false, false, false] rfl rfl (any_of HT_.out (by kernel_rfl)) (fun _ _ _ h => h) (Or.inl ⟨by rfl, ?_⟩) ?_ ?_
          rotate_left
          · intro w'
            go_simp
            with_reducible rfl
          rotate_left
          · simp only [Act.put, List.setIfInBounds_toArray, List.set_cons_zero, List.set_cons_succ, i64_w, i32_w]
            rfl
          refine pure_ (i := 8) (N := some 44) (v := ?_) (a' := ?_) #[true, true, true, true, true, true, true, true, true, false, false, false, false, false, false, false, false, false] rfl rfl (any_of HT_.out (by kernel_rfl)) (fun _ _ _ h => h) (Or.inl ⟨by rfl, ?_⟩) ?_ ?_
          rotate_left
          · intro w'
            go_simp
            with_reducible rfl
          rotate_left
          · simp only [Act.put, List.setIfInBounds_toArray, List.set_cons_zero, List.set_cons_succ, i64_w, i32_w]
            rfl
          refine pure_ (i := 9) (N := some 45) (v := ?_) (a' := ?_) #[true, true, true, true, true, true, true, true, true, true, false, false, false, false, false, false, false, false] rfl rfl (any_of HT_.out (by kernel_rfl)) (fun _ _ _ h => h) (Or.inl ⟨by rfl, ?_⟩) ?_ ?_
          rotate_left
          · intro w'
            go_simp
            with_reducible rfl
          rotate_left
          · simp only [Act.put, List.setIfInBounds_toArray, List.set_cons_zero, List.set_cons_succ, i64_w, i32_w]
            rfl
          refine pure_ (i := 10) (N := some 46) (v := ?_) (a' := ?_) #[true, true, true, true, true, true, true, true, true, true, true, false, false, false, false, false, false, false] rfl rfl (any_of HT_.out (by kernel_rfl)) (fun _ _ _ h => h) (Or.inl ⟨by rfl, ?_⟩) ?_ ?_
          rotate_left
          · intro w'
            go_simp
            with_reducible rfl
          rotate_left
          · simp only [Act.put, List.setIfInBounds_toArray, List.set_cons_zero, List.set_cons_succ, i64_w, i32_w]
            rfl
          refine pure_ (i := 13) (N := some 49) (v := ?_) (a' := ?_) #[true, true, true, true, true, true, true, true, true, true, true, false, false, true, false, false, false, false] rfl rfl (any_of HT_.out (by kernel_rfl)) (fun _ _ _ h => h) (Or.inl ⟨by rfl, ?_⟩) ?_ ?_
          rotate_left
          · intro w'
            go_simp
            with_reducible rfl
          rotate_left
          · simp only [Act.put, List.setIfInBounds_toArray, List.set_cons_zero, List.set_cons_succ, i64_w, i32_w]
            rfl
          refine take_ (i := 11) (N := some 47) (v := ?_) (a' := ?_) #[true, true, true, true, true, true, true, true, true, true, true, true, false, true, false, false, false, false] rfl rfl (take_ofW HT_.out HW_.out (by kernel_rfl)) (fun _ _ _ h => h) (Or.inl ⟨by rfl, ?_⟩) hHeld ?_ ?_
          rotate_left
          · rintro w' ⟨s0, s1, s2, s3, s4, s5, s6⟩
            go_simp
            with_reducible rfl
          rotate_left
          · simp only [Act.put, List.setIfInBounds_toArray, List.set_cons_zero, List.set_cons_succ, i64_w, i32_w]
            rfl
          refine pure_ (i := 12) (N := some 48) (v := ?_) (a' := ?_) #[true, true, true, true, true, true, true, true, true, true, true, true, true, true, false, false, false, false] rfl rfl (any_of HT_.out (by kernel_rfl)) (fun _ _ _ h => h) (Or.inl ⟨by rfl, ?_⟩) ?_ ?_
          rotate_left
          · intro w'
            go_simp
            with_reducible rfl
          rotate_left
          · simp only [Act.put, List.setIfInBounds_toArray, List.set_cons_zero, List.set_cons_succ, i64_w, i32_w]
            rfl
          refine take_ (i := 14) (N := some 50) (v := ?_) (a' := ?_) #[true, true, true, true, true, true, true, true, true, true, true, true, true, true, true, false, false, false] rfl rfl (take_ofW HT_.out HW_.out (by kernel_rfl)) (fun _ _ _ h => h) (Or.inl ⟨by rfl, ?_⟩) hHeld ?_ ?_
          rotate_left
          · rintro w' ⟨s0, s1, s2, s3, s4, s5, s6⟩
            go_simp
            with_reducible rfl
          rotate_left
          · simp only [Act.put, List.setIfInBounds_toArray, List.set_cons_zero, List.set_cons_succ, i64_w, i32_w]
            rfl
          refine pure_ (i := 15) (N := some 51) (v := ?_) (a' := ?_) #[true, true, true, true, true, true, true, true, true, true, true, true, true, true, true, true, false, false] rfl rfl (any_of HT_.out (by kernel_rfl)) (fun _ _ _ h => h) (Or.inl ⟨by rfl, ?_⟩) ?_ ?_
          rotate_left
          · intro w'
            go_simp
            with_reducible rfl
          rotate_left
          · simp only [Act.put, List.setIfInBounds_toArray, List.set_cons_zero, List.set_cons_succ, i64_w, i32_w]
            rfl
          refine pure_ (i := 16) (N := some 52) (v := ?_) (a' := ?_) #[true, true, true, true, true, true, true, true, true, true, true, true, true, true, true, true, true, false] rfl rfl (any_of HT_.out (by kernel_rfl)) (fun _ _ _ h => h) (Or.inl ⟨by rfl, ?_⟩) ?_ ?_
          rotate_left
          · intro w'
            go_simp
            with_reducible rfl
          rotate_left
          · simp only [Act.put, List.setIfInBounds_toArray, List.set_cons_zero, List.set_cons_succ, i64_w, i32_w]
            rfl
          refine pure_ (i := 17) (N := some 53) (v := ?_) (a' := ?_) #[true, true, true, true, true, true, true, true, true, true, true, true, true, true, true, true, true, true] rfl rfl (any_of HT_.out (by kernel_rfl)) (fun _ _ _ h => h) (Or.inl ⟨by rfl, ?_⟩) ?_ ?_
          rotate_left
          · intro w'
            go_simp
            with_reducible rfl
          rotate_left
          · simp only [Act.put, List.setIfInBounds_toArray, List.set_cons_zero, List.set_cons_succ, i64_w, i32_w]
            rfl
          refine done_ (done_of HT_.out (by kernel_rfl)) ?_
          try go_wp2
          go_meet
          case rel => exact ⟨_, (((t143.length : Int) != (wrap64 (t142 - 1)))), (by first | rfl | (simp; done) | (simp [*]; done)), H', ⟨by first | omega | exact Nat.le_refl _⟩, ⟨by (with_reducible repeat (first | apply Kd.R_alloc | apply Kd.R_drewN | apply Kd.R_drew)); exact HO141.out⟩, ⟨by (with_reducible repeat (first | apply Kd.R_alloc | apply Kd.R_drewN | apply Kd.R_drew)); exact HO145.out⟩, ⟨by (with_reducible repeat (first | apply Kd.S_alloc | apply Kd.S_drewN | apply Kd.S_drew)); exact HO148.out⟩, ⟨by (with_reducible repeat (first | refine blk_drewN ?_ _ | refine blk_drew ?_ | refine blk_alloc ?_ _)); exact BK125.out⟩, ⟨by (with_reducible repeat (first | refine blk_drewN ?_ _ | refine blk_drew ?_ | refine blk_alloc ?_ _)); exact BK150.out⟩, ⟨by repeat (first | (with_reducible first | exact HB.out | apply below_alloc | apply pw_below_drewN | apply below_drew1 | refine below_set ?_ GE125.out | refine below_set ?_ GE150.out) | exact HB.out)⟩⟩
        · rw [if_neg c19] at H
          have c19b0 : (t142 == t151) = false := beq_eq_false_iff_ne.mpr c19
          have c19b1 : (t142 != t151) = true := bne_iff_ne.mpr c19
          have H' := Aside0.mk H
          clear H
          try go_wp2
          have n0_ : Aside0 (Kd.R (Kd.int .i64) 2 ((((w11.setCell ⟨gb150, 0, none⟩ (.slice Ao12 t139.length co12)).setCell ⟨gb150, 1, none⟩ (.int .i64 t142)).setCell ⟨gb150, 2, none⟩ (.slice Ao15 t143.length co15)).setCell ⟨gb150, 3, none⟩ (.slice Ao16 t146.length co16)) w.heap.size (fun _ => True) (.slice Ao12 t139.length co12) t139) := ⟨by (with_reducible repeat (first | apply Kd.R_alloc | apply Kd.R_drewN | apply Kd.R_drew)); exact Kd.R_mono (Kd.R_far (p := ⟨gb150, 3, none⟩) (Kd.R_far (p := ⟨gb150, 2, none⟩) (Kd.R_far (p := ⟨gb150, 1, none⟩) (Kd.R_far (p := ⟨gb150, 0, none⟩) (Kd.R_types HO141.out BK150.out (by decide)) (fun _ hk => hk.2) (.slice Ao12 t139.length co12)) (fun _ hk => hk.2) (.int .i64 t142)) (fun _ hk => hk.2) (.slice Ao15 t143.length co15)) (fun _ hk => hk.2) (.slice Ao16 t146.length co16)) (fun _ hk => trivial)⟩
          have n1_ : Aside0 (Kd.R k44 44 ((((w11.setCell ⟨gb150, 0, none⟩ (.slice Ao12 t139.length co12)).setCell ⟨gb150, 1, none⟩ (.int .i64 t142)).setCell ⟨gb150, 2, none⟩ (.slice Ao15 t143.length co15)).setCell ⟨gb150, 3, none⟩ (.slice Ao16 t146.length co16)) w.heap.size (fun _ => True) (.slice Ao15 t143.length co15) t143) := ⟨by (with_reducible repeat (first | apply Kd.R_alloc | apply Kd.R_drewN | apply Kd.R_drew)); exact Kd.R_mono (Kd.R_far (p := ⟨gb150, 3, none⟩) (Kd.R_far (p := ⟨gb150, 2, none⟩) (Kd.R_far (p := ⟨gb150, 1, none⟩) (Kd.R_far (p := ⟨gb150, 0, none⟩) (Kd.R_types HO145.out BK150.out (by decide)) (fun _ hk => hk.2) (.slice Ao12 t139.length co12)) (fun _ hk => hk.2) (.int .i64 t142)) (fun _ hk => hk.2) (.slice Ao15 t143.length co15)) (fun _ hk => hk.2) (.slice Ao16 t146.length co16)) (fun _ hk => trivial)⟩
          have n2_ : Aside0 (Kd.S (Kd.slice 2 (Kd.int .i64)) 28 ((((w11.setCell ⟨gb150, 0, none⟩ (.slice Ao12 t139.length co12)).setCell ⟨gb150, 1, none⟩ (.int .i64 t142)).setCell ⟨gb150, 2, none⟩ (.slice Ao15 t143.length co15)).setCell ⟨gb150, 3, none⟩ (.slice Ao16 t146.length co16)) w.heap.size (fun k_ => some k_ ≠ (.slice Ao12 t139.length co12 : Value).ownBlock) (.slice Ao16 t146.length co16) t146) := ⟨by (with_reducible repeat (first | apply Kd.S_alloc | apply Kd.S_drewN | apply Kd.S_drew)); exact Kd.S_mono (Kd.S_far (p := ⟨gb150, 3, none⟩) (Kd.S_far (p := ⟨gb150, 2, none⟩) (Kd.S_far (p := ⟨gb150, 1, none⟩) (Kd.S_far (p := ⟨gb150, 0, none⟩) (Kd.S_types HO148.out BK150.out (by decide)) (fun _ hk => hk.2) (.slice Ao12 t139.length co12)) (fun _ hk => hk.2) (.int .i64 t142)) (fun _ hk => hk.2) (.slice Ao15 t143.length co15)) (fun _ hk => hk.2) (.slice Ao16 t146.length co16)) (fun _ hk => hk.1)⟩
          have n3_ : Aside0 (((((w11.setCell ⟨gb150, 0, none⟩ (.slice Ao12 t139.length co12)).setCell ⟨gb150, 1, none⟩ (.int .i64 t142)).setCell ⟨gb150, 2, none⟩ (.slice Ao15 t143.length co15)).setCell ⟨gb150, 3, none⟩ (.slice Ao16 t146.length co16)).heap[gb125]? = some (.cells #[.slice A0_0 l0_0.length c0_0, .slice A0_1 l0_1.length c0_1, .slice A0_2 l0_2.length c0_2] 26 (0, 0))) := ⟨by (with_reducible repeat (first | refine blk_drewN ?_ _ | refine blk_drew ?_ | refine blk_alloc ?_ _)); refine blk_far ?_ NB125_150.out _; (with_reducible repeat (first | refine blk_drewN ?_ _ | refine blk_drew ?_ | refine blk_alloc ?_ _)); refine blk_far ?_ NB125_150.out _; (with_reducible repeat (first | refine blk_drewN ?_ _ | refine blk_drew ?_ | refine blk_alloc ?_ _)); refine blk_far ?_ NB125_150.out _; (with_reducible repeat (first | refine blk_drewN ?_ _ | refine blk_drew ?_ | refine blk_alloc ?_ _)); refine blk_far ?_ NB125_150.out _; (with_reducible repeat (first | refine blk_drewN ?_ _ | refine blk_drew ?_ | refine blk_alloc ?_ _)); exact BK125.out⟩
          have n4_ : Aside0 (((((w11.setCell ⟨gb150, 0, none⟩ (.slice Ao12 t139.length co12)).setCell ⟨gb150, 1, none⟩ (.int .i64 t142)).setCell ⟨gb150, 2, none⟩ (.slice Ao15 t143.length co15)).setCell ⟨gb150, 3, none⟩ (.slice Ao16 t146.length co16)).heap[gb150]? = some (.cells #[.slice Ao12 t139.length co12, .int .i64 t142, .slice Ao15 t143.length co15, .slice Ao16 t146.length co16] 39 (0, 0))) := ⟨by (with_reducible repeat (first | refine blk_drewN ?_ _ | refine blk_drew ?_ | refine blk_alloc ?_ _)); refine blk_put (cs := #[.slice Ao12 t139.length co12, .int .i64 t142, .slice Ao15 t143.length co15, .slice none 0 0]) ?_ 3 _ rfl; (with_reducible repeat (first | refine blk_drewN ?_ _ | refine blk_drew ?_ | refine blk_alloc ?_ _)); refine blk_put (cs := #[.slice Ao12 t139.length co12, .int .i64 t142, .slice none 0 0, .slice none 0 0]) ?_ 2 _ rfl; (with_reducible repeat (first | refine blk_drewN ?_ _ | refine blk_drew ?_ | refine blk_alloc ?_ _)); refine blk_put (cs := #[.slice Ao12 t139.length co12, .int .i64 0, .slice none 0 0, .slice none 0 0]) ?_ 1 _ rfl; (with_reducible repeat (first | refine blk_drewN ?_ _ | refine blk_drew ?_ | refine blk_alloc ?_ _)); refine blk_put (cs := #[.slice none 0 0, .int .i64 0, .slice none 0 0, .slice none 0 0]) ?_ 0 _ rfl; (with_reducible repeat (first | refine blk_drewN ?_ _ | refine blk_drew ?_ | refine blk_alloc ?_ _)); exact BK150.out⟩
          have n5_ : Aside0 (Below w.heap.size w ((((w11.setCell ⟨gb150, 0, none⟩ (.slice Ao12 t139.length co12)).setCell ⟨gb150, 1, none⟩ (.int .i64 t142)).setCell ⟨gb150, 2, none⟩ (.slice Ao15 t143.length co15)).setCell ⟨gb150, 3, none⟩ (.slice Ao16 t146.length co16))) := ⟨by repeat (first | (with_reducible first | exact HB.out | apply below_alloc | apply pw_below_drewN | apply below_drew1 | refine below_set ?_ GE125.out | refine below_set ?_ GE150.out) | exact HB.out)⟩
          (try clear HO141)
          (try clear HO145)
          (try clear HO148)
          (try clear BK125)
          (try clear BK150)
          (try clear HB)
          generalize ((((w11.setCell ⟨gb150, 0, none⟩ (.slice Ao12 t139.length co12)).setCell ⟨gb150, 1, none⟩ (.int .i64 t142)).setCell ⟨gb150, 2, none⟩ (.slice Ao15 t143.length co15)).setCell ⟨gb150, 3, none⟩ (.slice Ao16 t146.length co16)) = w23 at n0_ n1_ n2_ n3_ n4_ n5_ ⊢
          have HO141 := n0_
          have HO145 := n1_
          have HO148 := n2_
          have BK125 := n3_
          have BK150 := n4_
          have HB := n5_
          clear n0_ n1_ n2_ n3_ n4_ n5_
          have n0_ := Aside0.mk (Kd.R_drew HO141.out)
          have n1_ := Aside0.mk (Kd.R_drew HO145.out)
          have n2_ := Aside0.mk (Kd.S_drew HO148.out)
          have n3_ := Aside0.mk (blk_drew BK125.out)
          have n4_ := Aside0.mk (blk_drew BK150.out)
          have n5_ := Aside0.mk (below_drew1 HB.out)
          clear HO141
          clear HO145
          clear HO148
          clear BK125
          clear BK150
          clear HB
          have HO141 := n0_
          have HO145 := n1_
          have HO148 := n2_
          have BK125 := n3_
          have BK150 := n4_
          have HB := n5_
          clear n0_ n1_ n2_ n3_ n4_ n5_
          refine start_ (n := 18) (S := fun w' => w'.cell? ⟨gb150, 0, none⟩ = some (.slice Ao12 t139.length co12) ∧ w'.cell? ⟨gb150, 1, none⟩ = some (.int .i64 t142) ∧ w'.cell? ⟨gb150, 2, none⟩ = some (.slice Ao15 t143.length co15) ∧ w'.cell? ⟨gb150, 3, none⟩ = some (.slice Ao16 t146.length co16) ∧ w'.cell? ⟨gb125, 0, none⟩ = some (.slice A0_0 l0_0.length c0_0) ∧ w'.cell? ⟨gb125, 1, none⟩ = some (.slice A0_1 l0_1.length c0_1) ∧ w'.cell? ⟨gb125, 2, none⟩ = some (.slice A0_2 l0_2.length c0_2)) (ds := []) #[false, false, false, false, false, false, false, false, false, false, false, false, false, false, false, false, false, false] (by kernel_rfl) rfl rfl ⟨(blk_cell BK150.out 0).trans rfl, (blk_cell BK150.out 1).trans rfl, (blk_cell BK150.out 2).trans rfl, (blk_cell BK150.out 3).trans rfl, (blk_cell BK125.out 0).trans rfl, (blk_cell BK125.out 1).trans rfl, (blk_cell BK125.out 2).trans rfl⟩ (fun hHeld => ?_); refine with_tabW plunderlaw23_HyperCounts.tab5 plunderlaw23_HyperCounts.bits5 (fun HT_ HW_ => ?_)
          generalize w23.drew = w24 at HO141 HO145 HO148 BK125 BK150 HB hHeld ⊢
          refine pure_ (i := 0) (N := some 36) (v := ?_) (a' := ?_) #[true, false, false, false, false, false, false, false, false, false, false, false, false, false, false, false, false, false] rfl rfl (any_of HT_.out (by kernel_rfl)) (fun _ _ _ h => h) (Or.inl ⟨by rfl, ?_⟩) ?_ ?_
          rotate_left
          · intro w'
            go_simp
            with_reducible rfl
          rotate_left
          · simp only [Act.put, List.setIfInBounds_toArray, List.set_cons_zero, List.set_cons_succ, i64_w, i32_w]
            rfl
          refine pure_ (i := 1) (N := some 37) (v := ?_) (a' := ?_) #[true, true, false, false, false, false, false, false, false, false, false, false, false, false, false, false, false, false] rfl rfl (any_of HT_.out (by kernel_rfl)) (fun _ _ _ h => h) (Or.inl ⟨by rfl, ?_⟩) ?_ ?_
          rotate_left
          · intro w'
            go_simp
            with_reducible rfl
          rotate_left
          · simp only [Act.put, List.setIfInBounds_toArray, List.set_cons_zero, List.set_cons_succ, i64_w, i32_w]
            rfl
          refine pure_ (i := 2) (N := some 38) (v := ?_) (a' := ?_) #[true, true, true, false, false, false, false, false, false, false, false, false, false, false, false, false, false, false] rfl rfl (any_of HT_.out (by kernel_rfl)) (fun _ _ _ h => h) (Or.inl ⟨by rfl, ?_⟩) ?_ ?_
          rotate_left
          · intro w'
            go_simp
            with_reducible rfl
          rotate_left
          · simp only [Act.put, List.setIfInBounds_toArray, List.set_cons_zero, List.set_cons_succ, i64_w, i32_w]
            rfl
          refine pure_ (i := 3) (N := some 39) (v := ?_) (a' := ?_) #[true, true, true, true, false, false, false, false, false, false, false, false, false, false, false, false, false, false] rfl rfl (any_of HT_.out (by kernel_rfl)) (fun _ _ _ h => h) (Or.inl ⟨by rfl, ?_⟩) ?_ ?_
          rotate_left
          · intro w'
            go_simp
            with_reducible rfl
          rotate_left
          · simp only [Act.put, List.setIfInBounds_toArray, List.set_cons_zero, List.set_cons_succ, i64_w, i32_w]
            rfl
          refine take_ (i := 4) (N := some 40) (v := ?_) (a' := ?_) #[true, true, true, true, true, false, false, false, false, false, false, false, false, false, false, false, false, false] rfl rfl (take_ofW HT_.out HW_.out (by kernel_rfl)) (fun _ _ _ h => h) (Or.inl ⟨by rfl, ?_⟩) hHeld ?_ ?_
          rotate_left
          · rintro w' ⟨s0, s1, s2, s3, s4, s5, s6⟩
            go_simp
            with_reducible rfl
          rotate_left
          · simp only [Act.put, List.setIfInBounds_toArray, List.set_cons_zero, List.set_cons_succ, i64_w, i32_w]
            rfl
          refine take_ (i := 5) (N := some 41) (v := ?_) (a' := ?_) #[true, true, true, true, true, true, false, false, false, false, false, false, false, false, false, false, false, false] rfl rfl (take_ofW HT_.out HW_.out (by kernel_rfl)) (fun _ _ _ h => h) (Or.inl ⟨by rfl, ?_⟩) hHeld ?_ ?_
          rotate_left
          · rintro w' ⟨s0, s1, s2, s3, s4, s5, s6⟩
            go_simp
            with_reducible rfl
          rotate_left
          · simp only [Act.put, List.setIfInBounds_toArray, List.set_cons_zero, List.set_cons_succ, i64_w, i32_w]
            rfl
          refine one_ (i := 6) (N := some 42) #[true, true, true, true, true, true, true, false, false, false, false, false, false, false, false, false, false, false] rfl rfl (one_of HT_.out (by kernel_rfl)) (by decide) (fun K hK => ?_)
          refine goes_ Try.func19 (by kernel_rfl) rfl #[.agg #[.slice A0_0 l0_0.length c0_0, .slice A0_1 l0_1.length c0_1, .slice A0_2 l0_2.length c0_2]] (by rfl) rfl rfl (by (try simp only [List.map_toArray, List.map_cons, List.map_nil]); first | done | rfl | (simp only [List.length_drop, List.length_take]; rfl)) ?_
          with_reducible refine (plunderlaw23_made.calls k _ _ l0_0 _ _ l0_1 _ _ l0_2 t151 _ ?side1 ?side2 ?side3 ?side4 ?side5 ?side6 A18.out).mono ?_
          (case side1 => repeat (first | exact (Kd.C_below HR0_0.out HB.out) | (with_reducible refine Kd.C_alloc ?_ _) | (with_reducible refine Kd.C_drewN ?_ _) | (with_reducible refine Kd.C_drew ?_)))
          (case side2 => exact HC0_0.out)
          (case side3 => repeat (first | exact (Kd.C_below HR0_1.out HB.out) | (with_reducible refine Kd.C_alloc ?_ _) | (with_reducible refine Kd.C_drewN ?_ _) | (with_reducible refine Kd.C_drew ?_)))
          (case side4 => exact HC0_1.out)
          (case side5 => repeat (first | exact (Kd.C_below HR0_2.out HB.out) | (with_reducible refine Kd.C_alloc ?_ _) | (with_reducible refine Kd.C_drewN ?_ _) | (with_reducible refine Kd.C_drew ?_)))
          (case side6 => exact HC0_2.out)
          rintro e w25 ⟨rfl, hb⟩
          refine ⟨_, rfl, ?_⟩
          have n0_ := Aside0.mk (Kd.R_below (by (with_reducible repeat (first | apply Kd.R_alloc | apply Kd.R_drewN | apply Kd.R_drew)); exact HO141.out) hb)
          have n1_ := Aside0.mk (Kd.R_below (by (with_reducible repeat (first | apply Kd.R_alloc | apply Kd.R_drewN | apply Kd.R_drew)); exact HO145.out) hb)
          have n2_ := Aside0.mk (Kd.S_below (by (with_reducible repeat (first | apply Kd.S_alloc | apply Kd.S_drewN | apply Kd.S_drew)); exact HO148.out) hb)
          have n3_ := Aside0.mk (blk_below (g := gb125) (o := .cells #[.slice A0_0 l0_0.length c0_0, .slice A0_1 l0_1.length c0_1, .slice A0_2 l0_2.length c0_2] 26 (0, 0)) (by (with_reducible repeat (first | refine blk_drewN ?_ _ | refine blk_drew ?_ | refine blk_alloc ?_ _)); exact BK125.out) hb)
          have n4_ := Aside0.mk (blk_below (g := gb150) (o := .cells #[.slice Ao12 t139.length co12, .int .i64 t142, .slice Ao15 t143.length co15, .slice Ao16 t146.length co16] 39 (0, 0)) (by (with_reducible repeat (first | refine blk_drewN ?_ _ | refine blk_drew ?_ | refine blk_alloc ?_ _)); exact BK150.out) hb)
          have n5_ := Aside0.mk (below_step (by repeat (first | (with_reducible first | exact HB.out | apply below_alloc | apply pw_below_drewN | apply below_drew1 | refine below_set ?_ GE125.out | refine below_set ?_ GE150.out) | exact HB.out)) hb)
          clear HO141
          clear HO145
          clear HO148
          clear BK125
          clear BK150
          clear HB
          have HO141 := n0_
          have HO145 := n1_
          have HO148 := n2_
          have BK125 := n3_
          have BK150 := n4_
          have HB := n5_
          clear n0_ n1_ n2_ n3_ n4_ n5_
          (try clear hb)
          (try clear hb2)
          (try clear hk)
          (try clear hi)
          refine hK.out _ _ ⟨(blk_cell BK150.out 0).trans rfl, (blk_cell BK150.out 1).trans rfl, (blk_cell BK150.out 2).trans rfl, (blk_cell BK150.out 3).trans rfl, (blk_cell BK125.out 0).trans rfl, (blk_cell BK125.out 1).trans rfl, (blk_cell BK125.out 2).trans rfl⟩ (fun hHeld => ?_)
          clear hK K
          refine norm_ (a' := ?_) ?_ ?_
          rotate_left
          · show Act.put _ (some 42) _ = _
            simp only [Act.put, List.setIfInBounds_toArray, List.set_cons_zero, List.set_cons_succ, i64_w, i32_w]
            rfl
          refine pure_ (i := 7) (N := some 43) (v := ?_) (a' := ?_) #[true, true, true, true, true, true, true, true, false, false, false, false, false, false, false, false, false, false] rfl rfl (any_of HT_.out (by kernel_rfl)) (fun _ _ _ h => h) (Or.inl ⟨by rfl, ?_⟩) ?_ ?_
          rotate_left
          · intro w'
            go_simp
            with_reducible rfl
          rotate_left
          · simp only [Act.put, List.setIfInBounds_toArray, List.set_cons_zero, List.set_cons_succ, i64_w, i32_w]
            rfl
          refine pure_ (i := 8) (N := some 44) (v := ?_) (a' := ?_) #[true, true, true, true, true, true, true, true, true, false, false, false, false, false, false, false, false, false] rfl rfl (any_of HT_.out (by kernel_rfl)) (fun _ _ _ h => h) (Or.inl ⟨by rfl, ?_⟩) ?_ ?_
          rotate_left
          · intro w'
            go_simp
            with_reducible rfl
          rotate_left
          · simp only [Act.put, List.setIfInBounds_toArray, List.set_cons_zero, List.set_cons_succ, i64_w, i32_w]
            rfl
          refine pure_ (i := 9) (N := some 45) (v := ?_) (a' := ?_) #[true, true, true, true, true, true, true, true, true, true, false, false, false, false, false, false, false, false] rfl rfl (any_of HT_.out (by kernel_rfl)) (fun _ _ _ h => h) (Or.inl ⟨by rfl, ?_⟩) ?_ ?_
          rotate_left
          · intro w'
            go_simp
            with_reducible rfl
          rotate_left
          · simp only [Act.put, List.setIfInBounds_toArray, List.set_cons_zero, List.set_cons_succ, i64_w, i32_w]
            rfl
          refine pure_ (i := 10) (N := some 46) (v := undef) (a' := ?_) #[true, true, true, true, true, true, true, true, true, true, true, false, false, false, false, false, false, false] rfl rfl (any_of HT_.out (by kernel_rfl)) (fun _ _ _ h => h) (Or.inr ⟨by rfl, rfl⟩) ?_ ?_
          rotate_left
          · simp only [Act.put, List.setIfInBounds_toArray, List.set_cons_zero, List.set_cons_succ, i64_w, i32_w]
            rfl
          refine pure_ (i := 11) (N := some 47) (v := undef) (a' := ?_) #[true, true, true, true, true, true, true, true, true, true, true, true, false, false, false, false, false, false] rfl rfl (any_of HT_.out (by kernel_rfl)) (fun _ _ _ h => h) (Or.inr ⟨by rfl, rfl⟩) ?_ ?_
          rotate_left
          · simp only [Act.put, List.setIfInBounds_toArray, List.set_cons_zero, List.set_cons_succ, i64_w, i32_w]
            rfl
          refine pure_ (i := 12) (N := some 48) (v := undef) (a' := ?_) #[true, true, true, true, true, true, true, true, true, true, true, true, true, false, false, false, false, false] rfl rfl (any_of HT_.out (by kernel_rfl)) (fun _ _ _ h => h) (Or.inr ⟨by rfl, rfl⟩) ?_ ?_
          rotate_left
          · simp only [Act.put, List.setIfInBounds_toArray, List.set_cons_zero, List.set_cons_succ, i64_w, i32_w]
            rfl
          refine pure_ (i := 13) (N := some 49) (v := undef) (a' := ?_) #[true, true, true, true, true, true, true, true, true, true, true, true, true, true, false, false, false, false] rfl rfl (any_of HT_.out (by kernel_rfl)) (fun _ _ _ h => h) (Or.inr ⟨by rfl, rfl⟩) ?_ ?_
          rotate_left
          · simp only [Act.put, List.setIfInBounds_toArray, List.set_cons_zero, List.set_cons_succ, i64_w, i32_w]
            rfl
          refine pure_ (i := 14) (N := some 50) (v := undef) (a' := ?_) #[true, true, true, true, true, true, true, true, true, true, true, true, true, true, true, false, false, false] rfl rfl (any_of HT_.out (by kernel_rfl)) (fun _ _ _ h => h) (Or.inr ⟨by rfl, rfl⟩) ?_ ?_
          rotate_left
          · simp only [Act.put, List.setIfInBounds_toArray, List.set_cons_zero, List.set_cons_succ, i64_w, i32_w]
            rfl
          refine pure_ (i := 15) (N := some 51) (v := undef) (a' := ?_) #[true, true, true, true, true, true, true, true, true, true, true, true, true, true, true, true, false, false] rfl rfl (any_of HT_.out (by kernel_rfl)) (fun _ _ _ h => h) (Or.inr ⟨by rfl, rfl⟩) ?_ ?_
          rotate_left
          · simp only [Act.put, List.setIfInBounds_toArray, List.set_cons_zero, List.set_cons_succ, i64_w, i32_w]
            rfl
          refine pure_ (i := 16) (N := some 52) (v := undef) (a' := ?_) #[true, true, true, true, true, true, true, true, true, true, true, true, true, true, true, true, true, false] rfl rfl (any_of HT_.out (by kernel_rfl)) (fun _ _ _ h => h) (Or.inr ⟨by rfl, rfl⟩) ?_ ?_
          rotate_left
          · simp only [Act.put, List.setIfInBounds_toArray, List.set_cons_zero, List.set_cons_succ, i64_w, i32_w]
            rfl
          refine pure_ (i := 17) (N := some 53) (v := ?_) (a' := ?_) #[true, true, true, true, true, true, true, true, true, true, true, true, true, true, true, true, true, true] rfl rfl (any_of HT_.out (by kernel_rfl)) (fun _ _ _ h => h) (Or.inl ⟨by rfl, ?_⟩) ?_ ?_
          rotate_left
          · intro w'
            go_simp
            with_reducible rfl
          rotate_left
          · simp only [Act.put, List.setIfInBounds_toArray, List.set_cons_zero, List.set_cons_succ, i64_w, i32_w]
            rfl
          refine done_ (done_of HT_.out (by kernel_rfl)) ?_
          try go_wp2
          go_meet
          case rel => exact ⟨_, (true), (by first | rfl | (simp; done) | (simp [*]; done)), H', ⟨by first | omega | exact Nat.le_refl _⟩, ⟨by (with_reducible repeat (first | apply Kd.R_alloc | apply Kd.R_drewN | apply Kd.R_drew)); exact HO141.out⟩, ⟨by (with_reducible repeat (first | apply Kd.R_alloc | apply Kd.R_drewN | apply Kd.R_drew)); exact HO145.out⟩, ⟨by (with_reducible repeat (first | apply Kd.S_alloc | apply Kd.S_drewN | apply Kd.S_drew)); exact HO148.out⟩, ⟨by (with_reducible repeat (first | refine blk_drewN ?_ _ | refine blk_drew ?_ | refine blk_alloc ?_ _)); exact BK125.out⟩, ⟨by (with_reducible repeat (first | refine blk_drewN ?_ _ | refine blk_drew ?_ | refine blk_alloc ?_ _)); exact BK150.out⟩, ⟨by repeat (first | (with_reducible first | exact HB.out | apply below_alloc | apply pw_below_drewN | apply below_drew1 | refine below_set ?_ GE125.out | refine below_set ?_ GE150.out) | exact HB.out)⟩⟩
      · rw [if_neg c17] at H
        have c17b0 : (t149 == 0) = false := beq_eq_false_iff_ne.mpr c17
        have c17b1 : (t149 != 0) = true := bne_iff_ne.mpr c17
        (first | rw [c17b0] | (simp only [i64_w, i32_w]; rw [c17b0]) | skip)
        have H' := Aside0.mk H
        clear H
        try go_wp2
        have n0_ : Aside0 (Kd.R (Kd.int .i64) 2 ((((w11.setCell ⟨gb150, 0, none⟩ (.slice Ao12 t139.length co12)).setCell ⟨gb150, 1, none⟩ (.int .i64 t142)).setCell ⟨gb150, 2, none⟩ (.slice Ao15 t143.length co15)).setCell ⟨gb150, 3, none⟩ (.slice Ao16 t146.length co16)) w.heap.size (fun _ => True) (.slice Ao12 t139.length co12) t139) := ⟨by (with_reducible repeat (first | apply Kd.R_alloc | apply Kd.R_drewN | apply Kd.R_drew)); exact Kd.R_mono (Kd.R_far (p := ⟨gb150, 3, none⟩) (Kd.R_far (p := ⟨gb150, 2, none⟩) (Kd.R_far (p := ⟨gb150, 1, none⟩) (Kd.R_far (p := ⟨gb150, 0, none⟩) (Kd.R_types HO141.out BK150.out (by decide)) (fun _ hk => hk.2) (.slice Ao12 t139.length co12)) (fun _ hk => hk.2) (.int .i64 t142)) (fun _ hk => hk.2) (.slice Ao15 t143.length co15)) (fun _ hk => hk.2) (.slice Ao16 t146.length co16)) (fun _ hk => trivial)⟩
        have n1_ : Aside0 (Kd.R k44 44 ((((w11.setCell ⟨gb150, 0, none⟩ (.slice Ao12 t139.length co12)).setCell ⟨gb150, 1, none⟩ (.int .i64 t142)).setCell ⟨gb150, 2, none⟩ (.slice Ao15 t143.length co15)).setCell ⟨gb150, 3, none⟩ (.slice Ao16 t146.length co16)) w.heap.size (fun _ => True) (.slice Ao15 t143.length co15) t143) := ⟨by (with_reducible repeat (first | apply Kd.R_alloc | apply Kd.R_drewN | apply Kd.R_drew)); exact Kd.R_mono (Kd.R_far (p := ⟨gb150, 3, none⟩) (Kd.R_far (p := ⟨gb150, 2, none⟩) (Kd.R_far (p := ⟨gb150, 1, none⟩) (Kd.R_far (p := ⟨gb150, 0, none⟩) (Kd.R_types HO145.out BK150.out (by decide)) (fun _ hk => hk.2) (.slice Ao12 t139.length co12)) (fun _ hk => hk.2) (.int .i64 t142)) (fun _ hk => hk.2) (.slice Ao15 t143.length co15)) (fun _ hk => hk.2) (.slice Ao16 t146.length co16)) (fun _ hk => trivial)⟩
        have n2_ : Aside0 (Kd.S (Kd.slice 2 (Kd.int .i64)) 28 ((((w11.setCell ⟨gb150, 0, none⟩ (.slice Ao12 t139.length co12)).setCell ⟨gb150, 1, none⟩ (.int .i64 t142)).setCell ⟨gb150, 2, none⟩ (.slice Ao15 t143.length co15)).setCell ⟨gb150, 3, none⟩ (.slice Ao16 t146.length co16)) w.heap.size (fun k_ => some k_ ≠ (.slice Ao12 t139.length co12 : Value).ownBlock) (.slice Ao16 t146.length co16) t146) := ⟨by (with_reducible repeat (first | apply Kd.S_alloc | apply Kd.S_drewN | apply Kd.S_drew)); exact Kd.S_mono (Kd.S_far (p := ⟨gb150, 3, none⟩) (Kd.S_far (p := ⟨gb150, 2, none⟩) (Kd.S_far (p := ⟨gb150, 1, none⟩) (Kd.S_far (p := ⟨gb150, 0, none⟩) (Kd.S_types HO148.out BK150.out (by decide)) (fun _ hk => hk.2) (.slice Ao12 t139.length co12)) (fun _ hk => hk.2) (.int .i64 t142)) (fun _ hk => hk.2) (.slice Ao15 t143.length co15)) (fun _ hk => hk.2) (.slice Ao16 t146.length co16)) (fun _ hk => hk.1)⟩
        have n3_ : Aside0 (((((w11.setCell ⟨gb150, 0, none⟩ (.slice Ao12 t139.length co12)).setCell ⟨gb150, 1, none⟩ (.int .i64 t142)).setCell ⟨gb150, 2, none⟩ (.slice Ao15 t143.length co15)).setCell ⟨gb150, 3, none⟩ (.slice Ao16 t146.length co16)).heap[gb125]? = some (.cells #[.slice A0_0 l0_0.length c0_0, .slice A0_1 l0_1.length c0_1, .slice A0_2 l0_2.length c0_2] 26 (0, 0))) := ⟨by (with_reducible repeat (first | refine blk_drewN ?_ _ | refine blk_drew ?_ | refine blk_alloc ?_ _)); refine blk_far ?_ NB125_150.out _; (with_reducible repeat (first | refine blk_drewN ?_ _ | refine blk_drew ?_ | refine blk_alloc ?_ _)); refine blk_far ?_ NB125_150.out _; (with_reducible repeat (first | refine blk_drewN ?_ _ | refine blk_drew ?_ | refine blk_alloc ?_ _)); refine blk_far ?_ NB125_150.out _; (with_reducible repeat (first | refine blk_drewN ?_ _ | refine blk_drew ?_ | refine blk_alloc ?_ _)); refine blk_far ?_ NB125_150.out _; (with_reducible repeat (first | refine blk_drewN ?_ _ | refine blk_drew ?_ | refine blk_alloc ?_ _)); exact BK125.out⟩
        have n4_ : Aside0 (((((w11.setCell ⟨gb150, 0, none⟩ (.slice Ao12 t139.length co12)).setCell ⟨gb150, 1, none⟩ (.int .i64 t142)).setCell ⟨gb150, 2, none⟩ (.slice Ao15 t143.length co15)).setCell ⟨gb150, 3, none⟩ (.slice Ao16 t146.length co16)).heap[gb150]? = some (.cells #[.slice Ao12 t139.length co12, .int .i64 t142, .slice Ao15 t143.length co15, .slice Ao16 t146.length co16] 39 (0, 0))) := ⟨by (with_reducible repeat (first | refine blk_drewN ?_ _ | refine blk_drew ?_ | refine blk_alloc ?_ _)); refine blk_put (cs := #[.slice Ao12 t139.length co12, .int .i64 t142, .slice Ao15 t143.length co15, .slice none 0 0]) ?_ 3 _ rfl; (with_reducible repeat (first | refine blk_drewN ?_ _ | refine blk_drew ?_ | refine blk_alloc ?_ _)); refine blk_put (cs := #[.slice Ao12 t139.length co12, .int .i64 t142, .slice none 0 0, .slice none 0 0]) ?_ 2 _ rfl; (with_reducible repeat (first | refine blk_drewN ?_ _ | refine blk_drew ?_ | refine blk_alloc ?_ _)); refine blk_put (cs := #[.slice Ao12 t139.length co12, .int .i64 0, .slice none 0 0, .slice none 0 0]) ?_ 1 _ rfl; (with_reducible repeat (first | refine blk_drewN ?_ _ | refine blk_drew ?_ | refine blk_alloc ?_ _)); refine blk_put (cs := #[.slice none 0 0, .int .i64 0, .slice none 0 0, .slice none 0 0]) ?_ 0 _ rfl; (with_reducible repeat (first | refine blk_drewN ?_ _ | refine blk_drew ?_ | refine blk_alloc ?_ _)); exact BK150.out⟩
        have n5_ : Aside0 (Below w.heap.size w ((((w11.setCell ⟨gb150, 0, none⟩ (.slice Ao12 t139.length co12)).setCell ⟨gb150, 1, none⟩ (.int .i64 t142)).setCell ⟨gb150, 2, none⟩ (.slice Ao15 t143.length co15)).setCell ⟨gb150, 3, none⟩ (.slice Ao16 t146.length co16))) := ⟨by repeat (first | (with_reducible first | exact HB.out | apply below_alloc | apply pw_below_drewN | apply below_drew1 | refine below_set ?_ GE125.out | refine below_set ?_ GE150.out) | exact HB.out)⟩
        (try clear HO141)
        (try clear HO145)
        (try clear HO148)
        (try clear BK125)
        (try clear BK150)
        (try clear HB)
        generalize ((((w11.setCell ⟨gb150, 0, none⟩ (.slice Ao12 t139.length co12)).setCell ⟨gb150, 1, none⟩ (.int .i64 t142)).setCell ⟨gb150, 2, none⟩ (.slice Ao15 t143.length co15)).setCell ⟨gb150, 3, none⟩ (.slice Ao16 t146.length co16)) = w26 at n0_ n1_ n2_ n3_ n4_ n5_ ⊢
        have HO141 := n0_
        have HO145 := n1_
        have HO148 := n2_
        have BK125 := n3_
        have BK150 := n4_
        have HB := n5_
        clear n0_ n1_ n2_ n3_ n4_ n5_
        have n0_ := Aside0.mk (Kd.R_drew HO141.out)
        have n1_ := Aside0.mk (Kd.R_drew HO145.out)
        have n2_ := Aside0.mk (Kd.S_drew HO148.out)
        have n3_ := Aside0.mk (blk_drew BK125.out)
        have n4_ := Aside0.mk (blk_drew BK150.out)
        have n5_ := Aside0.mk (below_drew1 HB.out)
        clear HO141
        clear HO145
        clear HO148
        clear BK125
        clear BK150
        clear HB
        have HO141 := n0_
        have HO145 := n1_
        have HO148 := n2_
        have BK125 := n3_
        have BK150 := n4_
        have HB := n5_
        clear n0_ n1_ n2_ n3_ n4_ n5_
        refine start_ (n := 18) (S := fun w' => True) (ds := []) #[false, false, false, false, false, false, false, false, false, false, false, false, false, false, false, false, false, false] (by kernel_rfl) rfl rfl trivial (fun hHeld => ?_); refine with_tabW plunderlaw23_HyperCounts.tab5 plunderlaw23_HyperCounts.bits5 (fun HT_ HW_ => ?_)
        generalize w26.drew = w27 at HO141 HO145 HO148 BK125 BK150 HB hHeld ⊢
        refine pure_ (i := 0) (N := some 36) (v := ?_) (a' := ?_) #[true, false, false, false, false, false, false, false, false, false, false, false, false, false, false, false, false, false] rfl rfl (any_of HT_.out (by kernel_rfl)) (fun _ _ _ h => h) (Or.inl ⟨by rfl, ?_⟩) ?_ ?_
        rotate_left
        · intro w'
          go_simp
          with_reducible rfl
        rotate_left
        · simp only [Act.put, List.setIfInBounds_toArray, List.set_cons_zero, List.set_cons_succ, i64_w, i32_w]
          rfl
        refine pure_ (i := 1) (N := some 37) (v := ?_) (a' := ?_) #[true, true, false, false, false, false, false, false, false, false, false, false, false, false, false, false, false, false] rfl rfl (any_of HT_.out (by kernel_rfl)) (fun _ _ _ h => h) (Or.inl ⟨by rfl, ?_⟩) ?_ ?_
        rotate_left
        · intro w'
          go_simp
          with_reducible rfl
        rotate_left
        · simp only [Act.put, List.setIfInBounds_toArray, List.set_cons_zero, List.set_cons_succ, i64_w, i32_w]
          rfl
        refine pure_ (i := 2) (N := some 38) (v := ?_) (a' := ?_) #[true, true, true, false, false, false, false, false, false, false, false, false, false, false, false, false, false, false] rfl rfl (any_of HT_.out (by kernel_rfl)) (fun _ _ _ h => h) (Or.inl ⟨by rfl, ?_⟩) ?_ ?_
        rotate_left
        · intro w'
          go_simp
          with_reducible rfl
        rotate_left
        · simp only [Act.put, List.setIfInBounds_toArray, List.set_cons_zero, List.set_cons_succ, i64_w, i32_w]
          rfl
        refine pure_ (i := 3) (N := some 39) (v := undef) (a' := ?_) #[true, true, true, true, false, false, false, false, false, false, false, false, false, false, false, false, false, false] rfl rfl (any_of HT_.out (by kernel_rfl)) (fun _ _ _ h => h) (Or.inr ⟨by rfl, rfl⟩) ?_ ?_
        rotate_left
        · simp only [Act.put, List.setIfInBounds_toArray, List.set_cons_zero, List.set_cons_succ, i64_w, i32_w]
          rfl
        refine pure_ (i := 4) (N := some 40) (v := undef) (a' := ?_) #[true, true, true, true, true, false, false, false, false, false, false, false, false, false, false, false, false, false] rfl rfl (any_of HT_.out (by kernel_rfl)) (fun _ _ _ h => h) (Or.inr ⟨by rfl, rfl⟩) ?_ ?_
        rotate_left
        · simp only [Act.put, List.setIfInBounds_toArray, List.set_cons_zero, List.set_cons_succ, i64_w, i32_w]
          rfl
        refine pure_ (i := 5) (N := some 41) (v := undef) (a' := ?_) #[true, true, true, true, true, true, false, false, false, false, false, false, false, false, false, false, false, false] rfl rfl (any_of HT_.out (by kernel_rfl)) (fun _ _ _ h => h) (Or.inr ⟨by rfl, rfl⟩) ?_ ?_
        rotate_left
        · simp only [Act.put, List.setIfInBounds_toArray, List.set_cons_zero, List.set_cons_succ, i64_w, i32_w]
          rfl
        refine pure_ (i := 6) (N := some 42) (v := undef) (a' := ?_) #[true, true, true, true, true, true, true, false, false, false, false, false, false, false, false, false, false, false] rfl rfl (any_of HT_.out (by kernel_rfl)) (fun _ _ _ h => h) (Or.inr ⟨by rfl, rfl⟩) ?_ ?_
        rotate_left
        · simp only [Act.put, List.setIfInBounds_toArray, List.set_cons_zero, List.set_cons_succ, i64_w, i32_w]
          rfl
        refine pure_ (i := 7) (N := some 43) (v := undef) (a' := ?_) #[true, true, true, true, true, true, true, true, false, false, false, false, false, false, false, false, false, false] rfl rfl (any_of HT_.out (by kernel_rfl)) (fun _ _ _ h => h) (Or.inr ⟨by rfl, rfl⟩) ?_ ?_
        rotate_left
        · simp only [Act.put, List.setIfInBounds_toArray, List.set_cons_zero, List.set_cons_succ, i64_w, i32_w]
          rfl
        refine pure_ (i := 8) (N := some 44) (v := ?_) (a' := ?_) #[true, true, true, true, true, true, true, true, true, false, false, false, false, false, false, false, false, false] rfl rfl (any_of HT_.out (by kernel_rfl)) (fun _ _ _ h => h) (Or.inl ⟨by rfl, ?_⟩) ?_ ?_
        rotate_left
        · intro w'
          go_simp
          with_reducible rfl
        rotate_left
        · simp only [Act.put, List.setIfInBounds_toArray, List.set_cons_zero, List.set_cons_succ, i64_w, i32_w]
          rfl
        refine pure_ (i := 9) (N := some 45) (v := ?_) (a' := ?_) #[true, true, true, true, true, true, true, true, true, true, false, false, false, false, false, false, false, false] rfl rfl (any_of HT_.out (by kernel_rfl)) (fun _ _ _ h => h) (Or.inl ⟨by rfl, ?_⟩) ?_ ?_
        rotate_left
        · intro w'
          go_simp
          with_reducible rfl
        rotate_left
        · simp only [Act.put, List.setIfInBounds_toArray, List.set_cons_zero, List.set_cons_succ, i64_w, i32_w]
          rfl
        refine pure_ (i := 10) (N := some 46) (v := undef) (a' := ?_) #[true, true, true, true, true, true, true, true, true, true, true, false, false, false, false, false, false, false] rfl rfl (any_of HT_.out (by kernel_rfl)) (fun _ _ _ h => h) (Or.inr ⟨by rfl, rfl⟩) ?_ ?_
        rotate_left
        · simp only [Act.put, List.setIfInBounds_toArray, List.set_cons_zero, List.set_cons_succ, i64_w, i32_w]
          rfl
        refine pure_ (i := 11) (N := some 47) (v := undef) (a' := ?_) #[true, true, true, true, true, true, true, true, true, true, true, true, false, false, false, false, false, false] rfl rfl (any_of HT_.out (by kernel_rfl)) (fun _ _ _ h => h) (Or.inr ⟨by rfl, rfl⟩) ?_ ?_
        rotate_left
        · simp only [Act.put, List.setIfInBounds_toArray, List.set_cons_zero, List.set_cons_succ, i64_w, i32_w]
          rfl
        refine pure_ (i := 12) (N := some 48) (v := undef) (a' := ?_) #[true, true, true, true, true, true, true, true, true, true, true, true, true, false, false, false, false, false] rfl rfl (any_of HT_.out (by kernel_rfl)) (fun _ _ _ h => h) (Or.inr ⟨by rfl, rfl⟩) ?_ ?_
        rotate_left
        · simp only [Act.put, List.setIfInBounds_toArray, List.set_cons_zero, List.set_cons_succ, i64_w, i32_w]
          rfl
        refine pure_ (i := 13) (N := some 49) (v := undef) (a' := ?_) #[true, true, true, true, true, true, true, true, true, true, true, true, true, true, false, false, false, false] rfl rfl (any_of HT_.out (by kernel_rfl)) (fun _ _ _ h => h) (Or.inr ⟨by rfl, rfl⟩) ?_ ?_
        rotate_left
        · simp only [Act.put, List.setIfInBounds_toArray, List.set_cons_zero, List.set_cons_succ, i64_w, i32_w]
          rfl
        refine pure_ (i := 14) (N := some 50) (v := undef) (a' := ?_) #[true, true, true, true, true, true, true, true, true, true, true, true, true, true, true, false, false, false] rfl rfl (any_of HT_.out (by kernel_rfl)) (fun _ _ _ h => h) (Or.inr ⟨by rfl, rfl⟩) ?_ ?_
        rotate_left
        · simp only [Act.put, List.setIfInBounds_toArray, List.set_cons_zero, List.set_cons_succ, i64_w, i32_w]
          rfl
        refine pure_ (i := 15) (N := some 51) (v := undef) (a' := ?_) #[true, true, true, true, true, true, true, true, true, true, true, true, true, true, true, true, false, false] rfl rfl (any_of HT_.out (by kernel_rfl)) (fun _ _ _ h => h) (Or.inr ⟨by rfl, rfl⟩) ?_ ?_
        rotate_left
        · simp only [Act.put, List.setIfInBounds_toArray, List.set_cons_zero, List.set_cons_succ, i64_w, i32_w]
          rfl
        refine pure_ (i := 16) (N := some 52) (v := undef) (a' := ?_) #[true, true, true, true, true, true, true, true, true, true, true, true, true, true, true, true, true, false] rfl rfl (any_of HT_.out (by kernel_rfl)) (fun _ _ _ h => h) (Or.inr ⟨by rfl, rfl⟩) ?_ ?_
        rotate_left
        · simp only [Act.put, List.setIfInBounds_toArray, List.set_cons_zero, List.set_cons_succ, i64_w, i32_w]
          rfl
        refine pure_ (i := 17) (N := some 53) (v := ?_) (a' := ?_) #[true, true, true, true, true, true, true, true, true, true, true, true, true, true, true, true, true, true] rfl rfl (any_of HT_.out (by kernel_rfl)) (fun _ _ _ h => h) (Or.inl ⟨by rfl, ?_⟩) ?_ ?_
        rotate_left
        · intro w'
          go_simp
          with_reducible rfl
        rotate_left
        · simp only [Act.put, List.setIfInBounds_toArray, List.set_cons_zero, List.set_cons_succ, i64_w, i32_w]
          rfl
        refine done_ (done_of HT_.out (by kernel_rfl)) ?_
        try go_wp2
        go_meet
        case rel => exact ⟨_, (true), (by first | rfl | (simp; done) | (simp [*]; done)), H', ⟨by first | omega | exact Nat.le_refl _⟩, ⟨by (with_reducible repeat (first | apply Kd.R_alloc | apply Kd.R_drewN | apply Kd.R_drew)); exact HO141.out⟩, ⟨by (with_reducible repeat (first | apply Kd.R_alloc | apply Kd.R_drewN | apply Kd.R_drew)); exact HO145.out⟩, ⟨by (with_reducible repeat (first | apply Kd.S_alloc | apply Kd.S_drewN | apply Kd.S_drew)); exact HO148.out⟩, ⟨by (with_reducible repeat (first | refine blk_drewN ?_ _ | refine blk_drew ?_ | refine blk_alloc ?_ _)); exact BK125.out⟩, ⟨by (with_reducible repeat (first | refine blk_drewN ?_ _ | refine blk_drew ?_ | refine blk_alloc ?_ _)); exact BK150.out⟩, ⟨by repeat (first | (with_reducible first | exact HB.out | apply below_alloc | apply pw_below_drewN | apply below_drew1 | refine below_set ?_ GE125.out | refine below_set ?_ GE150.out) | exact HB.out)⟩⟩
    case rest =>
      clear HC5
      try clear c1
      try clear p2
      try clear c5
      try clear p6
      try clear c13
      try clear c15
      try clear c17
      try clear c17b0
      try clear c17b1
      try clear c18
      try clear c19
      try clear c19b0
      try clear c19b1
      try clear hcz14_0
      try clear hcz14_1
      try clear hcz14_2
      try clear hcz14_3
      try clear hcz7_0
      try clear hcz7_1
      try clear hcz7_2
      try clear hcz9_0
      try clear hcz9_1
      try clear hcz9_2
      try clear hfz14_0
      try clear hfz14_1
      try clear hfz14_2
      try clear hfz14_3
      try clear hfz7_0
      try clear hfz7_1
      try clear hfz7_2
      try clear hfz9_0
      try clear hfz9_1
      try clear hfz9_2
      obtain ⟨kq, x53_4, rfl, HA, HJ4, HO_151000, HO_151002, HO_151003, BK125, BK150, HB⟩ := hcut
      cases kq with
      | zero => exact absurd HA.out (by simp [plunderlaw23_HyperCounts.j0])
      | succ kj4 =>
        have H := HA.out
        clear HA
        simp only [plunderlaw23_HyperCounts.j0] at H
        by_cases c28 : x53_4 = true
        · subst c28
          have H1 : (some false) = some r := by rw [if_pos rfl] at H; exact H
          clear H
          have H := H1
          clear H1
          obtain rfl := Option.some.inj H
          go_wp2
          go_ret
          exact ⟨by first | rfl | (simp [errW_none, errW_some] <;> rfl) | (simp [*, errW_none, errW_some] <;> rfl), by repeat (first | (with_reducible first | exact HB.out | apply below_alloc | apply pw_below_drewN | apply below_drew1 | refine below_set ?_ GE125.out | refine below_set ?_ GE150.out) | exact HB.out)⟩
        · replace c28 := Bool.eq_false_iff.mpr c28
          subst c28
          have H1 : (if 0 ≤ t142 then (if (t142 : Int).toNat ≤ 281474976710656 then (plunderlaw23_HyperCounts.l0 kj4 (List.replicate (t142 : Int).toNat false) 0 0 l0_0 l0_1 l0_2 t139 t142 t143 t146) else (none)) else (none)) = some r := by rw [if_neg (show ¬ (false = true) by decide)] at H; exact H
          clear H
          have H := H1
          clear H1
          by_cases c29 : 0 ≤ t142
          · rw [if_pos c29] at H
            have c29b0 := eq_true c29
            have c29b1 : decide (0 ≤ t142) = true := decide_eq_true c29
            clear c29
            by_cases c30 : (t142 : Int).toNat ≤ 281474976710656
            · rw [if_pos c30] at H
              have c30b0 := eq_true c30
              have c30b1 : decide ((t142 : Int).toNat ≤ 281474976710656) = true := decide_eq_true c30
              clear c30
              obtain ⟨y152, hy152⟩ : ∃ y_ : List Bool, y_ = (List.replicate (t142 : Int).toNat false) := ⟨_, rfl⟩
              replace H : (plunderlaw23_HyperCounts.l0 kj4 y152 0 0 l0_0 l0_1 l0_2 t139 t142 t143 t146) = some r := by first | (rw [hy152]; with_reducible exact H) | (have H2_ := (Option.bind_some _ _).symm.trans H; rw [hy152]; with_reducible exact H2_) | (have H2_ := (Option.bind_some _ _).symm.trans H; with_reducible exact H2_) | with_reducible exact H | (rw [hy152]; exact H) | exact H
              have Ny152 := Aside0.mk hy152
              clear hy152
              have H' := Aside0.mk H
              clear H
              have hnb31 := NB150_125.out
              have hnc31 := NB125_150.out
              have hcz32_0 : wc.cell? ⟨gb150, 0, none⟩ = some (.slice Ao12 t139.length co12) := (blk_cell BK150.out 0).trans rfl
              have hcz32_1 : wc.cell? ⟨gb150, 1, none⟩ = some (.int .i64 t142) := (blk_cell BK150.out 1).trans rfl
              have hcz32_2 : wc.cell? ⟨gb150, 2, none⟩ = some (.slice Ao15 t143.length co15) := (blk_cell BK150.out 2).trans rfl
              have hcz32_3 : wc.cell? ⟨gb150, 3, none⟩ = some (.slice Ao16 t146.length co16) := (blk_cell BK150.out 3).trans rfl
              have hfz32_0 := blk_frozen BK150.out 0
              have hfz32_1 := blk_frozen BK150.out 1
              have hfz32_2 := blk_frozen BK150.out 2
              have hfz32_3 := blk_frozen BK150.out 3
              go_wp2_with (first | ((with_reducible refine gate_dst (N := 56) rfl ?_); (try (refine gate_guard (by rfl) ?_; dsimp only)); refine Kd.R_make Kd.bool _ 4 rfl (N := 56) rfl 23 _ _ rfl t142 rfl rfl Try.underlying23 (.bool false) 1 info4 rfl (by decide) (by omega) false (ok := fun _ => True) (okp := fun _ => True) rfl (fun _ hk => hk) trivial (of_decide_eq_true (by first | (with_reducible assumption) | assumption)) (Nat.le_trans (Nat.mul_le_mul_right _ (of_decide_eq_true (by first | (with_reducible assumption) | assumption) : t142.toNat ≤ 281474976710656)) (by omega)) (Below.refl _ _) (Nat.le_refl _) ?_; intro v153 w33 ho34 hb hg_ hnew_; clear hg_ hnew_; (first | rw [← Ny152.out] at ho34 | (simp only [Int.reduceToNat] at ho34; rw [← Ny152.out] at ho34)); have n0_ := Aside0.mk (Kd.R_below (by (with_reducible repeat (first | apply Kd.R_alloc | apply Kd.R_drewN | apply Kd.R_drew)); exact HO_151000.out) hb); have n1_ := Aside0.mk (Kd.R_below (by (with_reducible repeat (first | apply Kd.R_alloc | apply Kd.R_drewN | apply Kd.R_drew)); exact HO_151002.out) hb); have n2_ := Aside0.mk (Kd.S_below (by (with_reducible repeat (first | apply Kd.S_alloc | apply Kd.S_drewN | apply Kd.S_drew)); exact HO_151003.out) hb); have n3_ := Aside0.mk (Kd.R_lower ho34 (below_size (by repeat (first | (with_reducible first | exact HB.out | apply below_alloc | apply pw_below_drewN | apply below_drew1 | refine below_set ?_ GE125.out | refine below_set ?_ GE150.out) | exact HB.out)))); have n4_ := Aside0.mk (blk_below (g := gb125) (o := .cells #[.slice A0_0 l0_0.length c0_0, .slice A0_1 l0_1.length c0_1, .slice A0_2 l0_2.length c0_2] 26 (0, 0)) (by (with_reducible repeat (first | refine blk_drewN ?_ _ | refine blk_drew ?_ | refine blk_alloc ?_ _)); exact BK125.out) hb); have n5_ := Aside0.mk (blk_below (g := gb150) (o := .cells #[.slice Ao12 t139.length co12, .int .i64 t142, .slice Ao15 t143.length co15, .slice Ao16 t146.length co16] 39 (0, 0)) (by (with_reducible repeat (first | refine blk_drewN ?_ _ | refine blk_drew ?_ | refine blk_alloc ?_ _)); exact BK150.out) hb); have n6_ := Aside0.mk (below_step (by repeat (first | (with_reducible first | exact HB.out | apply below_alloc | apply pw_below_drewN | apply below_drew1 | refine below_set ?_ GE125.out | refine below_set ?_ GE150.out) | exact HB.out)) hb); clear HO_151000; clear HO_151002; clear HO_151003; clear BK125; clear BK150; clear HB; have HO_151000 := n0_; have HO_151002 := n1_; have HO_151003 := n2_; have HO154 := n3_; have BK125 := n4_; have BK150 := n5_; have HB := n6_; clear n0_ n1_ n2_ n3_ n4_ n5_ n6_; clear hb ho34))
              go_loopg [8, 9] kj4 (fun kq v8 v9 w' => ∃ (x7_2 : List Bool) (x8_2 : Int) (x9_2 : Int), v8 = .int .i64 x8_2 ∧ v9 = .int .i64 x9_2 ∧ Aside0 (plunderlaw23_HyperCounts.l0 kq x7_2 x8_2 x9_2 l0_0 l0_1 l0_2 t139 t142 t143 t146 = some r) ∧ Aside0 (kq ≤ kj4) ∧ Aside0 (Kd.R Kd.bool 4 w' w.heap.size (fun _ => True) v153 x7_2) ∧ Aside0 (Kd.R (Kd.int .i64) 2 w' w.heap.size (fun _ => True) (.slice Ao12 t139.length co12) t139) ∧ Aside0 (Kd.R k44 44 w' w.heap.size (fun _ => True) (.slice Ao15 t143.length co15) t143) ∧ Aside0 (Kd.S (Kd.slice 2 (Kd.int .i64)) 28 w' w.heap.size (fun k_ => some k_ ≠ ((.slice Ao12 t139.length co12) : Value).ownBlock) (.slice Ao16 t146.length co16) t146) ∧ Aside0 (w'.heap[gb125]? = some (.cells #[(.slice A0_0 l0_0.length c0_0), (.slice A0_1 l0_1.length c0_1), (.slice A0_2 l0_2.length c0_2)] 26 (0, 0))) ∧ Aside0 (w'.heap[gb150]? = some (.cells #[(.slice Ao12 t139.length co12), .int .i64 t142, (.slice Ao15 t143.length co15), (.slice Ao16 t146.length co16)] 39 (0, 0))) ∧ Aside0 (Below w.heap.size w w'))
              case atStart => exact ⟨(y152), (0), (0), (by first | rfl | (simp; done) | (simp [*]; done)), (by first | rfl | (simp; done) | (simp [*]; done)), H', ⟨Nat.le_refl _⟩, ⟨by (with_reducible repeat (first | apply Kd.R_alloc | apply Kd.R_drewN | apply Kd.R_drew)); exact HO154.out⟩, ⟨by (with_reducible repeat (first | apply Kd.R_alloc | apply Kd.R_drewN | apply Kd.R_drew)); exact HO_151000.out⟩, ⟨by (with_reducible repeat (first | apply Kd.R_alloc | apply Kd.R_drewN | apply Kd.R_drew)); exact HO_151002.out⟩, ⟨by (with_reducible repeat (first | apply Kd.S_alloc | apply Kd.S_drewN | apply Kd.S_drew)); exact HO_151003.out⟩, ⟨by (with_reducible repeat (first | refine blk_drewN ?_ _ | refine blk_drew ?_ | refine blk_alloc ?_ _)); exact BK125.out⟩, ⟨by (with_reducible repeat (first | refine blk_drewN ?_ _ | refine blk_drew ?_ | refine blk_alloc ?_ _)); exact BK150.out⟩, ⟨by repeat (first | (with_reducible first | exact HB.out | apply below_alloc | apply pw_below_drewN | apply below_drew1 | refine below_set ?_ GE125.out | refine below_set ?_ GE150.out) | exact HB.out)⟩⟩
              case round =>
                clear H'
                try clear c1
                try clear c2
                try clear p2
                try clear c3
                try clear c5
                try clear p6
                try clear c13
                try clear c15
                try clear c17
                try clear c17b0
                try clear c17b1
                try clear c18
                try clear c19
                try clear c19b0
                try clear c19b1
                try clear c28
                try clear c29
                try clear c29b0
                try clear c29b1
                try clear c30
                try clear c30b0
                try clear c30b1
                try clear c31
                try clear hcz14_0
                try clear hcz14_1
                try clear hcz14_2
                try clear hcz14_3
                try clear hcz32_0
                try clear hcz32_1
                try clear hcz32_2
                try clear hcz32_3
                try clear hcz7_0
                try clear hcz7_1
                try clear hcz7_2
                try clear hcz9_0
                try clear hcz9_1
                try clear hcz9_2
                try clear hfz14_0
                try clear hfz14_1
                try clear hfz14_2
                try clear hfz14_3
                try clear hfz32_0
                try clear hfz32_1
                try clear hfz32_2
                try clear hfz32_3
                try clear hfz7_0
                try clear hfz7_1
                try clear hfz7_2
                try clear hfz9_0
                try clear hfz9_1
                try clear hfz9_2
                try clear p2
                try clear p6
                obtain ⟨x7_2, x8_2, x9_2, rfl, rfl, HA, HK2, HO_7, HO_151000, HO_151002, HO_151003, BK125, BK150, HB⟩ := hrel
                cases gk with
                | zero => exact absurd HA.out (by simp [plunderlaw23_HyperCounts.l0])
                | succ k2 =>
                  have H := HA.out
                  clear HA
                  simp only [plunderlaw23_HyperCounts.l0] at H
                  by_cases c35 : x9_2 < (t143.length : Int)
                  · rw [if_pos c35] at H
                    have c35b0 : decide (x9_2 < (t143.length : Int)) = true := decide_eq_true c35
                    clear c35
                    by_cases c36 : 0 ≤ x9_2
                    · rw [if_pos c36] at H
                      have c36b0 : decide (0 ≤ x9_2) = true := decide_eq_true c36
                      clear c36
                      have HC37 := Aside0.mk H
                      clear H
                      have hnb38 := NB150_125.out
                      have hnc38 := NB125_150.out
                      have hcz39_0 : wr.cell? ⟨gb150, 0, none⟩ = some (.slice Ao12 t139.length co12) := (blk_cell BK150.out 0).trans rfl
                      have hcz39_1 : wr.cell? ⟨gb150, 1, none⟩ = some (.int .i64 t142) := (blk_cell BK150.out 1).trans rfl
                      have hcz39_2 : wr.cell? ⟨gb150, 2, none⟩ = some (.slice Ao15 t143.length co15) := (blk_cell BK150.out 2).trans rfl
                      have hcz39_3 : wr.cell? ⟨gb150, 3, none⟩ = some (.slice Ao16 t146.length co16) := (blk_cell BK150.out 3).trans rfl
                      have hfz39_0 := blk_frozen BK150.out 0
                      have hfz39_1 := blk_frozen BK150.out 1
                      have hfz39_2 := blk_frozen BK150.out 2
                      have hfz39_3 := blk_frozen BK150.out 3
                      have p155 : 0 ≤ (x9_2 : Int) := of_decide_eq_true (by first | (with_reducible assumption) | assumption)
                      have q155 : x9_2 < (t143.length : Int) := of_decide_eq_true (by first | (with_reducible assumption) | assumption)
                      obtain ⟨ad155, e155, hx155_0, hx155_1, hx155_2⟩ := at_T44 (Kd.R_reads' HO_151002.out).2.2 x9_2 p155 q155
                      cases e155
                      replace p155 := eq_true p155
                      replace q155 := eq_true q155
                      go_upto_region 13 with (first | ((with_reducible refine gate_dst (N := 10) rfl ?_); (try (refine gate_guard (by rfl) ?_; dsimp only)); refine box_event ?hg (N := 10) ?hd (cs := #[.int .i64 0, .int .i64 0, .int .i64 0]) (t := 44) ?hr ?_; (case hd => rfl); (case hg => rfl); (case hr => first | (go_simp; done) | (go_simp; rfl)); intro gb156 hg w40 hbox hb; have n0_ := Aside0.mk (Kd.R_below (by (with_reducible repeat (first | apply Kd.R_alloc | apply Kd.R_drewN | apply Kd.R_drew)); exact HO_7.out) hb); have n1_ := Aside0.mk (Kd.R_below (by (with_reducible repeat (first | apply Kd.R_alloc | apply Kd.R_drewN | apply Kd.R_drew)); exact HO_151000.out) hb); have n2_ := Aside0.mk (Kd.R_below (Kd.R_elderB (by (with_reducible repeat (first | apply Kd.R_alloc | apply Kd.R_drewN | apply Kd.R_drew)); exact HO_151002.out) gb156 (Nat.le_of_eq hg.symm)) hb); have n3_ := Aside0.mk (Kd.S_below (by (with_reducible repeat (first | apply Kd.S_alloc | apply Kd.S_drewN | apply Kd.S_drew)); exact HO_151003.out) hb); have n4_ := Aside0.mk (blk_below (g := gb125) (o := .cells #[.slice A0_0 l0_0.length c0_0, .slice A0_1 l0_1.length c0_1, .slice A0_2 l0_2.length c0_2] 26 (0, 0)) (by (with_reducible repeat (first | refine blk_drewN ?_ _ | refine blk_drew ?_ | refine blk_alloc ?_ _)); exact BK125.out) hb); have n5_ := Aside0.mk (blk_below (g := gb150) (o := .cells #[.slice Ao12 t139.length co12, .int .i64 t142, .slice (some ad155) t143.length co15, .slice Ao16 t146.length co16] 39 (0, 0)) (by (with_reducible repeat (first | refine blk_drewN ?_ _ | refine blk_drew ?_ | refine blk_alloc ?_ _)); exact BK150.out) hb); have n6_ := Aside0.mk (below_step (by repeat (first | (with_reducible first | exact HB.out | apply below_alloc | apply pw_below_drewN | apply below_drew1 | refine below_set ?_ GE125.out | refine below_set ?_ GE150.out) | exact HB.out)) hb); have n7_ := Aside0.mk (hbox); have n8_ := Aside0.mk ((by rw [hg]; exact (below_size (by repeat (first | (with_reducible first | exact HB.out | apply below_alloc | apply pw_below_drewN | apply below_drew1 | refine below_set ?_ GE125.out | refine below_set ?_ GE150.out) | exact HB.out))) : w.heap.size ≤ gb156)); have n9_ := Aside0.mk ((by rw [hg]; exact (below_size (by repeat (first | (with_reducible first | exact HB.out | apply below_alloc | apply pw_below_drewN | apply below_drew1 | refine below_set ?_ GE125.out | refine below_set ?_ GE150.out) | exact HB.out))) : w.heap.size ≤ gb156)); have n10_ := Aside0.mk ((by rw [hg]; exact Nat.ne_of_lt (blk_lt (g := gb125) (o := .cells #[.slice A0_0 l0_0.length c0_0, .slice A0_1 l0_1.length c0_1, .slice A0_2 l0_2.length c0_2] 26 (0, 0)) (by (with_reducible repeat (first | refine blk_drewN ?_ _ | refine blk_drew ?_ | refine blk_alloc ?_ _)); exact BK125.out)) : gb125 ≠ gb156)); have n11_ := Aside0.mk ((by rw [hg]; exact Nat.ne_of_gt (blk_lt (g := gb125) (o := .cells #[.slice A0_0 l0_0.length c0_0, .slice A0_1 l0_1.length c0_1, .slice A0_2 l0_2.length c0_2] 26 (0, 0)) (by (with_reducible repeat (first | refine blk_drewN ?_ _ | refine blk_drew ?_ | refine blk_alloc ?_ _)); exact BK125.out)) : gb156 ≠ gb125)); have n12_ := Aside0.mk ((by rw [hg]; exact Nat.ne_of_lt (blk_lt (g := gb150) (o := .cells #[.slice Ao12 t139.length co12, .int .i64 t142, .slice (some ad155) t143.length co15, .slice Ao16 t146.length co16] 39 (0, 0)) (by (with_reducible repeat (first | refine blk_drewN ?_ _ | refine blk_drew ?_ | refine blk_alloc ?_ _)); exact BK150.out)) : gb150 ≠ gb156)); have n13_ := Aside0.mk ((by rw [hg]; exact Nat.ne_of_gt (blk_lt (g := gb150) (o := .cells #[.slice Ao12 t139.length co12, .int .i64 t142, .slice (some ad155) t143.length co15, .slice Ao16 t146.length co16] 39 (0, 0)) (by (with_reducible repeat (first | refine blk_drewN ?_ _ | refine blk_drew ?_ | refine blk_alloc ?_ _)); exact BK150.out)) : gb156 ≠ gb150)); clear HO_7; clear HO_151000; clear HO_151002; clear HO_151003; clear BK125; clear BK150; clear HB; have HO_7 := n0_; have HO_151000 := n1_; have HO_151002 := n2_; have HO_151003 := n3_; have BK125 := n4_; have BK150 := n5_; have HB := n6_; have BK156 := n7_; have GW156 := n8_; have GE156 := n9_; have NB125_156 := n10_; have NB156_125 := n11_; have NB150_156 := n12_; have NB156_150 := n13_; clear n0_ n1_ n2_ n3_ n4_ n5_ n6_ n7_ n8_ n9_ n10_ n11_ n12_ n13_; clear hb hbox hg; have hnb41 := NB156_125.out; have hnc41 := NB125_156.out; have hnb42 := NB156_150.out; have hnc42 := NB150_156.out; have hcz43_0 : w40.cell? ⟨gb156, 0, none⟩ = some (.int .i64 0) := (blk_cell BK156.out 0).trans rfl; have hcz43_1 : w40.cell? ⟨gb156, 1, none⟩ = some (.int .i64 0) := (blk_cell BK156.out 1).trans rfl; have hcz43_2 : w40.cell? ⟨gb156, 2, none⟩ = some (.int .i64 0) := (blk_cell BK156.out 2).trans rfl; have hfz43_0 := blk_frozen BK156.out 0; have hfz43_1 := blk_frozen BK156.out 1; have hfz43_2 := blk_frozen BK156.out 2))
                      (try simp only [Act.put, List.setIfInBounds_toArray, List.set_cons_zero, List.set_cons_succ])
                      go_cut [113] (fun v113 wc => ∃ (kq : Nat) (x113_36 : Bool), v113 = .bool x113_36 ∧ Aside0 (plunderlaw23_HyperCounts.j2 kq x7_2 x9_2 x113_36 l0_0 l0_1 l0_2 t139 t142 t143 t146 ((rd_T44 t143 x9_2).f0) ((rd_T44 t143 x9_2).f1) ((rd_T44 t143 x9_2).f2) = some r) ∧ Aside0 (kq ≤ k2) ∧ Aside0 (Kd.R Kd.bool 4 wc w.heap.size (fun _ => True) v153 x7_2) ∧ Aside0 (Kd.R (Kd.int .i64) 2 wc w.heap.size (fun _ => True) (.slice Ao12 t139.length co12) t139) ∧ Aside0 (Kd.R k44 44 wc w.heap.size (fun k_ => k_ ≠ gb156) (.slice (some ad155) t143.length co15) t143) ∧ Aside0 (Kd.S (Kd.slice 2 (Kd.int .i64)) 28 wc w.heap.size (fun k_ => some k_ ≠ ((.slice Ao12 t139.length co12) : Value).ownBlock) (.slice Ao16 t146.length co16) t146) ∧ Aside0 (wc.heap[gb125]? = some (.cells #[(.slice A0_0 l0_0.length c0_0), (.slice A0_1 l0_1.length c0_1), (.slice A0_2 l0_2.length c0_2)] 26 (0, 0))) ∧ Aside0 (wc.heap[gb150]? = some (.cells #[(.slice Ao12 t139.length co12), .int .i64 t142, (.slice (some ad155) t143.length co15), (.slice Ao16 t146.length co16)] 39 (0, 0))) ∧ Aside0 (wc.heap[gb156]? = some (.cells #[.int .i64 ((rd_T44 t143 x9_2).f0), .int .i64 ((rd_T44 t143 x9_2).f1), .int .i64 ((rd_T44 t143 x9_2).f2)] 44 (0, 0))) ∧ Aside0 (Below w.heap.size w wc))
                      case first =>
                        have H := HC37.out
                        clear HC37
                        by_cases c44 : ((rd_T44 t143 x9_2).f1) < 0
                        · rw [if_pos c44] at H
                          have c44b0 : decide (((rd_T44 t143 x9_2).f1) < 0) = true := decide_eq_true c44
                          clear c44
                          (first | rw [c44b0] | (simp only [i64_w, i32_w]; rw [c44b0]) | skip)
                          have H' := Aside0.mk H
                          clear H
                          have hnb45 := NB156_125.out
                          have hnc45 := NB125_156.out
                          have hnb46 := NB156_150.out
                          have hnc46 := NB150_156.out
                          have hcz47_0 : w40.cell? ⟨gb156, 0, none⟩ = some (.int .i64 0) := (blk_cell BK156.out 0).trans rfl
                          have hcz47_1 : w40.cell? ⟨gb156, 1, none⟩ = some (.int .i64 0) := (blk_cell BK156.out 1).trans rfl
                          have hcz47_2 : w40.cell? ⟨gb156, 2, none⟩ = some (.int .i64 0) := (blk_cell BK156.out 2).trans rfl
                          have hfz47_0 := blk_frozen BK156.out 0
                          have hfz47_1 := blk_frozen BK156.out 1
                          have hfz47_2 := blk_frozen BK156.out 2
                          go_wp2
                          go_meet
                          case rel => exact ⟨_, (true), (by first | rfl | (simp; done) | (simp [*]; done)), H', ⟨by have := HJ4.out; have := HK2.out; first | omega | exact Nat.le_refl _⟩, ⟨by (with_reducible repeat (first | apply Kd.R_alloc | apply Kd.R_drewN | apply Kd.R_drew)); exact Kd.R_mono (Kd.R_far (p := ⟨gb156, 2, none⟩) (Kd.R_far (p := ⟨gb156, 1, none⟩) (Kd.R_far (p := ⟨gb156, 0, none⟩) (Kd.R_types HO_7.out BK156.out (by decide)) (fun _ hk => hk.2) (.int .i64 ((rd_T44 t143 x9_2).f0))) (fun _ hk => hk.2) (.int .i64 ((rd_T44 t143 x9_2).f1))) (fun _ hk => hk.2) (.int .i64 ((rd_T44 t143 x9_2).f2))) (fun _ hk => trivial)⟩, ⟨by (with_reducible repeat (first | apply Kd.R_alloc | apply Kd.R_drewN | apply Kd.R_drew)); exact Kd.R_mono (Kd.R_far (p := ⟨gb156, 2, none⟩) (Kd.R_far (p := ⟨gb156, 1, none⟩) (Kd.R_far (p := ⟨gb156, 0, none⟩) (Kd.R_types HO_151000.out BK156.out (by decide)) (fun _ hk => hk.2) (.int .i64 ((rd_T44 t143 x9_2).f0))) (fun _ hk => hk.2) (.int .i64 ((rd_T44 t143 x9_2).f1))) (fun _ hk => hk.2) (.int .i64 ((rd_T44 t143 x9_2).f2))) (fun _ hk => trivial)⟩, ⟨by (with_reducible repeat (first | apply Kd.R_alloc | apply Kd.R_drewN | apply Kd.R_drew)); exact Kd.R_mono (Kd.R_far (p := ⟨gb156, 2, none⟩) (Kd.R_far (p := ⟨gb156, 1, none⟩) (Kd.R_far (p := ⟨gb156, 0, none⟩) (Kd.R_mono HO_151002.out (fun k_ hk => (⟨hk, hk.2⟩ : _ ∧ k_ ≠ gb156))) (fun _ hk => hk.2) (.int .i64 ((rd_T44 t143 x9_2).f0))) (fun _ hk => hk.2) (.int .i64 ((rd_T44 t143 x9_2).f1))) (fun _ hk => hk.2) (.int .i64 ((rd_T44 t143 x9_2).f2))) (fun _ hk => hk.1.2)⟩, ⟨by (with_reducible repeat (first | apply Kd.S_alloc | apply Kd.S_drewN | apply Kd.S_drew)); exact Kd.S_mono (Kd.S_far (p := ⟨gb156, 2, none⟩) (Kd.S_far (p := ⟨gb156, 1, none⟩) (Kd.S_far (p := ⟨gb156, 0, none⟩) (Kd.S_types HO_151003.out BK156.out (by decide)) (fun _ hk => hk.2) (.int .i64 ((rd_T44 t143 x9_2).f0))) (fun _ hk => hk.2) (.int .i64 ((rd_T44 t143 x9_2).f1))) (fun _ hk => hk.2) (.int .i64 ((rd_T44 t143 x9_2).f2))) (fun _ hk => hk.1)⟩, ⟨by (with_reducible repeat (first | refine blk_drewN ?_ _ | refine blk_drew ?_ | refine blk_alloc ?_ _)); refine blk_far ?_ NB125_156.out _; (with_reducible repeat (first | refine blk_drewN ?_ _ | refine blk_drew ?_ | refine blk_alloc ?_ _)); refine blk_far ?_ NB125_156.out _; (with_reducible repeat (first | refine blk_drewN ?_ _ | refine blk_drew ?_ | refine blk_alloc ?_ _)); refine blk_far ?_ NB125_156.out _; (with_reducible repeat (first | refine blk_drewN ?_ _ | refine blk_drew ?_ | refine blk_alloc ?_ _)); exact BK125.out⟩, ⟨by (with_reducible repeat (first | refine blk_drewN ?_ _ | refine blk_drew ?_ | refine blk_alloc ?_ _)); refine blk_far ?_ NB150_156.out _; (with_reducible repeat (first | refine blk_drewN ?_ _ | refine blk_drew ?_ | refine blk_alloc ?_ _)); refine blk_far ?_ NB150_156.out _; (with_reducible repeat (first | refine blk_drewN ?_ _ | refine blk_drew ?_ | refine blk_alloc ?_ _)); refine blk_far ?_ NB150_156.out _; (with_reducible repeat (first | refine blk_drewN ?_ _ | refine blk_drew ?_ | refine blk_alloc ?_ _)); exact BK150.out⟩, ⟨by (with_reducible repeat (first | refine blk_drewN ?_ _ | refine blk_drew ?_ | refine blk_alloc ?_ _)); refine blk_put (cs := #[.int .i64 ((rd_T44 t143 x9_2).f0), .int .i64 ((rd_T44 t143 x9_2).f1), .int .i64 0]) ?_ 2 _ rfl; (with_reducible repeat (first | refine blk_drewN ?_ _ | refine blk_drew ?_ | refine blk_alloc ?_ _)); refine blk_put (cs := #[.int .i64 ((rd_T44 t143 x9_2).f0), .int .i64 0, .int .i64 0]) ?_ 1 _ rfl; (with_reducible repeat (first | refine blk_drewN ?_ _ | refine blk_drew ?_ | refine blk_alloc ?_ _)); refine blk_put (cs := #[.int .i64 0, .int .i64 0, .int .i64 0]) ?_ 0 _ rfl; (with_reducible repeat (first | refine blk_drewN ?_ _ | refine blk_drew ?_ | refine blk_alloc ?_ _)); exact BK156.out⟩, ⟨by repeat (first | (with_reducible first | exact HB.out | apply below_alloc | apply pw_below_drewN | apply below_drew1 | refine below_set ?_ GE125.out | refine below_set ?_ GE150.out | refine below_set ?_ GE156.out) | exact HB.out)⟩⟩
                        · rw [if_neg c44] at H
                          have c44b0 : decide (((rd_T44 t143 x9_2).f1) < 0) = false := decide_eq_false c44
                          clear c44
                          (first | rw [c44b0] | (simp only [i64_w, i32_w]; rw [c44b0]) | skip)
                          by_cases c48 : ((rd_T44 t143 x9_2).f1) ≥ ((rd_T44 t143 x9_2).f2)
                          · rw [if_pos c48] at H
                            have c48b0 : decide (((rd_T44 t143 x9_2).f2) ≤ ((rd_T44 t143 x9_2).f1)) = true := decide_eq_true c48
                            clear c48
                            have H' := Aside0.mk H
                            clear H
                            have hnb49 := NB156_125.out
                            have hnc49 := NB125_156.out
                            have hnb50 := NB156_150.out
                            have hnc50 := NB150_156.out
                            have hcz51_0 : w40.cell? ⟨gb156, 0, none⟩ = some (.int .i64 0) := (blk_cell BK156.out 0).trans rfl
                            have hcz51_1 : w40.cell? ⟨gb156, 1, none⟩ = some (.int .i64 0) := (blk_cell BK156.out 1).trans rfl
                            have hcz51_2 : w40.cell? ⟨gb156, 2, none⟩ = some (.int .i64 0) := (blk_cell BK156.out 2).trans rfl
                            have hfz51_0 := blk_frozen BK156.out 0
                            have hfz51_1 := blk_frozen BK156.out 1
                            have hfz51_2 := blk_frozen BK156.out 2
                            go_wp2
                            go_meet
                            case rel => exact ⟨_, (true), (by first | rfl | (simp; done) | (simp [*]; done)), H', ⟨by have := HJ4.out; have := HK2.out; first | omega | exact Nat.le_refl _⟩, ⟨by (with_reducible repeat (first | apply Kd.R_alloc | apply Kd.R_drewN | apply Kd.R_drew)); exact Kd.R_mono (Kd.R_far (p := ⟨gb156, 2, none⟩) (Kd.R_far (p := ⟨gb156, 1, none⟩) (Kd.R_far (p := ⟨gb156, 0, none⟩) (Kd.R_types HO_7.out BK156.out (by decide)) (fun _ hk => hk.2) (.int .i64 ((rd_T44 t143 x9_2).f0))) (fun _ hk => hk.2) (.int .i64 ((rd_T44 t143 x9_2).f1))) (fun _ hk => hk.2) (.int .i64 ((rd_T44 t143 x9_2).f2))) (fun _ hk => trivial)⟩, ⟨by (with_reducible repeat (first | apply Kd.R_alloc | apply Kd.R_drewN | apply Kd.R_drew)); exact Kd.R_mono (Kd.R_far (p := ⟨gb156, 2, none⟩) (Kd.R_far (p := ⟨gb156, 1, none⟩) (Kd.R_far (p := ⟨gb156, 0, none⟩) (Kd.R_types HO_151000.out BK156.out (by decide)) (fun _ hk => hk.2) (.int .i64 ((rd_T44 t143 x9_2).f0))) (fun _ hk => hk.2) (.int .i64 ((rd_T44 t143 x9_2).f1))) (fun _ hk => hk.2) (.int .i64 ((rd_T44 t143 x9_2).f2))) (fun _ hk => trivial)⟩, ⟨by (with_reducible repeat (first | apply Kd.R_alloc | apply Kd.R_drewN | apply Kd.R_drew)); exact Kd.R_mono (Kd.R_far (p := ⟨gb156, 2, none⟩) (Kd.R_far (p := ⟨gb156, 1, none⟩) (Kd.R_far (p := ⟨gb156, 0, none⟩) (Kd.R_mono HO_151002.out (fun k_ hk => (⟨hk, hk.2⟩ : _ ∧ k_ ≠ gb156))) (fun _ hk => hk.2) (.int .i64 ((rd_T44 t143 x9_2).f0))) (fun _ hk => hk.2) (.int .i64 ((rd_T44 t143 x9_2).f1))) (fun _ hk => hk.2) (.int .i64 ((rd_T44 t143 x9_2).f2))) (fun _ hk => hk.1.2)⟩, ⟨by (with_reducible repeat (first | apply Kd.S_alloc | apply Kd.S_drewN | apply Kd.S_drew)); exact Kd.S_mono (Kd.S_far (p := ⟨gb156, 2, none⟩) (Kd.S_far (p := ⟨gb156, 1, none⟩) (Kd.S_far (p := ⟨gb156, 0, none⟩) (Kd.S_types HO_151003.out BK156.out (by decide)) (fun _ hk => hk.2) (.int .i64 ((rd_T44 t143 x9_2).f0))) (fun _ hk => hk.2) (.int .i64 ((rd_T44 t143 x9_2).f1))) (fun _ hk => hk.2) (.int .i64 ((rd_T44 t143 x9_2).f2))) (fun _ hk => hk.1)⟩, ⟨by (with_reducible repeat (first | refine blk_drewN ?_ _ | refine blk_drew ?_ | refine blk_alloc ?_ _)); refine blk_far ?_ NB125_156.out _; (with_reducible repeat (first | refine blk_drewN ?_ _ | refine blk_drew ?_ | refine blk_alloc ?_ _)); refine blk_far ?_ NB125_156.out _; (with_reducible repeat (first | refine blk_drewN ?_ _ | refine blk_drew ?_ | refine blk_alloc ?_ _)); refine blk_far ?_ NB125_156.out _; (with_reducible repeat (first | refine blk_drewN ?_ _ | refine blk_drew ?_ | refine blk_alloc ?_ _)); exact BK125.out⟩, ⟨by (with_reducible repeat (first | refine blk_drewN ?_ _ | refine blk_drew ?_ | refine blk_alloc ?_ _)); refine blk_far ?_ NB150_156.out _; (with_reducible repeat (first | refine blk_drewN ?_ _ | refine blk_drew ?_ | refine blk_alloc ?_ _)); refine blk_far ?_ NB150_156.out _; (with_reducible repeat (first | refine blk_drewN ?_ _ | refine blk_drew ?_ | refine blk_alloc ?_ _)); refine blk_far ?_ NB150_156.out _; (with_reducible repeat (first | refine blk_drewN ?_ _ | refine blk_drew ?_ | refine blk_alloc ?_ _)); exact BK150.out⟩, ⟨by (with_reducible repeat (first | refine blk_drewN ?_ _ | refine blk_drew ?_ | refine blk_alloc ?_ _)); refine blk_put (cs := #[.int .i64 ((rd_T44 t143 x9_2).f0), .int .i64 ((rd_T44 t143 x9_2).f1), .int .i64 0]) ?_ 2 _ rfl; (with_reducible repeat (first | refine blk_drewN ?_ _ | refine blk_drew ?_ | refine blk_alloc ?_ _)); refine blk_put (cs := #[.int .i64 ((rd_T44 t143 x9_2).f0), .int .i64 0, .int .i64 0]) ?_ 1 _ rfl; (with_reducible repeat (first | refine blk_drewN ?_ _ | refine blk_drew ?_ | refine blk_alloc ?_ _)); refine blk_put (cs := #[.int .i64 0, .int .i64 0, .int .i64 0]) ?_ 0 _ rfl; (with_reducible repeat (first | refine blk_drewN ?_ _ | refine blk_drew ?_ | refine blk_alloc ?_ _)); exact BK156.out⟩, ⟨by repeat (first | (with_reducible first | exact HB.out | apply below_alloc | apply pw_below_drewN | apply below_drew1 | refine below_set ?_ GE125.out | refine below_set ?_ GE150.out | refine below_set ?_ GE156.out) | exact HB.out)⟩⟩
                          · rw [if_neg c48] at H
                            have c48b0 : decide (((rd_T44 t143 x9_2).f2) ≤ ((rd_T44 t143 x9_2).f1)) = false := decide_eq_false c48
                            clear c48
                            by_cases c52 : ((rd_T44 t143 x9_2).f2) ≥ t142
                            · rw [if_pos c52] at H
                              have c52b0 : decide (t142 ≤ ((rd_T44 t143 x9_2).f2)) = true := decide_eq_true c52
                              clear c52
                              have H' := Aside0.mk H
                              clear H
                              have hnb53 := NB156_125.out
                              have hnc53 := NB125_156.out
                              have hnb54 := NB156_150.out
                              have hnc54 := NB150_156.out
                              have hcz55_0 : w40.cell? ⟨gb156, 0, none⟩ = some (.int .i64 0) := (blk_cell BK156.out 0).trans rfl
                              have hcz55_1 : w40.cell? ⟨gb156, 1, none⟩ = some (.int .i64 0) := (blk_cell BK156.out 1).trans rfl
                              have hcz55_2 : w40.cell? ⟨gb156, 2, none⟩ = some (.int .i64 0) := (blk_cell BK156.out 2).trans rfl
                              have hfz55_0 := blk_frozen BK156.out 0
                              have hfz55_1 := blk_frozen BK156.out 1
                              have hfz55_2 := blk_frozen BK156.out 2
                              have hnb56 := NB150_125.out
                              have hnc56 := NB125_150.out
                              have hcz57_0 : w40.cell? ⟨gb150, 0, none⟩ = some (.slice Ao12 t139.length co12) := (blk_cell BK150.out 0).trans rfl
                              have hcz57_1 : w40.cell? ⟨gb150, 1, none⟩ = some (.int .i64 t142) := (blk_cell BK150.out 1).trans rfl
                              have hcz57_2 : w40.cell? ⟨gb150, 2, none⟩ = some (.slice (some ad155) t143.length co15) := (blk_cell BK150.out 2).trans rfl
                              have hcz57_3 : w40.cell? ⟨gb150, 3, none⟩ = some (.slice Ao16 t146.length co16) := (blk_cell BK150.out 3).trans rfl
                              have hfz57_0 := blk_frozen BK150.out 0
                              have hfz57_1 := blk_frozen BK150.out 1
                              have hfz57_2 := blk_frozen BK150.out 2
                              have hfz57_3 := blk_frozen BK150.out 3
                              go_wp2
                              go_meet
                              case rel => exact ⟨_, (true), (by first | rfl | (simp; done) | (simp [*]; done)), H', ⟨by have := HJ4.out; have := HK2.out; first | omega | exact Nat.le_refl _⟩, ⟨by (with_reducible repeat (first | apply Kd.R_alloc | apply Kd.R_drewN | apply Kd.R_drew)); exact Kd.R_mono (Kd.R_far (p := ⟨gb156, 2, none⟩) (Kd.R_far (p := ⟨gb156, 1, none⟩) (Kd.R_far (p := ⟨gb156, 0, none⟩) (Kd.R_types HO_7.out BK156.out (by decide)) (fun _ hk => hk.2) (.int .i64 ((rd_T44 t143 x9_2).f0))) (fun _ hk => hk.2) (.int .i64 ((rd_T44 t143 x9_2).f1))) (fun _ hk => hk.2) (.int .i64 ((rd_T44 t143 x9_2).f2))) (fun _ hk => trivial)⟩, ⟨by (with_reducible repeat (first | apply Kd.R_alloc | apply Kd.R_drewN | apply Kd.R_drew)); exact Kd.R_mono (Kd.R_far (p := ⟨gb156, 2, none⟩) (Kd.R_far (p := ⟨gb156, 1, none⟩) (Kd.R_far (p := ⟨gb156, 0, none⟩) (Kd.R_types HO_151000.out BK156.out (by decide)) (fun _ hk => hk.2) (.int .i64 ((rd_T44 t143 x9_2).f0))) (fun _ hk => hk.2) (.int .i64 ((rd_T44 t143 x9_2).f1))) (fun _ hk => hk.2) (.int .i64 ((rd_T44 t143 x9_2).f2))) (fun _ hk => trivial)⟩, ⟨by (with_reducible repeat (first | apply Kd.R_alloc | apply Kd.R_drewN | apply Kd.R_drew)); exact Kd.R_mono (Kd.R_far (p := ⟨gb156, 2, none⟩) (Kd.R_far (p := ⟨gb156, 1, none⟩) (Kd.R_far (p := ⟨gb156, 0, none⟩) (Kd.R_mono HO_151002.out (fun k_ hk => (⟨hk, hk.2⟩ : _ ∧ k_ ≠ gb156))) (fun _ hk => hk.2) (.int .i64 ((rd_T44 t143 x9_2).f0))) (fun _ hk => hk.2) (.int .i64 ((rd_T44 t143 x9_2).f1))) (fun _ hk => hk.2) (.int .i64 ((rd_T44 t143 x9_2).f2))) (fun _ hk => hk.1.2)⟩, ⟨by (with_reducible repeat (first | apply Kd.S_alloc | apply Kd.S_drewN | apply Kd.S_drew)); exact Kd.S_mono (Kd.S_far (p := ⟨gb156, 2, none⟩) (Kd.S_far (p := ⟨gb156, 1, none⟩) (Kd.S_far (p := ⟨gb156, 0, none⟩) (Kd.S_types HO_151003.out BK156.out (by decide)) (fun _ hk => hk.2) (.int .i64 ((rd_T44 t143 x9_2).f0))) (fun _ hk => hk.2) (.int .i64 ((rd_T44 t143 x9_2).f1))) (fun _ hk => hk.2) (.int .i64 ((rd_T44 t143 x9_2).f2))) (fun _ hk => hk.1)⟩, ⟨by (with_reducible repeat (first | refine blk_drewN ?_ _ | refine blk_drew ?_ | refine blk_alloc ?_ _)); refine blk_far ?_ NB125_156.out _; (with_reducible repeat (first | refine blk_drewN ?_ _ | refine blk_drew ?_ | refine blk_alloc ?_ _)); refine blk_far ?_ NB125_156.out _; (with_reducible repeat (first | refine blk_drewN ?_ _ | refine blk_drew ?_ | refine blk_alloc ?_ _)); refine blk_far ?_ NB125_156.out _; (with_reducible repeat (first | refine blk_drewN ?_ _ | refine blk_drew ?_ | refine blk_alloc ?_ _)); exact BK125.out⟩, ⟨by (with_reducible repeat (first | refine blk_drewN ?_ _ | refine blk_drew ?_ | refine blk_alloc ?_ _)); refine blk_far ?_ NB150_156.out _; (with_reducible repeat (first | refine blk_drewN ?_ _ | refine blk_drew ?_ | refine blk_alloc ?_ _)); refine blk_far ?_ NB150_156.out _; (with_reducible repeat (first | refine blk_drewN ?_ _ | refine blk_drew ?_ | refine blk_alloc ?_ _)); refine blk_far ?_ NB150_156.out _; (with_reducible repeat (first | refine blk_drewN ?_ _ | refine blk_drew ?_ | refine blk_alloc ?_ _)); exact BK150.out⟩, ⟨by (with_reducible repeat (first | refine blk_drewN ?_ _ | refine blk_drew ?_ | refine blk_alloc ?_ _)); refine blk_put (cs := #[.int .i64 ((rd_T44 t143 x9_2).f0), .int .i64 ((rd_T44 t143 x9_2).f1), .int .i64 0]) ?_ 2 _ rfl; (with_reducible repeat (first | refine blk_drewN ?_ _ | refine blk_drew ?_ | refine blk_alloc ?_ _)); refine blk_put (cs := #[.int .i64 ((rd_T44 t143 x9_2).f0), .int .i64 0, .int .i64 0]) ?_ 1 _ rfl; (with_reducible repeat (first | refine blk_drewN ?_ _ | refine blk_drew ?_ | refine blk_alloc ?_ _)); refine blk_put (cs := #[.int .i64 0, .int .i64 0, .int .i64 0]) ?_ 0 _ rfl; (with_reducible repeat (first | refine blk_drewN ?_ _ | refine blk_drew ?_ | refine blk_alloc ?_ _)); exact BK156.out⟩, ⟨by repeat (first | (with_reducible first | exact HB.out | apply below_alloc | apply pw_below_drewN | apply below_drew1 | refine below_set ?_ GE125.out | refine below_set ?_ GE150.out | refine below_set ?_ GE156.out) | exact HB.out)⟩⟩
                            · rw [if_neg c52] at H
                              have c52b0 : decide (t142 ≤ ((rd_T44 t143 x9_2).f2)) = false := decide_eq_false c52
                              clear c52
                              by_cases c58 : 0 ≤ ((rd_T44 t143 x9_2).f1)
                              · rw [if_pos c58] at H
                                have c58b0 : decide (0 ≤ ((rd_T44 t143 x9_2).f1)) = true := decide_eq_true c58
                                clear c58
                                by_cases c59 : ((rd_T44 t143 x9_2).f1) < (x7_2.length : Int)
                                · rw [if_pos c59] at H
                                  have c59b0 : decide (((rd_T44 t143 x9_2).f1) < (x7_2.length : Int)) = true := decide_eq_true c59
                                  clear c59
                                  obtain ⟨bq60, hbq60⟩ : ∃ b_ : Bool, b_ = (rdOf false x7_2 ((rd_T44 t143 x9_2).f1)) := ⟨_, rfl⟩
                                  replace H : (if bq60 = true then (plunderlaw23_HyperCounts.j2 k2 x7_2 x9_2 true l0_0 l0_1 l0_2 t139 t142 t143 t146 ((rd_T44 t143 x9_2).f0) ((rd_T44 t143 x9_2).f1) ((rd_T44 t143 x9_2).f2)) else (if 0 ≤ ((rd_T44 t143 x9_2).f2) then (if ((rd_T44 t143 x9_2).f2) < (x7_2.length : Int) then (if rdOf false x7_2 ((rd_T44 t143 x9_2).f2) = true then (plunderlaw23_HyperCounts.j2 k2 x7_2 x9_2 true l0_0 l0_1 l0_2 t139 t142 t143 t146 ((rd_T44 t143 x9_2).f0) ((rd_T44 t143 x9_2).f1) ((rd_T44 t143 x9_2).f2)) else (if ((rd_T44 t143 x9_2).f0) < x8_2 then (plunderlaw23_HyperCounts.j2 k2 x7_2 x9_2 true l0_0 l0_1 l0_2 t139 t142 t143 t146 ((rd_T44 t143 x9_2).f0) ((rd_T44 t143 x9_2).f1) ((rd_T44 t143 x9_2).f2)) else (plunderlaw23_HyperCounts.j2 k2 x7_2 x9_2 (decide (((rd_T44 t143 x9_2).f0) > (l0_0.length : Int))) l0_0 l0_1 l0_2 t139 t142 t143 t146 ((rd_T44 t143 x9_2).f0) ((rd_T44 t143 x9_2).f1) ((rd_T44 t143 x9_2).f2)))) else (none)) else (none))) = some r := by rw [← hbq60] at H; exact H
                                  have Nbq60 := Aside0.mk hbq60
                                  clear hbq60
                                  by_cases c61 : bq60 = true
                                  · subst c61
                                    have H1 : (plunderlaw23_HyperCounts.j2 k2 x7_2 x9_2 true l0_0 l0_1 l0_2 t139 t142 t143 t146 ((rd_T44 t143 x9_2).f0) ((rd_T44 t143 x9_2).f1) ((rd_T44 t143 x9_2).f2)) = some r := by rw [if_pos rfl] at H; exact H
                                    clear H
                                    have H := H1
                                    clear H1
                                    have H' := Aside0.mk H
                                    clear H
                                    have hnb62 := NB156_125.out
                                    have hnc62 := NB125_156.out
                                    have hnb63 := NB156_150.out
                                    have hnc63 := NB150_156.out
                                    have hcz64_0 : w40.cell? ⟨gb156, 0, none⟩ = some (.int .i64 0) := (blk_cell BK156.out 0).trans rfl
                                    have hcz64_1 : w40.cell? ⟨gb156, 1, none⟩ = some (.int .i64 0) := (blk_cell BK156.out 1).trans rfl
                                    have hcz64_2 : w40.cell? ⟨gb156, 2, none⟩ = some (.int .i64 0) := (blk_cell BK156.out 2).trans rfl
                                    have hfz64_0 := blk_frozen BK156.out 0
                                    have hfz64_1 := blk_frozen BK156.out 1
                                    have hfz64_2 := blk_frozen BK156.out 2
                                    have hnb65 := NB150_125.out
                                    have hnc65 := NB125_150.out
                                    have hcz66_0 : w40.cell? ⟨gb150, 0, none⟩ = some (.slice Ao12 t139.length co12) := (blk_cell BK150.out 0).trans rfl
                                    have hcz66_1 : w40.cell? ⟨gb150, 1, none⟩ = some (.int .i64 t142) := (blk_cell BK150.out 1).trans rfl
                                    have hcz66_2 : w40.cell? ⟨gb150, 2, none⟩ = some (.slice (some ad155) t143.length co15) := (blk_cell BK150.out 2).trans rfl
                                    have hcz66_3 : w40.cell? ⟨gb150, 3, none⟩ = some (.slice Ao16 t146.length co16) := (blk_cell BK150.out 3).trans rfl
                                    have hfz66_0 := blk_frozen BK150.out 0
                                    have hfz66_1 := blk_frozen BK150.out 1
                                    have hfz66_2 := blk_frozen BK150.out 2
                                    have hfz66_3 := blk_frozen BK150.out 3
                                    obtain ⟨Ao67, co67, eo67⟩ := Kd.R_slice HO_7.out
                                    subst eo67
                                    have p157 : 0 ≤ (((rd_T44 t143 x9_2).f1) : Int) := of_decide_eq_true (by first | (with_reducible assumption) | assumption)
                                    have q157 : ((rd_T44 t143 x9_2).f1) < (x7_2.length : Int) := of_decide_eq_true (by first | (with_reducible assumption) | assumption)
                                    obtain ⟨ad157, e157, hx157_0⟩ := Kd.at_bool (Kd.R_reads' HO_7.out).2.2 ((rd_T44 t143 x9_2).f1) p157 q157
                                    (try rw [← Nbq60.out] at hx157_0)
                                    cases e157
                                    have hn157_0 : ad157.block ≠ gb156 := Kd.own_blk (Kd.R_ne HO_7.out BK156.out (by decide))
                                    have hn157_1 : ad157.block ≠ gb156 := Kd.own_blk (Kd.R_ne HO_7.out BK156.out (by decide))
                                    have hn157_2 : ad157.block ≠ gb156 := Kd.own_blk (Kd.R_ne HO_7.out BK156.out (by decide))
                                    replace hx157_0 := (cell_far (p := ⟨gb156, 0, none⟩) (by first | (rw [add_block]; exact hn157_0) | (show (Addr.add _ _).block ≠ _; rw [add_block]; exact hn157_0) | exact hn157_0) (.int .i64 ((rd_T44 t143 x9_2).f0))).trans hx157_0
                                    replace hx157_0 := (cell_far (p := ⟨gb156, 1, none⟩) (by first | (rw [add_block]; exact hn157_1) | (show (Addr.add _ _).block ≠ _; rw [add_block]; exact hn157_1) | exact hn157_1) (.int .i64 ((rd_T44 t143 x9_2).f1))).trans hx157_0
                                    replace hx157_0 := (cell_far (p := ⟨gb156, 2, none⟩) (by first | (rw [add_block]; exact hn157_2) | (show (Addr.add _ _).block ≠ _; rw [add_block]; exact hn157_2) | exact hn157_2) (.int .i64 ((rd_T44 t143 x9_2).f2))).trans hx157_0
                                    clear hn157_0
                                    clear hn157_1
                                    clear hn157_2
                                    replace p157 := eq_true p157
                                    replace q157 := eq_true q157
                                    go_wp2
                                    go_meet
                                    case rel => exact ⟨_, (true), (by first | rfl | (simp; done) | (simp [*]; done)), H', ⟨by have := HJ4.out; have := HK2.out; first | omega | exact Nat.le_refl _⟩, ⟨by (with_reducible repeat (first | apply Kd.R_alloc | apply Kd.R_drewN | apply Kd.R_drew)); exact Kd.R_mono (Kd.R_far (p := ⟨gb156, 2, none⟩) (Kd.R_far (p := ⟨gb156, 1, none⟩) (Kd.R_far (p := ⟨gb156, 0, none⟩) (Kd.R_types HO_7.out BK156.out (by decide)) (fun _ hk => hk.2) (.int .i64 ((rd_T44 t143 x9_2).f0))) (fun _ hk => hk.2) (.int .i64 ((rd_T44 t143 x9_2).f1))) (fun _ hk => hk.2) (.int .i64 ((rd_T44 t143 x9_2).f2))) (fun _ hk => trivial)⟩, ⟨by (with_reducible repeat (first | apply Kd.R_alloc | apply Kd.R_drewN | apply Kd.R_drew)); exact Kd.R_mono (Kd.R_far (p := ⟨gb156, 2, none⟩) (Kd.R_far (p := ⟨gb156, 1, none⟩) (Kd.R_far (p := ⟨gb156, 0, none⟩) (Kd.R_types HO_151000.out BK156.out (by decide)) (fun _ hk => hk.2) (.int .i64 ((rd_T44 t143 x9_2).f0))) (fun _ hk => hk.2) (.int .i64 ((rd_T44 t143 x9_2).f1))) (fun _ hk => hk.2) (.int .i64 ((rd_T44 t143 x9_2).f2))) (fun _ hk => trivial)⟩, ⟨by (with_reducible repeat (first | apply Kd.R_alloc | apply Kd.R_drewN | apply Kd.R_drew)); exact Kd.R_mono (Kd.R_far (p := ⟨gb156, 2, none⟩) (Kd.R_far (p := ⟨gb156, 1, none⟩) (Kd.R_far (p := ⟨gb156, 0, none⟩) (Kd.R_mono HO_151002.out (fun k_ hk => (⟨hk, hk.2⟩ : _ ∧ k_ ≠ gb156))) (fun _ hk => hk.2) (.int .i64 ((rd_T44 t143 x9_2).f0))) (fun _ hk => hk.2) (.int .i64 ((rd_T44 t143 x9_2).f1))) (fun _ hk => hk.2) (.int .i64 ((rd_T44 t143 x9_2).f2))) (fun _ hk => hk.1.2)⟩, ⟨by (with_reducible repeat (first | apply Kd.S_alloc | apply Kd.S_drewN | apply Kd.S_drew)); exact Kd.S_mono (Kd.S_far (p := ⟨gb156, 2, none⟩) (Kd.S_far (p := ⟨gb156, 1, none⟩) (Kd.S_far (p := ⟨gb156, 0, none⟩) (Kd.S_types HO_151003.out BK156.out (by decide)) (fun _ hk => hk.2) (.int .i64 ((rd_T44 t143 x9_2).f0))) (fun _ hk => hk.2) (.int .i64 ((rd_T44 t143 x9_2).f1))) (fun _ hk => hk.2) (.int .i64 ((rd_T44 t143 x9_2).f2))) (fun _ hk => hk.1)⟩, ⟨by (with_reducible repeat (first | refine blk_drewN ?_ _ | refine blk_drew ?_ | refine blk_alloc ?_ _)); refine blk_far ?_ NB125_156.out _; (with_reducible repeat (first | refine blk_drewN ?_ _ | refine blk_drew ?_ | refine blk_alloc ?_ _)); refine blk_far ?_ NB125_156.out _; (with_reducible repeat (first | refine blk_drewN ?_ _ | refine blk_drew ?_ | refine blk_alloc ?_ _)); refine blk_far ?_ NB125_156.out _; (with_reducible repeat (first | refine blk_drewN ?_ _ | refine blk_drew ?_ | refine blk_alloc ?_ _)); exact BK125.out⟩, ⟨by (with_reducible repeat (first | refine blk_drewN ?_ _ | refine blk_drew ?_ | refine blk_alloc ?_ _)); refine blk_far ?_ NB150_156.out _; (with_reducible repeat (first | refine blk_drewN ?_ _ | refine blk_drew ?_ | refine blk_alloc ?_ _)); refine blk_far ?_ NB150_156.out _; (with_reducible repeat (first | refine blk_drewN ?_ _ | refine blk_drew ?_ | refine blk_alloc ?_ _)); refine blk_far ?_ NB150_156.out _; (with_reducible repeat (first | refine blk_drewN ?_ _ | refine blk_drew ?_ | refine blk_alloc ?_ _)); exact BK150.out⟩, ⟨by (with_reducible repeat (first | refine blk_drewN ?_ _ | refine blk_drew ?_ | refine blk_alloc ?_ _)); refine blk_put (cs := #[.int .i64 ((rd_T44 t143 x9_2).f0), .int .i64 ((rd_T44 t143 x9_2).f1), .int .i64 0]) ?_ 2 _ rfl; (with_reducible repeat (first | refine blk_drewN ?_ _ | refine blk_drew ?_ | refine blk_alloc ?_ _)); refine blk_put (cs := #[.int .i64 ((rd_T44 t143 x9_2).f0), .int .i64 0, .int .i64 0]) ?_ 1 _ rfl; (with_reducible repeat (first | refine blk_drewN ?_ _ | refine blk_drew ?_ | refine blk_alloc ?_ _)); refine blk_put (cs := #[.int .i64 0, .int .i64 0, .int .i64 0]) ?_ 0 _ rfl; (with_reducible repeat (first | refine blk_drewN ?_ _ | refine blk_drew ?_ | refine blk_alloc ?_ _)); exact BK156.out⟩, ⟨by repeat (first | (with_reducible first | exact HB.out | apply below_alloc | apply pw_below_drewN | apply below_drew1 | refine below_set ?_ GE125.out | refine below_set ?_ GE150.out | refine below_set ?_ GE156.out) | exact HB.out)⟩⟩
                                  · replace c61 := Bool.eq_false_iff.mpr c61
                                    subst c61
                                    have H1 : (if 0 ≤ ((rd_T44 t143 x9_2).f2) then (if ((rd_T44 t143 x9_2).f2) < (x7_2.length : Int) then (if rdOf false x7_2 ((rd_T44 t143 x9_2).f2) = true then (plunderlaw23_HyperCounts.j2 k2 x7_2 x9_2 true l0_0 l0_1 l0_2 t139 t142 t143 t146 ((rd_T44 t143 x9_2).f0) ((rd_T44 t143 x9_2).f1) ((rd_T44 t143 x9_2).f2)) else (if ((rd_T44 t143 x9_2).f0) < x8_2 then (plunderlaw23_HyperCounts.j2 k2 x7_2 x9_2 true l0_0 l0_1 l0_2 t139 t142 t143 t146 ((rd_T44 t143 x9_2).f0) ((rd_T44 t143 x9_2).f1) ((rd_T44 t143 x9_2).f2)) else (plunderlaw23_HyperCounts.j2 k2 x7_2 x9_2 (decide (((rd_T44 t143 x9_2).f0) > (l0_0.length : Int))) l0_0 l0_1 l0_2 t139 t142 t143 t146 ((rd_T44 t143 x9_2).f0) ((rd_T44 t143 x9_2).f1) ((rd_T44 t143 x9_2).f2)))) else (none)) else (none)) = some r := by rw [if_neg (show ¬ (false = true) by decide)] at H; exact H
                                    clear H
                                    have H := H1
                                    clear H1
                                    by_cases c68 : 0 ≤ ((rd_T44 t143 x9_2).f2)
                                    · rw [if_pos c68] at H
                                      have c68b0 : decide (0 ≤ ((rd_T44 t143 x9_2).f2)) = true := decide_eq_true c68
                                      clear c68
                                      by_cases c69 : ((rd_T44 t143 x9_2).f2) < (x7_2.length : Int)
                                      · rw [if_pos c69] at H
                                        have c69b0 : decide (((rd_T44 t143 x9_2).f2) < (x7_2.length : Int)) = true := decide_eq_true c69
                                        clear c69
                                        obtain ⟨bq70, hbq70⟩ : ∃ b_ : Bool, b_ = (rdOf false x7_2 ((rd_T44 t143 x9_2).f2)) := ⟨_, rfl⟩
                                        replace H : (if bq70 = true then (plunderlaw23_HyperCounts.j2 k2 x7_2 x9_2 true l0_0 l0_1 l0_2 t139 t142 t143 t146 ((rd_T44 t143 x9_2).f0) ((rd_T44 t143 x9_2).f1) ((rd_T44 t143 x9_2).f2)) else (if ((rd_T44 t143 x9_2).f0) < x8_2 then (plunderlaw23_HyperCounts.j2 k2 x7_2 x9_2 true l0_0 l0_1 l0_2 t139 t142 t143 t146 ((rd_T44 t143 x9_2).f0) ((rd_T44 t143 x9_2).f1) ((rd_T44 t143 x9_2).f2)) else (plunderlaw23_HyperCounts.j2 k2 x7_2 x9_2 (decide (((rd_T44 t143 x9_2).f0) > (l0_0.length : Int))) l0_0 l0_1 l0_2 t139 t142 t143 t146 ((rd_T44 t143 x9_2).f0) ((rd_T44 t143 x9_2).f1) ((rd_T44 t143 x9_2).f2)))) = some r := by rw [← hbq70] at H; exact H
                                        have Nbq70 := Aside0.mk hbq70
                                        clear hbq70
                                        by_cases c71 : bq70 = true
                                        · subst c71
                                          have H1 : (plunderlaw23_HyperCounts.j2 k2 x7_2 x9_2 true l0_0 l0_1 l0_2 t139 t142 t143 t146 ((rd_T44 t143 x9_2).f0) ((rd_T44 t143 x9_2).f1) ((rd_T44 t143 x9_2).f2)) = some r := by rw [if_pos rfl] at H; exact H
                                          clear H
                                          have H := H1
                                          clear H1
                                          have H' := Aside0.mk H
                                          clear H
                                          have hnb72 := NB156_125.out
                                          have hnc72 := NB125_156.out
                                          have hnb73 := NB156_150.out
                                          have hnc73 := NB150_156.out
                                          have hcz74_0 : w40.cell? ⟨gb156, 0, none⟩ = some (.int .i64 0) := (blk_cell BK156.out 0).trans rfl
                                          have hcz74_1 : w40.cell? ⟨gb156, 1, none⟩ = some (.int .i64 0) := (blk_cell BK156.out 1).trans rfl
                                          have hcz74_2 : w40.cell? ⟨gb156, 2, none⟩ = some (.int .i64 0) := (blk_cell BK156.out 2).trans rfl
                                          have hfz74_0 := blk_frozen BK156.out 0
                                          have hfz74_1 := blk_frozen BK156.out 1
                                          have hfz74_2 := blk_frozen BK156.out 2
                                          have hnb75 := NB150_125.out
                                          have hnc75 := NB125_150.out
                                          have hcz76_0 : w40.cell? ⟨gb150, 0, none⟩ = some (.slice Ao12 t139.length co12) := (blk_cell BK150.out 0).trans rfl
                                          have hcz76_1 : w40.cell? ⟨gb150, 1, none⟩ = some (.int .i64 t142) := (blk_cell BK150.out 1).trans rfl
                                          have hcz76_2 : w40.cell? ⟨gb150, 2, none⟩ = some (.slice (some ad155) t143.length co15) := (blk_cell BK150.out 2).trans rfl
                                          have hcz76_3 : w40.cell? ⟨gb150, 3, none⟩ = some (.slice Ao16 t146.length co16) := (blk_cell BK150.out 3).trans rfl
                                          have hfz76_0 := blk_frozen BK150.out 0
                                          have hfz76_1 := blk_frozen BK150.out 1
                                          have hfz76_2 := blk_frozen BK150.out 2
                                          have hfz76_3 := blk_frozen BK150.out 3
                                          obtain ⟨Ao77, co77, eo77⟩ := Kd.R_slice HO_7.out
                                          subst eo77
                                          have p157 : 0 ≤ (((rd_T44 t143 x9_2).f1) : Int) := of_decide_eq_true (by first | (with_reducible assumption) | assumption)
                                          have q157 : ((rd_T44 t143 x9_2).f1) < (x7_2.length : Int) := of_decide_eq_true (by first | (with_reducible assumption) | assumption)
                                          obtain ⟨ad157, e157, hx157_0⟩ := Kd.at_bool (Kd.R_reads' HO_7.out).2.2 ((rd_T44 t143 x9_2).f1) p157 q157
                                          (try rw [← Nbq60.out] at hx157_0)
                                          (try rw [← Nbq70.out] at hx157_0)
                                          cases e157
                                          have hn157_0 : ad157.block ≠ gb156 := Kd.own_blk (Kd.R_ne HO_7.out BK156.out (by decide))
                                          have hn157_1 : ad157.block ≠ gb156 := Kd.own_blk (Kd.R_ne HO_7.out BK156.out (by decide))
                                          have hn157_2 : ad157.block ≠ gb156 := Kd.own_blk (Kd.R_ne HO_7.out BK156.out (by decide))
                                          replace hx157_0 := (cell_far (p := ⟨gb156, 0, none⟩) (by first | (rw [add_block]; exact hn157_0) | (show (Addr.add _ _).block ≠ _; rw [add_block]; exact hn157_0) | exact hn157_0) (.int .i64 ((rd_T44 t143 x9_2).f0))).trans hx157_0
                                          replace hx157_0 := (cell_far (p := ⟨gb156, 1, none⟩) (by first | (rw [add_block]; exact hn157_1) | (show (Addr.add _ _).block ≠ _; rw [add_block]; exact hn157_1) | exact hn157_1) (.int .i64 ((rd_T44 t143 x9_2).f1))).trans hx157_0
                                          replace hx157_0 := (cell_far (p := ⟨gb156, 2, none⟩) (by first | (rw [add_block]; exact hn157_2) | (show (Addr.add _ _).block ≠ _; rw [add_block]; exact hn157_2) | exact hn157_2) (.int .i64 ((rd_T44 t143 x9_2).f2))).trans hx157_0
                                          clear hn157_0
                                          clear hn157_1
                                          clear hn157_2
                                          replace p157 := eq_true p157
                                          replace q157 := eq_true q157
                                          have p158 : 0 ≤ (((rd_T44 t143 x9_2).f2) : Int) := of_decide_eq_true (by first | (with_reducible assumption) | assumption)
                                          have q158 : ((rd_T44 t143 x9_2).f2) < (x7_2.length : Int) := of_decide_eq_true (by first | (with_reducible assumption) | assumption)
                                          obtain ⟨ad158, e158, hx158_0⟩ := Kd.at_bool (Kd.R_reads' HO_7.out).2.2 ((rd_T44 t143 x9_2).f2) p158 q158
                                          (try rw [← Nbq60.out] at hx158_0)
                                          (try rw [← Nbq70.out] at hx158_0)
                                          obtain rfl : ad157 = ad158 := (by injection e158)
                                          have hn158_0 : ad157.block ≠ gb156 := Kd.own_blk (Kd.R_ne HO_7.out BK156.out (by decide))
                                          have hn158_1 : ad157.block ≠ gb156 := Kd.own_blk (Kd.R_ne HO_7.out BK156.out (by decide))
                                          have hn158_2 : ad157.block ≠ gb156 := Kd.own_blk (Kd.R_ne HO_7.out BK156.out (by decide))
                                          replace hx158_0 := (cell_far (p := ⟨gb156, 0, none⟩) (by first | (rw [add_block]; exact hn158_0) | (show (Addr.add _ _).block ≠ _; rw [add_block]; exact hn158_0) | exact hn158_0) (.int .i64 ((rd_T44 t143 x9_2).f0))).trans hx158_0
                                          replace hx158_0 := (cell_far (p := ⟨gb156, 1, none⟩) (by first | (rw [add_block]; exact hn158_1) | (show (Addr.add _ _).block ≠ _; rw [add_block]; exact hn158_1) | exact hn158_1) (.int .i64 ((rd_T44 t143 x9_2).f1))).trans hx158_0
                                          replace hx158_0 := (cell_far (p := ⟨gb156, 2, none⟩) (by first | (rw [add_block]; exact hn158_2) | (show (Addr.add _ _).block ≠ _; rw [add_block]; exact hn158_2) | exact hn158_2) (.int .i64 ((rd_T44 t143 x9_2).f2))).trans hx158_0
                                          clear hn158_0
                                          clear hn158_1
                                          clear hn158_2
                                          replace p158 := eq_true p158
                                          replace q158 := eq_true q158
                                          go_wp2
                                          go_meet
                                          case rel => exact ⟨_, (true), (by first | rfl | (simp; done) | (simp [*]; done)), H', ⟨by have := HJ4.out; have := HK2.out; first | omega | exact Nat.le_refl _⟩, ⟨by (with_reducible repeat (first | apply Kd.R_alloc | apply Kd.R_drewN | apply Kd.R_drew)); exact Kd.R_mono (Kd.R_far (p := ⟨gb156, 2, none⟩) (Kd.R_far (p := ⟨gb156, 1, none⟩) (Kd.R_far (p := ⟨gb156, 0, none⟩) (Kd.R_types HO_7.out BK156.out (by decide)) (fun _ hk => hk.2) (.int .i64 ((rd_T44 t143 x9_2).f0))) (fun _ hk => hk.2) (.int .i64 ((rd_T44 t143 x9_2).f1))) (fun _ hk => hk.2) (.int .i64 ((rd_T44 t143 x9_2).f2))) (fun _ hk => trivial)⟩, ⟨by (with_reducible repeat (first | apply Kd.R_alloc | apply Kd.R_drewN | apply Kd.R_drew)); exact Kd.R_mono (Kd.R_far (p := ⟨gb156, 2, none⟩) (Kd.R_far (p := ⟨gb156, 1, none⟩) (Kd.R_far (p := ⟨gb156, 0, none⟩) (Kd.R_types HO_151000.out BK156.out (by decide)) (fun _ hk => hk.2) (.int .i64 ((rd_T44 t143 x9_2).f0))) (fun _ hk => hk.2) (.int .i64 ((rd_T44 t143 x9_2).f1))) (fun _ hk => hk.2) (.int .i64 ((rd_T44 t143 x9_2).f2))) (fun _ hk => trivial)⟩, ⟨by (with_reducible repeat (first | apply Kd.R_alloc | apply Kd.R_drewN | apply Kd.R_drew)); exact Kd.R_mono (Kd.R_far (p := ⟨gb156, 2, none⟩) (Kd.R_far (p := ⟨gb156, 1, none⟩) (Kd.R_far (p := ⟨gb156, 0, none⟩) (Kd.R_mono HO_151002.out (fun k_ hk => (⟨hk, hk.2⟩ : _ ∧ k_ ≠ gb156))) (fun _ hk => hk.2) (.int .i64 ((rd_T44 t143 x9_2).f0))) (fun _ hk => hk.2) (.int .i64 ((rd_T44 t143 x9_2).f1))) (fun _ hk => hk.2) (.int .i64 ((rd_T44 t143 x9_2).f2))) (fun _ hk => hk.1.2)⟩, ⟨by (with_reducible repeat (first | apply Kd.S_alloc | apply Kd.S_drewN | apply Kd.S_drew)); exact Kd.S_mono (Kd.S_far (p := ⟨gb156, 2, none⟩) (Kd.S_far (p := ⟨gb156, 1, none⟩) (Kd.S_far (p := ⟨gb156, 0, none⟩) (Kd.S_types HO_151003.out BK156.out (by decide)) (fun _ hk => hk.2) (.int .i64 ((rd_T44 t143 x9_2).f0))) (fun _ hk => hk.2) (.int .i64 ((rd_T44 t143 x9_2).f1))) (fun _ hk => hk.2) (.int .i64 ((rd_T44 t143 x9_2).f2))) (fun _ hk => hk.1)⟩, ⟨by (with_reducible repeat (first | refine blk_drewN ?_ _ | refine blk_drew ?_ | refine blk_alloc ?_ _)); refine blk_far ?_ NB125_156.out _; (with_reducible repeat (first | refine blk_drewN ?_ _ | refine blk_drew ?_ | refine blk_alloc ?_ _)); refine blk_far ?_ NB125_156.out _; (with_reducible repeat (first | refine blk_drewN ?_ _ | refine blk_drew ?_ | refine blk_alloc ?_ _)); refine blk_far ?_ NB125_156.out _; (with_reducible repeat (first | refine blk_drewN ?_ _ | refine blk_drew ?_ | refine blk_alloc ?_ _)); exact BK125.out⟩, ⟨by (with_reducible repeat (first | refine blk_drewN ?_ _ | refine blk_drew ?_ | refine blk_alloc ?_ _)); refine blk_far ?_ NB150_156.out _; (with_reducible repeat (first | refine blk_drewN ?_ _ | refine blk_drew ?_ | refine blk_alloc ?_ _)); refine blk_far ?_ NB150_156.out _; (with_reducible repeat (first | refine blk_drewN ?_ _ | refine blk_drew ?_ | refine blk_alloc ?_ _)); refine blk_far ?_ NB150_156.out _; (with_reducible repeat (first | refine blk_drewN ?_ _ | refine blk_drew ?_ | refine blk_alloc ?_ _)); exact BK150.out⟩, ⟨by (with_reducible repeat (first | refine blk_drewN ?_ _ | refine blk_drew ?_ | refine blk_alloc ?_ _)); refine blk_put (cs := #[.int .i64 ((rd_T44 t143 x9_2).f0), .int .i64 ((rd_T44 t143 x9_2).f1), .int .i64 0]) ?_ 2 _ rfl; (with_reducible repeat (first | refine blk_drewN ?_ _ | refine blk_drew ?_ | refine blk_alloc ?_ _)); refine blk_put (cs := #[.int .i64 ((rd_T44 t143 x9_2).f0), .int .i64 0, .int .i64 0]) ?_ 1 _ rfl; (with_reducible repeat (first | refine blk_drewN ?_ _ | refine blk_drew ?_ | refine blk_alloc ?_ _)); refine blk_put (cs := #[.int .i64 0, .int .i64 0, .int .i64 0]) ?_ 0 _ rfl; (with_reducible repeat (first | refine blk_drewN ?_ _ | refine blk_drew ?_ | refine blk_alloc ?_ _)); exact BK156.out⟩, ⟨by repeat (first | (with_reducible first | exact HB.out | apply below_alloc | apply pw_below_drewN | apply below_drew1 | refine below_set ?_ GE125.out | refine below_set ?_ GE150.out | refine below_set ?_ GE156.out) | exact HB.out)⟩⟩
                                        · replace c71 := Bool.eq_false_iff.mpr c71
                                          subst c71
                                          have H1 : (if ((rd_T44 t143 x9_2).f0) < x8_2 then (plunderlaw23_HyperCounts.j2 k2 x7_2 x9_2 true l0_0 l0_1 l0_2 t139 t142 t143 t146 ((rd_T44 t143 x9_2).f0) ((rd_T44 t143 x9_2).f1) ((rd_T44 t143 x9_2).f2)) else (plunderlaw23_HyperCounts.j2 k2 x7_2 x9_2 (decide (((rd_T44 t143 x9_2).f0) > (l0_0.length : Int))) l0_0 l0_1 l0_2 t139 t142 t143 t146 ((rd_T44 t143 x9_2).f0) ((rd_T44 t143 x9_2).f1) ((rd_T44 t143 x9_2).f2))) = some r := by rw [if_neg (show ¬ (false = true) by decide)] at H; exact H
                                          clear H
                                          have H := H1
                                          clear H1
                                          by_cases c78 : ((rd_T44 t143 x9_2).f0) < x8_2
                                          · rw [if_pos c78] at H
                                            have c78b0 : decide (((rd_T44 t143 x9_2).f0) < x8_2) = true := decide_eq_true c78
                                            clear c78
                                            have H' := Aside0.mk H
                                            clear H
                                            have hnb79 := NB156_125.out
                                            have hnc79 := NB125_156.out
                                            have hnb80 := NB156_150.out
                                            have hnc80 := NB150_156.out
                                            have hcz81_0 : w40.cell? ⟨gb156, 0, none⟩ = some (.int .i64 0) := (blk_cell BK156.out 0).trans rfl
                                            have hcz81_1 : w40.cell? ⟨gb156, 1, none⟩ = some (.int .i64 0) := (blk_cell BK156.out 1).trans rfl
                                            have hcz81_2 : w40.cell? ⟨gb156, 2, none⟩ = some (.int .i64 0) := (blk_cell BK156.out 2).trans rfl
                                            have hfz81_0 := blk_frozen BK156.out 0
                                            have hfz81_1 := blk_frozen BK156.out 1
                                            have hfz81_2 := blk_frozen BK156.out 2
                                            have hnb82 := NB150_125.out
                                            have hnc82 := NB125_150.out
                                            have hcz83_0 : w40.cell? ⟨gb150, 0, none⟩ = some (.slice Ao12 t139.length co12) := (blk_cell BK150.out 0).trans rfl
                                            have hcz83_1 : w40.cell? ⟨gb150, 1, none⟩ = some (.int .i64 t142) := (blk_cell BK150.out 1).trans rfl
                                            have hcz83_2 : w40.cell? ⟨gb150, 2, none⟩ = some (.slice (some ad155) t143.length co15) := (blk_cell BK150.out 2).trans rfl
                                            have hcz83_3 : w40.cell? ⟨gb150, 3, none⟩ = some (.slice Ao16 t146.length co16) := (blk_cell BK150.out 3).trans rfl
                                            have hfz83_0 := blk_frozen BK150.out 0
                                            have hfz83_1 := blk_frozen BK150.out 1
                                            have hfz83_2 := blk_frozen BK150.out 2
                                            have hfz83_3 := blk_frozen BK150.out 3
                                            obtain ⟨Ao84, co84, eo84⟩ := Kd.R_slice HO_7.out
                                            subst eo84
                                            have p157 : 0 ≤ (((rd_T44 t143 x9_2).f1) : Int) := of_decide_eq_true (by first | (with_reducible assumption) | assumption)
                                            have q157 : ((rd_T44 t143 x9_2).f1) < (x7_2.length : Int) := of_decide_eq_true (by first | (with_reducible assumption) | assumption)
                                            obtain ⟨ad157, e157, hx157_0⟩ := Kd.at_bool (Kd.R_reads' HO_7.out).2.2 ((rd_T44 t143 x9_2).f1) p157 q157
                                            (try rw [← Nbq60.out] at hx157_0)
                                            (try rw [← Nbq70.out] at hx157_0)
                                            cases e157
                                            have hn157_0 : ad157.block ≠ gb156 := Kd.own_blk (Kd.R_ne HO_7.out BK156.out (by decide))
                                            have hn157_1 : ad157.block ≠ gb156 := Kd.own_blk (Kd.R_ne HO_7.out BK156.out (by decide))
                                            have hn157_2 : ad157.block ≠ gb156 := Kd.own_blk (Kd.R_ne HO_7.out BK156.out (by decide))
                                            replace hx157_0 := (cell_far (p := ⟨gb156, 0, none⟩) (by first | (rw [add_block]; exact hn157_0) | (show (Addr.add _ _).block ≠ _; rw [add_block]; exact hn157_0) | exact hn157_0) (.int .i64 ((rd_T44 t143 x9_2).f0))).trans hx157_0
                                            replace hx157_0 := (cell_far (p := ⟨gb156, 1, none⟩) (by first | (rw [add_block]; exact hn157_1) | (show (Addr.add _ _).block ≠ _; rw [add_block]; exact hn157_1) | exact hn157_1) (.int .i64 ((rd_T44 t143 x9_2).f1))).trans hx157_0
                                            replace hx157_0 := (cell_far (p := ⟨gb156, 2, none⟩) (by first | (rw [add_block]; exact hn157_2) | (show (Addr.add _ _).block ≠ _; rw [add_block]; exact hn157_2) | exact hn157_2) (.int .i64 ((rd_T44 t143 x9_2).f2))).trans hx157_0
                                            clear hn157_0
                                            clear hn157_1
                                            clear hn157_2
                                            replace p157 := eq_true p157
                                            replace q157 := eq_true q157
                                            have p158 : 0 ≤ (((rd_T44 t143 x9_2).f2) : Int) := of_decide_eq_true (by first | (with_reducible assumption) | assumption)
                                            have q158 : ((rd_T44 t143 x9_2).f2) < (x7_2.length : Int) := of_decide_eq_true (by first | (with_reducible assumption) | assumption)
                                            obtain ⟨ad158, e158, hx158_0⟩ := Kd.at_bool (Kd.R_reads' HO_7.out).2.2 ((rd_T44 t143 x9_2).f2) p158 q158
                                            (try rw [← Nbq60.out] at hx158_0)
                                            (try rw [← Nbq70.out] at hx158_0)
                                            obtain rfl : ad157 = ad158 := (by injection e158)
                                            have hn158_0 : ad157.block ≠ gb156 := Kd.own_blk (Kd.R_ne HO_7.out BK156.out (by decide))
                                            have hn158_1 : ad157.block ≠ gb156 := Kd.own_blk (Kd.R_ne HO_7.out BK156.out (by decide))
                                            have hn158_2 : ad157.block ≠ gb156 := Kd.own_blk (Kd.R_ne HO_7.out BK156.out (by decide))
                                            replace hx158_0 := (cell_far (p := ⟨gb156, 0, none⟩) (by first | (rw [add_block]; exact hn158_0) | (show (Addr.add _ _).block ≠ _; rw [add_block]; exact hn158_0) | exact hn158_0) (.int .i64 ((rd_T44 t143 x9_2).f0))).trans hx158_0
                                            replace hx158_0 := (cell_far (p := ⟨gb156, 1, none⟩) (by first | (rw [add_block]; exact hn158_1) | (show (Addr.add _ _).block ≠ _; rw [add_block]; exact hn158_1) | exact hn158_1) (.int .i64 ((rd_T44 t143 x9_2).f1))).trans hx158_0
                                            replace hx158_0 := (cell_far (p := ⟨gb156, 2, none⟩) (by first | (rw [add_block]; exact hn158_2) | (show (Addr.add _ _).block ≠ _; rw [add_block]; exact hn158_2) | exact hn158_2) (.int .i64 ((rd_T44 t143 x9_2).f2))).trans hx158_0
                                            clear hn158_0
                                            clear hn158_1
                                            clear hn158_2
                                            replace p158 := eq_true p158
                                            replace q158 := eq_true q158
                                            go_wp2
                                            go_meet
                                            case rel => exact ⟨_, (true), (by first | rfl | (simp; done) | (simp [*]; done)), H', ⟨by have := HJ4.out; have := HK2.out; first | omega | exact Nat.le_refl _⟩, ⟨by (with_reducible repeat (first | apply Kd.R_alloc | apply Kd.R_drewN | apply Kd.R_drew)); exact Kd.R_mono (Kd.R_far (p := ⟨gb156, 2, none⟩) (Kd.R_far (p := ⟨gb156, 1, none⟩) (Kd.R_far (p := ⟨gb156, 0, none⟩) (Kd.R_types HO_7.out BK156.out (by decide)) (fun _ hk => hk.2) (.int .i64 ((rd_T44 t143 x9_2).f0))) (fun _ hk => hk.2) (.int .i64 ((rd_T44 t143 x9_2).f1))) (fun _ hk => hk.2) (.int .i64 ((rd_T44 t143 x9_2).f2))) (fun _ hk => trivial)⟩, ⟨by (with_reducible repeat (first | apply Kd.R_alloc | apply Kd.R_drewN | apply Kd.R_drew)); exact Kd.R_mono (Kd.R_far (p := ⟨gb156, 2, none⟩) (Kd.R_far (p := ⟨gb156, 1, none⟩) (Kd.R_far (p := ⟨gb156, 0, none⟩) (Kd.R_types HO_151000.out BK156.out (by decide)) (fun _ hk => hk.2) (.int .i64 ((rd_T44 t143 x9_2).f0))) (fun _ hk => hk.2) (.int .i64 ((rd_T44 t143 x9_2).f1))) (fun _ hk => hk.2) (.int .i64 ((rd_T44 t143 x9_2).f2))) (fun _ hk => trivial)⟩, ⟨by (with_reducible repeat (first | apply Kd.R_alloc | apply Kd.R_drewN | apply Kd.R_drew)); exact Kd.R_mono (Kd.R_far (p := ⟨gb156, 2, none⟩) (Kd.R_far (p := ⟨gb156, 1, none⟩) (Kd.R_far (p := ⟨gb156, 0, none⟩) (Kd.R_mono HO_151002.out (fun k_ hk => (⟨hk, hk.2⟩ : _ ∧ k_ ≠ gb156))) (fun _ hk => hk.2) (.int .i64 ((rd_T44 t143 x9_2).f0))) (fun _ hk => hk.2) (.int .i64 ((rd_T44 t143 x9_2).f1))) (fun _ hk => hk.2) (.int .i64 ((rd_T44 t143 x9_2).f2))) (fun _ hk => hk.1.2)⟩, ⟨by (with_reducible repeat (first | apply Kd.S_alloc | apply Kd.S_drewN | apply Kd.S_drew)); exact Kd.S_mono (Kd.S_far (p := ⟨gb156, 2, none⟩) (Kd.S_far (p := ⟨gb156, 1, none⟩) (Kd.S_far (p := ⟨gb156, 0, none⟩) (Kd.S_types HO_151003.out BK156.out (by decide)) (fun _ hk => hk.2) (.int .i64 ((rd_T44 t143 x9_2).f0))) (fun _ hk => hk.2) (.int .i64 ((rd_T44 t143 x9_2).f1))) (fun _ hk => hk.2) (.int .i64 ((rd_T44 t143 x9_2).f2))) (fun _ hk => hk.1)⟩, ⟨by (with_reducible repeat (first | refine blk_drewN ?_ _ | refine blk_drew ?_ | refine blk_alloc ?_ _)); refine blk_far ?_ NB125_156.out _; (with_reducible repeat (first | refine blk_drewN ?_ _ | refine blk_drew ?_ | refine blk_alloc ?_ _)); refine blk_far ?_ NB125_156.out _; (with_reducible repeat (first | refine blk_drewN ?_ _ | refine blk_drew ?_ | refine blk_alloc ?_ _)); refine blk_far ?_ NB125_156.out _; (with_reducible repeat (first | refine blk_drewN ?_ _ | refine blk_drew ?_ | refine blk_alloc ?_ _)); exact BK125.out⟩, ⟨by (with_reducible repeat (first | refine blk_drewN ?_ _ | refine blk_drew ?_ | refine blk_alloc ?_ _)); refine blk_far ?_ NB150_156.out _; (with_reducible repeat (first | refine blk_drewN ?_ _ | refine blk_drew ?_ | refine blk_alloc ?_ _)); refine blk_far ?_ NB150_156.out _; (with_reducible repeat (first | refine blk_drewN ?_ _ | refine blk_drew ?_ | refine blk_alloc ?_ _)); refine blk_far ?_ NB150_156.out _; (with_reducible repeat (first | refine blk_drewN ?_ _ | refine blk_drew ?_ | refine blk_alloc ?_ _)); exact BK150.out⟩, ⟨by (with_reducible repeat (first | refine blk_drewN ?_ _ | refine blk_drew ?_ | refine blk_alloc ?_ _)); refine blk_put (cs := #[.int .i64 ((rd_T44 t143 x9_2).f0), .int .i64 ((rd_T44 t143 x9_2).f1), .int .i64 0]) ?_ 2 _ rfl; (with_reducible repeat (first | refine blk_drewN ?_ _ | refine blk_drew ?_ | refine blk_alloc ?_ _)); refine blk_put (cs := #[.int .i64 ((rd_T44 t143 x9_2).f0), .int .i64 0, .int .i64 0]) ?_ 1 _ rfl; (with_reducible repeat (first | refine blk_drewN ?_ _ | refine blk_drew ?_ | refine blk_alloc ?_ _)); refine blk_put (cs := #[.int .i64 0, .int .i64 0, .int .i64 0]) ?_ 0 _ rfl; (with_reducible repeat (first | refine blk_drewN ?_ _ | refine blk_drew ?_ | refine blk_alloc ?_ _)); exact BK156.out⟩, ⟨by repeat (first | (with_reducible first | exact HB.out | apply below_alloc | apply pw_below_drewN | apply below_drew1 | refine below_set ?_ GE125.out | refine below_set ?_ GE150.out | refine below_set ?_ GE156.out) | exact HB.out)⟩⟩
                                          · rw [if_neg c78] at H
                                            have c78b0 : decide (((rd_T44 t143 x9_2).f0) < x8_2) = false := decide_eq_false c78
                                            clear c78
                                            have H' := Aside0.mk H
                                            clear H
                                            have hnb85 := NB156_125.out
                                            have hnc85 := NB125_156.out
                                            have hnb86 := NB156_150.out
                                            have hnc86 := NB150_156.out
                                            have hcz87_0 : w40.cell? ⟨gb156, 0, none⟩ = some (.int .i64 0) := (blk_cell BK156.out 0).trans rfl
                                            have hcz87_1 : w40.cell? ⟨gb156, 1, none⟩ = some (.int .i64 0) := (blk_cell BK156.out 1).trans rfl
                                            have hcz87_2 : w40.cell? ⟨gb156, 2, none⟩ = some (.int .i64 0) := (blk_cell BK156.out 2).trans rfl
                                            have hfz87_0 := blk_frozen BK156.out 0
                                            have hfz87_1 := blk_frozen BK156.out 1
                                            have hfz87_2 := blk_frozen BK156.out 2
                                            have hnb88 := NB150_125.out
                                            have hnc88 := NB125_150.out
                                            have hcz89_0 : w40.cell? ⟨gb150, 0, none⟩ = some (.slice Ao12 t139.length co12) := (blk_cell BK150.out 0).trans rfl
                                            have hcz89_1 : w40.cell? ⟨gb150, 1, none⟩ = some (.int .i64 t142) := (blk_cell BK150.out 1).trans rfl
                                            have hcz89_2 : w40.cell? ⟨gb150, 2, none⟩ = some (.slice (some ad155) t143.length co15) := (blk_cell BK150.out 2).trans rfl
                                            have hcz89_3 : w40.cell? ⟨gb150, 3, none⟩ = some (.slice Ao16 t146.length co16) := (blk_cell BK150.out 3).trans rfl
                                            have hfz89_0 := blk_frozen BK150.out 0
                                            have hfz89_1 := blk_frozen BK150.out 1
                                            have hfz89_2 := blk_frozen BK150.out 2
                                            have hfz89_3 := blk_frozen BK150.out 3
                                            obtain ⟨Ao90, co90, eo90⟩ := Kd.R_slice HO_7.out
                                            subst eo90
                                            have p157 : 0 ≤ (((rd_T44 t143 x9_2).f1) : Int) := of_decide_eq_true (by first | (with_reducible assumption) | assumption)
                                            have q157 : ((rd_T44 t143 x9_2).f1) < (x7_2.length : Int) := of_decide_eq_true (by first | (with_reducible assumption) | assumption)
                                            obtain ⟨ad157, e157, hx157_0⟩ := Kd.at_bool (Kd.R_reads' HO_7.out).2.2 ((rd_T44 t143 x9_2).f1) p157 q157
                                            (try rw [← Nbq60.out] at hx157_0)
                                            (try rw [← Nbq70.out] at hx157_0)
                                            cases e157
                                            have hn157_0 : ad157.block ≠ gb156 := Kd.own_blk (Kd.R_ne HO_7.out BK156.out (by decide))
                                            have hn157_1 : ad157.block ≠ gb156 := Kd.own_blk (Kd.R_ne HO_7.out BK156.out (by decide))
                                            have hn157_2 : ad157.block ≠ gb156 := Kd.own_blk (Kd.R_ne HO_7.out BK156.out (by decide))
                                            replace hx157_0 := (cell_far (p := ⟨gb156, 0, none⟩) (by first | (rw [add_block]; exact hn157_0) | (show (Addr.add _ _).block ≠ _; rw [add_block]; exact hn157_0) | exact hn157_0) (.int .i64 ((rd_T44 t143 x9_2).f0))).trans hx157_0
                                            replace hx157_0 := (cell_far (p := ⟨gb156, 1, none⟩) (by first | (rw [add_block]; exact hn157_1) | (show (Addr.add _ _).block ≠ _; rw [add_block]; exact hn157_1) | exact hn157_1) (.int .i64 ((rd_T44 t143 x9_2).f1))).trans hx157_0
                                            replace hx157_0 := (cell_far (p := ⟨gb156, 2, none⟩) (by first | (rw [add_block]; exact hn157_2) | (show (Addr.add _ _).block ≠ _; rw [add_block]; exact hn157_2) | exact hn157_2) (.int .i64 ((rd_T44 t143 x9_2).f2))).trans hx157_0
                                            clear hn157_0
                                            clear hn157_1
                                            clear hn157_2
                                            replace p157 := eq_true p157
                                            replace q157 := eq_true q157
                                            have p158 : 0 ≤ (((rd_T44 t143 x9_2).f2) : Int) := of_decide_eq_true (by first | (with_reducible assumption) | assumption)
                                            have q158 : ((rd_T44 t143 x9_2).f2) < (x7_2.length : Int) := of_decide_eq_true (by first | (with_reducible assumption) | assumption)
                                            obtain ⟨ad158, e158, hx158_0⟩ := Kd.at_bool (Kd.R_reads' HO_7.out).2.2 ((rd_T44 t143 x9_2).f2) p158 q158
                                            (try rw [← Nbq60.out] at hx158_0)
                                            (try rw [← Nbq70.out] at hx158_0)
                                            obtain rfl : ad157 = ad158 := (by injection e158)
                                            have hn158_0 : ad157.block ≠ gb156 := Kd.own_blk (Kd.R_ne HO_7.out BK156.out (by decide))
                                            have hn158_1 : ad157.block ≠ gb156 := Kd.own_blk (Kd.R_ne HO_7.out BK156.out (by decide))
                                            have hn158_2 : ad157.block ≠ gb156 := Kd.own_blk (Kd.R_ne HO_7.out BK156.out (by decide))
                                            replace hx158_0 := (cell_far (p := ⟨gb156, 0, none⟩) (by first | (rw [add_block]; exact hn158_0) | (show (Addr.add _ _).block ≠ _; rw [add_block]; exact hn158_0) | exact hn158_0) (.int .i64 ((rd_T44 t143 x9_2).f0))).trans hx158_0
                                            replace hx158_0 := (cell_far (p := ⟨gb156, 1, none⟩) (by first | (rw [add_block]; exact hn158_1) | (show (Addr.add _ _).block ≠ _; rw [add_block]; exact hn158_1) | exact hn158_1) (.int .i64 ((rd_T44 t143 x9_2).f1))).trans hx158_0
                                            replace hx158_0 := (cell_far (p := ⟨gb156, 2, none⟩) (by first | (rw [add_block]; exact hn158_2) | (show (Addr.add _ _).block ≠ _; rw [add_block]; exact hn158_2) | exact hn158_2) (.int .i64 ((rd_T44 t143 x9_2).f2))).trans hx158_0
                                            clear hn158_0
                                            clear hn158_1
                                            clear hn158_2
                                            replace p158 := eq_true p158
                                            replace q158 := eq_true q158
                                            have hcz91_0 : w40.cell? ⟨gb125, 0, none⟩ = some (.slice A0_0 l0_0.length c0_0) := (blk_cell BK125.out 0).trans rfl
                                            have hcz91_1 : w40.cell? ⟨gb125, 1, none⟩ = some (.slice A0_1 l0_1.length c0_1) := (blk_cell BK125.out 1).trans rfl
                                            have hcz91_2 : w40.cell? ⟨gb125, 2, none⟩ = some (.slice A0_2 l0_2.length c0_2) := (blk_cell BK125.out 2).trans rfl
                                            have hfz91_0 := blk_frozen BK125.out 0
                                            have hfz91_1 := blk_frozen BK125.out 1
                                            have hfz91_2 := blk_frozen BK125.out 2
                                            go_wp2
                                            go_meet
                                            case rel => exact ⟨_, (decide (((rd_T44 t143 x9_2).f0) > (l0_0.length : Int))), (by first | rfl | (simp; done) | (simp [*]; done)), H', ⟨by have := HJ4.out; have := HK2.out; first | omega | exact Nat.le_refl _⟩, ⟨by (with_reducible repeat (first | apply Kd.R_alloc | apply Kd.R_drewN | apply Kd.R_drew)); exact Kd.R_mono (Kd.R_far (p := ⟨gb156, 2, none⟩) (Kd.R_far (p := ⟨gb156, 1, none⟩) (Kd.R_far (p := ⟨gb156, 0, none⟩) (Kd.R_types HO_7.out BK156.out (by decide)) (fun _ hk => hk.2) (.int .i64 ((rd_T44 t143 x9_2).f0))) (fun _ hk => hk.2) (.int .i64 ((rd_T44 t143 x9_2).f1))) (fun _ hk => hk.2) (.int .i64 ((rd_T44 t143 x9_2).f2))) (fun _ hk => trivial)⟩, ⟨by (with_reducible repeat (first | apply Kd.R_alloc | apply Kd.R_drewN | apply Kd.R_drew)); exact Kd.R_mono (Kd.R_far (p := ⟨gb156, 2, none⟩) (Kd.R_far (p := ⟨gb156, 1, none⟩) (Kd.R_far (p := ⟨gb156, 0, none⟩) (Kd.R_types HO_151000.out BK156.out (by decide)) (fun _ hk => hk.2) (.int .i64 ((rd_T44 t143 x9_2).f0))) (fun _ hk => hk.2) (.int .i64 ((rd_T44 t143 x9_2).f1))) (fun _ hk => hk.2) (.int .i64 ((rd_T44 t143 x9_2).f2))) (fun _ hk => trivial)⟩, ⟨by (with_reducible repeat (first | apply Kd.R_alloc | apply Kd.R_drewN | apply Kd.R_drew)); exact Kd.R_mono (Kd.R_far (p := ⟨gb156, 2, none⟩) (Kd.R_far (p := ⟨gb156, 1, none⟩) (Kd.R_far (p := ⟨gb156, 0, none⟩) (Kd.R_mono HO_151002.out (fun k_ hk => (⟨hk, hk.2⟩ : _ ∧ k_ ≠ gb156))) (fun _ hk => hk.2) (.int .i64 ((rd_T44 t143 x9_2).f0))) (fun _ hk => hk.2) (.int .i64 ((rd_T44 t143 x9_2).f1))) (fun _ hk => hk.2) (.int .i64 ((rd_T44 t143 x9_2).f2))) (fun _ hk => hk.1.2)⟩, ⟨by (with_reducible repeat (first | apply Kd.S_alloc | apply Kd.S_drewN | apply Kd.S_drew)); exact Kd.S_mono (Kd.S_far (p := ⟨gb156, 2, none⟩) (Kd.S_far (p := ⟨gb156, 1, none⟩) (Kd.S_far (p := ⟨gb156, 0, none⟩) (Kd.S_types HO_151003.out BK156.out (by decide)) (fun _ hk => hk.2) (.int .i64 ((rd_T44 t143 x9_2).f0))) (fun _ hk => hk.2) (.int .i64 ((rd_T44 t143 x9_2).f1))) (fun _ hk => hk.2) (.int .i64 ((rd_T44 t143 x9_2).f2))) (fun _ hk => hk.1)⟩, ⟨by (with_reducible repeat (first | refine blk_drewN ?_ _ | refine blk_drew ?_ | refine blk_alloc ?_ _)); refine blk_far ?_ NB125_156.out _; (with_reducible repeat (first | refine blk_drewN ?_ _ | refine blk_drew ?_ | refine blk_alloc ?_ _)); refine blk_far ?_ NB125_156.out _; (with_reducible repeat (first | refine blk_drewN ?_ _ | refine blk_drew ?_ | refine blk_alloc ?_ _)); refine blk_far ?_ NB125_156.out _; (with_reducible repeat (first | refine blk_drewN ?_ _ | refine blk_drew ?_ | refine blk_alloc ?_ _)); exact BK125.out⟩, ⟨by (with_reducible repeat (first | refine blk_drewN ?_ _ | refine blk_drew ?_ | refine blk_alloc ?_ _)); refine blk_far ?_ NB150_156.out _; (with_reducible repeat (first | refine blk_drewN ?_ _ | refine blk_drew ?_ | refine blk_alloc ?_ _)); refine blk_far ?_ NB150_156.out _; (with_reducible repeat (first | refine blk_drewN ?_ _ | refine blk_drew ?_ | refine blk_alloc ?_ _)); refine blk_far ?_ NB150_156.out _; (with_reducible repeat (first | refine blk_drewN ?_ _ | refine blk_drew ?_ | refine blk_alloc ?_ _)); exact BK150.out⟩, ⟨by (with_reducible repeat (first | refine blk_drewN ?_ _ | refine blk_drew ?_ | refine blk_alloc ?_ _)); refine blk_put (cs := #[.int .i64 ((rd_T44 t143 x9_2).f0), .int .i64 ((rd_T44 t143 x9_2).f1), .int .i64 0]) ?_ 2 _ rfl; (with_reducible repeat (first | refine blk_drewN ?_ _ | refine blk_drew ?_ | refine blk_alloc ?_ _)); refine blk_put (cs := #[.int .i64 ((rd_T44 t143 x9_2).f0), .int .i64 0, .int .i64 0]) ?_ 1 _ rfl; (with_reducible repeat (first | refine blk_drewN ?_ _ | refine blk_drew ?_ | refine blk_alloc ?_ _)); refine blk_put (cs := #[.int .i64 0, .int .i64 0, .int .i64 0]) ?_ 0 _ rfl; (with_reducible repeat (first | refine blk_drewN ?_ _ | refine blk_drew ?_ | refine blk_alloc ?_ _)); exact BK156.out⟩, ⟨by repeat (first | (with_reducible first | exact HB.out | apply below_alloc | apply pw_below_drewN | apply below_drew1 | refine below_set ?_ GE125.out | refine below_set ?_ GE150.out | refine below_set ?_ GE156.out) | exact HB.out)⟩⟩
                                      · rw [if_neg c69] at H
                                        exact absurd H (by simp)
                                    · rw [if_neg c68] at H
                                      exact absurd H (by simp)
                                · rw [if_neg c59] at H
                                  exact absurd H (by simp)
                              · rw [if_neg c58] at H
                                exact absurd H (by simp)
                      case rest =>
                        clear HC37
                        try clear c1
                        try clear p1
                        try clear q1
                        try clear hx1
                        try clear c2
                        try clear p2
                        try clear c3
                        try clear c4
                        try clear c5
                        try clear c6
                        try clear p6
                        try clear q6
                        try clear c7
                        try clear q7
                        try clear c8
                        try clear c13
                        try clear c15
                        try clear p15
                        try clear q15
                        try clear hx15
                        try clear c17
                        try clear c17b0
                        try clear c17b1
                        try clear c18
                        try clear c19
                        try clear c19b0
                        try clear c19b1
                        try clear c28
                        try clear c29
                        try clear c29b0
                        try clear c29b1
                        try clear c30
                        try clear c30b0
                        try clear c30b1
                        try clear c31
                        try clear c35
                        try clear c35b0
                        try clear c36
                        try clear c36b0
                        try clear c38
                        try clear c41
                        try clear c42
                        try clear c44
                        try clear c44b0
                        try clear c45
                        try clear c46
                        try clear c48
                        try clear c48b0
                        try clear c49
                        try clear c50
                        try clear c52
                        try clear c52b0
                        try clear c53
                        try clear c54
                        try clear c56
                        try clear c58
                        try clear c58b0
                        try clear c59
                        try clear c59b0
                        try clear q60
                        try clear c61
                        try clear c62
                        try clear c63
                        try clear c65
                        try clear c68
                        try clear c68b0
                        try clear c69
                        try clear c69b0
                        try clear q70
                        try clear c71
                        try clear c72
                        try clear c73
                        try clear c75
                        try clear c78
                        try clear c78b0
                        try clear c79
                        try clear c80
                        try clear c82
                        try clear c85
                        try clear c86
                        try clear c88
                        try clear hcz14_0
                        try clear hcz14_1
                        try clear hcz14_2
                        try clear hcz14_3
                        try clear hcz32_0
                        try clear hcz32_1
                        try clear hcz32_2
                        try clear hcz32_3
                        try clear hcz39_0
                        try clear hcz39_1
                        try clear hcz39_2
                        try clear hcz39_3
                        try clear hcz43_0
                        try clear hcz43_1
                        try clear hcz43_2
                        try clear hcz47_0
                        try clear hcz47_1
                        try clear hcz47_2
                        try clear hcz51_0
                        try clear hcz51_1
                        try clear hcz51_2
                        try clear hcz55_0
                        try clear hcz55_1
                        try clear hcz55_2
                        try clear hcz57_0
                        try clear hcz57_1
                        try clear hcz57_2
                        try clear hcz57_3
                        try clear hcz64_0
                        try clear hcz64_1
                        try clear hcz64_2
                        try clear hcz66_0
                        try clear hcz66_1
                        try clear hcz66_2
                        try clear hcz66_3
                        try clear hcz74_0
                        try clear hcz74_1
                        try clear hcz74_2
                        try clear hcz76_0
                        try clear hcz76_1
                        try clear hcz76_2
                        try clear hcz76_3
                        try clear hcz7_0
                        try clear hcz7_1
                        try clear hcz7_2
                        try clear hcz81_0
                        try clear hcz81_1
                        try clear hcz81_2
                        try clear hcz83_0
                        try clear hcz83_1
                        try clear hcz83_2
                        try clear hcz83_3
                        try clear hcz87_0
                        try clear hcz87_1
                        try clear hcz87_2
                        try clear hcz89_0
                        try clear hcz89_1
                        try clear hcz89_2
                        try clear hcz89_3
                        try clear hcz91_0
                        try clear hcz91_1
                        try clear hcz91_2
                        try clear hcz9_0
                        try clear hcz9_1
                        try clear hcz9_2
                        try clear hfz14_0
                        try clear hfz14_1
                        try clear hfz14_2
                        try clear hfz14_3
                        try clear hfz32_0
                        try clear hfz32_1
                        try clear hfz32_2
                        try clear hfz32_3
                        try clear hfz39_0
                        try clear hfz39_1
                        try clear hfz39_2
                        try clear hfz39_3
                        try clear hfz43_0
                        try clear hfz43_1
                        try clear hfz43_2
                        try clear hfz47_0
                        try clear hfz47_1
                        try clear hfz47_2
                        try clear hfz51_0
                        try clear hfz51_1
                        try clear hfz51_2
                        try clear hfz55_0
                        try clear hfz55_1
                        try clear hfz55_2
                        try clear hfz57_0
                        try clear hfz57_1
                        try clear hfz57_2
                        try clear hfz57_3
                        try clear hfz64_0
                        try clear hfz64_1
                        try clear hfz64_2
                        try clear hfz66_0
                        try clear hfz66_1
                        try clear hfz66_2
                        try clear hfz66_3
                        try clear hfz74_0
                        try clear hfz74_1
                        try clear hfz74_2
                        try clear hfz76_0
                        try clear hfz76_1
                        try clear hfz76_2
                        try clear hfz76_3
                        try clear hfz7_0
                        try clear hfz7_1
                        try clear hfz7_2
                        try clear hfz81_0
                        try clear hfz81_1
                        try clear hfz81_2
                        try clear hfz83_0
                        try clear hfz83_1
                        try clear hfz83_2
                        try clear hfz83_3
                        try clear hfz87_0
                        try clear hfz87_1
                        try clear hfz87_2
                        try clear hfz89_0
                        try clear hfz89_1
                        try clear hfz89_2
                        try clear hfz89_3
                        try clear hfz91_0
                        try clear hfz91_1
                        try clear hfz91_2
                        try clear hfz9_0
                        try clear hfz9_1
                        try clear hfz9_2
                        try clear hx155_0
                        try clear hx155_1
                        try clear hx155_2
                        try clear hx157_0
                        try clear hx158_0
                        try clear p155
                        try clear p157
                        try clear p158
                        try clear p2
                        try clear p6
                        try clear q155
                        try clear q157
                        try clear q158
                        obtain ⟨kq, x113_36, rfl, HA, HJ36, HO_7, HO_151000, HO_151002, HO_151003, BK125, BK150, BK156, HB⟩ := hcut
                        cases kq with
                        | zero => exact absurd HA.out (by simp [plunderlaw23_HyperCounts.j2])
                        | succ kj36 =>
                          have H := HA.out
                          clear HA
                          simp only [plunderlaw23_HyperCounts.j2] at H
                          by_cases c92 : x113_36 = true
                          · subst c92
                            have H1 : (some false) = some r := by rw [if_pos rfl] at H; exact H
                            clear H
                            have H := H1
                            clear H1
                            obtain rfl := Option.some.inj H
                            go_wp2
                            go_ret
                            exact ⟨by first | rfl | (simp [errW_none, errW_some] <;> rfl) | (simp [*, errW_none, errW_some] <;> rfl), by repeat (first | (with_reducible first | exact HB.out | apply below_alloc | apply pw_below_drewN | apply below_drew1 | refine below_set ?_ GE125.out | refine below_set ?_ GE150.out | refine below_set ?_ GE156.out) | exact HB.out)⟩
                          · replace c92 := Bool.eq_false_iff.mpr c92
                            subst c92
                            have H1 : (if ((rd_T44 t143 x9_2).f0) < (l0_0.length : Int) then (if 0 ≤ ((rd_T44 t143 x9_2).f0) then (if ((rd_T46 l0_0 ((rd_T44 t143 x9_2).f0)).f0) = 2 then (if 0 ≤ ((rd_T44 t143 x9_2).f2) then (if ((rd_T44 t143 x9_2).f2) < (x7_2.length : Int) then (plunderlaw23_HyperCounts.l0 kj36 (x7_2.set (((rd_T44 t143 x9_2).f2) : Int).toNat true) ((rd_T44 t143 x9_2).f0) (wrap64 (x9_2 + 1)) l0_0 l0_1 l0_2 t139 t142 t143 t146) else (none)) else (none)) else (if ((rd_T46 l0_0 ((rd_T44 t143 x9_2).f0)).f0) = 1 then (if 0 ≤ ((rd_T44 t143 x9_2).f2) then (if ((rd_T44 t143 x9_2).f2) < (x7_2.length : Int) then (plunderlaw23_HyperCounts.l0 kj36 (x7_2.set (((rd_T44 t143 x9_2).f2) : Int).toNat true) ((rd_T44 t143 x9_2).f0) (wrap64 (x9_2 + 1)) l0_0 l0_1 l0_2 t139 t142 t143 t146) else (none)) else (none)) else (some false))) else (none)) else (if 0 ≤ ((rd_T44 t143 x9_2).f2) then (if ((rd_T44 t143 x9_2).f2) < (x7_2.length : Int) then (plunderlaw23_HyperCounts.l0 kj36 (x7_2.set (((rd_T44 t143 x9_2).f2) : Int).toNat true) ((rd_T44 t143 x9_2).f0) (wrap64 (x9_2 + 1)) l0_0 l0_1 l0_2 t139 t142 t143 t146) else (none)) else (none))) = some r := by rw [if_neg (show ¬ (false = true) by decide)] at H; exact H
                            clear H
                            have H := H1
                            clear H1
                            by_cases c93 : ((rd_T44 t143 x9_2).f0) < (l0_0.length : Int)
                            · rw [if_pos c93] at H
                              have c93b0 : decide (((rd_T44 t143 x9_2).f0) < (l0_0.length : Int)) = true := decide_eq_true c93
                              clear c93
                              by_cases c94 : 0 ≤ ((rd_T44 t143 x9_2).f0)
                              · rw [if_pos c94] at H
                                have c94b0 : decide (0 ≤ ((rd_T44 t143 x9_2).f0)) = true := decide_eq_true c94
                                clear c94
                                by_cases c95 : ((rd_T46 l0_0 ((rd_T44 t143 x9_2).f0)).f0) = 2
                                · rw [if_pos c95] at H
                                  have c95b0 : (((rd_T46 l0_0 ((rd_T44 t143 x9_2).f0)).f0) == 2) = true := beq_iff_eq.mpr c95
                                  have c95b1 : (((rd_T46 l0_0 ((rd_T44 t143 x9_2).f0)).f0) != 2) = false := bne_eq_false_iff_eq.mpr c95
                                  clear c95
                                  by_cases c96 : 0 ≤ ((rd_T44 t143 x9_2).f2)
                                  · rw [if_pos c96] at H
                                    have c96b0 : decide (0 ≤ ((rd_T44 t143 x9_2).f2)) = true := decide_eq_true c96
                                    clear c96
                                    by_cases c97 : ((rd_T44 t143 x9_2).f2) < (x7_2.length : Int)
                                    · rw [if_pos c97] at H
                                      have c97b0 : decide (((rd_T44 t143 x9_2).f2) < (x7_2.length : Int)) = true := decide_eq_true c97
                                      clear c97
                                      obtain ⟨y160, hy160⟩ : ∃ y_ : List Bool, y_ = (x7_2.set (((rd_T44 t143 x9_2).f2) : Int).toNat true) := ⟨_, rfl⟩
                                      replace H : (plunderlaw23_HyperCounts.l0 kj36 y160 ((rd_T44 t143 x9_2).f0) (wrap64 (x9_2 + 1)) l0_0 l0_1 l0_2 t139 t142 t143 t146) = some r := by first | (rw [hy160]; with_reducible exact H) | (have H2_ := (Option.bind_some _ _).symm.trans H; rw [hy160]; with_reducible exact H2_) | (have H2_ := (Option.bind_some _ _).symm.trans H; with_reducible exact H2_) | with_reducible exact H | (rw [hy160]; exact H) | exact H
                                      have Ny160 := Aside0.mk hy160
                                      clear hy160
                                      have H' := Aside0.mk H
                                      clear H
                                      have hnb99 := NB156_125.out
                                      have hnc99 := NB125_156.out
                                      have hnb100 := NB156_150.out
                                      have hnc100 := NB150_156.out
                                      have hcz101_0 : wc.cell? ⟨gb156, 0, none⟩ = some (.int .i64 ((rd_T44 t143 x9_2).f0)) := (blk_cell BK156.out 0).trans rfl
                                      have hcz101_1 : wc.cell? ⟨gb156, 1, none⟩ = some (.int .i64 ((rd_T44 t143 x9_2).f1)) := (blk_cell BK156.out 1).trans rfl
                                      have hcz101_2 : wc.cell? ⟨gb156, 2, none⟩ = some (.int .i64 ((rd_T44 t143 x9_2).f2)) := (blk_cell BK156.out 2).trans rfl
                                      have hfz101_0 := blk_frozen BK156.out 0
                                      have hfz101_1 := blk_frozen BK156.out 1
                                      have hfz101_2 := blk_frozen BK156.out 2
                                      have hnb102 := NB125_150.out
                                      have hnc102 := NB150_125.out
                                      have hcz103_0 : wc.cell? ⟨gb125, 0, none⟩ = some (.slice A0_0 l0_0.length c0_0) := (blk_cell BK125.out 0).trans rfl
                                      have hcz103_1 : wc.cell? ⟨gb125, 1, none⟩ = some (.slice A0_1 l0_1.length c0_1) := (blk_cell BK125.out 1).trans rfl
                                      have hcz103_2 : wc.cell? ⟨gb125, 2, none⟩ = some (.slice A0_2 l0_2.length c0_2) := (blk_cell BK125.out 2).trans rfl
                                      have hfz103_0 := blk_frozen BK125.out 0
                                      have hfz103_1 := blk_frozen BK125.out 1
                                      have hfz103_2 := blk_frozen BK125.out 2
                                      have p159 : 0 ≤ (((rd_T44 t143 x9_2).f0) : Int) := of_decide_eq_true (by first | (with_reducible assumption) | assumption)
                                      have q159 : ((rd_T44 t143 x9_2).f0) < (l0_0.length : Int) := of_decide_eq_true (by first | (with_reducible assumption) | assumption)
                                      obtain ⟨ad159, e159, hx159_0, hx159_1⟩ := at_T46 HR0_0.out ((rd_T44 t143 x9_2).f0) p159 q159
                                      cases e159
                                      replace hx159_0 := (HB.out.cell (World.block_lt_of_cell? w _ hx159_0)).trans hx159_0
                                      replace hx159_1 := (HB.out.cell (World.block_lt_of_cell? w _ hx159_1)).trans hx159_1
                                      replace p159 := eq_true p159
                                      replace q159 := eq_true q159
                                      have p98 : 0 ≤ (((rd_T44 t143 x9_2).f2) : Int) := of_decide_eq_true (by first | (with_reducible assumption) | assumption)
                                      have q98 : (((rd_T44 t143 x9_2).f2) : Int) < ((x7_2.length : Int) : Int) := of_decide_eq_true (by first | (with_reducible assumption) | assumption)
                                      obtain ⟨go98, co98, eo98, gb98, gl98, cl98, HG98⟩ := Kd.R_form HO_7.out (by omega)
                                      (first | cases eo98 | (injection eo98 with ea_ en_ ec_; (first | subst ea_ | (injection ea_ with ea_; subst ea_)); subst ec_; clear en_))
                                      have GB98 := Aside0.mk gb98
                                      have GG98 := Aside0.mk HG98
                                      clear gb98 gl98 HG98
                                      obtain ⟨hx98_0, hf98_0⟩ := Kd.R_celln false HO_7.out (((rd_T44 t143 x9_2).f2) : Int) p98 q98
                                      replace p98 := eq_true p98
                                      replace q98 := eq_true q98
                                      have HP104 := Kd.R_putg HO_7.out (((rd_T44 t143 x9_2).f2) : Int) true
                                      go_wp2_with (first | ((with_reducible refine gate_store (t := 4) (p := 143) rfl ?_); refine store_event (t := 4) (p := 143) (v := ?vo_w105) (w1 := (wc.setCell ⟨go98, (((rd_T44 t143 x9_2).f2) : Int).toNat, none⟩ (.bool true))) ?hg ?ho ?hn ?hr ?_; (case ho => rfl); (case hg => rfl); (case hn => rfl); (case hr => first | (go_simp; done) | (go_simp; rfl)); intro w105 hw; have hg : wc.grownBy w105 (some go98) := (by rw [hw]; exact HP104.2); have hp_ : Kd.R Kd.bool 4 w105 w.heap.size (fun _ => True) (.slice (some ⟨go98, 0, none⟩) x7_2.length co98) y160 := (by rw [hw, Ny160.out]; exact HP104.1); clear HP104; have n0_ := Aside0.mk (hp_); have n1_ := Aside0.mk (Kd.R_over' (v := (.slice (some ⟨go98, 0, none⟩) x7_2.length co98)) (by (with_reducible repeat (first | apply Kd.R_alloc | apply Kd.R_drewN | apply Kd.R_drew)); exact HO_151000.out) (Kd.R_typed HO_7.out) (by decide) hg); have n2_ := Aside0.mk (Kd.R_over' (v := (.slice (some ⟨go98, 0, none⟩) x7_2.length co98)) (by (with_reducible repeat (first | apply Kd.R_alloc | apply Kd.R_drewN | apply Kd.R_drew)); exact HO_151002.out) (Kd.R_typed HO_7.out) (by decide) hg); have n3_ := Aside0.mk (Kd.S_over' (v := (.slice (some ⟨go98, 0, none⟩) x7_2.length co98)) (by (with_reducible repeat (first | apply Kd.S_alloc | apply Kd.S_drewN | apply Kd.S_drew)); exact HO_151003.out) (Kd.R_typed HO_7.out) (by decide) hg); have n4_ := Aside0.mk (blk_grown (g := gb125) (o := .cells #[.slice (some ad159) l0_0.length c0_0, .slice A0_1 l0_1.length c0_1, .slice A0_2 l0_2.length c0_2] 26 (0, 0)) (by (with_reducible repeat (first | refine blk_drewN ?_ _ | refine blk_drew ?_ | refine blk_alloc ?_ _)); exact BK125.out) hg (Kd.R_ne HO_7.out BK125.out (by decide))); have n5_ := Aside0.mk (blk_grown (g := gb150) (o := .cells #[.slice Ao12 t139.length co12, .int .i64 t142, .slice (some ad155) t143.length co15, .slice Ao16 t146.length co16] 39 (0, 0)) (by (with_reducible repeat (first | refine blk_drewN ?_ _ | refine blk_drew ?_ | refine blk_alloc ?_ _)); exact BK150.out) hg (Kd.R_ne HO_7.out BK150.out (by decide))); have n6_ := Aside0.mk (blk_grown (g := gb156) (o := .cells #[.int .i64 ((rd_T44 t143 x9_2).f0), .int .i64 ((rd_T44 t143 x9_2).f1), .int .i64 ((rd_T44 t143 x9_2).f2)] 44 (0, 0)) (by (with_reducible repeat (first | refine blk_drewN ?_ _ | refine blk_drew ?_ | refine blk_alloc ?_ _)); exact BK156.out) hg (Kd.R_ne HO_7.out BK156.out (by decide))); have n7_ := Aside0.mk ((by rw [hw]; exact below_set (HB.out) GB98.out : Below w.heap.size w w105)); clear HO_7; clear HO_151000; clear HO_151002; clear HO_151003; clear BK125; clear BK150; clear BK156; clear HB; have HO_7 := n0_; have HO_151000 := n1_; have HO_151002 := n2_; have HO_151003 := n3_; have BK125 := n4_; have BK150 := n5_; have BK156 := n6_; have HB := n7_; clear n0_ n1_ n2_ n3_ n4_ n5_ n6_ n7_; clear hg hw hp_; have hcz106_0 : w105.cell? ⟨gb156, 0, none⟩ = some (.int .i64 ((rd_T44 t143 x9_2).f0)) := (blk_cell BK156.out 0).trans rfl; have hcz106_1 : w105.cell? ⟨gb156, 1, none⟩ = some (.int .i64 ((rd_T44 t143 x9_2).f1)) := (blk_cell BK156.out 1).trans rfl; have hcz106_2 : w105.cell? ⟨gb156, 2, none⟩ = some (.int .i64 ((rd_T44 t143 x9_2).f2)) := (blk_cell BK156.out 2).trans rfl; have hfz106_0 := blk_frozen BK156.out 0; have hfz106_1 := blk_frozen BK156.out 1; have hfz106_2 := blk_frozen BK156.out 2))
                                      go_roundg kj36
                                      case measure => have := HJ4.out; have := HK2.out; have := HJ36.out; omega
                                      case rel => exact ⟨(y160), (((rd_T44 t143 x9_2).f0)), (wrap64 (x9_2 + 1)), (by first | rfl | (simp; done) | (simp [*]; done)), (by first | rfl | (simp; done) | (simp [*]; done)), H', ⟨by have := HJ4.out; have := HK2.out; have := HJ36.out; omega⟩, ⟨by (with_reducible repeat (first | apply Kd.R_alloc | apply Kd.R_drewN | apply Kd.R_drew)); exact HO_7.out⟩, ⟨by (with_reducible repeat (first | apply Kd.R_alloc | apply Kd.R_drewN | apply Kd.R_drew)); exact HO_151000.out⟩, ⟨by (with_reducible repeat (first | apply Kd.R_alloc | apply Kd.R_drewN | apply Kd.R_drew)); exact Kd.R_mono HO_151002.out (fun _ hk => trivial)⟩, ⟨by (with_reducible repeat (first | apply Kd.S_alloc | apply Kd.S_drewN | apply Kd.S_drew)); exact HO_151003.out⟩, ⟨by (with_reducible repeat (first | refine blk_drewN ?_ _ | refine blk_drew ?_ | refine blk_alloc ?_ _)); exact BK125.out⟩, ⟨by (with_reducible repeat (first | refine blk_drewN ?_ _ | refine blk_drew ?_ | refine blk_alloc ?_ _)); exact BK150.out⟩, ⟨by repeat (first | (with_reducible first | exact HB.out | apply below_alloc | apply pw_below_drewN | apply below_drew1 | refine below_set ?_ GE125.out | refine below_set ?_ GE150.out | refine below_set ?_ GE156.out) | exact HB.out)⟩⟩
                                    · rw [if_neg c97] at H
                                      exact absurd H (by simp)
                                  · rw [if_neg c96] at H
                                    exact absurd H (by simp)
                                · rw [if_neg c95] at H
                                  have c95b0 : (((rd_T46 l0_0 ((rd_T44 t143 x9_2).f0)).f0) == 2) = false := beq_eq_false_iff_ne.mpr c95
                                  have c95b1 : (((rd_T46 l0_0 ((rd_T44 t143 x9_2).f0)).f0) != 2) = true := bne_iff_ne.mpr c95
                                  by_cases c107 : ((rd_T46 l0_0 ((rd_T44 t143 x9_2).f0)).f0) = 1
                                  · rw [if_pos c107] at H
                                    have c107b0 : (((rd_T46 l0_0 ((rd_T44 t143 x9_2).f0)).f0) == 1) = true := beq_iff_eq.mpr c107
                                    have c107b1 : (((rd_T46 l0_0 ((rd_T44 t143 x9_2).f0)).f0) != 1) = false := bne_eq_false_iff_eq.mpr c107
                                    clear c107
                                    by_cases c108 : 0 ≤ ((rd_T44 t143 x9_2).f2)
                                    · rw [if_pos c108] at H
                                      have c108b0 : decide (0 ≤ ((rd_T44 t143 x9_2).f2)) = true := decide_eq_true c108
                                      clear c108
                                      by_cases c109 : ((rd_T44 t143 x9_2).f2) < (x7_2.length : Int)
                                      · rw [if_pos c109] at H
                                        have c109b0 : decide (((rd_T44 t143 x9_2).f2) < (x7_2.length : Int)) = true := decide_eq_true c109
                                        clear c109
                                        obtain ⟨y162, hy162⟩ : ∃ y_ : List Bool, y_ = (x7_2.set (((rd_T44 t143 x9_2).f2) : Int).toNat true) := ⟨_, rfl⟩
                                        replace H : (plunderlaw23_HyperCounts.l0 kj36 y162 ((rd_T44 t143 x9_2).f0) (wrap64 (x9_2 + 1)) l0_0 l0_1 l0_2 t139 t142 t143 t146) = some r := by first | (rw [hy162]; with_reducible exact H) | (have H2_ := (Option.bind_some _ _).symm.trans H; rw [hy162]; with_reducible exact H2_) | (have H2_ := (Option.bind_some _ _).symm.trans H; with_reducible exact H2_) | with_reducible exact H | (rw [hy162]; exact H) | exact H
                                        have Ny162 := Aside0.mk hy162
                                        clear hy162
                                        have H' := Aside0.mk H
                                        clear H
                                        have hnb111 := NB156_125.out
                                        have hnc111 := NB125_156.out
                                        have hnb112 := NB156_150.out
                                        have hnc112 := NB150_156.out
                                        have hcz113_0 : wc.cell? ⟨gb156, 0, none⟩ = some (.int .i64 ((rd_T44 t143 x9_2).f0)) := (blk_cell BK156.out 0).trans rfl
                                        have hcz113_1 : wc.cell? ⟨gb156, 1, none⟩ = some (.int .i64 ((rd_T44 t143 x9_2).f1)) := (blk_cell BK156.out 1).trans rfl
                                        have hcz113_2 : wc.cell? ⟨gb156, 2, none⟩ = some (.int .i64 ((rd_T44 t143 x9_2).f2)) := (blk_cell BK156.out 2).trans rfl
                                        have hfz113_0 := blk_frozen BK156.out 0
                                        have hfz113_1 := blk_frozen BK156.out 1
                                        have hfz113_2 := blk_frozen BK156.out 2
                                        have hnb114 := NB125_150.out
                                        have hnc114 := NB150_125.out
                                        have hcz115_0 : wc.cell? ⟨gb125, 0, none⟩ = some (.slice A0_0 l0_0.length c0_0) := (blk_cell BK125.out 0).trans rfl
                                        have hcz115_1 : wc.cell? ⟨gb125, 1, none⟩ = some (.slice A0_1 l0_1.length c0_1) := (blk_cell BK125.out 1).trans rfl
                                        have hcz115_2 : wc.cell? ⟨gb125, 2, none⟩ = some (.slice A0_2 l0_2.length c0_2) := (blk_cell BK125.out 2).trans rfl
                                        have hfz115_0 := blk_frozen BK125.out 0
                                        have hfz115_1 := blk_frozen BK125.out 1
                                        have hfz115_2 := blk_frozen BK125.out 2
                                        have p159 : 0 ≤ (((rd_T44 t143 x9_2).f0) : Int) := of_decide_eq_true (by first | (with_reducible assumption) | assumption)
                                        have q159 : ((rd_T44 t143 x9_2).f0) < (l0_0.length : Int) := of_decide_eq_true (by first | (with_reducible assumption) | assumption)
                                        obtain ⟨ad159, e159, hx159_0, hx159_1⟩ := at_T46 HR0_0.out ((rd_T44 t143 x9_2).f0) p159 q159
                                        cases e159
                                        replace hx159_0 := (HB.out.cell (World.block_lt_of_cell? w _ hx159_0)).trans hx159_0
                                        replace hx159_1 := (HB.out.cell (World.block_lt_of_cell? w _ hx159_1)).trans hx159_1
                                        replace p159 := eq_true p159
                                        replace q159 := eq_true q159
                                        have p161 : 0 ≤ (((rd_T44 t143 x9_2).f0) : Int) := of_decide_eq_true (by first | (with_reducible assumption) | assumption)
                                        have q161 : ((rd_T44 t143 x9_2).f0) < (l0_0.length : Int) := of_decide_eq_true (by first | (with_reducible assumption) | assumption)
                                        obtain ⟨ad161, e161, hx161_0, hx161_1⟩ := at_T46 HR0_0.out ((rd_T44 t143 x9_2).f0) p161 q161
                                        obtain rfl : ad159 = ad161 := (by injection e161)
                                        replace hx161_0 := (HB.out.cell (World.block_lt_of_cell? w _ hx161_0)).trans hx161_0
                                        replace hx161_1 := (HB.out.cell (World.block_lt_of_cell? w _ hx161_1)).trans hx161_1
                                        replace p161 := eq_true p161
                                        replace q161 := eq_true q161
                                        have p110 : 0 ≤ (((rd_T44 t143 x9_2).f2) : Int) := of_decide_eq_true (by first | (with_reducible assumption) | assumption)
                                        have q110 : (((rd_T44 t143 x9_2).f2) : Int) < ((x7_2.length : Int) : Int) := of_decide_eq_true (by first | (with_reducible assumption) | assumption)
                                        obtain ⟨go110, co110, eo110, gb110, gl110, cl110, HG110⟩ := Kd.R_form HO_7.out (by omega)
                                        (first | cases eo110 | (injection eo110 with ea_ en_ ec_; (first | subst ea_ | (injection ea_ with ea_; subst ea_)); subst ec_; clear en_))
                                        have GB110 := Aside0.mk gb110
                                        have GG110 := Aside0.mk HG110
                                        clear gb110 gl110 HG110
                                        obtain ⟨hx110_0, hf110_0⟩ := Kd.R_celln false HO_7.out (((rd_T44 t143 x9_2).f2) : Int) p110 q110
                                        replace p110 := eq_true p110
                                        replace q110 := eq_true q110
                                        have HP116 := Kd.R_putg HO_7.out (((rd_T44 t143 x9_2).f2) : Int) true
                                        go_wp2_with (first | ((with_reducible refine gate_store (t := 4) (p := 143) rfl ?_); refine store_event (t := 4) (p := 143) (v := ?vo_w117) (w1 := (wc.setCell ⟨go110, (((rd_T44 t143 x9_2).f2) : Int).toNat, none⟩ (.bool true))) ?hg ?ho ?hn ?hr ?_; (case ho => rfl); (case hg => rfl); (case hn => rfl); (case hr => first | (go_simp; done) | (go_simp; rfl)); intro w117 hw; have hg : wc.grownBy w117 (some go110) := (by rw [hw]; exact HP116.2); have hp_ : Kd.R Kd.bool 4 w117 w.heap.size (fun _ => True) (.slice (some ⟨go110, 0, none⟩) x7_2.length co110) y162 := (by rw [hw, Ny162.out]; exact HP116.1); clear HP116; have n0_ := Aside0.mk (hp_); have n1_ := Aside0.mk (Kd.R_over' (v := (.slice (some ⟨go110, 0, none⟩) x7_2.length co110)) (by (with_reducible repeat (first | apply Kd.R_alloc | apply Kd.R_drewN | apply Kd.R_drew)); exact HO_151000.out) (Kd.R_typed HO_7.out) (by decide) hg); have n2_ := Aside0.mk (Kd.R_over' (v := (.slice (some ⟨go110, 0, none⟩) x7_2.length co110)) (by (with_reducible repeat (first | apply Kd.R_alloc | apply Kd.R_drewN | apply Kd.R_drew)); exact HO_151002.out) (Kd.R_typed HO_7.out) (by decide) hg); have n3_ := Aside0.mk (Kd.S_over' (v := (.slice (some ⟨go110, 0, none⟩) x7_2.length co110)) (by (with_reducible repeat (first | apply Kd.S_alloc | apply Kd.S_drewN | apply Kd.S_drew)); exact HO_151003.out) (Kd.R_typed HO_7.out) (by decide) hg); have n4_ := Aside0.mk (blk_grown (g := gb125) (o := .cells #[.slice (some ad159) l0_0.length c0_0, .slice A0_1 l0_1.length c0_1, .slice A0_2 l0_2.length c0_2] 26 (0, 0)) (by (with_reducible repeat (first | refine blk_drewN ?_ _ | refine blk_drew ?_ | refine blk_alloc ?_ _)); exact BK125.out) hg (Kd.R_ne HO_7.out BK125.out (by decide))); have n5_ := Aside0.mk (blk_grown (g := gb150) (o := .cells #[.slice Ao12 t139.length co12, .int .i64 t142, .slice (some ad155) t143.length co15, .slice Ao16 t146.length co16] 39 (0, 0)) (by (with_reducible repeat (first | refine blk_drewN ?_ _ | refine blk_drew ?_ | refine blk_alloc ?_ _)); exact BK150.out) hg (Kd.R_ne HO_7.out BK150.out (by decide))); have n6_ := Aside0.mk (blk_grown (g := gb156) (o := .cells #[.int .i64 ((rd_T44 t143 x9_2).f0), .int .i64 ((rd_T44 t143 x9_2).f1), .int .i64 ((rd_T44 t143 x9_2).f2)] 44 (0, 0)) (by (with_reducible repeat (first | refine blk_drewN ?_ _ | refine blk_drew ?_ | refine blk_alloc ?_ _)); exact BK156.out) hg (Kd.R_ne HO_7.out BK156.out (by decide))); have n7_ := Aside0.mk ((by rw [hw]; exact below_set (HB.out) GB110.out : Below w.heap.size w w117)); clear HO_7; clear HO_151000; clear HO_151002; clear HO_151003; clear BK125; clear BK150; clear BK156; clear HB; have HO_7 := n0_; have HO_151000 := n1_; have HO_151002 := n2_; have HO_151003 := n3_; have BK125 := n4_; have BK150 := n5_; have BK156 := n6_; have HB := n7_; clear n0_ n1_ n2_ n3_ n4_ n5_ n6_ n7_; clear hg hw hp_; have hcz118_0 : w117.cell? ⟨gb156, 0, none⟩ = some (.int .i64 ((rd_T44 t143 x9_2).f0)) := (blk_cell BK156.out 0).trans rfl; have hcz118_1 : w117.cell? ⟨gb156, 1, none⟩ = some (.int .i64 ((rd_T44 t143 x9_2).f1)) := (blk_cell BK156.out 1).trans rfl; have hcz118_2 : w117.cell? ⟨gb156, 2, none⟩ = some (.int .i64 ((rd_T44 t143 x9_2).f2)) := (blk_cell BK156.out 2).trans rfl; have hfz118_0 := blk_frozen BK156.out 0; have hfz118_1 := blk_frozen BK156.out 1; have hfz118_2 := blk_frozen BK156.out 2))
                                        go_roundg kj36
                                        case measure => have := HJ4.out; have := HK2.out; have := HJ36.out; omega
                                        case rel => exact ⟨(y162), (((rd_T44 t143 x9_2).f0)), (wrap64 (x9_2 + 1)), (by first | rfl | (simp; done) | (simp [*]; done)), (by first | rfl | (simp; done) | (simp [*]; done)), H', ⟨by have := HJ4.out; have := HK2.out; have := HJ36.out; omega⟩, ⟨by (with_reducible repeat (first | apply Kd.R_alloc | apply Kd.R_drewN | apply Kd.R_drew)); exact HO_7.out⟩, ⟨by (with_reducible repeat (first | apply Kd.R_alloc | apply Kd.R_drewN | apply Kd.R_drew)); exact HO_151000.out⟩, ⟨by (with_reducible repeat (first | apply Kd.R_alloc | apply Kd.R_drewN | apply Kd.R_drew)); exact Kd.R_mono HO_151002.out (fun _ hk => trivial)⟩, ⟨by (with_reducible repeat (first | apply Kd.S_alloc | apply Kd.S_drewN | apply Kd.S_drew)); exact HO_151003.out⟩, ⟨by (with_reducible repeat (first | refine blk_drewN ?_ _ | refine blk_drew ?_ | refine blk_alloc ?_ _)); exact BK125.out⟩, ⟨by (with_reducible repeat (first | refine blk_drewN ?_ _ | refine blk_drew ?_ | refine blk_alloc ?_ _)); exact BK150.out⟩, ⟨by repeat (first | (with_reducible first | exact HB.out | apply below_alloc | apply pw_below_drewN | apply below_drew1 | refine below_set ?_ GE125.out | refine below_set ?_ GE150.out | refine below_set ?_ GE156.out) | exact HB.out)⟩⟩
                                      · rw [if_neg c109] at H
                                        exact absurd H (by simp)
                                    · rw [if_neg c108] at H
                                      exact absurd H (by simp)
                                  · rw [if_neg c107] at H
                                    have c107b0 : (((rd_T46 l0_0 ((rd_T44 t143 x9_2).f0)).f0) == 1) = false := beq_eq_false_iff_ne.mpr c107
                                    have c107b1 : (((rd_T46 l0_0 ((rd_T44 t143 x9_2).f0)).f0) != 1) = true := bne_iff_ne.mpr c107
                                    obtain rfl := Option.some.inj H
                                    have hnb119 := NB156_125.out
                                    have hnc119 := NB125_156.out
                                    have hnb120 := NB156_150.out
                                    have hnc120 := NB150_156.out
                                    have hcz121_0 : wc.cell? ⟨gb156, 0, none⟩ = some (.int .i64 ((rd_T44 t143 x9_2).f0)) := (blk_cell BK156.out 0).trans rfl
                                    have hcz121_1 : wc.cell? ⟨gb156, 1, none⟩ = some (.int .i64 ((rd_T44 t143 x9_2).f1)) := (blk_cell BK156.out 1).trans rfl
                                    have hcz121_2 : wc.cell? ⟨gb156, 2, none⟩ = some (.int .i64 ((rd_T44 t143 x9_2).f2)) := (blk_cell BK156.out 2).trans rfl
                                    have hfz121_0 := blk_frozen BK156.out 0
                                    have hfz121_1 := blk_frozen BK156.out 1
                                    have hfz121_2 := blk_frozen BK156.out 2
                                    have hnb122 := NB125_150.out
                                    have hnc122 := NB150_125.out
                                    have hcz123_0 : wc.cell? ⟨gb125, 0, none⟩ = some (.slice A0_0 l0_0.length c0_0) := (blk_cell BK125.out 0).trans rfl
                                    have hcz123_1 : wc.cell? ⟨gb125, 1, none⟩ = some (.slice A0_1 l0_1.length c0_1) := (blk_cell BK125.out 1).trans rfl
                                    have hcz123_2 : wc.cell? ⟨gb125, 2, none⟩ = some (.slice A0_2 l0_2.length c0_2) := (blk_cell BK125.out 2).trans rfl
                                    have hfz123_0 := blk_frozen BK125.out 0
                                    have hfz123_1 := blk_frozen BK125.out 1
                                    have hfz123_2 := blk_frozen BK125.out 2
                                    have p159 : 0 ≤ (((rd_T44 t143 x9_2).f0) : Int) := of_decide_eq_true (by first | (with_reducible assumption) | assumption)
                                    have q159 : ((rd_T44 t143 x9_2).f0) < (l0_0.length : Int) := of_decide_eq_true (by first | (with_reducible assumption) | assumption)
                                    obtain ⟨ad159, e159, hx159_0, hx159_1⟩ := at_T46 HR0_0.out ((rd_T44 t143 x9_2).f0) p159 q159
                                    cases e159
                                    replace hx159_0 := (HB.out.cell (World.block_lt_of_cell? w _ hx159_0)).trans hx159_0
                                    replace hx159_1 := (HB.out.cell (World.block_lt_of_cell? w _ hx159_1)).trans hx159_1
                                    replace p159 := eq_true p159
                                    replace q159 := eq_true q159
                                    have p161 : 0 ≤ (((rd_T44 t143 x9_2).f0) : Int) := of_decide_eq_true (by first | (with_reducible assumption) | assumption)
                                    have q161 : ((rd_T44 t143 x9_2).f0) < (l0_0.length : Int) := of_decide_eq_true (by first | (with_reducible assumption) | assumption)
                                    obtain ⟨ad161, e161, hx161_0, hx161_1⟩ := at_T46 HR0_0.out ((rd_T44 t143 x9_2).f0) p161 q161
                                    obtain rfl : ad159 = ad161 := (by injection e161)
                                    replace hx161_0 := (HB.out.cell (World.block_lt_of_cell? w _ hx161_0)).trans hx161_0
                                    replace hx161_1 := (HB.out.cell (World.block_lt_of_cell? w _ hx161_1)).trans hx161_1
                                    replace p161 := eq_true p161
                                    replace q161 := eq_true q161
                                    go_wp2
                                    go_ret
                                    exact ⟨by first | rfl | (simp [errW_none, errW_some] <;> rfl) | (simp [*, errW_none, errW_some] <;> rfl), by repeat (first | (with_reducible first | exact HB.out | apply below_alloc | apply pw_below_drewN | apply below_drew1 | refine below_set ?_ GE125.out | refine below_set ?_ GE150.out | refine below_set ?_ GE156.out) | exact HB.out)⟩
                              · rw [if_neg c94] at H
                                exact absurd H (by simp)
                            · rw [if_neg c93] at H
                              have c93b0 : decide (((rd_T44 t143 x9_2).f0) < (l0_0.length : Int)) = false := decide_eq_false c93
                              clear c93
                              by_cases c124 : 0 ≤ ((rd_T44 t143 x9_2).f2)
                              · rw [if_pos c124] at H
                                have c124b0 : decide (0 ≤ ((rd_T44 t143 x9_2).f2)) = true := decide_eq_true c124
                                clear c124
                                by_cases c125 : ((rd_T44 t143 x9_2).f2) < (x7_2.length : Int)
                                · rw [if_pos c125] at H
                                  have c125b0 : decide (((rd_T44 t143 x9_2).f2) < (x7_2.length : Int)) = true := decide_eq_true c125
                                  clear c125
                                  obtain ⟨y163, hy163⟩ : ∃ y_ : List Bool, y_ = (x7_2.set (((rd_T44 t143 x9_2).f2) : Int).toNat true) := ⟨_, rfl⟩
                                  replace H : (plunderlaw23_HyperCounts.l0 kj36 y163 ((rd_T44 t143 x9_2).f0) (wrap64 (x9_2 + 1)) l0_0 l0_1 l0_2 t139 t142 t143 t146) = some r := by first | (rw [hy163]; with_reducible exact H) | (have H2_ := (Option.bind_some _ _).symm.trans H; rw [hy163]; with_reducible exact H2_) | (have H2_ := (Option.bind_some _ _).symm.trans H; with_reducible exact H2_) | with_reducible exact H | (rw [hy163]; exact H) | exact H
                                  have Ny163 := Aside0.mk hy163
                                  clear hy163
                                  have H' := Aside0.mk H
                                  clear H
                                  have hnb127 := NB156_125.out
                                  have hnc127 := NB125_156.out
                                  have hnb128 := NB156_150.out
                                  have hnc128 := NB150_156.out
                                  have hcz129_0 : wc.cell? ⟨gb156, 0, none⟩ = some (.int .i64 ((rd_T44 t143 x9_2).f0)) := (blk_cell BK156.out 0).trans rfl
                                  have hcz129_1 : wc.cell? ⟨gb156, 1, none⟩ = some (.int .i64 ((rd_T44 t143 x9_2).f1)) := (blk_cell BK156.out 1).trans rfl
                                  have hcz129_2 : wc.cell? ⟨gb156, 2, none⟩ = some (.int .i64 ((rd_T44 t143 x9_2).f2)) := (blk_cell BK156.out 2).trans rfl
                                  have hfz129_0 := blk_frozen BK156.out 0
                                  have hfz129_1 := blk_frozen BK156.out 1
                                  have hfz129_2 := blk_frozen BK156.out 2
                                  have hnb130 := NB125_150.out
                                  have hnc130 := NB150_125.out
                                  have hcz131_0 : wc.cell? ⟨gb125, 0, none⟩ = some (.slice A0_0 l0_0.length c0_0) := (blk_cell BK125.out 0).trans rfl
                                  have hcz131_1 : wc.cell? ⟨gb125, 1, none⟩ = some (.slice A0_1 l0_1.length c0_1) := (blk_cell BK125.out 1).trans rfl
                                  have hcz131_2 : wc.cell? ⟨gb125, 2, none⟩ = some (.slice A0_2 l0_2.length c0_2) := (blk_cell BK125.out 2).trans rfl
                                  have hfz131_0 := blk_frozen BK125.out 0
                                  have hfz131_1 := blk_frozen BK125.out 1
                                  have hfz131_2 := blk_frozen BK125.out 2
                                  have p126 : 0 ≤ (((rd_T44 t143 x9_2).f2) : Int) := of_decide_eq_true (by first | (with_reducible assumption) | assumption)
                                  have q126 : (((rd_T44 t143 x9_2).f2) : Int) < ((x7_2.length : Int) : Int) := of_decide_eq_true (by first | (with_reducible assumption) | assumption)
                                  obtain ⟨go126, co126, eo126, gb126, gl126, cl126, HG126⟩ := Kd.R_form HO_7.out (by omega)
                                  (first | cases eo126 | (injection eo126 with ea_ en_ ec_; (first | subst ea_ | (injection ea_ with ea_; subst ea_)); subst ec_; clear en_))
                                  have GB126 := Aside0.mk gb126
                                  have GG126 := Aside0.mk HG126
                                  clear gb126 gl126 HG126
                                  obtain ⟨hx126_0, hf126_0⟩ := Kd.R_celln false HO_7.out (((rd_T44 t143 x9_2).f2) : Int) p126 q126
                                  replace p126 := eq_true p126
                                  replace q126 := eq_true q126
                                  have HP132 := Kd.R_putg HO_7.out (((rd_T44 t143 x9_2).f2) : Int) true
                                  go_wp2_with (first | ((with_reducible refine gate_store (t := 4) (p := 143) rfl ?_); refine store_event (t := 4) (p := 143) (v := ?vo_w133) (w1 := (wc.setCell ⟨go126, (((rd_T44 t143 x9_2).f2) : Int).toNat, none⟩ (.bool true))) ?hg ?ho ?hn ?hr ?_; (case ho => rfl); (case hg => rfl); (case hn => rfl); (case hr => first | (go_simp; done) | (go_simp; rfl)); intro w133 hw; have hg : wc.grownBy w133 (some go126) := (by rw [hw]; exact HP132.2); have hp_ : Kd.R Kd.bool 4 w133 w.heap.size (fun _ => True) (.slice (some ⟨go126, 0, none⟩) x7_2.length co126) y163 := (by rw [hw, Ny163.out]; exact HP132.1); clear HP132; have n0_ := Aside0.mk (hp_); have n1_ := Aside0.mk (Kd.R_over' (v := (.slice (some ⟨go126, 0, none⟩) x7_2.length co126)) (by (with_reducible repeat (first | apply Kd.R_alloc | apply Kd.R_drewN | apply Kd.R_drew)); exact HO_151000.out) (Kd.R_typed HO_7.out) (by decide) hg); have n2_ := Aside0.mk (Kd.R_over' (v := (.slice (some ⟨go126, 0, none⟩) x7_2.length co126)) (by (with_reducible repeat (first | apply Kd.R_alloc | apply Kd.R_drewN | apply Kd.R_drew)); exact HO_151002.out) (Kd.R_typed HO_7.out) (by decide) hg); have n3_ := Aside0.mk (Kd.S_over' (v := (.slice (some ⟨go126, 0, none⟩) x7_2.length co126)) (by (with_reducible repeat (first | apply Kd.S_alloc | apply Kd.S_drewN | apply Kd.S_drew)); exact HO_151003.out) (Kd.R_typed HO_7.out) (by decide) hg); have n4_ := Aside0.mk (blk_grown (g := gb125) (o := .cells #[.slice A0_0 l0_0.length c0_0, .slice A0_1 l0_1.length c0_1, .slice A0_2 l0_2.length c0_2] 26 (0, 0)) (by (with_reducible repeat (first | refine blk_drewN ?_ _ | refine blk_drew ?_ | refine blk_alloc ?_ _)); exact BK125.out) hg (Kd.R_ne HO_7.out BK125.out (by decide))); have n5_ := Aside0.mk (blk_grown (g := gb150) (o := .cells #[.slice Ao12 t139.length co12, .int .i64 t142, .slice (some ad155) t143.length co15, .slice Ao16 t146.length co16] 39 (0, 0)) (by (with_reducible repeat (first | refine blk_drewN ?_ _ | refine blk_drew ?_ | refine blk_alloc ?_ _)); exact BK150.out) hg (Kd.R_ne HO_7.out BK150.out (by decide))); have n6_ := Aside0.mk (blk_grown (g := gb156) (o := .cells #[.int .i64 ((rd_T44 t143 x9_2).f0), .int .i64 ((rd_T44 t143 x9_2).f1), .int .i64 ((rd_T44 t143 x9_2).f2)] 44 (0, 0)) (by (with_reducible repeat (first | refine blk_drewN ?_ _ | refine blk_drew ?_ | refine blk_alloc ?_ _)); exact BK156.out) hg (Kd.R_ne HO_7.out BK156.out (by decide))); have n7_ := Aside0.mk ((by rw [hw]; exact below_set (HB.out) GB126.out : Below w.heap.size w w133)); clear HO_7; clear HO_151000; clear HO_151002; clear HO_151003; clear BK125; clear BK150; clear BK156; clear HB; have HO_7 := n0_; have HO_151000 := n1_; have HO_151002 := n2_; have HO_151003 := n3_; have BK125 := n4_; have BK150 := n5_; have BK156 := n6_; have HB := n7_; clear n0_ n1_ n2_ n3_ n4_ n5_ n6_ n7_; clear hg hw hp_; have hcz134_0 : w133.cell? ⟨gb156, 0, none⟩ = some (.int .i64 ((rd_T44 t143 x9_2).f0)) := (blk_cell BK156.out 0).trans rfl; have hcz134_1 : w133.cell? ⟨gb156, 1, none⟩ = some (.int .i64 ((rd_T44 t143 x9_2).f1)) := (blk_cell BK156.out 1).trans rfl; have hcz134_2 : w133.cell? ⟨gb156, 2, none⟩ = some (.int .i64 ((rd_T44 t143 x9_2).f2)) := (blk_cell BK156.out 2).trans rfl; have hfz134_0 := blk_frozen BK156.out 0; have hfz134_1 := blk_frozen BK156.out 1; have hfz134_2 := blk_frozen BK156.out 2))
                                  go_roundg kj36
                                  case measure => have := HJ4.out; have := HK2.out; have := HJ36.out; omega
                                  case rel => exact ⟨(y163), (((rd_T44 t143 x9_2).f0)), (wrap64 (x9_2 + 1)), (by first | rfl | (simp; done) | (simp [*]; done)), (by first | rfl | (simp; done) | (simp [*]; done)), H', ⟨by have := HJ4.out; have := HK2.out; have := HJ36.out; omega⟩, ⟨by (with_reducible repeat (first | apply Kd.R_alloc | apply Kd.R_drewN | apply Kd.R_drew)); exact HO_7.out⟩, ⟨by (with_reducible repeat (first | apply Kd.R_alloc | apply Kd.R_drewN | apply Kd.R_drew)); exact HO_151000.out⟩, ⟨by (with_reducible repeat (first | apply Kd.R_alloc | apply Kd.R_drewN | apply Kd.R_drew)); exact Kd.R_mono HO_151002.out (fun _ hk => trivial)⟩, ⟨by (with_reducible repeat (first | apply Kd.S_alloc | apply Kd.S_drewN | apply Kd.S_drew)); exact HO_151003.out⟩, ⟨by (with_reducible repeat (first | refine blk_drewN ?_ _ | refine blk_drew ?_ | refine blk_alloc ?_ _)); exact BK125.out⟩, ⟨by (with_reducible repeat (first | refine blk_drewN ?_ _ | refine blk_drew ?_ | refine blk_alloc ?_ _)); exact BK150.out⟩, ⟨by repeat (first | (with_reducible first | exact HB.out | apply below_alloc | apply pw_below_drewN | apply below_drew1 | refine below_set ?_ GE125.out | refine below_set ?_ GE150.out | refine below_set ?_ GE156.out) | exact HB.out)⟩⟩
                                · rw [if_neg c125] at H
                                  exact absurd H (by simp)
                              · rw [if_neg c124] at H
                                exact absurd H (by simp)
                    · rw [if_neg c36] at H
                      exact absurd H (by simp)
                  · rw [if_neg c35] at H
                    have c35b0 : decide (x9_2 < (t143.length : Int)) = false := decide_eq_false c35
                    clear c35
                    obtain rfl := Option.some.inj H
                    have hnb135 := NB150_125.out
                    have hnc135 := NB125_150.out
                    have hcz136_0 : wr.cell? ⟨gb150, 0, none⟩ = some (.slice Ao12 t139.length co12) := (blk_cell BK150.out 0).trans rfl
                    have hcz136_1 : wr.cell? ⟨gb150, 1, none⟩ = some (.int .i64 t142) := (blk_cell BK150.out 1).trans rfl
                    have hcz136_2 : wr.cell? ⟨gb150, 2, none⟩ = some (.slice Ao15 t143.length co15) := (blk_cell BK150.out 2).trans rfl
                    have hcz136_3 : wr.cell? ⟨gb150, 3, none⟩ = some (.slice Ao16 t146.length co16) := (blk_cell BK150.out 3).trans rfl
                    have hfz136_0 := blk_frozen BK150.out 0
                    have hfz136_1 := blk_frozen BK150.out 1
                    have hfz136_2 := blk_frozen BK150.out 2
                    have hfz136_3 := blk_frozen BK150.out 3
                    go_wp2
                    go_ret
                    exact ⟨by first | rfl | (simp [errW_none, errW_some] <;> rfl) | (simp [*, errW_none, errW_some] <;> rfl), by repeat (first | (with_reducible first | exact HB.out | apply below_alloc | apply pw_below_drewN | apply below_drew1 | refine below_set ?_ GE125.out | refine below_set ?_ GE150.out) | exact HB.out)⟩
            · rw [if_neg c30] at H
              exact absurd H (by simp)
          · rw [if_neg c29] at H
            exact absurd H (by simp)
  · replace c3 := Bool.eq_false_iff.mpr c3
    subst c3
    have H1 : ((hyper_Play.f l0_0 l0_1 l0_2).bind fun bt127 => (some (bt127.2.2.2.2 != 0))) = some r := by rw [if_neg (show ¬ (false = true) by decide)] at H; exact H
    clear H
    have H := H1
    clear H1
    replace H := Option.bind_eq_some_iff.mp H
    obtain ⟨⟨t127, t130, t131, t134, t137⟩, A1370, H⟩ := H
    replace H : (some (t137 != 0)) = some r := H
    have A137 := Aside0.mk A1370
    clear A1370
    obtain rfl := Option.some.inj H
    go_enter Try.func5, Try.ntmps5
    go_wp2_with (first | ((with_reducible refine gate_dst (N := 1) rfl ?_); (try (refine gate_guard (by rfl) ?_; dsimp only)); refine box_event ?hg (N := 1) ?hd (cs := #[.slice A0_0 l0_0.length c0_0, .slice A0_1 l0_1.length c0_1, .slice A0_2 l0_2.length c0_2]) (t := 26) ?hr ?_; (case hd => rfl); (case hg => rfl); (case hr => first | (go_simp; done) | (go_simp; rfl)); intro gb125 hg w138 hbox hb; have n0_ := Aside0.mk (below_step (by repeat (first | (with_reducible first | exact HB.out | apply below_alloc | apply pw_below_drewN | apply below_drew1) | exact HB.out)) hb); have n1_ := Aside0.mk (hbox); have n2_ := Aside0.mk ((by rw [hg]; exact (below_size (by repeat (first | (with_reducible first | exact HB.out | apply below_alloc | apply pw_below_drewN | apply below_drew1) | exact HB.out))) : w.heap.size ≤ gb125)); have n3_ := Aside0.mk ((by rw [hg]; exact (below_size (by repeat (first | (with_reducible first | exact HB.out | apply below_alloc | apply pw_below_drewN | apply below_drew1) | exact HB.out))) : w.heap.size ≤ gb125)); clear HB; have HB := n0_; have BK125 := n1_; have GW125 := n2_; have GE125 := n3_; clear n0_ n1_ n2_ n3_; clear hb hbox hg; have hcz139_0 : w138.cell? ⟨gb125, 0, none⟩ = some (.slice A0_0 l0_0.length c0_0) := (blk_cell BK125.out 0).trans rfl; have hcz139_1 : w138.cell? ⟨gb125, 1, none⟩ = some (.slice A0_1 l0_1.length c0_1) := (blk_cell BK125.out 1).trans rfl; have hcz139_2 : w138.cell? ⟨gb125, 2, none⟩ = some (.slice A0_2 l0_2.length c0_2) := (blk_cell BK125.out 2).trans rfl; have hfz139_0 := blk_frozen BK125.out 0; have hfz139_1 := blk_frozen BK125.out 1; have hfz139_2 := blk_frozen BK125.out 2) | ((with_reducible refine gate_callee (f := 18) rfl ?_); refine goesL_ (some 12) rfl rfl Try.func18 (by kernel_rfl) rfl #[.agg #[.slice A0_0 l0_0.length c0_0, .slice A0_1 l0_1.length c0_1, .slice A0_2 l0_2.length c0_2]] rfl (by (try simp only [List.map_toArray, List.map_cons, List.map_nil]); first | done | rfl | (simp only [List.length_drop, List.length_take]; rfl)) ?_; (with_reducible refine (plunderlaw23_right.calls k _ _ l0_0 _ _ l0_1 _ _ l0_2 false _ ?side1 ?side2 ?side3 ?side4 ?side5 ?side6 A2.out).mono ?_); (case side1 => repeat (first | exact (Kd.C_below HR0_0.out HB.out) | (with_reducible refine Kd.C_alloc ?_ _) | (with_reducible refine Kd.C_drewN ?_ _) | (with_reducible refine Kd.C_drew ?_))); (case side2 => exact HC0_0.out); (case side3 => repeat (first | exact (Kd.C_below HR0_1.out HB.out) | (with_reducible refine Kd.C_alloc ?_ _) | (with_reducible refine Kd.C_drewN ?_ _) | (with_reducible refine Kd.C_drew ?_))); (case side4 => exact HC0_1.out); (case side5 => repeat (first | exact (Kd.C_below HR0_2.out HB.out) | (with_reducible refine Kd.C_alloc ?_ _) | (with_reducible refine Kd.C_drewN ?_ _) | (with_reducible refine Kd.C_drew ?_))); (case side6 => exact HC0_2.out); rintro e w140 ⟨rfl, hb⟩; refine ⟨_, rfl, ?_⟩; have n0_ := Aside0.mk (blk_below (g := gb125) (o := .cells #[.slice A0_0 l0_0.length c0_0, .slice A0_1 l0_1.length c0_1, .slice A0_2 l0_2.length c0_2] 26 (0, 0)) (by (with_reducible repeat (first | refine blk_drewN ?_ _ | refine blk_drew ?_ | refine blk_alloc ?_ _)); exact BK125.out) hb); have n1_ := Aside0.mk (below_step (by repeat (first | (with_reducible first | exact HB.out | apply below_alloc | apply pw_below_drewN | apply below_drew1 | refine below_set ?_ GE125.out) | exact HB.out)) hb); clear BK125; clear HB; have BK125 := n0_; have HB := n1_; clear n0_ n1_; (try clear hb); (try clear hb2); (try clear hk); (try clear hi); have hcz141_0 : w140.cell? ⟨gb125, 0, none⟩ = some (.slice A0_0 l0_0.length c0_0) := (blk_cell BK125.out 0).trans rfl; have hcz141_1 : w140.cell? ⟨gb125, 1, none⟩ = some (.slice A0_1 l0_1.length c0_1) := (blk_cell BK125.out 1).trans rfl; have hcz141_2 : w140.cell? ⟨gb125, 2, none⟩ = some (.slice A0_2 l0_2.length c0_2) := (blk_cell BK125.out 2).trans rfl; have hfz141_0 := blk_frozen BK125.out 0; have hfz141_1 := blk_frozen BK125.out 1; have hfz141_2 := blk_frozen BK125.out 2) | ((with_reducible refine gate_callee (f := 15) rfl ?_); refine goesL_ (some 21) rfl rfl Try.func15 (by kernel_rfl) rfl #[.slice A0_0 l0_0.length c0_0, .slice A0_1 l0_1.length c0_1, .slice A0_2 l0_2.length c0_2] rfl (by (try simp only [List.map_toArray, List.map_cons, List.map_nil]); first | done | rfl | (simp only [List.length_drop, List.length_take]; rfl)) ?_; (with_reducible refine (hyper_Play.calls _ _ l0_0 _ _ l0_1 _ _ l0_2 t127 t130 t131 t134 t137 _ ?side1 ?side2 ?side3 ?side4 ?side5 ?side6 A137.out).mono ?_); (case side1 => repeat (first | exact (Kd.C_below HR0_0.out HB.out) | (with_reducible refine Kd.C_alloc ?_ _) | (with_reducible refine Kd.C_drewN ?_ _) | (with_reducible refine Kd.C_drew ?_))); (case side2 => exact HC0_0.out); (case side3 => repeat (first | exact (Kd.C_below HR0_1.out HB.out) | (with_reducible refine Kd.C_alloc ?_ _) | (with_reducible refine Kd.C_drewN ?_ _) | (with_reducible refine Kd.C_drew ?_))); (case side4 => exact HC0_1.out); (case side5 => repeat (first | exact (Kd.C_below HR0_2.out HB.out) | (with_reducible refine Kd.C_alloc ?_ _) | (with_reducible refine Kd.C_drewN ?_ _) | (with_reducible refine Kd.C_drew ?_))); (case side6 => exact HC0_2.out); rintro e w142 ⟨v128, v132, v135, rfl, ho0, ho1, ho2, hb⟩; refine ⟨_, rfl, ?_⟩; have n0_ := Aside0.mk (Kd.R_lower ho0 (below_size (by repeat (first | (with_reducible first | exact HB.out | apply below_alloc | apply pw_below_drewN | apply below_drew1 | refine below_set ?_ GE125.out) | exact HB.out)))); have n1_ := Aside0.mk (Kd.R_lower ho1 (below_size (by repeat (first | (with_reducible first | exact HB.out | apply below_alloc | apply pw_below_drewN | apply below_drew1 | refine below_set ?_ GE125.out) | exact HB.out)))); have n2_ := Aside0.mk (Kd.S_lower ho2 (below_size (by repeat (first | (with_reducible first | exact HB.out | apply below_alloc | apply pw_below_drewN | apply below_drew1 | refine below_set ?_ GE125.out) | exact HB.out)))); have n3_ := Aside0.mk (blk_below (g := gb125) (o := .cells #[.slice A0_0 l0_0.length c0_0, .slice A0_1 l0_1.length c0_1, .slice A0_2 l0_2.length c0_2] 26 (0, 0)) (by (with_reducible repeat (first | refine blk_drewN ?_ _ | refine blk_drew ?_ | refine blk_alloc ?_ _)); exact BK125.out) hb); have n4_ := Aside0.mk (below_step (by repeat (first | (with_reducible first | exact HB.out | apply below_alloc | apply pw_below_drewN | apply below_drew1 | refine below_set ?_ GE125.out) | exact HB.out)) hb); clear BK125; clear HB; have HO129 := n0_; have HO133 := n1_; have HO136 := n2_; have BK125 := n3_; have HB := n4_; clear n0_ n1_ n2_ n3_ n4_; (try clear hb); (try clear hb2); (try clear hk); (try clear hi); (try clear ho0); (try clear ho1); (try clear ho2)) | ((with_reducible refine gate_dst (N := 3) rfl ?_); (try (refine gate_guard (by rfl) ?_; dsimp only)); refine box_event ?hg (N := 3) ?hd (cs := #[.slice none 0 0, .int .i64 0, .slice none 0 0, .slice none 0 0]) (t := 39) ?hr ?_; (case hd => rfl); (case hg => rfl); (case hr => first | (go_simp; done) | (go_simp; rfl)); intro gb138 hg w143 hbox hb; have n0_ := Aside0.mk (Kd.R_below (by (with_reducible repeat (first | apply Kd.R_alloc | apply Kd.R_drewN | apply Kd.R_drew)); exact HO129.out) hb); have n1_ := Aside0.mk (Kd.R_below (by (with_reducible repeat (first | apply Kd.R_alloc | apply Kd.R_drewN | apply Kd.R_drew)); exact HO133.out) hb); have n2_ := Aside0.mk (Kd.S_below (by (with_reducible repeat (first | apply Kd.S_alloc | apply Kd.S_drewN | apply Kd.S_drew)); exact HO136.out) hb); have n3_ := Aside0.mk (blk_below (g := gb125) (o := .cells #[.slice A0_0 l0_0.length c0_0, .slice A0_1 l0_1.length c0_1, .slice A0_2 l0_2.length c0_2] 26 (0, 0)) (by (with_reducible repeat (first | refine blk_drewN ?_ _ | refine blk_drew ?_ | refine blk_alloc ?_ _)); exact BK125.out) hb); have n4_ := Aside0.mk (below_step (by repeat (first | (with_reducible first | exact HB.out | apply below_alloc | apply pw_below_drewN | apply below_drew1 | refine below_set ?_ GE125.out) | exact HB.out)) hb); have n5_ := Aside0.mk (hbox); have n6_ := Aside0.mk ((by rw [hg]; exact (below_size (by repeat (first | (with_reducible first | exact HB.out | apply below_alloc | apply pw_below_drewN | apply below_drew1 | refine below_set ?_ GE125.out) | exact HB.out))) : w.heap.size ≤ gb138)); have n7_ := Aside0.mk ((by rw [hg]; exact (below_size (by repeat (first | (with_reducible first | exact HB.out | apply below_alloc | apply pw_below_drewN | apply below_drew1 | refine below_set ?_ GE125.out) | exact HB.out))) : w.heap.size ≤ gb138)); have n8_ := Aside0.mk ((by rw [hg]; exact Nat.ne_of_lt (blk_lt (g := gb125) (o := .cells #[.slice A0_0 l0_0.length c0_0, .slice A0_1 l0_1.length c0_1, .slice A0_2 l0_2.length c0_2] 26 (0, 0)) (by (with_reducible repeat (first | refine blk_drewN ?_ _ | refine blk_drew ?_ | refine blk_alloc ?_ _)); exact BK125.out)) : gb125 ≠ gb138)); have n9_ := Aside0.mk ((by rw [hg]; exact Nat.ne_of_gt (blk_lt (g := gb125) (o := .cells #[.slice A0_0 l0_0.length c0_0, .slice A0_1 l0_1.length c0_1, .slice A0_2 l0_2.length c0_2] 26 (0, 0)) (by (with_reducible repeat (first | refine blk_drewN ?_ _ | refine blk_drew ?_ | refine blk_alloc ?_ _)); exact BK125.out)) : gb138 ≠ gb125)); clear HO129; clear HO133; clear HO136; clear BK125; clear HB; have HO129 := n0_; have HO133 := n1_; have HO136 := n2_; have BK125 := n3_; have HB := n4_; have BK138 := n5_; have GW138 := n6_; have GE138 := n7_; have NB125_138 := n8_; have NB138_125 := n9_; clear n0_ n1_ n2_ n3_ n4_ n5_ n6_ n7_ n8_ n9_; clear hb hbox hg; obtain ⟨Ao144, co144, eo144⟩ := Kd.R_slice HO129.out; subst eo144; have hnb145 := NB138_125.out; have hnc145 := NB125_138.out; have hcz146_0 : w143.cell? ⟨gb138, 0, none⟩ = some (.slice none 0 0) := (blk_cell BK138.out 0).trans rfl; have hcz146_1 : w143.cell? ⟨gb138, 1, none⟩ = some (.int .i64 0) := (blk_cell BK138.out 1).trans rfl; have hcz146_2 : w143.cell? ⟨gb138, 2, none⟩ = some (.slice none 0 0) := (blk_cell BK138.out 2).trans rfl; have hcz146_3 : w143.cell? ⟨gb138, 3, none⟩ = some (.slice none 0 0) := (blk_cell BK138.out 3).trans rfl; have hfz146_0 := blk_frozen BK138.out 0; have hfz146_1 := blk_frozen BK138.out 1; have hfz146_2 := blk_frozen BK138.out 2; have hfz146_3 := blk_frozen BK138.out 3; obtain ⟨Ao147, co147, eo147⟩ := Kd.R_slice HO133.out; subst eo147; obtain ⟨Ao148, co148, eo148⟩ := Kd.S_slice HO136.out; subst eo148))
    go_ret
    exact ⟨by first | rfl | (simp [errW_none, errW_some] <;> rfl) | (simp [*, errW_none, errW_some] <;> rfl), by repeat (first | (with_reducible first | exact HB.out | apply below_alloc | apply pw_below_drewN | apply below_drew1 | refine below_set ?_ GE125.out | refine below_set ?_ GE138.out) | exact HB.out)⟩

end Go.Proofs.Ytamfkglnejhjdaa.HLaw
