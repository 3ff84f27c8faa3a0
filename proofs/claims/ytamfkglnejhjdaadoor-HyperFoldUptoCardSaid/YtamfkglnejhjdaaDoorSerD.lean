/- The laws' own functions: a game written over: a contract (began as a printed text). -/
import Derived.Test.YtamfkglnejhjdaaDoorPHyperFoldx0
namespace Go.Proofs.YtamfkglnejhjdaaDoor.PHyperFold
open Go.RowKit Go.Proofs.YtamfkglnejhjdaaDoorW.PrintWords Go.Proofs.YtamfkglnejhjdaaDoorW.PrintLast Go.Proofs.YtamfkglnejhjdaaDoorW.PrintMore
attribute [local go_sem] max2_int min2_int max_two min_two max_three min_three max_four min_four   -- for this text's walks alone
set_option linter.unusedVariables false
set_option linter.unusedSimpArgs false

mutual
def plunderlaw23_over.l0 : Nat → Int → List (S46) → List Bool → List Int → Option (Int × (List (S46)) × List Bool × List Int)
  | 0, _, _, _, _ => none
  | k + 1, x3, x231000, x231001, x231002 => if x3 < (x231000.length : Int) then (if 0 ≤ x3 then (plunderlaw23_over.l0 k (wrap64 (x3 + 1)) (x231000.set (x3 : Int).toNat (⟨(rd_T46 x231000 x3).f0, Go.bits .xor .i64 ((rd_T46 x231000 x3).f1) 1⟩ : S46)) x231001 x231002) else (none)) else (plunderlaw23_over.l1 k 0 x231000 x231001 x231002)
def plunderlaw23_over.l1 : Nat → Int → List (S46) → List Bool → List Int → Option (Int × (List (S46)) × List Bool × List Int)
  | 0, _, _, _, _ => none
  | k + 1, x4, x231000, x231001, x231002 => if x4 < (x231001.length : Int) then (if 0 ≤ x4 then (plunderlaw23_over.l1 k (wrap64 (x4 + 1)) x231000 (x231001.set (x4 : Int).toNat (!(rdOf false x231001 x4))) x231002) else (none)) else (plunderlaw23_over.l2 k 0 x231000 x231001 x231002)
def plunderlaw23_over.l2 : Nat → Int → List (S46) → List Bool → List Int → Option (Int × (List (S46)) × List Bool × List Int)
  | 0, _, _, _, _ => none
  | k + 1, x5, x231000, x231001, x231002 => if x5 < (x231002.length : Int) then (if 0 ≤ x5 then (plunderlaw23_over.l2 k (wrap64 (x5 + 1)) x231000 x231001 (x231002.set (x5 : Int).toNat (Go.bits .xor .i64 (rd x231002 x5) 1))) else (none)) else (some (wrap64 ((wrap64 ((x231000.length : Int) + (x231001.length : Int))) + (x231002.length : Int)), x231000, x231001, x231002))
end
def plunderlaw23_over.f (k : Nat) (l0_0 : List (S46)) (l0_1 : List Bool) (l0_2 : List Int) : Option (Int × (List (S46)) × List Bool × List Int) := plunderlaw23_over.l0 k 0 l0_0 l0_1 l0_2
theorem plunderlaw23_over.mono_l : ∀ k, (∀ y0 y1 y2 y3, LeO (plunderlaw23_over.l0 k y0 y1 y2 y3) (plunderlaw23_over.l0 (k + 1) y0 y1 y2 y3)) ∧ (∀ y0 y1 y2 y3, LeO (plunderlaw23_over.l1 k y0 y1 y2 y3) (plunderlaw23_over.l1 (k + 1) y0 y1 y2 y3)) ∧ (∀ y0 y1 y2 y3, LeO (plunderlaw23_over.l2 k y0 y1 y2 y3) (plunderlaw23_over.l2 (k + 1) y0 y1 y2 y3))
  | 0 => ⟨fun _ _ _ _ r h => by simp [plunderlaw23_over.l0] at h, fun _ _ _ _ r h => by simp [plunderlaw23_over.l1] at h, fun _ _ _ _ r h => by simp [plunderlaw23_over.l2] at h⟩
  | k + 1 => by
    obtain ⟨ih0, ih1, ih2⟩ := plunderlaw23_over.mono_l k
    refine ⟨?_, ?_, ?_⟩
    · intro y0 y1 y2 y3
      unfold plunderlaw23_over.l0
      repeat' first
      | (with_reducible exact ih0 _ _ _ _)
      | (with_reducible exact ih1 _ _ _ _)
      | (with_reducible exact ih2 _ _ _ _)
      | (with_reducible exact LeO.refl _)
      | (with_reducible exact LeO.none _)
      | (with_reducible refine LeO.ite ?_ ?_)
      | (with_reducible refine LeO.bind ?_ (fun _ => ?_))
      | exact ih0 _ _ _ _
      | exact ih1 _ _ _ _
      | exact ih2 _ _ _ _
      | exact LeO.none _
      | refine LeO.ite ?_ ?_
      | refine LeO.bind ?_ (fun _ => ?_)
    · intro y0 y1 y2 y3
      unfold plunderlaw23_over.l1
      repeat' first
      | (with_reducible exact ih0 _ _ _ _)
      | (with_reducible exact ih1 _ _ _ _)
      | (with_reducible exact ih2 _ _ _ _)
      | (with_reducible exact LeO.refl _)
      | (with_reducible exact LeO.none _)
      | (with_reducible refine LeO.ite ?_ ?_)
      | (with_reducible refine LeO.bind ?_ (fun _ => ?_))
      | exact ih0 _ _ _ _
      | exact ih1 _ _ _ _
      | exact ih2 _ _ _ _
      | exact LeO.none _
      | refine LeO.ite ?_ ?_
      | refine LeO.bind ?_ (fun _ => ?_)
    · intro y0 y1 y2 y3
      unfold plunderlaw23_over.l2
      repeat' first
      | (with_reducible exact ih0 _ _ _ _)
      | (with_reducible exact ih1 _ _ _ _)
      | (with_reducible exact ih2 _ _ _ _)
      | (with_reducible exact LeO.refl _)
      | (with_reducible exact LeO.none _)
      | (with_reducible refine LeO.ite ?_ ?_)
      | (with_reducible refine LeO.bind ?_ (fun _ => ?_))
      | exact ih0 _ _ _ _
      | exact ih1 _ _ _ _
      | exact ih2 _ _ _ _
      | exact LeO.none _
      | refine LeO.ite ?_ ?_
      | refine LeO.bind ?_ (fun _ => ?_)
theorem plunderlaw23_over.mono : ∀ a0 a1 a2 k, LeO (plunderlaw23_over.f k a0 a1 a2) (plunderlaw23_over.f (k + 1) a0 a1 a2) := by
  intro a0 a1 a2 k
  obtain ⟨ih0, ih1, ih2⟩ := plunderlaw23_over.mono_l k
  unfold plunderlaw23_over.f
  repeat' first
      | (with_reducible exact ih0 _ _ _ _)
      | (with_reducible exact ih1 _ _ _ _)
      | (with_reducible exact ih2 _ _ _ _)
      | (with_reducible exact LeO.refl _)
      | (with_reducible exact LeO.none _)
      | (with_reducible refine LeO.ite ?_ ?_)
      | (with_reducible refine LeO.bind ?_ (fun _ => ?_))
      | exact ih0 _ _ _ _
      | exact ih1 _ _ _ _
      | exact ih2 _ _ _ _
      | exact LeO.none _
      | refine LeO.ite ?_ ?_
      | refine LeO.bind ?_ (fun _ => ?_)
def plunderlaw23_over.T4 : Bool × List (List Nat × List Nat) := (true, [([], []), ([0], [0]), ([], []), ([], []), ([3], [3]), ([], []), ([4, 5], [4, 5]), ([6], [6]), ([7], [7]), ([8], [8]), ([1, 2, 0, 1, 2, 3, 4, 5, 6, 7, 8, 9], [1, 2]), ([10, 0, 1, 2, 3, 4, 5, 6, 7, 8, 9], [10]), ([11, 9, 0, 1, 2, 3, 4, 5, 6, 7, 8, 9], [9, 11])])
def plunderlaw23_over.B4 : List Nat := [0, 1, 0, 0, 8, 0, 56, 120, 248, 504, 1023, 2047, 4095]
theorem plunderlaw23_over.tab4 : rtab .any (opsOf Tryd.f10 4) = plunderlaw23_over.T4 := by kernel_rfl
theorem plunderlaw23_over.bits4 : waitsOk plunderlaw23_over.T4.2 plunderlaw23_over.B4 = true := by kernel_rfl
def plunderlaw23_over.T8 : Bool × List (List Nat × List Nat) := (true, [([], []), ([0], [0]), ([], []), ([], []), ([3], [3]), ([], []), ([4, 5], [4, 5]), ([6], [6]), ([7], [7]), ([1, 2, 0, 1, 2, 3, 4, 5, 6, 7, 8], [1, 2]), ([9, 8, 0, 1, 2, 3, 4, 5, 6, 7, 8], [8, 9])])
def plunderlaw23_over.B8 : List Nat := [0, 1, 0, 0, 8, 0, 56, 120, 248, 511, 1023]
theorem plunderlaw23_over.tab8 : rtab .any (opsOf Tryd.f10 8) = plunderlaw23_over.T8 := by kernel_rfl
theorem plunderlaw23_over.bits8 : waitsOk plunderlaw23_over.T8.2 plunderlaw23_over.B8 = true := by kernel_rfl
def plunderlaw23_over.T12 : Bool × List (List Nat × List Nat) := (true, [([], []), ([0], [0]), ([], []), ([], []), ([3], [3]), ([], []), ([4, 5], [4, 5]), ([6], [6]), ([7], [7]), ([1, 2, 0, 1, 2, 3, 4, 5, 6, 7, 8], [1, 2]), ([9, 8, 0, 1, 2, 3, 4, 5, 6, 7, 8], [8, 9])])
def plunderlaw23_over.B12 : List Nat := [0, 1, 0, 0, 8, 0, 56, 120, 248, 511, 1023]
theorem plunderlaw23_over.tab12 : rtab .any (opsOf Tryd.f10 12) = plunderlaw23_over.T12 := by kernel_rfl
theorem plunderlaw23_over.bits12 : waitsOk plunderlaw23_over.T12.2 plunderlaw23_over.B12 = true := by kernel_rfl
set_option maxHeartbeats 8000000 in
set_option maxRecDepth 100000 in
theorem plunderlaw23_over.calls (k : Nat) (P0_0_ : Nat → Prop) (u9000_ : Value) (l0_0 : List (S46)) (P0_1_ : Nat → Prop) (u9001_ : Value) (l0_1 : List Bool) (P0_2_ : Nat → Prop) (u9002_ : Value) (l0_2 : List Int) (r1 : Int) (r2 : List (S46)) (r3 : List Bool) (r4 : List Int) (w0 w : World) (hB : Below w0.heap.size w0 w) (ho0_0 : Kd.R k46 46 w w0.heap.size P0_0_ u9000_ l0_0) (ho0_1 : Kd.R Kd.bool 4 w w0.heap.size P0_1_ u9001_ l0_1) (ho0_2 : Kd.R (Kd.int .i64) 3 w w0.heap.size P0_2_ u9002_ l0_2) (h : plunderlaw23_over.f k l0_0 l0_1 l0_2 = some (r1, r2, r3, r4)) :
    Calls Tryd.prog 10 #[.agg #[u9000_, u9001_, u9002_]] w fun e w' => e = .returned (.int .i64 r1) ∧ Kd.R k46 46 w' w0.heap.size (fun k_ => ((P0_0_ k_ ∨ P0_1_ k_ ∨ P0_2_ k_) ∨ w.heap.size ≤ k_)) u9000_ r2 ∧ Kd.R Kd.bool 4 w' w0.heap.size (fun k_ => ((P0_0_ k_ ∨ P0_1_ k_ ∨ P0_2_ k_) ∨ w.heap.size ≤ k_)) u9001_ r3 ∧ Kd.R (Kd.int .i64) 3 w' w0.heap.size (fun k_ => ((P0_0_ k_ ∨ P0_1_ k_ ∨ P0_2_ k_) ∨ w.heap.size ≤ k_)) u9002_ r4 ∧ Below w0.heap.size w0 w' ∧ Kept w w' (fun k_ => P0_0_ k_ ∨ P0_1_ k_ ∨ P0_2_ k_) := by
  have hu26 := Tryd.underlying26
  have HO0_0 := Aside0.mk (show Kd.R k46 46 w w0.heap.size (fun k_ => ((P0_0_ k_ ∨ P0_1_ k_ ∨ P0_2_ k_) ∨ w.heap.size ≤ k_)) u9000_ l0_0 from Kd.R_mono ho0_0 (fun k_ hk => (.inl (.inl hk))))
  have HO0_1 := Aside0.mk (show Kd.R Kd.bool 4 w w0.heap.size (fun k_ => ((P0_0_ k_ ∨ P0_1_ k_ ∨ P0_2_ k_) ∨ w.heap.size ≤ k_)) u9001_ l0_1 from Kd.R_mono ho0_1 (fun k_ hk => (.inl (.inr (.inl hk)))))
  have HO0_2 := Aside0.mk (show Kd.R (Kd.int .i64) 3 w w0.heap.size (fun k_ => ((P0_0_ k_ ∨ P0_1_ k_ ∨ P0_2_ k_) ∨ w.heap.size ≤ k_)) u9002_ l0_2 from Kd.R_mono ho0_2 (fun k_ hk => (.inl (.inr (.inr hk)))))
  have HK := Aside0.mk (Kept.refl w (fun k_ => P0_0_ k_ ∨ P0_1_ k_ ∨ P0_2_ k_))
  have HW0 := Aside0.mk hB.size
  have HB := Aside0.mk hB
  clear hB
  have H : (plunderlaw23_over.l0 k 0 l0_0 l0_1 l0_2) = some (r1, r2, r3, r4) := h
  clear h
  have H' := Aside0.mk H
  clear H
  obtain ⟨Ao2, co2, eo2⟩ := Kd.R_slice HO0_0.out
  subst eo2
  obtain ⟨Ao3, co3, eo3⟩ := Kd.R_slice HO0_1.out
  subst eo3
  obtain ⟨Ao4, co4, eo4⟩ := Kd.R_slice HO0_2.out
  subst eo4
  go_enter Tryd.func10, Tryd.ntmps10
  go_wp2_with (first | ((with_reducible refine gate_dst (N := 1) rfl ?_); refine box_event ?hg (N := 1) ?hd (cs := #[.slice Ao2 l0_0.length co2, .slice Ao3 l0_1.length co3, .slice Ao4 l0_2.length co4]) (t := 26) ?hr ?_; (case hd => rfl); (case hg => rfl); (case hr => first | (go_simp; done) | (go_simp; rfl)); intro gb230 hg w5 hbox hb; have n0_ := Aside0.mk (Kd.R_below (by (with_reducible repeat (first | apply Kd.R_alloc | apply Kd.R_drewN | apply Kd.R_drew)); exact HO0_0.out) hb); have n1_ := Aside0.mk (Kd.R_below (by (with_reducible repeat (first | apply Kd.R_alloc | apply Kd.R_drewN | apply Kd.R_drew)); exact HO0_1.out) hb); have n2_ := Aside0.mk (Kd.R_below (by (with_reducible repeat (first | apply Kd.R_alloc | apply Kd.R_drewN | apply Kd.R_drew)); exact HO0_2.out) hb); have n3_ := Aside0.mk (Kept.below (S := (fun k_ => P0_0_ k_ ∨ P0_1_ k_ ∨ P0_2_ k_)) (by repeat (first | (with_reducible first | exact HK.out | apply Kept.alloc | apply Kept.drewN | apply Kept.drew) | exact HK.out)) hb); have n4_ := Aside0.mk (below_step (by repeat (first | (with_reducible first | exact HB.out | apply below_alloc | apply pw_below_drewN | apply below_drew1) | exact HB.out)) hb); have n5_ := Aside0.mk (hbox); have n6_ := Aside0.mk ((by rw [hg]; exact (by first | exact HK.out.1 | exact (show Kept w _ (fun k_ => P0_0_ k_ ∨ P0_1_ k_ ∨ P0_2_ k_) from by repeat (first | (with_reducible first | exact HK.out | apply Kept.alloc | apply Kept.drewN | apply Kept.drew) | exact HK.out)).1) : w.heap.size ≤ gb230)); have n7_ := Aside0.mk ((by rw [hg]; exact (below_size (by repeat (first | (with_reducible first | exact HB.out | apply below_alloc | apply pw_below_drewN | apply below_drew1) | exact HB.out))) : w0.heap.size ≤ gb230)); clear HO0_0; clear HO0_1; clear HO0_2; clear HK; clear HB; have HO0_0 := n0_; have HO0_1 := n1_; have HO0_2 := n2_; have HK := n3_; have HB := n4_; have BK230 := n5_; have GW230 := n6_; have GE230 := n7_; clear n0_ n1_ n2_ n3_ n4_ n5_ n6_ n7_; clear hb hbox hg))
  go_loopg [3] k (fun kq v3 w' => ∃ (x3_1 : Int) (x231000_1 : List (S46)), v3 = .int .i64 x3_1 ∧ Aside0 (plunderlaw23_over.l0 kq x3_1 x231000_1 l0_1 l0_2 = some (r1, r2, r3, r4)) ∧ Aside0 (kq ≤ k) ∧ Aside0 (Kd.R k46 46 w' w0.heap.size (fun k_ => ((P0_0_ k_ ∨ P0_1_ k_ ∨ P0_2_ k_) ∨ w.heap.size ≤ k_)) (.slice Ao2 l0_0.length co2) x231000_1) ∧ Aside0 (Kd.R Kd.bool 4 w' w0.heap.size (fun k_ => ((P0_0_ k_ ∨ P0_1_ k_ ∨ P0_2_ k_) ∨ w.heap.size ≤ k_)) (.slice Ao3 l0_1.length co3) l0_1) ∧ Aside0 (Kd.R (Kd.int .i64) 3 w' w0.heap.size (fun k_ => ((P0_0_ k_ ∨ P0_1_ k_ ∨ P0_2_ k_) ∨ w.heap.size ≤ k_)) (.slice Ao4 l0_2.length co4) l0_2) ∧ Aside0 (w'.heap[gb230]? = some (.cells #[(.slice Ao2 l0_0.length co2), (.slice Ao3 l0_1.length co3), (.slice Ao4 l0_2.length co4)] 26 (0, 0))) ∧ Aside0 (Kept w w' (fun k_ => P0_0_ k_ ∨ P0_1_ k_ ∨ P0_2_ k_)) ∧ Aside0 (Below w0.heap.size w0 w'))
  case atStart => exact ⟨(0), (l0_0), (by first | rfl | (simp; done) | (simp [*]; done)), H', ⟨Nat.le_refl _⟩, ⟨by (with_reducible repeat (first | apply Kd.R_alloc | apply Kd.R_drewN | apply Kd.R_drew)); exact HO0_0.out⟩, ⟨by (with_reducible repeat (first | apply Kd.R_alloc | apply Kd.R_drewN | apply Kd.R_drew)); exact HO0_1.out⟩, ⟨by (with_reducible repeat (first | apply Kd.R_alloc | apply Kd.R_drewN | apply Kd.R_drew)); exact HO0_2.out⟩, ⟨by (with_reducible repeat (first | refine blk_drewN ?_ _ | refine blk_drew ?_ | refine blk_alloc ?_ _)); exact BK230.out⟩, ⟨by repeat (first | (with_reducible first | exact HK.out | apply Kept.alloc | apply Kept.drewN | apply Kept.drew | refine Kept.setCell ?_ (.inr GW230.out) _) | exact HK.out)⟩, ⟨by repeat (first | (with_reducible first | exact HB.out | apply below_alloc | apply pw_below_drewN | apply below_drew1 | refine below_set ?_ GE230.out) | exact HB.out)⟩⟩
  case round =>
    clear H'
    try clear c1
    try clear p2
    obtain ⟨x3_1, x231000_1, rfl, HA, HK1, HO_231000, HO_231001, HO_231002, BK230, HK, HB⟩ := hrel
    have hl231000_1 := (Kd.R_reads' HO_231000.out).1
    rw [hl231000_1] at HO_231000
    (try simp only [hl231000_1])
    (try simp only [hl231000_1] at BK230)
    (try simp only [hl231000_1] at HO_231001)
    (try simp only [hl231000_1] at HO_231002)
    cases gk with
    | zero => exact absurd HA.out (by simp [plunderlaw23_over.l0])
    | succ k1 =>
      have H := HA.out
      clear HA
      simp only [plunderlaw23_over.l0] at H
      by_cases c6 : x3_1 < (x231000_1.length : Int)
      · rw [if_pos c6] at H
        have c6b0 : decide (x3_1 < (x231000_1.length : Int)) = true := decide_eq_true c6
        clear c6
        by_cases c7 : 0 ≤ x3_1
        · rw [if_pos c7] at H
          have c7b0 : decide (0 ≤ x3_1) = true := decide_eq_true c7
          clear c7
          obtain ⟨y232, hy232⟩ : ∃ y_ : List (S46), y_ = (x231000_1.set (x3_1 : Int).toNat (⟨(rd_T46 x231000_1 x3_1).f0, Go.bits .xor .i64 ((rd_T46 x231000_1 x3_1).f1) 1⟩ : S46)) := ⟨_, rfl⟩
          replace H : (plunderlaw23_over.l0 k1 (wrap64 (x3_1 + 1)) y232 l0_1 l0_2) = some (r1, r2, r3, r4) := by first | (rw [hy232]; with_reducible exact H) | (have H2_ := (Option.bind_some _ _).symm.trans H; rw [hy232]; with_reducible exact H2_) | (have H2_ := (Option.bind_some _ _).symm.trans H; with_reducible exact H2_) | with_reducible exact H | (rw [hy232]; exact H) | exact H
          have Ny232 := Aside0.mk hy232
          clear hy232
          have H' := Aside0.mk H
          clear H
          have hcz9_0 : wr.cell? ⟨gb230, 0, none⟩ = some (.slice Ao2 x231000_1.length co2) := (blk_cell BK230.out 0).trans rfl
          have hcz9_1 : wr.cell? ⟨gb230, 1, none⟩ = some (.slice Ao3 l0_1.length co3) := (blk_cell BK230.out 1).trans rfl
          have hcz9_2 : wr.cell? ⟨gb230, 2, none⟩ = some (.slice Ao4 l0_2.length co4) := (blk_cell BK230.out 2).trans rfl
          have hfz9_0 := blk_frozen BK230.out 0
          have hfz9_1 := blk_frozen BK230.out 1
          have hfz9_2 := blk_frozen BK230.out 2
          try go_wp2
          have n0_ := Aside0.mk (Kd.R_drew HO_231000.out)
          have n1_ := Aside0.mk (Kd.R_drew HO_231001.out)
          have n2_ := Aside0.mk (Kd.R_drew HO_231002.out)
          have n3_ := Aside0.mk (blk_drew BK230.out)
          have n4_ := Aside0.mk (Kept.drew HK.out)
          have n5_ := Aside0.mk (below_drew1 HB.out)
          clear HO_231000
          clear HO_231001
          clear HO_231002
          clear BK230
          clear HK
          clear HB
          have HO_231000 := n0_
          have HO_231001 := n1_
          have HO_231002 := n2_
          have BK230 := n3_
          have HK := n4_
          have HB := n5_
          clear n0_ n1_ n2_ n3_ n4_ n5_
          have p231 : 0 ≤ (x3_1 : Int) := of_decide_eq_true (by first | (with_reducible assumption) | assumption)
          have q231 : x3_1 < (x231000_1.length : Int) := of_decide_eq_true (by first | (with_reducible assumption) | assumption)
          obtain ⟨ad231, e231, hx231_0, hx231_1⟩ := at_T46 (Kd.R_reads' HO_231000.out).2.2 x3_1 p231 q231
          cases e231
          replace p231 := eq_true p231
          replace q231 := eq_true q231
          have p8 : 0 ≤ (x3_1 : Int) := of_decide_eq_true (by first | (with_reducible assumption) | assumption)
          have q8 : (x3_1 : Int) < ((x231000_1.length : Int) : Int) := of_decide_eq_true (by first | (with_reducible assumption) | assumption)
          obtain ⟨go8, co8, eo8, gb8, gl8, cl8, HG8⟩ := Kd.R_form HO_231000.out (by omega)
          (first | cases eo8 | (injection eo8 with ea_ en_ ec_; (first | subst ea_ | (injection ea_ with ea_; subst ea_)); subst ec_; clear en_))
          have GB8 := Aside0.mk gb8
          have GG8 := Aside0.mk HG8
          clear gb8 gl8 HG8
          have HMgo8 := Aside0.mk (show ((P0_0_ go8 ∨ P0_1_ go8 ∨ P0_2_ go8) ∨ w.heap.size ≤ go8) from (HO_231000.out.1 _ rfl))
          (first | simp only [add_plain] at hx231_0 | skip)
          (first | simp only [add_plain] at hx231_1 | skip)
          obtain ⟨ce8, hcl8, hM8, hcc8, hfr8⟩ := Kd.R_elem HO_231000.out z46 (x3_1 : Int) p8 q8
          obtain rfl := k46_openM hM8
          have hx8_0 : World.cell? _ ⟨go8, (x3_1 : Int).toNat * 2, none⟩ = some (.int .i64 ((rd_T46 x231000_1 x3_1).f0)) := hcc8 0 _ rfl
          have hx8_1 : World.cell? _ ⟨go8, (x3_1 : Int).toNat * 2 + 1, none⟩ = some (.int .i64 ((rd_T46 x231000_1 x3_1).f1)) := hcc8 1 _ rfl
          have hf8_0 : World.frozen? _ ⟨go8, (x3_1 : Int).toNat * 2, none⟩ = false := hfr8 0
          have hf8_1 : World.frozen? _ ⟨go8, (x3_1 : Int).toNat * 2 + 1, none⟩ = false := hfr8 1
          clear hcl8 hcc8 hfr8 hM8
          replace p8 := eq_true p8
          replace q8 := eq_true q8
          obtain ⟨ce11, hcl11, hM11, hcc11, hfr11⟩ := Kd.R_elem HO_231000.out z46 (x3_1 : Int) (of_decide_eq_true (by first | (with_reducible assumption) | assumption)) (by have h_ : (x3_1 : Int) < ((x231000_1.length : Int) : Int) := of_decide_eq_true (by first | (with_reducible assumption) | assumption); first | exact h_ | (have e_ := (Kd.R_reads' HO_231000.out).1; omega) | simpa using h_)
          obtain rfl := k46_openM hM11
          have HP11 := (Kd.R_seg HO_231000.out (x3_1 : Int) (of_decide_eq_true (by first | (with_reducible assumption) | assumption)) (by have h_ : (x3_1 : Int) < ((x231000_1.length : Int) : Int) := of_decide_eq_true (by first | (with_reducible assumption) | assumption); first | exact h_ | (have e_ := (Kd.R_reads' HO_231000.out).1; omega) | simpa using h_) (seg := [.int .i64 (Go.bits .xor .i64 ((rd_T46 x231000_1 x3_1).f1) 1)]) (j := 1) hcl11 hcc11 (show 2 ≤ 2 from by decide) (x' := (⟨(rd_T46 x231000_1 x3_1).f0, Go.bits .xor .i64 ((rd_T46 x231000_1 x3_1).f1) 1⟩ : S46)) (k46_mkM _ _ _ (⟨(rd_T46 x231000_1 x3_1).f0, Go.bits .xor .i64 ((rd_T46 x231000_1 x3_1).f1) 1⟩ : S46) ) (fun _ hk => hk)).1
          rw [← Ny232.out] at HP11
          have HQ11 := Aside0.mk HP11
          clear hcl11 hcc11 hfr11 hM11 HP11
          refine start_ (n := 13) (S := fun w' => w'.cell? ⟨gb230, 0, none⟩ = some (.slice (some ⟨go8, 0, none⟩) x231000_1.length co2) ∧ w'.cell? ⟨gb230, 1, none⟩ = some (.slice Ao3 l0_1.length co3) ∧ w'.cell? ⟨gb230, 2, none⟩ = some (.slice Ao4 l0_2.length co4) ∧ w'.cell? ⟨go8, ((x3_1).toNat * 2), none⟩ = some (.int .i64 ((rd_T46 x231000_1 x3_1).f0)) ∧ w'.cell? ⟨go8, ((x3_1).toNat * 2) + 1, none⟩ = some (.int .i64 ((rd_T46 x231000_1 x3_1).f1))) (ds := [12]) #[false, false, false, false, false, false, false, false, false, false, false, false, false] (by kernel_rfl) rfl rfl ⟨(blk_cell BK230.out 0).trans rfl, (blk_cell BK230.out 1).trans rfl, (blk_cell BK230.out 2).trans rfl, hx231_0, hx231_1⟩ (fun hHeld => ?_); refine with_tabW plunderlaw23_over.tab4 plunderlaw23_over.bits4 (fun HT_ HW_ => ?_)
          generalize wr.drew = w10 at HO_231000 HO_231001 HO_231002 BK230 HK HB GG8 HQ11 hf8_0 hf8_1 hx231_0 hx231_1 hx8_0 hx8_1 hHeld ⊢
          refine pure_ (i := 0) (N := some 13) (v := ?_) (a' := ?_) #[true, false, false, false, false, false, false, false, false, false, false, false, false] rfl rfl (any_of HT_.out (by kernel_rfl)) (fun _ _ _ h => h) (Or.inl ⟨by rfl, ?_⟩) ?_ ?_
          rotate_left
          · intro w'
            go_simp
            with_reducible rfl
          rotate_left
          · simp only [Act.put, List.setIfInBounds_toArray, List.set_cons_zero, List.set_cons_succ, i64_w, i32_w]
            rfl
          refine pure_ (i := 2) (N := some 15) (v := ?_) (a' := ?_) #[true, false, true, false, false, false, false, false, false, false, false, false, false] rfl rfl (any_of HT_.out (by kernel_rfl)) (fun _ _ _ h => h) (Or.inl ⟨by rfl, ?_⟩) ?_ ?_
          rotate_left
          · intro w'
            go_simp
            with_reducible rfl
          rotate_left
          · simp only [Act.put, List.setIfInBounds_toArray, List.set_cons_zero, List.set_cons_succ, i64_w, i32_w]
            rfl
          refine pure_ (i := 3) (N := some 16) (v := ?_) (a' := ?_) #[true, false, true, true, false, false, false, false, false, false, false, false, false] rfl rfl (any_of HT_.out (by kernel_rfl)) (fun _ _ _ h => h) (Or.inl ⟨by rfl, ?_⟩) ?_ ?_
          rotate_left
          · intro w'
            go_simp
            with_reducible rfl
          rotate_left
          · simp only [Act.put, List.setIfInBounds_toArray, List.set_cons_zero, List.set_cons_succ, i64_w, i32_w]
            rfl
          refine pure_ (i := 5) (N := some 18) (v := ?_) (a' := ?_) #[true, false, true, true, false, true, false, false, false, false, false, false, false] rfl rfl (any_of HT_.out (by kernel_rfl)) (fun _ _ _ h => h) (Or.inl ⟨by rfl, ?_⟩) ?_ ?_
          rotate_left
          · intro w'
            go_simp
            with_reducible rfl
          rotate_left
          · simp only [Act.put, List.setIfInBounds_toArray, List.set_cons_zero, List.set_cons_succ, i64_w, i32_w]
            rfl
          refine take_ (i := 1) (N := some 14) (v := ?_) (a' := ?_) #[true, true, true, true, false, true, false, false, false, false, false, false, false] rfl rfl (take_ofW HT_.out HW_.out (by kernel_rfl)) (fun _ _ _ h => h) (Or.inl ⟨by rfl, ?_⟩) hHeld ?_ ?_
          rotate_left
          · rintro w' ⟨s0, s1, s2, s3, s4⟩
            go_simp
            with_reducible rfl
          rotate_left
          · simp only [Act.put, List.setIfInBounds_toArray, List.set_cons_zero, List.set_cons_succ, i64_w, i32_w]
            rfl
          refine take_ (i := 4) (N := some 17) (v := ?_) (a' := ?_) #[true, true, true, true, true, true, false, false, false, false, false, false, false] rfl rfl (take_ofW HT_.out HW_.out (by kernel_rfl)) (fun _ _ _ h => h) (Or.inl ⟨by rfl, ?_⟩) hHeld ?_ ?_
          rotate_left
          · rintro w' ⟨s0, s1, s2, s3, s4⟩
            go_simp
            with_reducible rfl
          rotate_left
          · simp only [Act.put, List.setIfInBounds_toArray, List.set_cons_zero, List.set_cons_succ, i64_w, i32_w]
            rfl
          refine pure_ (i := 6) (N := some 19) (v := ?_) (a' := ?_) #[true, true, true, true, true, true, true, false, false, false, false, false, false] rfl rfl (any_of HT_.out (by kernel_rfl)) (fun _ _ _ h => h) (Or.inl ⟨by rfl, ?_⟩) ?_ ?_
          rotate_left
          · intro w'
            go_simp
            with_reducible rfl
          rotate_left
          · simp only [Act.put, List.setIfInBounds_toArray, List.set_cons_zero, List.set_cons_succ, i64_w, i32_w]
            rfl
          refine pure_ (i := 7) (N := some 20) (v := ?_) (a' := ?_) #[true, true, true, true, true, true, true, true, false, false, false, false, false] rfl rfl (any_of HT_.out (by kernel_rfl)) (fun _ _ _ h => h) (Or.inl ⟨by rfl, ?_⟩) ?_ ?_
          rotate_left
          · intro w'
            go_simp
            with_reducible rfl
          rotate_left
          · simp only [Act.put, List.setIfInBounds_toArray, List.set_cons_zero, List.set_cons_succ, i64_w, i32_w]
            rfl
          refine take_ (i := 8) (N := some 21) (v := ?_) (a' := ?_) #[true, true, true, true, true, true, true, true, true, false, false, false, false] rfl rfl (take_ofW HT_.out HW_.out (by kernel_rfl)) (fun _ _ _ h => h) (Or.inl ⟨by rfl, ?_⟩) hHeld ?_ ?_
          rotate_left
          · rintro w' ⟨s0, s1, s2, s3, s4⟩
            go_simp
            with_reducible rfl
          rotate_left
          · simp only [Act.put, List.setIfInBounds_toArray, List.set_cons_zero, List.set_cons_succ, i64_w, i32_w]
            rfl
          refine pure_ (i := 9) (N := some 22) (v := ?_) (a' := ?_) #[true, true, true, true, true, true, true, true, true, true, false, false, false] rfl rfl (any_of HT_.out (by kernel_rfl)) (fun _ _ _ h => h) (Or.inl ⟨by rfl, ?_⟩) ?_ ?_
          rotate_left
          · intro w'
            go_simp
            with_reducible rfl
          rotate_left
          · simp only [Act.put, List.setIfInBounds_toArray, List.set_cons_zero, List.set_cons_succ, i64_w, i32_w]
            rfl
          refine pure_ (i := 10) (N := some 23) (v := ?_) (a' := ?_) #[true, true, true, true, true, true, true, true, true, true, true, false, false] rfl rfl (any_of HT_.out (by kernel_rfl)) (fun _ _ _ h => h) (Or.inl ⟨by rfl, ?_⟩) ?_ ?_
          rotate_left
          · intro w'
            go_simp
            with_reducible rfl
          rotate_left
          · simp only [Act.put, List.setIfInBounds_toArray, List.set_cons_zero, List.set_cons_succ, i64_w, i32_w]
            rfl
          refine pure_ (i := 11) (N := some 24) (v := ?_) (a' := ?_) #[true, true, true, true, true, true, true, true, true, true, true, true, false] rfl rfl (any_of HT_.out (by kernel_rfl)) (fun _ _ _ h => h) (Or.inl ⟨by rfl, ?_⟩) ?_ ?_
          rotate_left
          · intro w'
            go_simp
            with_reducible rfl
          rotate_left
          · simp only [Act.put, List.setIfInBounds_toArray, List.set_cons_zero, List.set_cons_succ, i64_w, i32_w]
            rfl
          refine last_ (i := 12) (N := none) #[true, true, true, true, true, true, true, true, true, true, true, true, true] rfl rfl (one_of HT_.out (by kernel_rfl)) (by decide) (fun K hK => ?_)
          refine skip_ (w1 := ?_) (by rfl) rfl ?_ ?_
          rotate_left
          · go_simp
            rfl
          refine hK.out _ _ ?_
          clear hK K
          refine done_ (done_of HT_.out (by kernel_rfl)) ?_
          try go_wp2
          (try simp only [← hl231000_1])
          go_roundg k1
          case measure => have := HK1.out; omega
          case rel => exact ⟨(wrap64 (x3_1 + 1)), (y232), (by first | rfl | (simp; done) | (simp [*]; done)), H', ⟨by have := HK1.out; omega⟩, ⟨by (try simp only [hl231000_1]); (with_reducible repeat (first | apply Kd.R_alloc | apply Kd.R_drewN | apply Kd.R_drew)); exact HQ11.out⟩, ⟨by (try simp only [hl231000_1]); (with_reducible repeat (first | apply Kd.R_alloc | apply Kd.R_drewN | apply Kd.R_drew)); exact Kd.R_mono (Kd.R_far (p := ⟨go8, (x3_1 : Int).toNat * 2 + 1, none⟩) (Kd.R_types HO_231001.out GG8.out (by decide)) (fun _ hk => hk.2) (.int .i64 (Go.bits .xor .i64 ((rd_T46 x231000_1 x3_1).f1) 1))) (fun _ hk => hk.1)⟩, ⟨by (try simp only [hl231000_1]); (with_reducible repeat (first | apply Kd.R_alloc | apply Kd.R_drewN | apply Kd.R_drew)); exact Kd.R_mono (Kd.R_far (p := ⟨go8, (x3_1 : Int).toNat * 2 + 1, none⟩) (Kd.R_types HO_231002.out GG8.out (by decide)) (fun _ hk => hk.2) (.int .i64 (Go.bits .xor .i64 ((rd_T46 x231000_1 x3_1).f1) 1))) (fun _ hk => hk.1)⟩, ⟨by (try simp only [hl231000_1]); (with_reducible repeat (first | refine blk_drewN ?_ _ | refine blk_drew ?_ | refine blk_alloc ?_ _)); refine blk_far ?_ (by have h_ := Kd.R_ne HO_231000.out BK230.out (by decide); intro e_; exact h_ (by rw [e_]; rfl)) _; (with_reducible repeat (first | refine blk_drewN ?_ _ | refine blk_drew ?_ | refine blk_alloc ?_ _)); exact BK230.out⟩, ⟨by repeat (first | (with_reducible first | exact HK.out | apply Kept.alloc | apply Kept.drewN | apply Kept.drew | refine Kept.setCell ?_ HMgo8.out _ | refine Kept.setCell ?_ (.inr GW230.out) _) | exact HK.out)⟩, ⟨by repeat (first | (with_reducible first | exact HB.out | apply below_alloc | apply pw_below_drewN | apply below_drew1 | refine below_set ?_ GB8.out | refine below_set ?_ GE230.out) | exact HB.out)⟩⟩
        · rw [if_neg c7] at H
          exact absurd H (by simp)
      · rw [if_neg c6] at H
        have c6b0 : decide (x3_1 < (x231000_1.length : Int)) = false := decide_eq_false c6
        clear c6
        have H' := Aside0.mk H
        clear H
        have hcz12_0 : wr.cell? ⟨gb230, 0, none⟩ = some (.slice Ao2 x231000_1.length co2) := (blk_cell BK230.out 0).trans rfl
        have hcz12_1 : wr.cell? ⟨gb230, 1, none⟩ = some (.slice Ao3 l0_1.length co3) := (blk_cell BK230.out 1).trans rfl
        have hcz12_2 : wr.cell? ⟨gb230, 2, none⟩ = some (.slice Ao4 l0_2.length co4) := (blk_cell BK230.out 2).trans rfl
        have hfz12_0 := blk_frozen BK230.out 0
        have hfz12_1 := blk_frozen BK230.out 1
        have hfz12_2 := blk_frozen BK230.out 2
        go_wp2
        go_loopg [4] k1 (fun kq v4 w' => ∃ (x4_2 : Int) (x231001_2 : List Bool), v4 = .int .i64 x4_2 ∧ Aside0 (plunderlaw23_over.l1 kq x4_2 x231000_1 x231001_2 l0_2 = some (r1, r2, r3, r4)) ∧ Aside0 (kq ≤ k1) ∧ Aside0 (Kd.R k46 46 w' w0.heap.size (fun k_ => ((P0_0_ k_ ∨ P0_1_ k_ ∨ P0_2_ k_) ∨ w.heap.size ≤ k_)) (.slice Ao2 x231000_1.length co2) x231000_1) ∧ Aside0 (Kd.R Kd.bool 4 w' w0.heap.size (fun k_ => ((P0_0_ k_ ∨ P0_1_ k_ ∨ P0_2_ k_) ∨ w.heap.size ≤ k_)) (.slice Ao3 l0_1.length co3) x231001_2) ∧ Aside0 (Kd.R (Kd.int .i64) 3 w' w0.heap.size (fun k_ => ((P0_0_ k_ ∨ P0_1_ k_ ∨ P0_2_ k_) ∨ w.heap.size ≤ k_)) (.slice Ao4 l0_2.length co4) l0_2) ∧ Aside0 (w'.heap[gb230]? = some (.cells #[(.slice Ao2 x231000_1.length co2), (.slice Ao3 l0_1.length co3), (.slice Ao4 l0_2.length co4)] 26 (0, 0))) ∧ Aside0 (Kept w w' (fun k_ => P0_0_ k_ ∨ P0_1_ k_ ∨ P0_2_ k_)) ∧ Aside0 (Below w0.heap.size w0 w'))
        case atStart => exact ⟨(0), (l0_1), (by first | rfl | (simp; done) | (simp [*]; done)), H', ⟨Nat.le_refl _⟩, ⟨by (try simp only [hl231000_1]); (with_reducible repeat (first | apply Kd.R_alloc | apply Kd.R_drewN | apply Kd.R_drew)); exact HO_231000.out⟩, ⟨by (try simp only [hl231000_1]); (with_reducible repeat (first | apply Kd.R_alloc | apply Kd.R_drewN | apply Kd.R_drew)); exact HO_231001.out⟩, ⟨by (try simp only [hl231000_1]); (with_reducible repeat (first | apply Kd.R_alloc | apply Kd.R_drewN | apply Kd.R_drew)); exact HO_231002.out⟩, ⟨by (try simp only [hl231000_1]); (with_reducible repeat (first | refine blk_drewN ?_ _ | refine blk_drew ?_ | refine blk_alloc ?_ _)); exact BK230.out⟩, ⟨by repeat (first | (with_reducible first | exact HK.out | apply Kept.alloc | apply Kept.drewN | apply Kept.drew | refine Kept.setCell ?_ (.inr GW230.out) _) | exact HK.out)⟩, ⟨by repeat (first | (with_reducible first | exact HB.out | apply below_alloc | apply pw_below_drewN | apply below_drew1 | refine below_set ?_ GE230.out) | exact HB.out)⟩⟩
        case round =>
          clear H'
          try clear c1
          try clear p2
          try clear q2
          try clear hx2
          try clear c6
          try clear c6b0
          try clear p6
          try clear c7
          try clear c7b0
          try clear c8
          try clear p8
          try clear q8
          try clear hx8
          try clear hf8
          try clear c10
          try clear c11
          try clear hcz12_0
          try clear hcz12_1
          try clear hcz12_2
          try clear hcz9_0
          try clear hcz9_1
          try clear hcz9_2
          try clear hfz12_0
          try clear hfz12_1
          try clear hfz12_2
          try clear hfz9_0
          try clear hfz9_1
          try clear hfz9_2
          try clear hx231_0
          try clear hx231_1
          try clear hx8_0
          try clear hx8_1
          try clear p2
          try clear p231
          try clear p8
          try clear q231
          try clear q8
          obtain ⟨x4_2, x231001_2, rfl, HA, HK2, HO_231000, HO_231001, HO_231002, BK230, HK, HB⟩ := hrel
          have hl231001_2 := (Kd.R_reads' HO_231001.out).1
          rw [hl231001_2] at HO_231001
          (try simp only [hl231001_2])
          (try simp only [hl231001_2] at BK230)
          (try simp only [hl231001_2] at HO_231000)
          (try simp only [hl231001_2] at HO_231002)
          cases gk with
          | zero => exact absurd HA.out (by simp [plunderlaw23_over.l1])
          | succ k2 =>
            have H := HA.out
            clear HA
            simp only [plunderlaw23_over.l1] at H
            by_cases c13 : x4_2 < (x231001_2.length : Int)
            · rw [if_pos c13] at H
              have c13b0 : decide (x4_2 < (x231001_2.length : Int)) = true := decide_eq_true c13
              clear c13
              by_cases c14 : 0 ≤ x4_2
              · rw [if_pos c14] at H
                have c14b0 : decide (0 ≤ x4_2) = true := decide_eq_true c14
                clear c14
                obtain ⟨y234, hy234⟩ : ∃ y_ : List Bool, y_ = (x231001_2.set (x4_2 : Int).toNat (!(rdOf false x231001_2 x4_2))) := ⟨_, rfl⟩
                replace H : (plunderlaw23_over.l1 k2 (wrap64 (x4_2 + 1)) x231000_1 y234 l0_2) = some (r1, r2, r3, r4) := by first | (rw [hy234]; with_reducible exact H) | (have H2_ := (Option.bind_some _ _).symm.trans H; rw [hy234]; with_reducible exact H2_) | (have H2_ := (Option.bind_some _ _).symm.trans H; with_reducible exact H2_) | with_reducible exact H | (rw [hy234]; exact H) | exact H
                have Ny234 := Aside0.mk hy234
                clear hy234
                have H' := Aside0.mk H
                clear H
                have hcz16_0 : wr.cell? ⟨gb230, 0, none⟩ = some (.slice Ao2 x231000_1.length co2) := (blk_cell BK230.out 0).trans rfl
                have hcz16_1 : wr.cell? ⟨gb230, 1, none⟩ = some (.slice Ao3 x231001_2.length co3) := (blk_cell BK230.out 1).trans rfl
                have hcz16_2 : wr.cell? ⟨gb230, 2, none⟩ = some (.slice Ao4 l0_2.length co4) := (blk_cell BK230.out 2).trans rfl
                have hfz16_0 := blk_frozen BK230.out 0
                have hfz16_1 := blk_frozen BK230.out 1
                have hfz16_2 := blk_frozen BK230.out 2
                try go_wp2
                have n0_ := Aside0.mk (Kd.R_drew HO_231000.out)
                have n1_ := Aside0.mk (Kd.R_drew HO_231001.out)
                have n2_ := Aside0.mk (Kd.R_drew HO_231002.out)
                have n3_ := Aside0.mk (blk_drew BK230.out)
                have n4_ := Aside0.mk (Kept.drew HK.out)
                have n5_ := Aside0.mk (below_drew1 HB.out)
                clear HO_231000
                clear HO_231001
                clear HO_231002
                clear BK230
                clear HK
                clear HB
                have HO_231000 := n0_
                have HO_231001 := n1_
                have HO_231002 := n2_
                have BK230 := n3_
                have HK := n4_
                have HB := n5_
                clear n0_ n1_ n2_ n3_ n4_ n5_
                have p233 : 0 ≤ (x4_2 : Int) := of_decide_eq_true (by first | (with_reducible assumption) | assumption)
                have q233 : x4_2 < (x231001_2.length : Int) := of_decide_eq_true (by first | (with_reducible assumption) | assumption)
                obtain ⟨ad233, e233, hx233_0⟩ := Kd.at_bool (Kd.R_reads' HO_231001.out).2.2 x4_2 p233 q233
                cases e233
                replace p233 := eq_true p233
                replace q233 := eq_true q233
                have p15 : 0 ≤ (x4_2 : Int) := of_decide_eq_true (by first | (with_reducible assumption) | assumption)
                have q15 : (x4_2 : Int) < ((x231001_2.length : Int) : Int) := of_decide_eq_true (by first | (with_reducible assumption) | assumption)
                obtain ⟨go15, co15, eo15, gb15, gl15, cl15, HG15⟩ := Kd.R_form HO_231001.out (by omega)
                (first | cases eo15 | (injection eo15 with ea_ en_ ec_; (first | subst ea_ | (injection ea_ with ea_; subst ea_)); subst ec_; clear en_))
                have GB15 := Aside0.mk gb15
                have GG15 := Aside0.mk HG15
                clear gb15 gl15 HG15
                have HMgo15 := Aside0.mk (show ((P0_0_ go15 ∨ P0_1_ go15 ∨ P0_2_ go15) ∨ w.heap.size ≤ go15) from (HO_231001.out.1 _ rfl))
                (first | simp only [add_plain] at hx233_0 | skip)
                obtain ⟨hx15_0, hf15_0⟩ := Kd.R_celln false HO_231001.out (x4_2 : Int) p15 q15
                replace p15 := eq_true p15
                replace q15 := eq_true q15
                have HP18 := Kd.R_putn HO_231001.out (x4_2 : Int) (!(rdOf false x231001_2 x4_2))
                rw [← Ny234.out] at HP18
                have HQ18 := Aside0.mk HP18
                clear HP18
                refine start_ (n := 11) (S := fun w' => w'.cell? ⟨gb230, 0, none⟩ = some (.slice Ao2 x231000_1.length co2) ∧ w'.cell? ⟨gb230, 1, none⟩ = some (.slice (some ⟨go15, 0, none⟩) x231001_2.length co3) ∧ w'.cell? ⟨gb230, 2, none⟩ = some (.slice Ao4 l0_2.length co4) ∧ w'.cell? ⟨go15, (x4_2).toNat, none⟩ = some (.bool (rdOf false x231001_2 x4_2))) (ds := [10]) #[false, false, false, false, false, false, false, false, false, false, false] (by kernel_rfl) rfl rfl ⟨(blk_cell BK230.out 0).trans rfl, (blk_cell BK230.out 1).trans rfl, (blk_cell BK230.out 2).trans rfl, hx233_0⟩ (fun hHeld => ?_); refine with_tabW plunderlaw23_over.tab8 plunderlaw23_over.bits8 (fun HT_ HW_ => ?_)
                generalize wr.drew = w17 at HO_231000 HO_231001 HO_231002 BK230 HK HB GG15 HQ18 hf15_0 hx15_0 hx233_0 hHeld ⊢
                refine pure_ (i := 0) (N := some 32) (v := ?_) (a' := ?_) #[true, false, false, false, false, false, false, false, false, false, false] rfl rfl (any_of HT_.out (by kernel_rfl)) (fun _ _ _ h => h) (Or.inl ⟨by rfl, ?_⟩) ?_ ?_
                rotate_left
                · intro w'
                  go_simp
                  with_reducible rfl
                rotate_left
                · simp only [Act.put, List.setIfInBounds_toArray, List.set_cons_zero, List.set_cons_succ, i64_w, i32_w]
                  rfl
                refine pure_ (i := 2) (N := some 34) (v := ?_) (a' := ?_) #[true, false, true, false, false, false, false, false, false, false, false] rfl rfl (any_of HT_.out (by kernel_rfl)) (fun _ _ _ h => h) (Or.inl ⟨by rfl, ?_⟩) ?_ ?_
                rotate_left
                · intro w'
                  go_simp
                  with_reducible rfl
                rotate_left
                · simp only [Act.put, List.setIfInBounds_toArray, List.set_cons_zero, List.set_cons_succ, i64_w, i32_w]
                  rfl
                refine pure_ (i := 3) (N := some 35) (v := ?_) (a' := ?_) #[true, false, true, true, false, false, false, false, false, false, false] rfl rfl (any_of HT_.out (by kernel_rfl)) (fun _ _ _ h => h) (Or.inl ⟨by rfl, ?_⟩) ?_ ?_
                rotate_left
                · intro w'
                  go_simp
                  with_reducible rfl
                rotate_left
                · simp only [Act.put, List.setIfInBounds_toArray, List.set_cons_zero, List.set_cons_succ, i64_w, i32_w]
                  rfl
                refine pure_ (i := 5) (N := some 37) (v := ?_) (a' := ?_) #[true, false, true, true, false, true, false, false, false, false, false] rfl rfl (any_of HT_.out (by kernel_rfl)) (fun _ _ _ h => h) (Or.inl ⟨by rfl, ?_⟩) ?_ ?_
                rotate_left
                · intro w'
                  go_simp
                  with_reducible rfl
                rotate_left
                · simp only [Act.put, List.setIfInBounds_toArray, List.set_cons_zero, List.set_cons_succ, i64_w, i32_w]
                  rfl
                refine take_ (i := 1) (N := some 33) (v := ?_) (a' := ?_) #[true, true, true, true, false, true, false, false, false, false, false] rfl rfl (take_ofW HT_.out HW_.out (by kernel_rfl)) (fun _ _ _ h => h) (Or.inl ⟨by rfl, ?_⟩) hHeld ?_ ?_
                rotate_left
                · rintro w' ⟨s0, s1, s2, s3⟩
                  go_simp
                  with_reducible rfl
                rotate_left
                · simp only [Act.put, List.setIfInBounds_toArray, List.set_cons_zero, List.set_cons_succ, i64_w, i32_w]
                  rfl
                refine take_ (i := 4) (N := some 36) (v := ?_) (a' := ?_) #[true, true, true, true, true, true, false, false, false, false, false] rfl rfl (take_ofW HT_.out HW_.out (by kernel_rfl)) (fun _ _ _ h => h) (Or.inl ⟨by rfl, ?_⟩) hHeld ?_ ?_
                rotate_left
                · rintro w' ⟨s0, s1, s2, s3⟩
                  go_simp
                  with_reducible rfl
                rotate_left
                · simp only [Act.put, List.setIfInBounds_toArray, List.set_cons_zero, List.set_cons_succ, i64_w, i32_w]
                  rfl
                refine pure_ (i := 6) (N := some 38) (v := ?_) (a' := ?_) #[true, true, true, true, true, true, true, false, false, false, false] rfl rfl (any_of HT_.out (by kernel_rfl)) (fun _ _ _ h => h) (Or.inl ⟨by rfl, ?_⟩) ?_ ?_
                rotate_left
                · intro w'
                  go_simp
                  with_reducible rfl
                rotate_left
                · simp only [Act.put, List.setIfInBounds_toArray, List.set_cons_zero, List.set_cons_succ, i64_w, i32_w]
                  rfl
                refine take_ (i := 7) (N := some 39) (v := ?_) (a' := ?_) #[true, true, true, true, true, true, true, true, false, false, false] rfl rfl (take_ofW HT_.out HW_.out (by kernel_rfl)) (fun _ _ _ h => h) (Or.inl ⟨by rfl, ?_⟩) hHeld ?_ ?_
                rotate_left
                · rintro w' ⟨s0, s1, s2, s3⟩
                  go_simp
                  with_reducible rfl
                rotate_left
                · simp only [Act.put, List.setIfInBounds_toArray, List.set_cons_zero, List.set_cons_succ, i64_w, i32_w]
                  rfl
                refine pure_ (i := 8) (N := some 40) (v := ?_) (a' := ?_) #[true, true, true, true, true, true, true, true, true, false, false] rfl rfl (any_of HT_.out (by kernel_rfl)) (fun _ _ _ h => h) (Or.inl ⟨by rfl, ?_⟩) ?_ ?_
                rotate_left
                · intro w'
                  go_simp
                  with_reducible rfl
                rotate_left
                · simp only [Act.put, List.setIfInBounds_toArray, List.set_cons_zero, List.set_cons_succ, i64_w, i32_w]
                  rfl
                refine pure_ (i := 9) (N := some 41) (v := ?_) (a' := ?_) #[true, true, true, true, true, true, true, true, true, true, false] rfl rfl (any_of HT_.out (by kernel_rfl)) (fun _ _ _ h => h) (Or.inl ⟨by rfl, ?_⟩) ?_ ?_
                rotate_left
                · intro w'
                  go_simp
                  with_reducible rfl
                rotate_left
                · simp only [Act.put, List.setIfInBounds_toArray, List.set_cons_zero, List.set_cons_succ, i64_w, i32_w]
                  rfl
                refine last_ (i := 10) (N := none) #[true, true, true, true, true, true, true, true, true, true, true] rfl rfl (one_of HT_.out (by kernel_rfl)) (by decide) (fun K hK => ?_)
                refine skip_ (w1 := ?_) (by rfl) rfl ?_ ?_
                rotate_left
                · go_simp
                  rfl
                refine hK.out _ _ ?_
                clear hK K
                refine done_ (done_of HT_.out (by kernel_rfl)) ?_
                try go_wp2
                (try simp only [← hl231001_2])
                go_roundg k2
                case measure => have := HK1.out; have := HK2.out; omega
                case rel => exact ⟨(wrap64 (x4_2 + 1)), (y234), (by first | rfl | (simp; done) | (simp [*]; done)), H', ⟨by have := HK1.out; have := HK2.out; omega⟩, ⟨by (try simp only [hl231000_1]); (try simp only [hl231001_2]); (with_reducible repeat (first | apply Kd.R_alloc | apply Kd.R_drewN | apply Kd.R_drew)); exact Kd.R_mono (Kd.R_far (p := ⟨go15, (x4_2 : Int).toNat, none⟩) (Kd.R_types HO_231000.out GG15.out (by decide)) (fun _ hk => hk.2) (.bool (!(rdOf false x231001_2 x4_2)))) (fun _ hk => hk.1)⟩, ⟨by (try simp only [hl231000_1]); (try simp only [hl231001_2]); (with_reducible repeat (first | apply Kd.R_alloc | apply Kd.R_drewN | apply Kd.R_drew)); exact HQ18.out⟩, ⟨by (try simp only [hl231000_1]); (try simp only [hl231001_2]); (with_reducible repeat (first | apply Kd.R_alloc | apply Kd.R_drewN | apply Kd.R_drew)); exact Kd.R_mono (Kd.R_far (p := ⟨go15, (x4_2 : Int).toNat, none⟩) (Kd.R_types HO_231002.out GG15.out (by decide)) (fun _ hk => hk.2) (.bool (!(rdOf false x231001_2 x4_2)))) (fun _ hk => hk.1)⟩, ⟨by (try simp only [hl231000_1]); (try simp only [hl231001_2]); (with_reducible repeat (first | refine blk_drewN ?_ _ | refine blk_drew ?_ | refine blk_alloc ?_ _)); refine blk_far ?_ (by have h_ := Kd.R_ne HO_231001.out BK230.out (by decide); intro e_; exact h_ (by rw [e_]; rfl)) _; (with_reducible repeat (first | refine blk_drewN ?_ _ | refine blk_drew ?_ | refine blk_alloc ?_ _)); exact BK230.out⟩, ⟨by repeat (first | (with_reducible first | exact HK.out | apply Kept.alloc | apply Kept.drewN | apply Kept.drew | refine Kept.setCell ?_ HMgo15.out _ | refine Kept.setCell ?_ (.inr GW230.out) _) | exact HK.out)⟩, ⟨by repeat (first | (with_reducible first | exact HB.out | apply below_alloc | apply pw_below_drewN | apply below_drew1 | refine below_set ?_ GB15.out | refine below_set ?_ GE230.out) | exact HB.out)⟩⟩
              · rw [if_neg c14] at H
                exact absurd H (by simp)
            · rw [if_neg c13] at H
              have c13b0 : decide (x4_2 < (x231001_2.length : Int)) = false := decide_eq_false c13
              clear c13
              have H' := Aside0.mk H
              clear H
              have hcz19_0 : wr.cell? ⟨gb230, 0, none⟩ = some (.slice Ao2 x231000_1.length co2) := (blk_cell BK230.out 0).trans rfl
              have hcz19_1 : wr.cell? ⟨gb230, 1, none⟩ = some (.slice Ao3 x231001_2.length co3) := (blk_cell BK230.out 1).trans rfl
              have hcz19_2 : wr.cell? ⟨gb230, 2, none⟩ = some (.slice Ao4 l0_2.length co4) := (blk_cell BK230.out 2).trans rfl
              have hfz19_0 := blk_frozen BK230.out 0
              have hfz19_1 := blk_frozen BK230.out 1
              have hfz19_2 := blk_frozen BK230.out 2
              go_wp2
              go_loopg [5] k2 (fun kq v5 w' => ∃ (x5_3 : Int) (x231002_3 : List Int), v5 = .int .i64 x5_3 ∧ Aside0 (plunderlaw23_over.l2 kq x5_3 x231000_1 x231001_2 x231002_3 = some (r1, r2, r3, r4)) ∧ Aside0 (kq ≤ k2) ∧ Aside0 (Kd.R k46 46 w' w0.heap.size (fun k_ => ((P0_0_ k_ ∨ P0_1_ k_ ∨ P0_2_ k_) ∨ w.heap.size ≤ k_)) (.slice Ao2 x231000_1.length co2) x231000_1) ∧ Aside0 (Kd.R Kd.bool 4 w' w0.heap.size (fun k_ => ((P0_0_ k_ ∨ P0_1_ k_ ∨ P0_2_ k_) ∨ w.heap.size ≤ k_)) (.slice Ao3 x231001_2.length co3) x231001_2) ∧ Aside0 (Kd.R (Kd.int .i64) 3 w' w0.heap.size (fun k_ => ((P0_0_ k_ ∨ P0_1_ k_ ∨ P0_2_ k_) ∨ w.heap.size ≤ k_)) (.slice Ao4 l0_2.length co4) x231002_3) ∧ Aside0 (w'.heap[gb230]? = some (.cells #[(.slice Ao2 x231000_1.length co2), (.slice Ao3 x231001_2.length co3), (.slice Ao4 l0_2.length co4)] 26 (0, 0))) ∧ Aside0 (Kept w w' (fun k_ => P0_0_ k_ ∨ P0_1_ k_ ∨ P0_2_ k_)) ∧ Aside0 (Below w0.heap.size w0 w'))
              case atStart => exact ⟨(0), (l0_2), (by first | rfl | (simp; done) | (simp [*]; done)), H', ⟨Nat.le_refl _⟩, ⟨by (try simp only [hl231000_1]); (try simp only [hl231001_2]); (with_reducible repeat (first | apply Kd.R_alloc | apply Kd.R_drewN | apply Kd.R_drew)); exact HO_231000.out⟩, ⟨by (try simp only [hl231000_1]); (try simp only [hl231001_2]); (with_reducible repeat (first | apply Kd.R_alloc | apply Kd.R_drewN | apply Kd.R_drew)); exact HO_231001.out⟩, ⟨by (try simp only [hl231000_1]); (try simp only [hl231001_2]); (with_reducible repeat (first | apply Kd.R_alloc | apply Kd.R_drewN | apply Kd.R_drew)); exact HO_231002.out⟩, ⟨by (try simp only [hl231000_1]); (try simp only [hl231001_2]); (with_reducible repeat (first | refine blk_drewN ?_ _ | refine blk_drew ?_ | refine blk_alloc ?_ _)); exact BK230.out⟩, ⟨by repeat (first | (with_reducible first | exact HK.out | apply Kept.alloc | apply Kept.drewN | apply Kept.drew | refine Kept.setCell ?_ (.inr GW230.out) _) | exact HK.out)⟩, ⟨by repeat (first | (with_reducible first | exact HB.out | apply below_alloc | apply pw_below_drewN | apply below_drew1 | refine below_set ?_ GE230.out) | exact HB.out)⟩⟩
              case round =>
                clear H'
                try clear c1
                try clear p1
                try clear q1
                try clear hx1
                try clear hf1
                try clear p2
                try clear q2
                try clear hx2
                try clear c6
                try clear c6b0
                try clear p6
                try clear c7
                try clear c7b0
                try clear c8
                try clear p8
                try clear q8
                try clear hx8
                try clear hf8
                try clear c10
                try clear c11
                try clear c13
                try clear c13b0
                try clear c14
                try clear c14b0
                try clear p15
                try clear q15
                try clear hx15
                try clear hf15
                try clear hcz12_0
                try clear hcz12_1
                try clear hcz12_2
                try clear hcz16_0
                try clear hcz16_1
                try clear hcz16_2
                try clear hcz19_0
                try clear hcz19_1
                try clear hcz19_2
                try clear hcz9_0
                try clear hcz9_1
                try clear hcz9_2
                try clear hfz12_0
                try clear hfz12_1
                try clear hfz12_2
                try clear hfz16_0
                try clear hfz16_1
                try clear hfz16_2
                try clear hfz19_0
                try clear hfz19_1
                try clear hfz19_2
                try clear hfz9_0
                try clear hfz9_1
                try clear hfz9_2
                try clear hx15_0
                try clear hx231_0
                try clear hx231_1
                try clear hx233_0
                try clear hx8_0
                try clear hx8_1
                try clear p15
                try clear p2
                try clear p231
                try clear p233
                try clear p6
                try clear p8
                try clear q15
                try clear q2
                try clear q231
                try clear q233
                try clear q8
                obtain ⟨x5_3, x231002_3, rfl, HA, HK3, HO_231000, HO_231001, HO_231002, BK230, HK, HB⟩ := hrel
                have hl231002_3 := (Kd.R_reads' HO_231002.out).1
                rw [hl231002_3] at HO_231002
                (try simp only [hl231002_3])
                (try simp only [hl231002_3] at BK230)
                (try simp only [hl231002_3] at HO_231000)
                (try simp only [hl231002_3] at HO_231001)
                cases gk with
                | zero => exact absurd HA.out (by simp [plunderlaw23_over.l2])
                | succ k3 =>
                  have H := HA.out
                  clear HA
                  simp only [plunderlaw23_over.l2] at H
                  by_cases c20 : x5_3 < (x231002_3.length : Int)
                  · rw [if_pos c20] at H
                    have c20b0 : decide (x5_3 < (x231002_3.length : Int)) = true := decide_eq_true c20
                    clear c20
                    by_cases c21 : 0 ≤ x5_3
                    · rw [if_pos c21] at H
                      have c21b0 : decide (0 ≤ x5_3) = true := decide_eq_true c21
                      clear c21
                      obtain ⟨y236, hy236⟩ : ∃ y_ : List Int, y_ = (x231002_3.set (x5_3 : Int).toNat (Go.bits .xor .i64 (rd x231002_3 x5_3) 1)) := ⟨_, rfl⟩
                      replace H : (plunderlaw23_over.l2 k3 (wrap64 (x5_3 + 1)) x231000_1 x231001_2 y236) = some (r1, r2, r3, r4) := by first | (rw [hy236]; with_reducible exact H) | (have H2_ := (Option.bind_some _ _).symm.trans H; rw [hy236]; with_reducible exact H2_) | (have H2_ := (Option.bind_some _ _).symm.trans H; with_reducible exact H2_) | with_reducible exact H | (rw [hy236]; exact H) | exact H
                      have Ny236 := Aside0.mk hy236
                      clear hy236
                      have H' := Aside0.mk H
                      clear H
                      have hcz23_0 : wr.cell? ⟨gb230, 0, none⟩ = some (.slice Ao2 x231000_1.length co2) := (blk_cell BK230.out 0).trans rfl
                      have hcz23_1 : wr.cell? ⟨gb230, 1, none⟩ = some (.slice Ao3 x231001_2.length co3) := (blk_cell BK230.out 1).trans rfl
                      have hcz23_2 : wr.cell? ⟨gb230, 2, none⟩ = some (.slice Ao4 x231002_3.length co4) := (blk_cell BK230.out 2).trans rfl
                      have hfz23_0 := blk_frozen BK230.out 0
                      have hfz23_1 := blk_frozen BK230.out 1
                      have hfz23_2 := blk_frozen BK230.out 2
                      try go_wp2
                      have n0_ := Aside0.mk (Kd.R_drew HO_231000.out)
                      have n1_ := Aside0.mk (Kd.R_drew HO_231001.out)
                      have n2_ := Aside0.mk (Kd.R_drew HO_231002.out)
                      have n3_ := Aside0.mk (blk_drew BK230.out)
                      have n4_ := Aside0.mk (Kept.drew HK.out)
                      have n5_ := Aside0.mk (below_drew1 HB.out)
                      clear HO_231000
                      clear HO_231001
                      clear HO_231002
                      clear BK230
                      clear HK
                      clear HB
                      have HO_231000 := n0_
                      have HO_231001 := n1_
                      have HO_231002 := n2_
                      have BK230 := n3_
                      have HK := n4_
                      have HB := n5_
                      clear n0_ n1_ n2_ n3_ n4_ n5_
                      have p235 : 0 ≤ (x5_3 : Int) := of_decide_eq_true (by first | (with_reducible assumption) | assumption)
                      have q235 : x5_3 < (x231002_3.length : Int) := of_decide_eq_true (by first | (with_reducible assumption) | assumption)
                      obtain ⟨ad235, e235, hx235_0⟩ := Kd.at_int (Kd.R_reads' HO_231002.out).2.2 x5_3 p235 q235
                      cases e235
                      replace p235 := eq_true p235
                      replace q235 := eq_true q235
                      have p22 : 0 ≤ (x5_3 : Int) := of_decide_eq_true (by first | (with_reducible assumption) | assumption)
                      have q22 : (x5_3 : Int) < ((x231002_3.length : Int) : Int) := of_decide_eq_true (by first | (with_reducible assumption) | assumption)
                      obtain ⟨go22, co22, eo22, gb22, gl22, cl22, HG22⟩ := Kd.R_form HO_231002.out (by omega)
                      (first | cases eo22 | (injection eo22 with ea_ en_ ec_; (first | subst ea_ | (injection ea_ with ea_; subst ea_)); subst ec_; clear en_))
                      have GB22 := Aside0.mk gb22
                      have GG22 := Aside0.mk HG22
                      clear gb22 gl22 HG22
                      have HMgo22 := Aside0.mk (show ((P0_0_ go22 ∨ P0_1_ go22 ∨ P0_2_ go22) ∨ w.heap.size ≤ go22) from (HO_231002.out.1 _ rfl))
                      (first | simp only [add_plain] at hx235_0 | skip)
                      obtain ⟨hx22_0, hf22_0⟩ := Kd.R_celln 0 HO_231002.out (x5_3 : Int) p22 q22
                      replace p22 := eq_true p22
                      replace q22 := eq_true q22
                      have HP25 := Kd.R_putn HO_231002.out (x5_3 : Int) (Go.bits .xor .i64 (rd x231002_3 x5_3) 1)
                      rw [← Ny236.out] at HP25
                      have HQ25 := Aside0.mk HP25
                      clear HP25
                      refine start_ (n := 11) (S := fun w' => w'.cell? ⟨gb230, 0, none⟩ = some (.slice Ao2 x231000_1.length co2) ∧ w'.cell? ⟨gb230, 1, none⟩ = some (.slice Ao3 x231001_2.length co3) ∧ w'.cell? ⟨gb230, 2, none⟩ = some (.slice (some ⟨go22, 0, none⟩) x231002_3.length co4) ∧ w'.cell? ⟨go22, (x5_3).toNat, none⟩ = some (.int .i64 (rd x231002_3 x5_3))) (ds := [10]) #[false, false, false, false, false, false, false, false, false, false, false] (by kernel_rfl) rfl rfl ⟨(blk_cell BK230.out 0).trans rfl, (blk_cell BK230.out 1).trans rfl, (blk_cell BK230.out 2).trans rfl, hx235_0⟩ (fun hHeld => ?_); refine with_tabW plunderlaw23_over.tab12 plunderlaw23_over.bits12 (fun HT_ HW_ => ?_)
                      generalize wr.drew = w24 at HO_231000 HO_231001 HO_231002 BK230 HK HB GG22 HQ25 hf22_0 hx22_0 hx235_0 hHeld ⊢
                      refine pure_ (i := 0) (N := some 49) (v := ?_) (a' := ?_) #[true, false, false, false, false, false, false, false, false, false, false] rfl rfl (any_of HT_.out (by kernel_rfl)) (fun _ _ _ h => h) (Or.inl ⟨by rfl, ?_⟩) ?_ ?_
                      rotate_left
                      · intro w'
                        go_simp
                        with_reducible rfl
                      rotate_left
                      · simp only [Act.put, List.setIfInBounds_toArray, List.set_cons_zero, List.set_cons_succ, i64_w, i32_w]
                        rfl
                      refine pure_ (i := 2) (N := some 51) (v := ?_) (a' := ?_) #[true, false, true, false, false, false, false, false, false, false, false] rfl rfl (any_of HT_.out (by kernel_rfl)) (fun _ _ _ h => h) (Or.inl ⟨by rfl, ?_⟩) ?_ ?_
                      rotate_left
                      · intro w'
                        go_simp
                        with_reducible rfl
                      rotate_left
                      · simp only [Act.put, List.setIfInBounds_toArray, List.set_cons_zero, List.set_cons_succ, i64_w, i32_w]
                        rfl
                      refine pure_ (i := 3) (N := some 52) (v := ?_) (a' := ?_) #[true, false, true, true, false, false, false, false, false, false, false] rfl rfl (any_of HT_.out (by kernel_rfl)) (fun _ _ _ h => h) (Or.inl ⟨by rfl, ?_⟩) ?_ ?_
                      rotate_left
                      · intro w'
                        go_simp
                        with_reducible rfl
                      rotate_left
                      · simp only [Act.put, List.setIfInBounds_toArray, List.set_cons_zero, List.set_cons_succ, i64_w, i32_w]
                        rfl
                      refine pure_ (i := 5) (N := some 54) (v := ?_) (a' := ?_) #[true, false, true, true, false, true, false, false, false, false, false] rfl rfl (any_of HT_.out (by kernel_rfl)) (fun _ _ _ h => h) (Or.inl ⟨by rfl, ?_⟩) ?_ ?_
                      rotate_left
                      · intro w'
                        go_simp
                        with_reducible rfl
                      rotate_left
                      · simp only [Act.put, List.setIfInBounds_toArray, List.set_cons_zero, List.set_cons_succ, i64_w, i32_w]
                        rfl
                      refine take_ (i := 1) (N := some 50) (v := ?_) (a' := ?_) #[true, true, true, true, false, true, false, false, false, false, false] rfl rfl (take_ofW HT_.out HW_.out (by kernel_rfl)) (fun _ _ _ h => h) (Or.inl ⟨by rfl, ?_⟩) hHeld ?_ ?_
                      rotate_left
                      · rintro w' ⟨s0, s1, s2, s3⟩
                        go_simp
                        with_reducible rfl
                      rotate_left
                      · simp only [Act.put, List.setIfInBounds_toArray, List.set_cons_zero, List.set_cons_succ, i64_w, i32_w]
                        rfl
                      refine take_ (i := 4) (N := some 53) (v := ?_) (a' := ?_) #[true, true, true, true, true, true, false, false, false, false, false] rfl rfl (take_ofW HT_.out HW_.out (by kernel_rfl)) (fun _ _ _ h => h) (Or.inl ⟨by rfl, ?_⟩) hHeld ?_ ?_
                      rotate_left
                      · rintro w' ⟨s0, s1, s2, s3⟩
                        go_simp
                        with_reducible rfl
                      rotate_left
                      · simp only [Act.put, List.setIfInBounds_toArray, List.set_cons_zero, List.set_cons_succ, i64_w, i32_w]
                        rfl
                      refine pure_ (i := 6) (N := some 55) (v := ?_) (a' := ?_) #[true, true, true, true, true, true, true, false, false, false, false] rfl rfl (any_of HT_.out (by kernel_rfl)) (fun _ _ _ h => h) (Or.inl ⟨by rfl, ?_⟩) ?_ ?_
                      rotate_left
                      · intro w'
                        go_simp
                        with_reducible rfl
                      rotate_left
                      · simp only [Act.put, List.setIfInBounds_toArray, List.set_cons_zero, List.set_cons_succ, i64_w, i32_w]
                        rfl
                      refine take_ (i := 7) (N := some 56) (v := ?_) (a' := ?_) #[true, true, true, true, true, true, true, true, false, false, false] rfl rfl (take_ofW HT_.out HW_.out (by kernel_rfl)) (fun _ _ _ h => h) (Or.inl ⟨by rfl, ?_⟩) hHeld ?_ ?_
                      rotate_left
                      · rintro w' ⟨s0, s1, s2, s3⟩
                        go_simp
                        with_reducible rfl
                      rotate_left
                      · simp only [Act.put, List.setIfInBounds_toArray, List.set_cons_zero, List.set_cons_succ, i64_w, i32_w]
                        rfl
                      refine pure_ (i := 8) (N := some 57) (v := ?_) (a' := ?_) #[true, true, true, true, true, true, true, true, true, false, false] rfl rfl (any_of HT_.out (by kernel_rfl)) (fun _ _ _ h => h) (Or.inl ⟨by rfl, ?_⟩) ?_ ?_
                      rotate_left
                      · intro w'
                        go_simp
                        with_reducible rfl
                      rotate_left
                      · simp only [Act.put, List.setIfInBounds_toArray, List.set_cons_zero, List.set_cons_succ, i64_w, i32_w]
                        rfl
                      refine pure_ (i := 9) (N := some 58) (v := ?_) (a' := ?_) #[true, true, true, true, true, true, true, true, true, true, false] rfl rfl (any_of HT_.out (by kernel_rfl)) (fun _ _ _ h => h) (Or.inl ⟨by rfl, ?_⟩) ?_ ?_
                      rotate_left
                      · intro w'
                        go_simp
                        with_reducible rfl
                      rotate_left
                      · simp only [Act.put, List.setIfInBounds_toArray, List.set_cons_zero, List.set_cons_succ, i64_w, i32_w]
                        rfl
                      refine last_ (i := 10) (N := none) #[true, true, true, true, true, true, true, true, true, true, true] rfl rfl (one_of HT_.out (by kernel_rfl)) (by decide) (fun K hK => ?_)
                      refine skip_ (w1 := ?_) (by rfl) rfl ?_ ?_
                      rotate_left
                      · go_simp
                        rfl
                      refine hK.out _ _ ?_
                      clear hK K
                      refine done_ (done_of HT_.out (by kernel_rfl)) ?_
                      try go_wp2
                      (try simp only [← hl231002_3])
                      go_roundg k3
                      case measure => have := HK1.out; have := HK2.out; have := HK3.out; omega
                      case rel => exact ⟨(wrap64 (x5_3 + 1)), (y236), (by first | rfl | (simp; done) | (simp [*]; done)), H', ⟨by have := HK1.out; have := HK2.out; have := HK3.out; omega⟩, ⟨by (try simp only [hl231000_1]); (try simp only [hl231001_2]); (try simp only [hl231002_3]); (with_reducible repeat (first | apply Kd.R_alloc | apply Kd.R_drewN | apply Kd.R_drew)); exact Kd.R_mono (Kd.R_far (p := ⟨go22, (x5_3 : Int).toNat, none⟩) (Kd.R_types HO_231000.out GG22.out (by decide)) (fun _ hk => hk.2) (.int .i64 (Go.bits .xor .i64 (rd x231002_3 x5_3) 1))) (fun _ hk => hk.1)⟩, ⟨by (try simp only [hl231000_1]); (try simp only [hl231001_2]); (try simp only [hl231002_3]); (with_reducible repeat (first | apply Kd.R_alloc | apply Kd.R_drewN | apply Kd.R_drew)); exact Kd.R_mono (Kd.R_far (p := ⟨go22, (x5_3 : Int).toNat, none⟩) (Kd.R_types HO_231001.out GG22.out (by decide)) (fun _ hk => hk.2) (.int .i64 (Go.bits .xor .i64 (rd x231002_3 x5_3) 1))) (fun _ hk => hk.1)⟩, ⟨by (try simp only [hl231000_1]); (try simp only [hl231001_2]); (try simp only [hl231002_3]); (with_reducible repeat (first | apply Kd.R_alloc | apply Kd.R_drewN | apply Kd.R_drew)); exact HQ25.out⟩, ⟨by (try simp only [hl231000_1]); (try simp only [hl231001_2]); (try simp only [hl231002_3]); (with_reducible repeat (first | refine blk_drewN ?_ _ | refine blk_drew ?_ | refine blk_alloc ?_ _)); refine blk_far ?_ (by have h_ := Kd.R_ne HO_231002.out BK230.out (by decide); intro e_; exact h_ (by rw [e_]; rfl)) _; (with_reducible repeat (first | refine blk_drewN ?_ _ | refine blk_drew ?_ | refine blk_alloc ?_ _)); exact BK230.out⟩, ⟨by repeat (first | (with_reducible first | exact HK.out | apply Kept.alloc | apply Kept.drewN | apply Kept.drew | refine Kept.setCell ?_ HMgo22.out _ | refine Kept.setCell ?_ (.inr GW230.out) _) | exact HK.out)⟩, ⟨by repeat (first | (with_reducible first | exact HB.out | apply below_alloc | apply pw_below_drewN | apply below_drew1 | refine below_set ?_ GB22.out | refine below_set ?_ GE230.out) | exact HB.out)⟩⟩
                    · rw [if_neg c21] at H
                      exact absurd H (by simp)
                  · rw [if_neg c20] at H
                    have c20b0 : decide (x5_3 < (x231002_3.length : Int)) = false := decide_eq_false c20
                    clear c20
                    simp only [Option.some.injEq, Prod.mk.injEq] at H
                    obtain ⟨rfl, rfl, rfl, rfl⟩ := H
                    have hcz26_0 : wr.cell? ⟨gb230, 0, none⟩ = some (.slice Ao2 x231000_1.length co2) := (blk_cell BK230.out 0).trans rfl
                    have hcz26_1 : wr.cell? ⟨gb230, 1, none⟩ = some (.slice Ao3 x231001_2.length co3) := (blk_cell BK230.out 1).trans rfl
                    have hcz26_2 : wr.cell? ⟨gb230, 2, none⟩ = some (.slice Ao4 x231002_3.length co4) := (blk_cell BK230.out 2).trans rfl
                    have hfz26_0 := blk_frozen BK230.out 0
                    have hfz26_1 := blk_frozen BK230.out 1
                    have hfz26_2 := blk_frozen BK230.out 2
                    go_wp2
                    go_ret
                    exact ⟨by first | rfl | (simp [errW_none, errW_some] <;> rfl) | (simp [*, errW_none, errW_some] <;> rfl), (by first | exact (by (with_reducible repeat (first | apply Kd.R_alloc | apply Kd.R_drewN | apply Kd.R_drew)); exact HO_231000.out) | (simp only [hl231000_1, hl231001_2, hl231002_3]; exact (by (with_reducible repeat (first | apply Kd.R_alloc | apply Kd.R_drewN | apply Kd.R_drew)); exact HO_231000.out))), (by first | exact (by (with_reducible repeat (first | apply Kd.R_alloc | apply Kd.R_drewN | apply Kd.R_drew)); exact HO_231001.out) | (simp only [hl231000_1, hl231001_2, hl231002_3]; exact (by (with_reducible repeat (first | apply Kd.R_alloc | apply Kd.R_drewN | apply Kd.R_drew)); exact HO_231001.out))), (by first | exact (by (with_reducible repeat (first | apply Kd.R_alloc | apply Kd.R_drewN | apply Kd.R_drew)); exact HO_231002.out) | (simp only [hl231000_1, hl231001_2, hl231002_3]; exact (by (with_reducible repeat (first | apply Kd.R_alloc | apply Kd.R_drewN | apply Kd.R_drew)); exact HO_231002.out))), by repeat (first | (with_reducible first | exact HB.out | apply below_alloc | apply pw_below_drewN | apply below_drew1 | refine below_set ?_ GE230.out) | exact HB.out), by repeat (first | (with_reducible first | exact HK.out | apply Kept.alloc | apply Kept.drewN | apply Kept.drew | refine Kept.setCell ?_ (.inr GW230.out) _) | exact HK.out)⟩

end Go.Proofs.YtamfkglnejhjdaaDoor.PHyperFold
