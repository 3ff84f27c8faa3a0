/- What the document's operations answer: contracts (began as printed texts). -/
import Derived.Test.YtamfkglnejhjdaaDoorPHyperFoldx0
import Derived.Test.YtamfkglnejhjdaaDoorRefOpsA
namespace Go.Proofs.YtamfkglnejhjdaaDoor.PHyperFold
open Go.RowKit Go.Proofs.YtamfkglnejhjdaaDoorW.PrintWords Go.Proofs.YtamfkglnejhjdaaDoorW.PrintLast Go.Proofs.YtamfkglnejhjdaaDoorW.PrintMore
attribute [local go_sem] max2_int min2_int max_two min_two max_three min_three max_four min_four   -- for this text's walks alone
set_option linter.unusedVariables false
set_option linter.unusedSimpArgs false

def plunderref1_compare.f (a0 : Int) (a1 : Int) (a2 : Int) : Option (Int) := if a0 = 10 then (if a1 < a2 then (some a1) else (some a2)) else (if a0 = 11 then (if a1 > a2 then (some a1) else (some a2)) else (if a0 = 12 then ((plunderref1_truth.f (decide (a1 < a2))).bind fun t144 => (some t144)) else (if a0 = 13 then ((plunderref1_truth.f (decide (a1 ≤ a2))).bind fun t145 => (some t145)) else (if a0 = 14 then ((plunderref1_truth.f (a1 == a2)).bind fun t146 => (some t146)) else ((plunderref1_truth.f (a1 != a2)).bind fun t147 => (some t147))))))
def plunderref1_work.f (k : Nat) (a0 : Int) (a1 : Int) (a2 : Int) : Option (Int) := if a0 = 0 then (some (wrap64 (a1 + a2))) else (if a0 = 1 then (some (wrap64 (a1 - a2))) else (if a0 = 2 then (some (wrap64 (a1 * a2))) else (if a0 = 3 then ((plunderref1_quot.f a1 a2).bind fun t148 => (some t148)) else (if a0 = 4 then ((plunderref1_quot.f a1 a2).bind fun t149 => (some (wrap64 (a1 - (wrap64 (t149 * a2)))))) else (if a0 = 5 then ((plunderref1_bits.f k a1 a2 true false).bind fun t150 => (some t150)) else (if a0 = 6 then ((plunderref1_bits.f k a1 a2 true true).bind fun t151 => (some t151)) else (if a0 = 7 then ((plunderref1_bits.f k a1 a2 false true).bind fun t152 => (some t152)) else (if a0 = 8 then ((plunderref1_shift.f a2).bind fun t153 => ((plunderref1_moved.f k a1 t153 true).bind fun t154 => (some t154))) else (if a0 = 9 then ((plunderref1_shift.f a2).bind fun t155 => ((plunderref1_moved.f k a1 t155 false).bind fun t156 => (some t156))) else ((plunderref1_compare.f a0 a1 a2).bind fun t157 => (some t157)))))))))))
theorem plunderref1_work.mono : ∀ a0 a1 a2 k, LeO (plunderref1_work.f k a0 a1 a2) (plunderref1_work.f (k + 1) a0 a1 a2) := by
  intro a0 a1 a2 k
  unfold plunderref1_work.f
  repeat' first
      | (with_reducible exact plunderref1_bits.mono _ _ _ _ _)
      | (with_reducible exact plunderref1_moved.mono _ _ _ _)
      | (with_reducible exact LeO.refl _)
      | (with_reducible exact LeO.none _)
      | (with_reducible refine LeO.ite ?_ ?_)
      | (with_reducible refine LeO.bind ?_ (fun _ => ?_))
      | exact plunderref1_bits.mono _ _ _ _ _
      | exact plunderref1_moved.mono _ _ _ _
      | exact LeO.none _
      | refine LeO.ite ?_ ?_
      | refine LeO.bind ?_ (fun _ => ?_)
def plunderref1_Fold.l0 : Nat → Int → List Int → Int → Int → Option (Int × Int)
  | 0, _, _, _, _ => none
  | k + 1, x0, x1, x7, x9 => if x9 < (x1.length : Int) then (if 0 ≤ x9 then ((plunderref1_work.f k x0 x7 (rd x1 x9)).bind fun t162 => (plunderref1_Fold.l0 k x0 x1 t162 (wrap64 (x9 + 1)))) else (none)) else (some (x7, 0))
def plunderref1_Fold.f (k : Nat) (a0 : Int) (l1 : List Int) : Option (Int × Int) := (plunderref1_folds.f k a0 (l1.length : Int)).bind fun t158 => (if t158 = 0 then ((plunderref1_Unit.f k a0).bind fun bt159 => (plunderref1_Fold.l0 k a0 l1 bt159.1 0)) else (some (0, t158)))
theorem plunderref1_Fold.mono_l : ∀ k, (∀ y0 y1 y2 y3, LeO (plunderref1_Fold.l0 k y0 y1 y2 y3) (plunderref1_Fold.l0 (k + 1) y0 y1 y2 y3))
  | 0 => fun _ _ _ _ r h => by simp [plunderref1_Fold.l0] at h
  | k + 1 => by
    have ih0 := plunderref1_Fold.mono_l k
    · intro y0 y1 y2 y3
      unfold plunderref1_Fold.l0
      repeat' first
      | (with_reducible exact ih0 _ _ _ _)
      | (with_reducible exact plunderref1_Unit.mono _ _)
      | (with_reducible exact plunderref1_folds.mono _ _ _)
      | (with_reducible exact plunderref1_work.mono _ _ _ _)
      | (with_reducible exact LeO.refl _)
      | (with_reducible exact LeO.none _)
      | (with_reducible refine LeO.ite ?_ ?_)
      | (with_reducible refine LeO.bind ?_ (fun _ => ?_))
      | exact ih0 _ _ _ _
      | exact plunderref1_Unit.mono _ _
      | exact plunderref1_folds.mono _ _ _
      | exact plunderref1_work.mono _ _ _ _
      | exact LeO.none _
      | refine LeO.ite ?_ ?_
      | refine LeO.bind ?_ (fun _ => ?_)
theorem plunderref1_Fold.mono : ∀ a0 a1 k, LeO (plunderref1_Fold.f k a0 a1) (plunderref1_Fold.f (k + 1) a0 a1) := by
  intro a0 a1 k
  have ih0 := plunderref1_Fold.mono_l k
  unfold plunderref1_Fold.f
  repeat' first
      | (with_reducible exact ih0 _ _ _ _)
      | (with_reducible exact plunderref1_Unit.mono _ _)
      | (with_reducible exact plunderref1_folds.mono _ _ _)
      | (with_reducible exact plunderref1_work.mono _ _ _ _)
      | (with_reducible exact LeO.refl _)
      | (with_reducible exact LeO.none _)
      | (with_reducible refine LeO.ite ?_ ?_)
      | (with_reducible refine LeO.bind ?_ (fun _ => ?_))
      | exact ih0 _ _ _ _
      | exact plunderref1_Unit.mono _ _
      | exact plunderref1_folds.mono _ _ _
      | exact plunderref1_work.mono _ _ _ _
      | exact LeO.none _
      | refine LeO.ite ?_ ?_
      | refine LeO.bind ?_ (fun _ => ?_)
mutual
def plunderref19_Check.l0 : Nat → List (S46) → Int → Int → Option (Int × Int)
  | 0, _, _, _ => none
  | k + 1, x0, x3, x4 => if x4 < (x0.length : Int) then (if 0 ≤ x4 then (if ((rd_T46 x0 x4).f0) < 0 then (plunderref19_Check.j1 k x0 x3 x4 ((rd_T46 x0 x4).f0) true) else (if ((rd_T46 x0 x4).f0) > 4 then (plunderref19_Check.j1 k x0 x3 x4 ((rd_T46 x0 x4).f0) true) else (if ((rd_T46 x0 x4).f0) = 1 then (plunderref19_Check.j1 k x0 x3 x4 ((rd_T46 x0 x4).f0) (x3 == 0)) else (plunderref19_Check.j1 k x0 x3 x4 ((rd_T46 x0 x4).f0) false)))) else (none)) else (some (0, 0))
def plunderref19_Check.j1 : Nat → List (S46) → Int → Int → Int → Bool → Option (Int × Int)
  | 0, _, _, _, _, _ => none
  | k + 1, x0, x3, x4, x5, x34 => if x34 = true then (some (190, x4)) else (if x5 = 0 then (if x5 = 1 then (plunderref19_Check.l0 k x0 (wrap64 ((wrap64 (x3 + 1)) - 1)) (wrap64 (x4 + 1))) else (plunderref19_Check.l0 k x0 (wrap64 (x3 + 1)) (wrap64 (x4 + 1)))) else (if x5 = 1 then (plunderref19_Check.l0 k x0 (wrap64 (x3 - 1)) (wrap64 (x4 + 1))) else (plunderref19_Check.l0 k x0 x3 (wrap64 (x4 + 1)))))
end
def plunderref19_Check.f (k : Nat) (l0 : List (S46)) : Option (Int × Int) := if (l0.length : Int) > 4096 then (some (2, 0)) else (plunderref19_Check.l0 k l0 0 0)
theorem plunderref19_Check.mono_l : ∀ k, (∀ y0 y1 y2, LeO (plunderref19_Check.l0 k y0 y1 y2) (plunderref19_Check.l0 (k + 1) y0 y1 y2)) ∧ (∀ y0 y1 y2 y3 y4, LeO (plunderref19_Check.j1 k y0 y1 y2 y3 y4) (plunderref19_Check.j1 (k + 1) y0 y1 y2 y3 y4))
  | 0 => ⟨fun _ _ _ r h => by simp [plunderref19_Check.l0] at h, fun _ _ _ _ _ r h => by simp [plunderref19_Check.j1] at h⟩
  | k + 1 => by
    obtain ⟨ih0, ih1⟩ := plunderref19_Check.mono_l k
    refine ⟨?_, ?_⟩
    · intro y0 y1 y2
      unfold plunderref19_Check.l0
      repeat' first
      | (with_reducible exact ih0 _ _ _)
      | (with_reducible exact ih1 _ _ _ _ _)
      | (with_reducible exact LeO.refl _)
      | (with_reducible exact LeO.none _)
      | (with_reducible refine LeO.ite ?_ ?_)
      | (with_reducible refine LeO.bind ?_ (fun _ => ?_))
      | exact ih0 _ _ _
      | exact ih1 _ _ _ _ _
      | exact LeO.none _
      | refine LeO.ite ?_ ?_
      | refine LeO.bind ?_ (fun _ => ?_)
    · intro y0 y1 y2 y3 y4
      unfold plunderref19_Check.j1
      repeat' first
      | (with_reducible exact ih0 _ _ _)
      | (with_reducible exact ih1 _ _ _ _ _)
      | (with_reducible exact LeO.refl _)
      | (with_reducible exact LeO.none _)
      | (with_reducible refine LeO.ite ?_ ?_)
      | (with_reducible refine LeO.bind ?_ (fun _ => ?_))
      | exact ih0 _ _ _
      | exact ih1 _ _ _ _ _
      | exact LeO.none _
      | refine LeO.ite ?_ ?_
      | refine LeO.bind ?_ (fun _ => ?_)
theorem plunderref19_Check.mono : ∀ a0 k, LeO (plunderref19_Check.f k a0) (plunderref19_Check.f (k + 1) a0) := by
  intro a0 k
  obtain ⟨ih0, ih1⟩ := plunderref19_Check.mono_l k
  unfold plunderref19_Check.f
  repeat' first
      | (with_reducible exact ih0 _ _ _)
      | (with_reducible exact ih1 _ _ _ _ _)
      | (with_reducible exact LeO.refl _)
      | (with_reducible exact LeO.none _)
      | (with_reducible refine LeO.ite ?_ ?_)
      | (with_reducible refine LeO.bind ?_ (fun _ => ?_))
      | exact ih0 _ _ _
      | exact ih1 _ _ _ _ _
      | exact LeO.none _
      | refine LeO.ite ?_ ?_
      | refine LeO.bind ?_ (fun _ => ?_)
def plunderref23_Refused.f (k : Nat) (l0 : List (S46)) (l1 : List Bool) (l2 : List Int) : Option (Int) := if (l0.length : Int) > 4096 then (some 2) else (if (l1.length : Int) > 4096 then (some 2) else (if (l2.length : Int) > 1048576 then (some 2) else ((plunderref19_Check.f k l0).bind fun bt165 => (some bt165.1))))
theorem plunderref23_Refused.mono : ∀ a0 a1 a2 k, LeO (plunderref23_Refused.f k a0 a1 a2) (plunderref23_Refused.f (k + 1) a0 a1 a2) := by
  intro a0 a1 a2 k
  unfold plunderref23_Refused.f
  repeat' first
      | (with_reducible exact plunderref19_Check.mono _ _)
      | (with_reducible exact LeO.refl _)
      | (with_reducible exact LeO.none _)
      | (with_reducible refine LeO.ite ?_ ?_)
      | (with_reducible refine LeO.bind ?_ (fun _ => ?_))
      | exact plunderref19_Check.mono _ _
      | exact LeO.none _
      | refine LeO.ite ?_ ?_
      | refine LeO.bind ?_ (fun _ => ?_)
-- NOT PRINTED: function 48 (plunderref23_Run_made)

end Go.Proofs.YtamfkglnejhjdaaDoor.PHyperFold
