/- What the document's operations answer: contracts (began as printed texts). -/
import Derived.Test.YtamfkglnejhjdaaDoorPHyperFoldx0
import Derived.Test.YtamfkglnejhjdaaDoorWShort
namespace Go.Proofs.YtamfkglnejhjdaaDoor.PHyperFold
open Go.Proofs.YtamfkglnejhjdaaDoorW.PrintLast (rR rS bB bB11 bB12)
open Go.RowKit Go.Proofs.YtamfkglnejhjdaaDoorW.PrintWords Go.Proofs.YtamfkglnejhjdaaDoorW.PrintLast Go.Proofs.YtamfkglnejhjdaaDoorW.PrintMore
attribute [local go_sem] max2_int min2_int max_two min_two max_three min_three max_four min_four   -- for this text's walks alone
set_option linter.unusedVariables false
set_option linter.unusedSimpArgs false

def ops_Mod.f (a0 : Int) (a1 : Int) : Option (Int) := if a1 < 1 then (some 0) else (if a1 = 0 then (none) else (if (Int.tmod a0 a1) < 0 then (some (wrap64 ((Int.tmod a0 a1) + a1))) else (some (Int.tmod a0 a1))))
-- NOT PRINTED: function 59 (hyper_play_int64_pick)

-- NOT PRINTED: function 43 (hyper_play_int64_merge)

-- NOT PRINTED: function 44 (hyper_play_int64_leave)

-- NOT PRINTED: function 24 (hyper_play_int64_run)

-- NOT PRINTED: function 7 (hyper_Fold)

def plunderref1_Unit.j0 : Nat → Int → Bool → Option (Int × Bool)
 | 0, _, _ => none
 | k + 1, x4, x5 => if x5 = true then (some (0, true)) else (if x4 = 2 then (some (1, true)) else (if x4 = 5 then (some ((-1), true)) else (if x4 = 10 then (some (9223372036854775807, true)) else (if x4 = 11 then (some ((-9223372036854775808), true)) else (some (0, false))))))
def plunderref1_Unit.f (k : Nat) (a0 : Int) : Option (Int × Bool) := if a0 = 0 then (plunderref1_Unit.j0 k a0 (a0 == 0)) else (if a0 = 6 then (plunderref1_Unit.j0 k a0 (a0 == 6)) else (plunderref1_Unit.j0 k a0 (a0 == 7)))
theorem plunderref1_Unit.mono_l : ∀ k, (∀ y0 y1, LeO (plunderref1_Unit.j0 k y0 y1) (plunderref1_Unit.j0 (k + 1) y0 y1))
 | 0 => fun _ _ r h => by simp [plunderref1_Unit.j0] at h
 | k + 1 => by
  have ih0 := plunderref1_Unit.mono_l k
  ·intro y0 y1
   unfold plunderref1_Unit.j0
   repeat' first
   | (with_reducible exact ih0 _ _)
   | (with_reducible exact LeO.refl _)
   | (with_reducible exact LeO.none _)
   | (with_reducible refine LeO.ite ?_ ?_)
   | (with_reducible refine LeO.bind ?_ (fun _ => ?_))
   | exact ih0 _ _
   | exact LeO.none _
   | refine LeO.ite ?_ ?_
   | refine LeO.bind ?_ (fun _ => ?_)
theorem plunderref1_Unit.mono : ∀ a0 k, LeO (plunderref1_Unit.f k a0) (plunderref1_Unit.f (k + 1) a0) := by
 intro a0 k
 have ih0 := plunderref1_Unit.mono_l k
 unfold plunderref1_Unit.f
 repeat' first
   | (with_reducible exact ih0 _ _)
   | (with_reducible exact LeO.refl _)
   | (with_reducible exact LeO.none _)
   | (with_reducible refine LeO.ite ?_ ?_)
   | (with_reducible refine LeO.bind ?_ (fun _ => ?_))
   | exact ih0 _ _
   | exact LeO.none _
   | refine LeO.ite ?_ ?_
   | refine LeO.bind ?_ (fun _ => ?_)
def plunderref1_folds.j0 : Nat → Int → Int → Bool → Option (Int)
 | 0, _, _, _ => none
 | k + 1, x0, x1, x12 => if x12 = true then (some 10) else ((plunderref1_Unit.f k x0).bind fun bt135 => (if bt135.2 = true then (if x1 > 65536 then (some 2) else (some 0)) else (some 11)))
def plunderref1_folds.f (k : Nat) (a0 : Int) (a1 : Int) : Option (Int) := if a0 < 0 then (plunderref1_folds.j0 k a0 a1 true) else (plunderref1_folds.j0 k a0 a1 (decide (a0 ≥ 16)))
theorem plunderref1_folds.mono_l : ∀ k, (∀ y0 y1 y2, LeO (plunderref1_folds.j0 k y0 y1 y2) (plunderref1_folds.j0 (k + 1) y0 y1 y2))
 | 0 => fun _ _ _ r h => by simp [plunderref1_folds.j0] at h
 | k + 1 => by
  have ih0 := plunderref1_folds.mono_l k
  ·intro y0 y1 y2
   unfold plunderref1_folds.j0
   repeat' first
   | (with_reducible exact ih0 _ _ _)
   | (with_reducible exact plunderref1_Unit.mono _ _)
   | (with_reducible exact LeO.refl _)
   | (with_reducible exact LeO.none _)
   | (with_reducible refine LeO.ite ?_ ?_)
   | (with_reducible refine LeO.bind ?_ (fun _ => ?_))
   | exact ih0 _ _ _
   | exact plunderref1_Unit.mono _ _
   | exact LeO.none _
   | refine LeO.ite ?_ ?_
   | refine LeO.bind ?_ (fun _ => ?_)
theorem plunderref1_folds.mono : ∀ a0 a1 k, LeO (plunderref1_folds.f k a0 a1) (plunderref1_folds.f (k + 1) a0 a1) := by
 intro a0 a1 k
 have ih0 := plunderref1_folds.mono_l k
 unfold plunderref1_folds.f
 repeat' first
   | (with_reducible exact ih0 _ _ _)
   | (with_reducible exact plunderref1_Unit.mono _ _)
   | (with_reducible exact LeO.refl _)
   | (with_reducible exact LeO.none _)
   | (with_reducible refine LeO.ite ?_ ?_)
   | (with_reducible refine LeO.bind ?_ (fun _ => ?_))
   | exact ih0 _ _ _
   | exact plunderref1_Unit.mono _ _
   | exact LeO.none _
   | refine LeO.ite ?_ ?_
   | refine LeO.bind ?_ (fun _ => ?_)
def plunderref1_quot.f (a0 : Int) (a1 : Int) : Option (Int) := if a1 = 0 then (some 0) else (if a1 = (-1) then (some (wrap64 (-a0))) else (some (wrap64 (Int.tdiv a0 a1))))
def plunderref1_odd.f (a0 : Int) : Option (Bool) := some ((Int.tmod a0 2) != 0)
def plunderref1_half.f (a0 : Int) : Option (Int) := if a0 < 0 then (if (Int.tmod a0 2) = 0 then (some (wrap64 (Int.tdiv a0 2))) else (some (wrap64 ((wrap64 (Int.tdiv a0 2)) - 1)))) else (some (wrap64 (Int.tdiv a0 2)))
mutual
def plunderref1_bits.l0 : Nat → Int → Int → Bool → Bool → Int → Int → Int → Option (Int)
 | 0, _, _, _, _, _, _, _ => none
 | k + 1, x0, x1, x2, x3, x9, x10, x11 => if x11 < 64 then ((plunderref1_odd.f x0).bind fun t137 => ((plunderref1_odd.f x1).bind fun t138 => (if t137 = true then (if t138 = true then (if x2 = true then (plunderref1_bits.j1 k x0 x1 x2 x3 x9 x10 x11 true) else (if (t137 != t138) = true then (plunderref1_bits.j1 k x0 x1 x2 x3 x9 x10 x11 x3) else (plunderref1_bits.j1 k x0 x1 x2 x3 x9 x10 x11 false))) else (if (t137 != t138) = true then (plunderref1_bits.j1 k x0 x1 x2 x3 x9 x10 x11 x3) else (plunderref1_bits.j1 k x0 x1 x2 x3 x9 x10 x11 false))) else (if (t137 != t138) = true then (plunderref1_bits.j1 k x0 x1 x2 x3 x9 x10 x11 x3) else (plunderref1_bits.j1 k x0 x1 x2 x3 x9 x10 x11 false))))) else (some x9)
def plunderref1_bits.j1 : Nat → Int → Int → Bool → Bool → Int → Int → Int → Bool → Option (Int)
 | 0, _, _, _, _, _, _, _, _ => none
 | k + 1, x0, x1, x2, x3, x9, x10, x11, x36 => if x36 = true then ((plunderref1_half.f x0).bind fun t139 => ((plunderref1_half.f x1).bind fun t140 => (plunderref1_bits.l0 k t139 t140 x2 x3 (wrap64 (x9 + x10)) (wrap64 (x10 + x10)) (wrap64 (x11 + 1))))) else ((plunderref1_half.f x0).bind fun t141 => ((plunderref1_half.f x1).bind fun t142 => (plunderref1_bits.l0 k t141 t142 x2 x3 x9 (wrap64 (x10 + x10)) (wrap64 (x11 + 1)))))
end
def plunderref1_bits.f (k : Nat) (a0 : Int) (a1 : Int) (a2 : Bool) (a3 : Bool) : Option (Int) := plunderref1_bits.l0 k a0 a1 a2 a3 0 1 0
theorem plunderref1_bits.mono_l : ∀ k, (∀ y0 y1 y2 y3 y4 y5 y6, LeO (plunderref1_bits.l0 k y0 y1 y2 y3 y4 y5 y6) (plunderref1_bits.l0 (k + 1) y0 y1 y2 y3 y4 y5 y6)) ∧ (∀ y0 y1 y2 y3 y4 y5 y6 y7, LeO (plunderref1_bits.j1 k y0 y1 y2 y3 y4 y5 y6 y7) (plunderref1_bits.j1 (k + 1) y0 y1 y2 y3 y4 y5 y6 y7))
 | 0 => ⟨fun _ _ _ _ _ _ _ r h => by simp [plunderref1_bits.l0] at h, fun _ _ _ _ _ _ _ _ r h => by simp [plunderref1_bits.j1] at h⟩
 | k + 1 => by
  obtain ⟨ih0, ih1⟩ := plunderref1_bits.mono_l k
  refine ⟨?_, ?_⟩
  ·intro y0 y1 y2 y3 y4 y5 y6
   unfold plunderref1_bits.l0
   repeat' first
   | (with_reducible exact ih0 _ _ _ _ _ _ _)
   | (with_reducible exact ih1 _ _ _ _ _ _ _ _)
   | (with_reducible exact LeO.refl _)
   | (with_reducible exact LeO.none _)
   | (with_reducible refine LeO.ite ?_ ?_)
   | (with_reducible refine LeO.bind ?_ (fun _ => ?_))
   | exact ih0 _ _ _ _ _ _ _
   | exact ih1 _ _ _ _ _ _ _ _
   | exact LeO.none _
   | refine LeO.ite ?_ ?_
   | refine LeO.bind ?_ (fun _ => ?_)
  ·intro y0 y1 y2 y3 y4 y5 y6 y7
   unfold plunderref1_bits.j1
   repeat' first
   | (with_reducible exact ih0 _ _ _ _ _ _ _)
   | (with_reducible exact ih1 _ _ _ _ _ _ _ _)
   | (with_reducible exact LeO.refl _)
   | (with_reducible exact LeO.none _)
   | (with_reducible refine LeO.ite ?_ ?_)
   | (with_reducible refine LeO.bind ?_ (fun _ => ?_))
   | exact ih0 _ _ _ _ _ _ _
   | exact ih1 _ _ _ _ _ _ _ _
   | exact LeO.none _
   | refine LeO.ite ?_ ?_
   | refine LeO.bind ?_ (fun _ => ?_)
theorem plunderref1_bits.mono : ∀ a0 a1 a2 a3 k, LeO (plunderref1_bits.f k a0 a1 a2 a3) (plunderref1_bits.f (k + 1) a0 a1 a2 a3) := by
 intro a0 a1 a2 a3 k
 obtain ⟨ih0, ih1⟩ := plunderref1_bits.mono_l k
 unfold plunderref1_bits.f
 repeat' first
   | (with_reducible exact ih0 _ _ _ _ _ _ _)
   | (with_reducible exact ih1 _ _ _ _ _ _ _ _)
   | (with_reducible exact LeO.refl _)
   | (with_reducible exact LeO.none _)
   | (with_reducible refine LeO.ite ?_ ?_)
   | (with_reducible refine LeO.bind ?_ (fun _ => ?_))
   | exact ih0 _ _ _ _ _ _ _
   | exact ih1 _ _ _ _ _ _ _ _
   | exact LeO.none _
   | refine LeO.ite ?_ ?_
   | refine LeO.bind ?_ (fun _ => ?_)
def plunderref1_moved.l0 : Nat → Int → Int → Bool → Int → Option (Int)
 | 0, _, _, _, _ => none
 | k + 1, x0, x1, x2, x7 => if x7 < x1 then (if x2 = true then (plunderref1_moved.l0 k (wrap64 (x0 + x0)) x1 x2 (wrap64 (x7 + 1))) else ((plunderref1_half.f x0).bind fun t143 => (plunderref1_moved.l0 k t143 x1 x2 (wrap64 (x7 + 1))))) else (some x0)
def plunderref1_moved.f (k : Nat) (a0 : Int) (a1 : Int) (a2 : Bool) : Option (Int) := plunderref1_moved.l0 k a0 a1 a2 0
theorem plunderref1_moved.mono_l : ∀ k, (∀ y0 y1 y2 y3, LeO (plunderref1_moved.l0 k y0 y1 y2 y3) (plunderref1_moved.l0 (k + 1) y0 y1 y2 y3))
 | 0 => fun _ _ _ _ r h => by simp [plunderref1_moved.l0] at h
 | k + 1 => by
  have ih0 := plunderref1_moved.mono_l k
  ·intro y0 y1 y2 y3
   unfold plunderref1_moved.l0
   repeat' first
   | (with_reducible exact ih0 _ _ _ _)
   | (with_reducible exact LeO.refl _)
   | (with_reducible exact LeO.none _)
   | (with_reducible refine LeO.ite ?_ ?_)
   | (with_reducible refine LeO.bind ?_ (fun _ => ?_))
   | exact ih0 _ _ _ _
   | exact LeO.none _
   | refine LeO.ite ?_ ?_
   | refine LeO.bind ?_ (fun _ => ?_)
theorem plunderref1_moved.mono : ∀ a0 a1 a2 k, LeO (plunderref1_moved.f k a0 a1 a2) (plunderref1_moved.f (k + 1) a0 a1 a2) := by
 intro a0 a1 a2 k
 have ih0 := plunderref1_moved.mono_l k
 unfold plunderref1_moved.f
 repeat' first
   | (with_reducible exact ih0 _ _ _ _)
   | (with_reducible exact LeO.refl _)
   | (with_reducible exact LeO.none _)
   | (with_reducible refine LeO.ite ?_ ?_)
   | (with_reducible refine LeO.bind ?_ (fun _ => ?_))
   | exact ih0 _ _ _ _
   | exact LeO.none _
   | refine LeO.ite ?_ ?_
   | refine LeO.bind ?_ (fun _ => ?_)
def plunderref1_shift.f (a0 : Int) : Option (Int) := if (Int.tmod a0 64) < 0 then (some (wrap64 ((Int.tmod a0 64) + 64))) else (some (Int.tmod a0 64))
def plunderref1_truth.f (a0 : Bool) : Option (Int) := if a0 = true then (some 1) else (some 0)
end Go.Proofs.YtamfkglnejhjdaaDoor.PHyperFold
namespace Go.Proofs.YtamfkglnejhjdaaDoor.PHyperFold
open Go.Proofs.YtamfkglnejhjdaaDoorW.PrintLast (rR rS bB bB11 bB12)
open Go.RowKit Go.Proofs.YtamfkglnejhjdaaDoorW.PrintWords Go.Proofs.YtamfkglnejhjdaaDoorW.PrintLast Go.Proofs.YtamfkglnejhjdaaDoorW.PrintMore
attribute [local go_sem] max2_int min2_int max_two min_two max_three min_three max_four min_four   -- for this text's walks alone
set_option linter.unusedVariables false
set_option linter.unusedSimpArgs false

def plunderref1_compare.f (a0 : Int) (a1 : Int) (a2 : Int) : Option (Int) := if a0 = 10 then (if a1 < a2 then (some a1) else (some a2)) else (if a0 = 11 then (if a1 > a2 then (some a1) else (some a2)) else (if a0 = 12 then ((plunderref1_truth.f (decide (a1 < a2))).bind fun t144 => (some t144)) else (if a0 = 13 then ((plunderref1_truth.f (decide (a1 ≤ a2))).bind fun t145 => (some t145)) else (if a0 = 14 then ((plunderref1_truth.f (a1 == a2)).bind fun t146 => (some t146)) else ((plunderref1_truth.f (a1 != a2)).bind fun t147 => (some t147))))))
def plunderref1_work.f (k : Nat) (a0 : Int) (a1 : Int) (a2 : Int) : Option (Int) := if a0 = 0 then (some (wrap64 (a1 + a2))) else (if a0 = 1 then (some (wrap64 (a1 - a2))) else (if a0 = 2 then (some (wrap64 (a1 * a2))) else (if a0 = 3 then ((plunderref1_quot.f a1 a2).bind fun t148 => (some t148)) else (if a0 = 4 then ((plunderref1_quot.f a1 a2).bind fun t149 => (some (wrap64 (a1 - (wrap64 (t149 * a2)))))) else (if a0 = 5 then ((plunderref1_bits.f k a1 a2 true false).bind fun t150 => (some t150)) else (if a0 = 6 then ((plunderref1_bits.f k a1 a2 true true).bind fun t151 => (some t151)) else (if a0 = 7 then ((plunderref1_bits.f k a1 a2 false true).bind fun t152 => (some t152)) else (if a0 = 8 then ((plunderref1_shift.f a2).bind fun t153 => ((plunderref1_moved.f k a1 t153 true).bind fun t154 => (some t154))) else (if a0 = 9 then ((plunderref1_shift.f a2).bind fun t155 => ((plunderref1_moved.f k a1 t155 false).bind fun t156 => (some t156))) else ((plunderref1_compare.f a0 a1 a2).bind fun t157 => (some t157)))))))))))
theorem plunderref1_work.mono : ∀ a0 a1 a2 k, LeO (plunderref1_work.f k a0 a1 a2) (plunderref1_work.f (k + 1) a0 a1 a2) := by
 intro a0 a1 a2 k
 unfold plunderref1_work.f
 repeat' first
   | (with_reducible exact plunderref1_bits.mono _ _ _ _ _)
   | (with_reducible exact plunderref1_moved.mono _ _ _ _)
   | (with_reducible exact LeO.refl _)
   | (with_reducible exact LeO.none _)
   | (with_reducible refine LeO.ite ?_ ?_)
   | (with_reducible refine LeO.bind ?_ (fun _ => ?_))
   | exact plunderref1_bits.mono _ _ _ _ _
   | exact plunderref1_moved.mono _ _ _ _
   | exact LeO.none _
   | refine LeO.ite ?_ ?_
   | refine LeO.bind ?_ (fun _ => ?_)
def plunderref1_Fold.l0 : Nat → Int → List Int → Int → Int → Option (Int × Int)
 | 0, _, _, _, _ => none
 | k + 1, x0, x1, x7, x9 => if x9 < (x1.length : Int) then (if 0 ≤ x9 then ((plunderref1_work.f k x0 x7 (rd x1 x9)).bind fun t162 => (plunderref1_Fold.l0 k x0 x1 t162 (wrap64 (x9 + 1)))) else (none)) else (some (x7, 0))
def plunderref1_Fold.f (k : Nat) (a0 : Int) (l1 : List Int) : Option (Int × Int) := (plunderref1_folds.f k a0 (l1.length : Int)).bind fun t158 => (if t158 = 0 then ((plunderref1_Unit.f k a0).bind fun bt159 => (plunderref1_Fold.l0 k a0 l1 bt159.1 0)) else (some (0, t158)))
theorem plunderref1_Fold.mono_l : ∀ k, (∀ y0 y1 y2 y3, LeO (plunderref1_Fold.l0 k y0 y1 y2 y3) (plunderref1_Fold.l0 (k + 1) y0 y1 y2 y3))
 | 0 => fun _ _ _ _ r h => by simp [plunderref1_Fold.l0] at h
 | k + 1 => by
  have ih0 := plunderref1_Fold.mono_l k
  ·intro y0 y1 y2 y3
   unfold plunderref1_Fold.l0
   repeat' first
   | (with_reducible exact ih0 _ _ _ _)
   | (with_reducible exact plunderref1_Unit.mono _ _)
   | (with_reducible exact plunderref1_folds.mono _ _ _)
   | (with_reducible exact plunderref1_work.mono _ _ _ _)
   | (with_reducible exact LeO.refl _)
   | (with_reducible exact LeO.none _)
   | (with_reducible refine LeO.ite ?_ ?_)
   | (with_reducible refine LeO.bind ?_ (fun _ => ?_))
   | exact ih0 _ _ _ _
   | exact plunderref1_Unit.mono _ _
   | exact plunderref1_folds.mono _ _ _
   | exact plunderref1_work.mono _ _ _ _
   | exact LeO.none _
   | refine LeO.ite ?_ ?_
   | refine LeO.bind ?_ (fun _ => ?_)
theorem plunderref1_Fold.mono : ∀ a0 a1 k, LeO (plunderref1_Fold.f k a0 a1) (plunderref1_Fold.f (k + 1) a0 a1) := by
 intro a0 a1 k
 have ih0 := plunderref1_Fold.mono_l k
 unfold plunderref1_Fold.f
 repeat' first
   | (with_reducible exact ih0 _ _ _ _)
   | (with_reducible exact plunderref1_Unit.mono _ _)
   | (with_reducible exact plunderref1_folds.mono _ _ _)
   | (with_reducible exact plunderref1_work.mono _ _ _ _)
   | (with_reducible exact LeO.refl _)
   | (with_reducible exact LeO.none _)
   | (with_reducible refine LeO.ite ?_ ?_)
   | (with_reducible refine LeO.bind ?_ (fun _ => ?_))
   | exact ih0 _ _ _ _
   | exact plunderref1_Unit.mono _ _
   | exact plunderref1_folds.mono _ _ _
   | exact plunderref1_work.mono _ _ _ _
   | exact LeO.none _
   | refine LeO.ite ?_ ?_
   | refine LeO.bind ?_ (fun _ => ?_)
mutual
def plunderref19_Check.l0 : Nat → List (S46) → Int → Int → Option (Int × Int)
 | 0, _, _, _ => none
 | k + 1, x0, x3, x4 => if x4 < (x0.length : Int) then (if 0 ≤ x4 then (if ((rd_T46 x0 x4).f0) < 0 then (plunderref19_Check.j1 k x0 x3 x4 ((rd_T46 x0 x4).f0) true) else (if ((rd_T46 x0 x4).f0) > 4 then (plunderref19_Check.j1 k x0 x3 x4 ((rd_T46 x0 x4).f0) true) else (if ((rd_T46 x0 x4).f0) = 1 then (plunderref19_Check.j1 k x0 x3 x4 ((rd_T46 x0 x4).f0) (x3 == 0)) else (plunderref19_Check.j1 k x0 x3 x4 ((rd_T46 x0 x4).f0) false)))) else (none)) else (some (0, 0))
def plunderref19_Check.j1 : Nat → List (S46) → Int → Int → Int → Bool → Option (Int × Int)
 | 0, _, _, _, _, _ => none
 | k + 1, x0, x3, x4, x5, x34 => if x34 = true then (some (190, x4)) else (if x5 = 0 then (if x5 = 1 then (plunderref19_Check.l0 k x0 (wrap64 ((wrap64 (x3 + 1)) - 1)) (wrap64 (x4 + 1))) else (plunderref19_Check.l0 k x0 (wrap64 (x3 + 1)) (wrap64 (x4 + 1)))) else (if x5 = 1 then (plunderref19_Check.l0 k x0 (wrap64 (x3 - 1)) (wrap64 (x4 + 1))) else (plunderref19_Check.l0 k x0 x3 (wrap64 (x4 + 1)))))
end
def plunderref19_Check.f (k : Nat) (l0 : List (S46)) : Option (Int × Int) := if (l0.length : Int) > 4096 then (some (2, 0)) else (plunderref19_Check.l0 k l0 0 0)
theorem plunderref19_Check.mono_l : ∀ k, (∀ y0 y1 y2, LeO (plunderref19_Check.l0 k y0 y1 y2) (plunderref19_Check.l0 (k + 1) y0 y1 y2)) ∧ (∀ y0 y1 y2 y3 y4, LeO (plunderref19_Check.j1 k y0 y1 y2 y3 y4) (plunderref19_Check.j1 (k + 1) y0 y1 y2 y3 y4))
 | 0 => ⟨fun _ _ _ r h => by simp [plunderref19_Check.l0] at h, fun _ _ _ _ _ r h => by simp [plunderref19_Check.j1] at h⟩
 | k + 1 => by
  obtain ⟨ih0, ih1⟩ := plunderref19_Check.mono_l k
  refine ⟨?_, ?_⟩
  ·intro y0 y1 y2
   unfold plunderref19_Check.l0
   repeat' first
   | (with_reducible exact ih0 _ _ _)
   | (with_reducible exact ih1 _ _ _ _ _)
   | (with_reducible exact LeO.refl _)
   | (with_reducible exact LeO.none _)
   | (with_reducible refine LeO.ite ?_ ?_)
   | (with_reducible refine LeO.bind ?_ (fun _ => ?_))
   | exact ih0 _ _ _
   | exact ih1 _ _ _ _ _
   | exact LeO.none _
   | refine LeO.ite ?_ ?_
   | refine LeO.bind ?_ (fun _ => ?_)
  ·intro y0 y1 y2 y3 y4
   unfold plunderref19_Check.j1
   repeat' first
   | (with_reducible exact ih0 _ _ _)
   | (with_reducible exact ih1 _ _ _ _ _)
   | (with_reducible exact LeO.refl _)
   | (with_reducible exact LeO.none _)
   | (with_reducible refine LeO.ite ?_ ?_)
   | (with_reducible refine LeO.bind ?_ (fun _ => ?_))
   | exact ih0 _ _ _
   | exact ih1 _ _ _ _ _
   | exact LeO.none _
   | refine LeO.ite ?_ ?_
   | refine LeO.bind ?_ (fun _ => ?_)
theorem plunderref19_Check.mono : ∀ a0 k, LeO (plunderref19_Check.f k a0) (plunderref19_Check.f (k + 1) a0) := by
 intro a0 k
 obtain ⟨ih0, ih1⟩ := plunderref19_Check.mono_l k
 unfold plunderref19_Check.f
 repeat' first
   | (with_reducible exact ih0 _ _ _)
   | (with_reducible exact ih1 _ _ _ _ _)
   | (with_reducible exact LeO.refl _)
   | (with_reducible exact LeO.none _)
   | (with_reducible refine LeO.ite ?_ ?_)
   | (with_reducible refine LeO.bind ?_ (fun _ => ?_))
   | exact ih0 _ _ _
   | exact ih1 _ _ _ _ _
   | exact LeO.none _
   | refine LeO.ite ?_ ?_
   | refine LeO.bind ?_ (fun _ => ?_)
set_option maxHeartbeats 8000000 in
set_option maxRecDepth 100000 in
theorem plunderref19_Check.calls (k : Nat) (A0 : Option Addr) (c0 : Nat) (l0 : List (S46)) (r1 : Int) (r2 : Int) (w : World) (hr0 : Kd.C k46 w A0 l0.length l0) (hc0 : l0.length ≤ c0) (h : plunderref19_Check.f k l0 = some (r1, r2)) :
  Calls Tryd.prog 47 #[.slice A0 l0.length c0] w fun e w' => e = .returned (.agg #[.int .i64 r1, .int .i64 r2]) ∧ Below w.heap.size w w' := by
 have hu86 := Tryd.underlying86
 have HR0 := Aside0.mk hr0
 have HC0 := Aside0.mk hc0
 clear hr0 hc0
 have HB := Aside0.mk (Below.refl w.heap.size w)
 have H : (if (l0.length : Int) > 4096 then (some (2, 0)) else (plunderref19_Check.l0 k l0 0 0)) = some (r1, r2) := h
 clear h
 by_cases c2 : (l0.length : Int) > 4096
 ·rw [if_pos c2] at H
  have c2b0 : decide (4096 < (l0.length : Int)) = true := decide_eq_true c2
  have c2b1 : decide (4096 < l0.length) = true := decide_eq_true (by omega)
  clear c2
  simp only [Option.some.injEq, Prod.mk.injEq] at H
  obtain ⟨rfl, rfl⟩ := H
  go_enter Tryd.func47, Tryd.ntmps47
  go_wp2_with (first | ((with_reducible refine gate_dst (N := 2) rfl ?_); refine box_event ?hg (N := 2) ?hd (cs := #[.int .i64 0, .int .i64 0]) (t := 86) ?hr ?_; (case hd => rfl); (case hg => rfl); (case hr => first | (go_simp; done) | (go_simp; rfl)); intro gb163 hg w3 hbox hb; have n0_ := Aside0.mk (below_step (bB) hb); have n1_ := Aside0.mk (hbox); have n2_ := Aside0.mk ((by rw [hg]; exact (below_size (bB)) : w.heap.size ≤ gb163)); have n3_ := Aside0.mk ((by rw [hg]; exact (below_size (bB)) : w.heap.size ≤ gb163)); clear HB; have HB := n0_; have BK163 := n1_; have GW163 := n2_; have GE163 := n3_; clear n0_ n1_ n2_ n3_; clear hb hbox hg; have hcz4_0 : w3.cell? ⟨gb163, 0, none⟩ = some (.int .i64 0) := (blk_cell BK163.out 0).trans rfl; have hcz4_1 : w3.cell? ⟨gb163, 1, none⟩ = some (.int .i64 0) := (blk_cell BK163.out 1).trans rfl; have hfz4_0 := blk_frozen BK163.out 0; have hfz4_1 := blk_frozen BK163.out 1))
  refine bodyPost_ret (results_cell_row rfl _ _ gb163 86 #[.int .i64 2, .int .i64 0] (0, 0) _ rfl (by (with_reducible repeat (first | refine blk_drewN ?_ _ | refine blk_drew ?_ | refine blk_alloc ?_ _)); refine blk_put (cs := #[.int .i64 2, .int .i64 0]) ?_ 1 _ rfl; (with_reducible repeat (first | refine blk_drewN ?_ _ | refine blk_drew ?_ | refine blk_alloc ?_ _)); refine blk_put (cs := #[.int .i64 0, .int .i64 0]) ?_ 0 _ rfl; (with_reducible repeat (first | refine blk_drewN ?_ _ | refine blk_drew ?_ | refine blk_alloc ?_ _)); exact BK163.out) Tryd.underlying86 rfl (by kernel_rfl)) rfl ?_
  exact ⟨rR, bB11⟩
 ·rw [if_neg c2] at H
  have c2b0 : decide (4096 < (l0.length : Int)) = false := decide_eq_false c2
  have c2b1 : decide (4096 < l0.length) = false := decide_eq_false (by omega)
  clear c2
  have H' := Aside0.mk H
  clear H
  go_enter Tryd.func47, Tryd.ntmps47
  go_wp2_with (first | ((with_reducible refine gate_dst (N := 2) rfl ?_); refine box_event ?hg (N := 2) ?hd (cs := #[.int .i64 0, .int .i64 0]) (t := 86) ?hr ?_; (case hd => rfl); (case hg => rfl); (case hr => first | (go_simp; done) | (go_simp; rfl)); intro gb163 hg w5 hbox hb; have n0_ := Aside0.mk (below_step (bB) hb); have n1_ := Aside0.mk (hbox); have n2_ := Aside0.mk ((by rw [hg]; exact (below_size (bB)) : w.heap.size ≤ gb163)); have n3_ := Aside0.mk ((by rw [hg]; exact (below_size (bB)) : w.heap.size ≤ gb163)); clear HB; have HB := n0_; have BK163 := n1_; have GW163 := n2_; have GE163 := n3_; clear n0_ n1_ n2_ n3_; clear hb hbox hg))
  go_loopg [3, 4] k (fun kq v3 v4 w' => ∃ (x3_1 : Int) (x4_1 : Int) (x164000_1 : Int) (x164001_1 : Int), v3 = .int .i64 x3_1 ∧ v4 = .int .i64 x4_1 ∧ Aside0 (plunderref19_Check.l0 kq l0 x3_1 x4_1 = some (r1, r2)) ∧ Aside0 (kq ≤ k) ∧ Aside0 (w'.heap[gb163]? = some (.cells #[.int .i64 x164000_1, .int .i64 x164001_1] 86 (0, 0))) ∧ Aside0 (Below w.heap.size w w'))
  case atStart => exact ⟨(0), (0), (0), (0), (rS), (rS), H', ⟨Nat.le_refl _⟩, ⟨by (with_reducible repeat (first | refine blk_drewN ?_ _ | refine blk_drew ?_ | refine blk_alloc ?_ _)); exact BK163.out⟩, ⟨bB11⟩⟩
  case round =>
   clear H'
   try clear c2
   try clear c2b0
   try clear c2b1
   try clear p2
   try clear c4
   try clear hcz4_0
   try clear hcz4_1
   try clear hfz4_0
   try clear hfz4_1
   obtain ⟨x3_1, x4_1, x164000_1, x164001_1, rfl, rfl, HA, HK1, BK163, HB⟩ := hrel
   cases gk with
   | zero => exact absurd HA.out (by simp [plunderref19_Check.l0])
   | succ k1 =>
    have H := HA.out
    clear HA
    simp only [plunderref19_Check.l0] at H
    by_cases c6 : x4_1 < (l0.length : Int)
    ·rw [if_pos c6] at H
     have c6b0 : decide (x4_1 < (l0.length : Int)) = true := decide_eq_true c6
     clear c6
     by_cases c7 : 0 ≤ x4_1
     ·rw [if_pos c7] at H
      have c7b0 : decide (0 ≤ x4_1) = true := decide_eq_true c7
      clear c7
      have HC8 := Aside0.mk H
      clear H
      have p164 : 0 ≤ (x4_1 : Int) := of_decide_eq_true (by first | (with_reducible assumption) | assumption)
      have q164 : x4_1 < (l0.length : Int) := of_decide_eq_true (by first | (with_reducible assumption) | assumption)
      obtain ⟨ad164, e164, hx164_0, hx164_1⟩ := at_T46 HR0.out x4_1 p164 q164
      cases e164
      replace hx164_0 := (HB.out.cell (World.block_lt_of_cell? w _ hx164_0)).trans hx164_0
      replace hx164_1 := (HB.out.cell (World.block_lt_of_cell? w _ hx164_1)).trans hx164_1
      replace p164 := eq_true p164
      replace q164 := eq_true q164
      go_upto_region 8 with (fail)
      go_cut [34] (fun v34 wc => ∃ (kq : Nat) (x34_7 : Bool), v34 = .bool x34_7 ∧ Aside0 (plunderref19_Check.j1 kq l0 x3_1 x4_1 ((rd_T46 l0 x4_1).f0) x34_7 = some (r1, r2)) ∧ Aside0 (kq ≤ k1) ∧ Aside0 (wc.heap[gb163]? = some (.cells #[.int .i64 x164000_1, .int .i64 x164001_1] 86 (0, 0))) ∧ Aside0 (Below w.heap.size w wc))
      case first =>
       have H := HC8.out
       clear HC8
       by_cases c9 : ((rd_T46 l0 x4_1).f0) < 0
       ·rw [if_pos c9] at H
        have c9b0 : decide (((rd_T46 l0 x4_1).f0) < 0) = true := decide_eq_true c9
        clear c9
        (first | rw [c9b0] | (simp only [i64_w, i32_w]; rw [c9b0]) | skip)
        have H' := Aside0.mk H
        clear H
        go_wp2
        go_meet
        case rel => exact ⟨_, (true), (rS), H', ⟨by have := HK1.out; first | omega | exact Nat.le_refl _⟩, ⟨by (with_reducible repeat (first | refine blk_drewN ?_ _ | refine blk_drew ?_ | refine blk_alloc ?_ _)); exact BK163.out⟩, ⟨bB11⟩⟩
       ·rw [if_neg c9] at H
        have c9b0 : decide (((rd_T46 l0 x4_1).f0) < 0) = false := decide_eq_false c9
        clear c9
        (first | rw [c9b0] | (simp only [i64_w, i32_w]; rw [c9b0]) | skip)
        by_cases c10 : ((rd_T46 l0 x4_1).f0) > 4
        ·rw [if_pos c10] at H
         have c10b0 : decide (4 < ((rd_T46 l0 x4_1).f0)) = true := decide_eq_true c10
         clear c10
         have H' := Aside0.mk H
         clear H
         go_wp2
         go_meet
         case rel => exact ⟨_, (true), (rS), H', ⟨by have := HK1.out; first | omega | exact Nat.le_refl _⟩, ⟨by (with_reducible repeat (first | refine blk_drewN ?_ _ | refine blk_drew ?_ | refine blk_alloc ?_ _)); exact BK163.out⟩, ⟨bB11⟩⟩
        ·rw [if_neg c10] at H
         have c10b0 : decide (4 < ((rd_T46 l0 x4_1).f0)) = false := decide_eq_false c10
         clear c10
         by_cases c11 : ((rd_T46 l0 x4_1).f0) = 1
         ·rw [if_pos c11] at H
          have c11b0 : (((rd_T46 l0 x4_1).f0) == 1) = true := beq_iff_eq.mpr c11
          have c11b1 : (((rd_T46 l0 x4_1).f0) != 1) = false := bne_eq_false_iff_eq.mpr c11
          clear c11
          have H' := Aside0.mk H
          clear H
          go_wp2
          go_meet
          case rel => exact ⟨_, ((x3_1 == 0)), (rS), H', ⟨by have := HK1.out; first | omega | exact Nat.le_refl _⟩, ⟨by (with_reducible repeat (first | refine blk_drewN ?_ _ | refine blk_drew ?_ | refine blk_alloc ?_ _)); exact BK163.out⟩, ⟨bB11⟩⟩
         ·rw [if_neg c11] at H
          have c11b0 : (((rd_T46 l0 x4_1).f0) == 1) = false := beq_eq_false_iff_ne.mpr c11
          have c11b1 : (((rd_T46 l0 x4_1).f0) != 1) = true := bne_iff_ne.mpr c11
          have H' := Aside0.mk H
          clear H
          go_wp2
          go_meet
          case rel => exact ⟨_, (false), (rS), H', ⟨by have := HK1.out; first | omega | exact Nat.le_refl _⟩, ⟨by (with_reducible repeat (first | refine blk_drewN ?_ _ | refine blk_drew ?_ | refine blk_alloc ?_ _)); exact BK163.out⟩, ⟨bB11⟩⟩
      case rest =>
       clear HC8
       try clear c1
       try clear p1
       try clear q1
       try clear hx1
       try clear c2
       try clear c2b0
       try clear c2b1
       try clear p2
       try clear c4
       try clear c6
       try clear c6b0
       try clear c7
       try clear c7b0
       try clear c9
       try clear c9b0
       try clear c10
       try clear c10b0
       try clear c11
       try clear c11b0
       try clear c11b1
       try clear hcz4_0
       try clear hcz4_1
       try clear hfz4_0
       try clear hfz4_1
       try clear hx164_0
       try clear hx164_1
       try clear p164
       try clear p2
       try clear q164
       obtain ⟨kq, x34_7, rfl, HA, HJ7, BK163, HB⟩ := hcut
       cases kq with
       | zero => exact absurd HA.out (by simp [plunderref19_Check.j1])
       | succ kj7 =>
        have H := HA.out
        clear HA
        simp only [plunderref19_Check.j1] at H
        by_cases c12 : x34_7 = true
        ·subst c12
         have H1 : (some (190, x4_1)) = some (r1, r2) := by rw [if_pos rfl] at H; exact H
         clear H
         have H := H1
         clear H1
         simp only [Option.some.injEq, Prod.mk.injEq] at H
         obtain ⟨rfl, rfl⟩ := H
         have hcz13_0 : wc.cell? ⟨gb163, 0, none⟩ = some (.int .i64 x164000_1) := (blk_cell BK163.out 0).trans rfl
         have hcz13_1 : wc.cell? ⟨gb163, 1, none⟩ = some (.int .i64 x164001_1) := (blk_cell BK163.out 1).trans rfl
         have hfz13_0 := blk_frozen BK163.out 0
         have hfz13_1 := blk_frozen BK163.out 1
         go_wp2
         refine bodyPost_ret (results_cell_row rfl _ _ gb163 86 #[.int .i64 190, .int .i64 x4_1] (0, 0) _ rfl (by (with_reducible repeat (first | refine blk_drewN ?_ _ | refine blk_drew ?_ | refine blk_alloc ?_ _)); refine blk_put (cs := #[.int .i64 190, .int .i64 x164001_1]) ?_ 1 _ rfl; (with_reducible repeat (first | refine blk_drewN ?_ _ | refine blk_drew ?_ | refine blk_alloc ?_ _)); refine blk_put (cs := #[.int .i64 x164000_1, .int .i64 x164001_1]) ?_ 0 _ rfl; (with_reducible repeat (first | refine blk_drewN ?_ _ | refine blk_drew ?_ | refine blk_alloc ?_ _)); exact BK163.out) Tryd.underlying86 rfl (by kernel_rfl)) rfl ?_
         exact ⟨rR, bB11⟩
        ·replace c12 := Bool.eq_false_iff.mpr c12
         subst c12
         have H1 : (if ((rd_T46 l0 x4_1).f0) = 0 then (if ((rd_T46 l0 x4_1).f0) = 1 then (plunderref19_Check.l0 kj7 l0 (wrap64 ((wrap64 (x3_1 + 1)) - 1)) (wrap64 (x4_1 + 1))) else (plunderref19_Check.l0 kj7 l0 (wrap64 (x3_1 + 1)) (wrap64 (x4_1 + 1)))) else (if ((rd_T46 l0 x4_1).f0) = 1 then (plunderref19_Check.l0 kj7 l0 (wrap64 (x3_1 - 1)) (wrap64 (x4_1 + 1))) else (plunderref19_Check.l0 kj7 l0 x3_1 (wrap64 (x4_1 + 1))))) = some (r1, r2) := by rw [if_neg (show ¬ (false = true) by decide)] at H; exact H
         clear H
         have H := H1
         clear H1
         by_cases c14 : ((rd_T46 l0 x4_1).f0) = 0
         ·rw [if_pos c14] at H
          have c14b0 : (((rd_T46 l0 x4_1).f0) == 0) = true := beq_iff_eq.mpr c14
          have c14b1 : (((rd_T46 l0 x4_1).f0) != 0) = false := bne_eq_false_iff_eq.mpr c14
          clear c14
          by_cases c15 : ((rd_T46 l0 x4_1).f0) = 1
          ·rw [if_pos c15] at H
           have c15b0 : (((rd_T46 l0 x4_1).f0) == 1) = true := beq_iff_eq.mpr c15
           have c15b1 : (((rd_T46 l0 x4_1).f0) != 1) = false := bne_eq_false_iff_eq.mpr c15
           clear c15
           have H' := Aside0.mk H
           clear H
           go_wp2
           go_roundg kj7
           case measure => have := HK1.out; have := HJ7.out; omega
           case rel => exact ⟨(wrap64 ((wrap64 (x3_1 + 1)) - 1)), (wrap64 (x4_1 + 1)), (x164000_1), (x164001_1), (rS), (rS), H', ⟨by have := HK1.out; have := HJ7.out; omega⟩, ⟨by (with_reducible repeat (first | refine blk_drewN ?_ _ | refine blk_drew ?_ | refine blk_alloc ?_ _)); exact BK163.out⟩, ⟨bB11⟩⟩
          ·rw [if_neg c15] at H
           have c15b0 : (((rd_T46 l0 x4_1).f0) == 1) = false := beq_eq_false_iff_ne.mpr c15
           have c15b1 : (((rd_T46 l0 x4_1).f0) != 1) = true := bne_iff_ne.mpr c15
           have H' := Aside0.mk H
           clear H
           go_wp2
           go_roundg kj7
           case measure => have := HK1.out; have := HJ7.out; omega
           case rel => exact ⟨(wrap64 (x3_1 + 1)), (wrap64 (x4_1 + 1)), (x164000_1), (x164001_1), (rS), (rS), H', ⟨by have := HK1.out; have := HJ7.out; omega⟩, ⟨by (with_reducible repeat (first | refine blk_drewN ?_ _ | refine blk_drew ?_ | refine blk_alloc ?_ _)); exact BK163.out⟩, ⟨bB11⟩⟩
         ·rw [if_neg c14] at H
          have c14b0 : (((rd_T46 l0 x4_1).f0) == 0) = false := beq_eq_false_iff_ne.mpr c14
          have c14b1 : (((rd_T46 l0 x4_1).f0) != 0) = true := bne_iff_ne.mpr c14
          by_cases c16 : ((rd_T46 l0 x4_1).f0) = 1
          ·rw [if_pos c16] at H
           have c16b0 : (((rd_T46 l0 x4_1).f0) == 1) = true := beq_iff_eq.mpr c16
           have c16b1 : (((rd_T46 l0 x4_1).f0) != 1) = false := bne_eq_false_iff_eq.mpr c16
           clear c16
           have H' := Aside0.mk H
           clear H
           go_wp2
           go_roundg kj7
           case measure => have := HK1.out; have := HJ7.out; omega
           case rel => exact ⟨(wrap64 (x3_1 - 1)), (wrap64 (x4_1 + 1)), (x164000_1), (x164001_1), (rS), (rS), H', ⟨by have := HK1.out; have := HJ7.out; omega⟩, ⟨by (with_reducible repeat (first | refine blk_drewN ?_ _ | refine blk_drew ?_ | refine blk_alloc ?_ _)); exact BK163.out⟩, ⟨bB11⟩⟩
          ·rw [if_neg c16] at H
           have c16b0 : (((rd_T46 l0 x4_1).f0) == 1) = false := beq_eq_false_iff_ne.mpr c16
           have c16b1 : (((rd_T46 l0 x4_1).f0) != 1) = true := bne_iff_ne.mpr c16
           have H' := Aside0.mk H
           clear H
           go_wp2
           go_roundg kj7
           case measure => have := HK1.out; have := HJ7.out; omega
           case rel => exact ⟨(x3_1), (wrap64 (x4_1 + 1)), (x164000_1), (x164001_1), (rS), (rS), H', ⟨by have := HK1.out; have := HJ7.out; omega⟩, ⟨by (with_reducible repeat (first | refine blk_drewN ?_ _ | refine blk_drew ?_ | refine blk_alloc ?_ _)); exact BK163.out⟩, ⟨bB11⟩⟩
     ·rw [if_neg c7] at H
      exact absurd H (by simp)
    ·rw [if_neg c6] at H
     have c6b0 : decide (x4_1 < (l0.length : Int)) = false := decide_eq_false c6
     clear c6
     simp only [Option.some.injEq, Prod.mk.injEq] at H
     obtain ⟨rfl, rfl⟩ := H
     have hcz17_0 : wr.cell? ⟨gb163, 0, none⟩ = some (.int .i64 x164000_1) := (blk_cell BK163.out 0).trans rfl
     have hcz17_1 : wr.cell? ⟨gb163, 1, none⟩ = some (.int .i64 x164001_1) := (blk_cell BK163.out 1).trans rfl
     have hfz17_0 := blk_frozen BK163.out 0
     have hfz17_1 := blk_frozen BK163.out 1
     go_wp2
     refine bodyPost_ret (results_cell_row rfl _ _ gb163 86 #[.int .i64 0, .int .i64 0] (0, 0) _ rfl (by (with_reducible repeat (first | refine blk_drewN ?_ _ | refine blk_drew ?_ | refine blk_alloc ?_ _)); refine blk_put (cs := #[.int .i64 0, .int .i64 x164001_1]) ?_ 1 _ rfl; (with_reducible repeat (first | refine blk_drewN ?_ _ | refine blk_drew ?_ | refine blk_alloc ?_ _)); refine blk_put (cs := #[.int .i64 x164000_1, .int .i64 x164001_1]) ?_ 0 _ rfl; (with_reducible repeat (first | refine blk_drewN ?_ _ | refine blk_drew ?_ | refine blk_alloc ?_ _)); exact BK163.out) Tryd.underlying86 rfl (by kernel_rfl)) rfl ?_
     exact ⟨rR, bB11⟩

def plunderref23_Refused.f (k : Nat) (l0 : List (S46)) (l1 : List Bool) (l2 : List Int) : Option (Int) := if (l0.length : Int) > 4096 then (some 2) else (if (l1.length : Int) > 4096 then (some 2) else (if (l2.length : Int) > 1048576 then (some 2) else ((plunderref19_Check.f k l0).bind fun bt165 => (some bt165.1))))
theorem plunderref23_Refused.mono : ∀ a0 a1 a2 k, LeO (plunderref23_Refused.f k a0 a1 a2) (plunderref23_Refused.f (k + 1) a0 a1 a2) := by
 intro a0 a1 a2 k
 unfold plunderref23_Refused.f
 repeat' first
   | (with_reducible exact plunderref19_Check.mono _ _)
   | (with_reducible exact LeO.refl _)
   | (with_reducible exact LeO.none _)
   | (with_reducible refine LeO.ite ?_ ?_)
   | (with_reducible refine LeO.bind ?_ (fun _ => ?_))
   | exact plunderref19_Check.mono _ _
   | exact LeO.none _
   | refine LeO.ite ?_ ?_
   | refine LeO.bind ?_ (fun _ => ?_)
set_option maxHeartbeats 8000000 in
set_option maxRecDepth 100000 in
theorem plunderref23_Refused.calls (k : Nat) (A0 : Option Addr) (c0 : Nat) (l0 : List (S46)) (A1 : Option Addr) (c1 : Nat) (l1 : List Bool) (A2 : Option Addr) (c2 : Nat) (l2 : List Int) (r : Int) (w : World) (hr0 : Kd.C k46 w A0 l0.length l0) (hc0 : l0.length ≤ c0) (hr1 : Kd.C Kd.bool w A1 l1.length l1) (hc1 : l1.length ≤ c1) (hr2 : Kd.C (Kd.int .i64) w A2 l2.length l2) (hc2 : l2.length ≤ c2) (h : plunderref23_Refused.f k l0 l1 l2 = some r) :
  Calls Tryd.prog 26 #[.slice A0 l0.length c0, .slice A1 l1.length c1, .slice A2 l2.length c2] w fun e w' => e = .returned (.int .i64 r) ∧ Below w.heap.size w w' := by
 have hu86 := Tryd.underlying86
 have HR0 := Aside0.mk hr0
 have HC0 := Aside0.mk hc0
 clear hr0 hc0
 have HR1 := Aside0.mk hr1
 have HC1 := Aside0.mk hc1
 clear hr1 hc1
 have HR2 := Aside0.mk hr2
 have HC2 := Aside0.mk hc2
 clear hr2 hc2
 have HB := Aside0.mk (Below.refl w.heap.size w)
 have H : (if (l0.length : Int) > 4096 then (some 2) else (if (l1.length : Int) > 4096 then (some 2) else (if (l2.length : Int) > 1048576 then (some 2) else ((plunderref19_Check.f k l0).bind fun bt165 => (some bt165.1))))) = some r := h
 clear h
 by_cases c4 : (l0.length : Int) > 4096
 ·rw [if_pos c4] at H
  have c4b0 : decide (4096 < (l0.length : Int)) = true := decide_eq_true c4
  have c4b1 : decide (4096 < l0.length) = true := decide_eq_true (by omega)
  clear c4
  obtain rfl := Option.some.inj H
  go_enter Tryd.func26, Tryd.ntmps26
  go_wp2
  go_ret
  exact ⟨rR, bB⟩
 ·rw [if_neg c4] at H
  have c4b0 : decide (4096 < (l0.length : Int)) = false := decide_eq_false c4
  have c4b1 : decide (4096 < l0.length) = false := decide_eq_false (by omega)
  clear c4
  by_cases c5 : (l1.length : Int) > 4096
  ·rw [if_pos c5] at H
   have c5b0 : decide (4096 < (l1.length : Int)) = true := decide_eq_true c5
   have c5b1 : decide (4096 < l1.length) = true := decide_eq_true (by omega)
   clear c5
   obtain rfl := Option.some.inj H
   go_enter Tryd.func26, Tryd.ntmps26
   go_wp2
   go_ret
   exact ⟨rR, bB⟩
  ·rw [if_neg c5] at H
   have c5b0 : decide (4096 < (l1.length : Int)) = false := decide_eq_false c5
   have c5b1 : decide (4096 < l1.length) = false := decide_eq_false (by omega)
   clear c5
   by_cases c6 : (l2.length : Int) > 1048576
   ·rw [if_pos c6] at H
    have c6b0 : decide (1048576 < (l2.length : Int)) = true := decide_eq_true c6
    have c6b1 : decide (1048576 < l2.length) = true := decide_eq_true (by omega)
    clear c6
    obtain rfl := Option.some.inj H
    go_enter Tryd.func26, Tryd.ntmps26
    go_wp2
    go_ret
    exact ⟨rR, bB⟩
   ·rw [if_neg c6] at H
    have c6b0 : decide (1048576 < (l2.length : Int)) = false := decide_eq_false c6
    have c6b1 : decide (1048576 < l2.length) = false := decide_eq_false (by omega)
    clear c6
    replace H := Option.bind_eq_some_iff.mp H
    obtain ⟨⟨t165, t166⟩, A70, H⟩ := H
    replace H : (some t165) = some r := H
    have A7 := Aside0.mk A70
    clear A70
    obtain rfl := Option.some.inj H
    go_enter Tryd.func26, Tryd.ntmps26
    go_wp2_with (first | ((with_reducible refine gate_callee (f := 47) rfl ?_); refine goesL_ (some 22) rfl rfl Tryd.func47 (by kernel_rfl) rfl #[.slice A0 l0.length c0] rfl (by (try simp only [List.map_toArray, List.map_cons, List.map_nil]); first | done | rfl | (simp only [List.length_drop, List.length_take]; rfl)) ?_; (with_reducible refine (plunderref19_Check.calls k _ _ l0 t165 t166 _ ?side1 ?side2 A7.out).mono ?_); (case side1 => repeat (first | exact HR0.out | (with_reducible refine Kd.C_alloc ?_ _) | (with_reducible refine Kd.C_drewN ?_ _) | (with_reducible refine Kd.C_drew ?_))); (case side2 => exact HC0.out); rintro e w8 ⟨rfl, hb⟩; refine ⟨_, rfl, ?_⟩; have n0_ := Aside0.mk (below_step (bB) hb); clear HB; have HB := n0_; clear n0_; (try clear hb); (try clear hb2); (try clear hk); (try clear hi)) | ((with_reducible refine gate_dst (N := 7) rfl ?_); (try (refine gate_guard (by rfl) ?_; dsimp only)); refine box_event ?hg (N := 7) ?hd (cs := #[.int .i64 0, .int .i64 0]) (t := 86) ?hr ?_; (case hd => rfl); (case hg => rfl); (case hr => first | (go_simp; done) | (go_simp; rfl)); intro gb167 hg w9 hbox hb; have n0_ := Aside0.mk (below_step (bB) hb); have n1_ := Aside0.mk (hbox); have n2_ := Aside0.mk ((by rw [hg]; exact (below_size (bB)) : w.heap.size ≤ gb167)); have n3_ := Aside0.mk ((by rw [hg]; exact (below_size (bB)) : w.heap.size ≤ gb167)); clear HB; have HB := n0_; have BK167 := n1_; have GW167 := n2_; have GE167 := n3_; clear n0_ n1_ n2_ n3_; clear hb hbox hg; have hcz10_0 : w9.cell? ⟨gb167, 0, none⟩ = some (.int .i64 0) := (blk_cell BK167.out 0).trans rfl; have hcz10_1 : w9.cell? ⟨gb167, 1, none⟩ = some (.int .i64 0) := (blk_cell BK167.out 1).trans rfl; have hfz10_0 := blk_frozen BK167.out 0; have hfz10_1 := blk_frozen BK167.out 1))
    go_ret
    exact ⟨rR, bB12⟩

-- NOT PRINTED: function 48 (plunderref23_Run_made)

end Go.Proofs.YtamfkglnejhjdaaDoor.PHyperFold
