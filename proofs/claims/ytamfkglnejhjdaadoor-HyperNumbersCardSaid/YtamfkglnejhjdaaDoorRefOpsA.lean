/- What the document's operations answer: contracts (began as printed texts). -/
import Derived.Test.YtamfkglnejhjdaaDoorPHyperFoldx0
namespace Go.Proofs.YtamfkglnejhjdaaDoor.PHyperFold
open Go.RowKit Go.Proofs.YtamfkglnejhjdaaDoorW.PrintWords Go.Proofs.YtamfkglnejhjdaaDoorW.PrintLast Go.Proofs.YtamfkglnejhjdaaDoorW.PrintMore
attribute [local go_sem] max2_int min2_int max_two min_two max_three min_three max_four min_four   -- for this text's walks alone
set_option linter.unusedVariables false
set_option linter.unusedSimpArgs false

def ops_Mod.f (a0 : Int) (a1 : Int) : Option (Int) := if a1 < 1 then (some 0) else (if a1 = 0 then (none) else (if (Int.tmod a0 a1) < 0 then (some (wrap64 ((Int.tmod a0 a1) + a1))) else (some (Int.tmod a0 a1))))
-- NOT PRINTED: function 59 (hyper_play_int64_pick)

-- NOT PRINTED: function 43 (hyper_play_int64_merge)

-- NOT PRINTED: function 44 (hyper_play_int64_leave)

-- NOT PRINTED: function 24 (hyper_play_int64_run)

-- NOT PRINTED: function 7 (hyper_Fold)

def plunderref1_Unit.j0 : Nat → Int → Bool → Option (Int × Bool)
  | 0, _, _ => none
  | k + 1, x4, x5 => if x5 = true then (some (0, true)) else (if x4 = 2 then (some (1, true)) else (if x4 = 5 then (some ((-1), true)) else (if x4 = 10 then (some (9223372036854775807, true)) else (if x4 = 11 then (some ((-9223372036854775808), true)) else (some (0, false))))))
def plunderref1_Unit.f (k : Nat) (a0 : Int) : Option (Int × Bool) := if a0 = 0 then (plunderref1_Unit.j0 k a0 (a0 == 0)) else (if a0 = 6 then (plunderref1_Unit.j0 k a0 (a0 == 6)) else (plunderref1_Unit.j0 k a0 (a0 == 7)))
theorem plunderref1_Unit.mono_l : ∀ k, (∀ y0 y1, LeO (plunderref1_Unit.j0 k y0 y1) (plunderref1_Unit.j0 (k + 1) y0 y1))
  | 0 => fun _ _ r h => by simp [plunderref1_Unit.j0] at h
  | k + 1 => by
    have ih0 := plunderref1_Unit.mono_l k
    · intro y0 y1
      unfold plunderref1_Unit.j0
      repeat' first
      | (with_reducible exact ih0 _ _)
      | (with_reducible exact LeO.refl _)
      | (with_reducible exact LeO.none _)
      | (with_reducible refine LeO.ite ?_ ?_)
      | (with_reducible refine LeO.bind ?_ (fun _ => ?_))
      | exact ih0 _ _
      | exact LeO.none _
      | refine LeO.ite ?_ ?_
      | refine LeO.bind ?_ (fun _ => ?_)
theorem plunderref1_Unit.mono : ∀ a0 k, LeO (plunderref1_Unit.f k a0) (plunderref1_Unit.f (k + 1) a0) := by
  intro a0 k
  have ih0 := plunderref1_Unit.mono_l k
  unfold plunderref1_Unit.f
  repeat' first
      | (with_reducible exact ih0 _ _)
      | (with_reducible exact LeO.refl _)
      | (with_reducible exact LeO.none _)
      | (with_reducible refine LeO.ite ?_ ?_)
      | (with_reducible refine LeO.bind ?_ (fun _ => ?_))
      | exact ih0 _ _
      | exact LeO.none _
      | refine LeO.ite ?_ ?_
      | refine LeO.bind ?_ (fun _ => ?_)
def plunderref1_folds.j0 : Nat → Int → Int → Bool → Option (Int)
  | 0, _, _, _ => none
  | k + 1, x0, x1, x12 => if x12 = true then (some 10) else ((plunderref1_Unit.f k x0).bind fun bt135 => (if bt135.2 = true then (if x1 > 65536 then (some 2) else (some 0)) else (some 11)))
def plunderref1_folds.f (k : Nat) (a0 : Int) (a1 : Int) : Option (Int) := if a0 < 0 then (plunderref1_folds.j0 k a0 a1 true) else (plunderref1_folds.j0 k a0 a1 (decide (a0 ≥ 16)))
theorem plunderref1_folds.mono_l : ∀ k, (∀ y0 y1 y2, LeO (plunderref1_folds.j0 k y0 y1 y2) (plunderref1_folds.j0 (k + 1) y0 y1 y2))
  | 0 => fun _ _ _ r h => by simp [plunderref1_folds.j0] at h
  | k + 1 => by
    have ih0 := plunderref1_folds.mono_l k
    · intro y0 y1 y2
      unfold plunderref1_folds.j0
      repeat' first
      | (with_reducible exact ih0 _ _ _)
      | (with_reducible exact plunderref1_Unit.mono _ _)
      | (with_reducible exact LeO.refl _)
      | (with_reducible exact LeO.none _)
      | (with_reducible refine LeO.ite ?_ ?_)
      | (with_reducible refine LeO.bind ?_ (fun _ => ?_))
      | exact ih0 _ _ _
      | exact plunderref1_Unit.mono _ _
      | exact LeO.none _
      | refine LeO.ite ?_ ?_
      | refine LeO.bind ?_ (fun _ => ?_)
theorem plunderref1_folds.mono : ∀ a0 a1 k, LeO (plunderref1_folds.f k a0 a1) (plunderref1_folds.f (k + 1) a0 a1) := by
  intro a0 a1 k
  have ih0 := plunderref1_folds.mono_l k
  unfold plunderref1_folds.f
  repeat' first
      | (with_reducible exact ih0 _ _ _)
      | (with_reducible exact plunderref1_Unit.mono _ _)
      | (with_reducible exact LeO.refl _)
      | (with_reducible exact LeO.none _)
      | (with_reducible refine LeO.ite ?_ ?_)
      | (with_reducible refine LeO.bind ?_ (fun _ => ?_))
      | exact ih0 _ _ _
      | exact plunderref1_Unit.mono _ _
      | exact LeO.none _
      | refine LeO.ite ?_ ?_
      | refine LeO.bind ?_ (fun _ => ?_)
def plunderref1_quot.f (a0 : Int) (a1 : Int) : Option (Int) := if a1 = 0 then (some 0) else (if a1 = (-1) then (some (wrap64 (-a0))) else (some (wrap64 (Int.tdiv a0 a1))))
def plunderref1_odd.f (a0 : Int) : Option (Bool) := some ((Int.tmod a0 2) != 0)
def plunderref1_half.f (a0 : Int) : Option (Int) := if a0 < 0 then (if (Int.tmod a0 2) = 0 then (some (wrap64 (Int.tdiv a0 2))) else (some (wrap64 ((wrap64 (Int.tdiv a0 2)) - 1)))) else (some (wrap64 (Int.tdiv a0 2)))
mutual
def plunderref1_bits.l0 : Nat → Int → Int → Bool → Bool → Int → Int → Int → Option (Int)
  | 0, _, _, _, _, _, _, _ => none
  | k + 1, x0, x1, x2, x3, x9, x10, x11 => if x11 < 64 then ((plunderref1_odd.f x0).bind fun t137 => ((plunderref1_odd.f x1).bind fun t138 => (if t137 = true then (if t138 = true then (if x2 = true then (plunderref1_bits.j1 k x0 x1 x2 x3 x9 x10 x11 true) else (if (t137 != t138) = true then (plunderref1_bits.j1 k x0 x1 x2 x3 x9 x10 x11 x3) else (plunderref1_bits.j1 k x0 x1 x2 x3 x9 x10 x11 false))) else (if (t137 != t138) = true then (plunderref1_bits.j1 k x0 x1 x2 x3 x9 x10 x11 x3) else (plunderref1_bits.j1 k x0 x1 x2 x3 x9 x10 x11 false))) else (if (t137 != t138) = true then (plunderref1_bits.j1 k x0 x1 x2 x3 x9 x10 x11 x3) else (plunderref1_bits.j1 k x0 x1 x2 x3 x9 x10 x11 false))))) else (some x9)
def plunderref1_bits.j1 : Nat → Int → Int → Bool → Bool → Int → Int → Int → Bool → Option (Int)
  | 0, _, _, _, _, _, _, _, _ => none
  | k + 1, x0, x1, x2, x3, x9, x10, x11, x36 => if x36 = true then ((plunderref1_half.f x0).bind fun t139 => ((plunderref1_half.f x1).bind fun t140 => (plunderref1_bits.l0 k t139 t140 x2 x3 (wrap64 (x9 + x10)) (wrap64 (x10 + x10)) (wrap64 (x11 + 1))))) else ((plunderref1_half.f x0).bind fun t141 => ((plunderref1_half.f x1).bind fun t142 => (plunderref1_bits.l0 k t141 t142 x2 x3 x9 (wrap64 (x10 + x10)) (wrap64 (x11 + 1)))))
end
def plunderref1_bits.f (k : Nat) (a0 : Int) (a1 : Int) (a2 : Bool) (a3 : Bool) : Option (Int) := plunderref1_bits.l0 k a0 a1 a2 a3 0 1 0
theorem plunderref1_bits.mono_l : ∀ k, (∀ y0 y1 y2 y3 y4 y5 y6, LeO (plunderref1_bits.l0 k y0 y1 y2 y3 y4 y5 y6) (plunderref1_bits.l0 (k + 1) y0 y1 y2 y3 y4 y5 y6)) ∧ (∀ y0 y1 y2 y3 y4 y5 y6 y7, LeO (plunderref1_bits.j1 k y0 y1 y2 y3 y4 y5 y6 y7) (plunderref1_bits.j1 (k + 1) y0 y1 y2 y3 y4 y5 y6 y7))
  | 0 => ⟨fun _ _ _ _ _ _ _ r h => by simp [plunderref1_bits.l0] at h, fun _ _ _ _ _ _ _ _ r h => by simp [plunderref1_bits.j1] at h⟩
  | k + 1 => by
    obtain ⟨ih0, ih1⟩ := plunderref1_bits.mono_l k
    refine ⟨?_, ?_⟩
    · intro y0 y1 y2 y3 y4 y5 y6
      unfold plunderref1_bits.l0
      repeat' first
      | (with_reducible exact ih0 _ _ _ _ _ _ _)
      | (with_reducible exact ih1 _ _ _ _ _ _ _ _)
      | (with_reducible exact LeO.refl _)
      | (with_reducible exact LeO.none _)
      | (with_reducible refine LeO.ite ?_ ?_)
      | (with_reducible refine LeO.bind ?_ (fun _ => ?_))
      | exact ih0 _ _ _ _ _ _ _
      | exact ih1 _ _ _ _ _ _ _ _
      | exact LeO.none _
      | refine LeO.ite ?_ ?_
      | refine LeO.bind ?_ (fun _ => ?_)
    · intro y0 y1 y2 y3 y4 y5 y6 y7
      unfold plunderref1_bits.j1
      repeat' first
      | (with_reducible exact ih0 _ _ _ _ _ _ _)
      | (with_reducible exact ih1 _ _ _ _ _ _ _ _)
      | (with_reducible exact LeO.refl _)
      | (with_reducible exact LeO.none _)
      | (with_reducible refine LeO.ite ?_ ?_)
      | (with_reducible refine LeO.bind ?_ (fun _ => ?_))
      | exact ih0 _ _ _ _ _ _ _
      | exact ih1 _ _ _ _ _ _ _ _
      | exact LeO.none _
      | refine LeO.ite ?_ ?_
      | refine LeO.bind ?_ (fun _ => ?_)
theorem plunderref1_bits.mono : ∀ a0 a1 a2 a3 k, LeO (plunderref1_bits.f k a0 a1 a2 a3) (plunderref1_bits.f (k + 1) a0 a1 a2 a3) := by
  intro a0 a1 a2 a3 k
  obtain ⟨ih0, ih1⟩ := plunderref1_bits.mono_l k
  unfold plunderref1_bits.f
  repeat' first
      | (with_reducible exact ih0 _ _ _ _ _ _ _)
      | (with_reducible exact ih1 _ _ _ _ _ _ _ _)
      | (with_reducible exact LeO.refl _)
      | (with_reducible exact LeO.none _)
      | (with_reducible refine LeO.ite ?_ ?_)
      | (with_reducible refine LeO.bind ?_ (fun _ => ?_))
      | exact ih0 _ _ _ _ _ _ _
      | exact ih1 _ _ _ _ _ _ _ _
      | exact LeO.none _
      | refine LeO.ite ?_ ?_
      | refine LeO.bind ?_ (fun _ => ?_)
def plunderref1_moved.l0 : Nat → Int → Int → Bool → Int → Option (Int)
  | 0, _, _, _, _ => none
  | k + 1, x0, x1, x2, x7 => if x7 < x1 then (if x2 = true then (plunderref1_moved.l0 k (wrap64 (x0 + x0)) x1 x2 (wrap64 (x7 + 1))) else ((plunderref1_half.f x0).bind fun t143 => (plunderref1_moved.l0 k t143 x1 x2 (wrap64 (x7 + 1))))) else (some x0)
def plunderref1_moved.f (k : Nat) (a0 : Int) (a1 : Int) (a2 : Bool) : Option (Int) := plunderref1_moved.l0 k a0 a1 a2 0
theorem plunderref1_moved.mono_l : ∀ k, (∀ y0 y1 y2 y3, LeO (plunderref1_moved.l0 k y0 y1 y2 y3) (plunderref1_moved.l0 (k + 1) y0 y1 y2 y3))
  | 0 => fun _ _ _ _ r h => by simp [plunderref1_moved.l0] at h
  | k + 1 => by
    have ih0 := plunderref1_moved.mono_l k
    · intro y0 y1 y2 y3
      unfold plunderref1_moved.l0
      repeat' first
      | (with_reducible exact ih0 _ _ _ _)
      | (with_reducible exact LeO.refl _)
      | (with_reducible exact LeO.none _)
      | (with_reducible refine LeO.ite ?_ ?_)
      | (with_reducible refine LeO.bind ?_ (fun _ => ?_))
      | exact ih0 _ _ _ _
      | exact LeO.none _
      | refine LeO.ite ?_ ?_
      | refine LeO.bind ?_ (fun _ => ?_)
theorem plunderref1_moved.mono : ∀ a0 a1 a2 k, LeO (plunderref1_moved.f k a0 a1 a2) (plunderref1_moved.f (k + 1) a0 a1 a2) := by
  intro a0 a1 a2 k
  have ih0 := plunderref1_moved.mono_l k
  unfold plunderref1_moved.f
  repeat' first
      | (with_reducible exact ih0 _ _ _ _)
      | (with_reducible exact LeO.refl _)
      | (with_reducible exact LeO.none _)
      | (with_reducible refine LeO.ite ?_ ?_)
      | (with_reducible refine LeO.bind ?_ (fun _ => ?_))
      | exact ih0 _ _ _ _
      | exact LeO.none _
      | refine LeO.ite ?_ ?_
      | refine LeO.bind ?_ (fun _ => ?_)
def plunderref1_shift.f (a0 : Int) : Option (Int) := if (Int.tmod a0 64) < 0 then (some (wrap64 ((Int.tmod a0 64) + 64))) else (some (Int.tmod a0 64))
def plunderref1_truth.f (a0 : Bool) : Option (Int) := if a0 = true then (some 1) else (some 0)
end Go.Proofs.YtamfkglnejhjdaaDoor.PHyperFold
