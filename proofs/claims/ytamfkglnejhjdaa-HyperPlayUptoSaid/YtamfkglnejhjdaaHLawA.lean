/- Contracts of functions that the reducer's laws share: may this be played, the puts (began as printed texts). -/
import Derived.Test.YtamfkglnejhjdaaKinds
import Derived.Test.YtamfkglnejhjdaaSerA
namespace Go.Proofs.Ytamfkglnejhjdaa.HLaw
open Go.Proofs.Ytamfkglnejhjdaa.PHyperSerial Go.Proofs.Ytamfkglnejhjdaa.Kinds
open Go.RowKit Go.Proofs.YtamfkglnejhjdaaW.PrintWords Go.Proofs.YtamfkglnejhjdaaW.PrintLast Go.Proofs.YtamfkglnejhjdaaW.PrintMore
attribute [local go_sem] max2_int min2_int max_two min_two max_three min_three max_four min_four   -- for this text's walks alone
set_option linter.unusedVariables false
set_option linter.unusedSimpArgs false

mutual
def plunderlaw23_right.j0 : Nat → Bool → List (S46) → List Bool → List Int → Option (Bool)
  | 0, _, _, _, _ => none
  | k + 1, x20, x118000, x118001, x118002 => if x20 = true then (some false) else (plunderlaw23_right.l0 k 0 0 x118000 x118001 x118002)
def plunderlaw23_right.l0 : Nat → Int → Int → List (S46) → List Bool → List Int → Option (Bool)
  | 0, _, _, _, _, _ => none
  | k + 1, x3, x4, x118000, x118001, x118002 => if x4 < (x118000.length : Int) then (if 0 ≤ x4 then (if ((rd_T46 x118000 x4).f0) = 0 then (if (wrap64 (x3 + 1)) < 0 then (some false) else (plunderlaw23_right.l0 k (wrap64 (x3 + 1)) (wrap64 (x4 + 1)) x118000 x118001 x118002)) else (if ((rd_T46 x118000 x4).f0) = 1 then (if (wrap64 (x3 - 1)) < 0 then (some false) else (plunderlaw23_right.l0 k (wrap64 (x3 - 1)) (wrap64 (x4 + 1)) x118000 x118001 x118002)) else (if ((rd_T46 x118000 x4).f0) = 2 then (plunderlaw23_right.j2 k x3 x4 (((rd_T46 x118000 x4).f0) == 2) x118000 x118001 x118002) else (if ((rd_T46 x118000 x4).f0) = 3 then (plunderlaw23_right.j2 k x3 x4 (((rd_T46 x118000 x4).f0) == 3) x118000 x118001 x118002) else (plunderlaw23_right.j2 k x3 x4 (((rd_T46 x118000 x4).f0) == 4) x118000 x118001 x118002))))) else (none)) else (some true)
def plunderlaw23_right.j2 : Nat → Int → Int → Bool → List (S46) → List Bool → List Int → Option (Bool)
  | 0, _, _, _, _, _, _ => none
  | k + 1, x3, x4, x42, x118000, x118001, x118002 => if x42 = true then (if x3 < 0 then (some false) else (plunderlaw23_right.l0 k x3 (wrap64 (x4 + 1)) x118000 x118001 x118002)) else (some false)
end
def plunderlaw23_right.f (k : Nat) (l0_0 : List (S46)) (l0_1 : List Bool) (l0_2 : List Int) : Option (Bool) := if (l0_0.length : Int) > 4096 then (plunderlaw23_right.j0 k true l0_0 l0_1 l0_2) else (if (l0_1.length : Int) > 4096 then (plunderlaw23_right.j0 k true l0_0 l0_1 l0_2) else (plunderlaw23_right.j0 k (decide ((l0_2.length : Int) > 1048576)) l0_0 l0_1 l0_2))
theorem plunderlaw23_right.mono_l : ∀ k, (∀ y0 y1 y2 y3, LeO (plunderlaw23_right.j0 k y0 y1 y2 y3) (plunderlaw23_right.j0 (k + 1) y0 y1 y2 y3)) ∧ (∀ y0 y1 y2 y3 y4, LeO (plunderlaw23_right.l0 k y0 y1 y2 y3 y4) (plunderlaw23_right.l0 (k + 1) y0 y1 y2 y3 y4)) ∧ (∀ y0 y1 y2 y3 y4 y5, LeO (plunderlaw23_right.j2 k y0 y1 y2 y3 y4 y5) (plunderlaw23_right.j2 (k + 1) y0 y1 y2 y3 y4 y5))
  | 0 => ⟨fun _ _ _ _ r h => by simp [plunderlaw23_right.j0] at h, fun _ _ _ _ _ r h => by simp [plunderlaw23_right.l0] at h, fun _ _ _ _ _ _ r h => by simp [plunderlaw23_right.j2] at h⟩
  | k + 1 => by
    obtain ⟨ih0, ih1, ih2⟩ := plunderlaw23_right.mono_l k
    refine ⟨?_, ?_, ?_⟩
    · intro y0 y1 y2 y3
      unfold plunderlaw23_right.j0
      repeat' first
      | (with_reducible exact ih0 _ _ _ _)
      | (with_reducible exact ih1 _ _ _ _ _)
      | (with_reducible exact ih2 _ _ _ _ _ _)
      | (with_reducible exact LeO.refl _)
      | (with_reducible exact LeO.none _)
      | (with_reducible refine LeO.ite ?_ ?_)
      | (with_reducible refine LeO.bind ?_ (fun _ => ?_))
      | exact ih0 _ _ _ _
      | exact ih1 _ _ _ _ _
      | exact ih2 _ _ _ _ _ _
      | exact LeO.none _
      | refine LeO.ite ?_ ?_
      | refine LeO.bind ?_ (fun _ => ?_)
    · intro y0 y1 y2 y3 y4
      unfold plunderlaw23_right.l0
      repeat' first
      | (with_reducible exact ih0 _ _ _ _)
      | (with_reducible exact ih1 _ _ _ _ _)
      | (with_reducible exact ih2 _ _ _ _ _ _)
      | (with_reducible exact LeO.refl _)
      | (with_reducible exact LeO.none _)
      | (with_reducible refine LeO.ite ?_ ?_)
      | (with_reducible refine LeO.bind ?_ (fun _ => ?_))
      | exact ih0 _ _ _ _
      | exact ih1 _ _ _ _ _
      | exact ih2 _ _ _ _ _ _
      | exact LeO.none _
      | refine LeO.ite ?_ ?_
      | refine LeO.bind ?_ (fun _ => ?_)
    · intro y0 y1 y2 y3 y4 y5
      unfold plunderlaw23_right.j2
      repeat' first
      | (with_reducible exact ih0 _ _ _ _)
      | (with_reducible exact ih1 _ _ _ _ _)
      | (with_reducible exact ih2 _ _ _ _ _ _)
      | (with_reducible exact LeO.refl _)
      | (with_reducible exact LeO.none _)
      | (with_reducible refine LeO.ite ?_ ?_)
      | (with_reducible refine LeO.bind ?_ (fun _ => ?_))
      | exact ih0 _ _ _ _
      | exact ih1 _ _ _ _ _
      | exact ih2 _ _ _ _ _ _
      | exact LeO.none _
      | refine LeO.ite ?_ ?_
      | refine LeO.bind ?_ (fun _ => ?_)
theorem plunderlaw23_right.mono : ∀ a0 a1 a2 k, LeO (plunderlaw23_right.f k a0 a1 a2) (plunderlaw23_right.f (k + 1) a0 a1 a2) := by
  intro a0 a1 a2 k
  obtain ⟨ih0, ih1, ih2⟩ := plunderlaw23_right.mono_l k
  unfold plunderlaw23_right.f
  repeat' first
      | (with_reducible exact ih0 _ _ _ _)
      | (with_reducible exact ih1 _ _ _ _ _)
      | (with_reducible exact ih2 _ _ _ _ _ _)
      | (with_reducible exact LeO.refl _)
      | (with_reducible exact LeO.none _)
      | (with_reducible refine LeO.ite ?_ ?_)
      | (with_reducible refine LeO.bind ?_ (fun _ => ?_))
      | exact ih0 _ _ _ _
      | exact ih1 _ _ _ _ _
      | exact ih2 _ _ _ _ _ _
      | exact LeO.none _
      | refine LeO.ite ?_ ?_
      | refine LeO.bind ?_ (fun _ => ?_)
mutual
def plunderlaw23_puts.l0 : Nat → List (S46) → Int → List Int → Int → Option (List Int)
  | 0, _, _, _, _ => none
  | k + 1, x0, x1, x5, x6 => if x6 < x1 then (plunderlaw23_puts.j1 k x0 x1 x5 x6 (decide (x6 < (x0.length : Int)))) else (plunderlaw23_puts.j1 k x0 x1 x5 x6 false)
def plunderlaw23_puts.j1 : Nat → List (S46) → Int → List Int → Int → Bool → Option (List Int)
  | 0, _, _, _, _, _ => none
  | k + 1, x0, x1, x5, x6, x15 => if x15 = true then (if 0 ≤ x6 then (if x6 < (x0.length : Int) then (if ((rd_T46 x0 x6).f0) = 4 then (if x5.length < 17592186044416 then (plunderlaw23_puts.l0 k x0 x1 (x5 ++ [(rd_T46 x0 x6).f1]) (wrap64 (x6 + 1))) else (none)) else (plunderlaw23_puts.l0 k x0 x1 x5 (wrap64 (x6 + 1)))) else (none)) else (none)) else (some x5)
end
def plunderlaw23_puts.f (k : Nat) (l0 : List (S46)) (a1 : Int) : Option (List Int) := plunderlaw23_puts.l0 k l0 a1 ([] : List Int) 0
theorem plunderlaw23_puts.mono_l : ∀ k, (∀ y0 y1 y2 y3, LeO (plunderlaw23_puts.l0 k y0 y1 y2 y3) (plunderlaw23_puts.l0 (k + 1) y0 y1 y2 y3)) ∧ (∀ y0 y1 y2 y3 y4, LeO (plunderlaw23_puts.j1 k y0 y1 y2 y3 y4) (plunderlaw23_puts.j1 (k + 1) y0 y1 y2 y3 y4))
  | 0 => ⟨fun _ _ _ _ r h => by simp [plunderlaw23_puts.l0] at h, fun _ _ _ _ _ r h => by simp [plunderlaw23_puts.j1] at h⟩
  | k + 1 => by
    obtain ⟨ih0, ih1⟩ := plunderlaw23_puts.mono_l k
    refine ⟨?_, ?_⟩
    · intro y0 y1 y2 y3
      unfold plunderlaw23_puts.l0
      repeat' first
      | (with_reducible exact ih0 _ _ _ _)
      | (with_reducible exact ih1 _ _ _ _ _)
      | (with_reducible exact LeO.refl _)
      | (with_reducible exact LeO.none _)
      | (with_reducible refine LeO.ite ?_ ?_)
      | (with_reducible refine LeO.bind ?_ (fun _ => ?_))
      | exact ih0 _ _ _ _
      | exact ih1 _ _ _ _ _
      | exact LeO.none _
      | refine LeO.ite ?_ ?_
      | refine LeO.bind ?_ (fun _ => ?_)
    · intro y0 y1 y2 y3 y4
      unfold plunderlaw23_puts.j1
      repeat' first
      | (with_reducible exact ih0 _ _ _ _)
      | (with_reducible exact ih1 _ _ _ _ _)
      | (with_reducible exact LeO.refl _)
      | (with_reducible exact LeO.none _)
      | (with_reducible refine LeO.ite ?_ ?_)
      | (with_reducible refine LeO.bind ?_ (fun _ => ?_))
      | exact ih0 _ _ _ _
      | exact ih1 _ _ _ _ _
      | exact LeO.none _
      | refine LeO.ite ?_ ?_
      | refine LeO.bind ?_ (fun _ => ?_)
theorem plunderlaw23_puts.mono : ∀ a0 a1 k, LeO (plunderlaw23_puts.f k a0 a1) (plunderlaw23_puts.f (k + 1) a0 a1) := by
  intro a0 a1 k
  obtain ⟨ih0, ih1⟩ := plunderlaw23_puts.mono_l k
  unfold plunderlaw23_puts.f
  repeat' first
      | (with_reducible exact ih0 _ _ _ _)
      | (with_reducible exact ih1 _ _ _ _ _)
      | (with_reducible exact LeO.refl _)
      | (with_reducible exact LeO.none _)
      | (with_reducible refine LeO.ite ?_ ?_)
      | (with_reducible refine LeO.bind ?_ (fun _ => ?_))
      | exact ih0 _ _ _ _
      | exact ih1 _ _ _ _ _
      | exact LeO.none _
      | refine LeO.ite ?_ ?_
      | refine LeO.bind ?_ (fun _ => ?_)
end Go.Proofs.Ytamfkglnejhjdaa.HLaw
