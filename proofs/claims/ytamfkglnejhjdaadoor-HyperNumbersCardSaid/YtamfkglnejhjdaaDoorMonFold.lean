/- A fold over an operation with a unit: it may be cut anywhere. -/
import Derived.Test.YtamfkglnejhjdaaDoorMon
namespace Go.Proofs.YtamfkglnejhjdaaDoor.HalvesLaw
open Go.RowKit Go.Proofs.YtamfkglnejhjdaaDoor.BitMath Go.Proofs.YtamfkglnejhjdaaDoor.Mon
/-- The fold from the unit. -/
def F (op : Int) (l : List Int) : Int := l.foldl (wk op) (un op)
theorem fold_in (op : Int) (l : List Int) (hl : ∀ x ∈ l, In64 x) : ∀ a, In64 a → In64 (l.foldl (wk op) a) := by
  induction l with
  | nil => intro a h; exact h
  | cons x r ih => intro a h; exact ih (fun y hy => hl y (by simp [hy])) _ (wk_in op h (hl x (by simp)))
theorem F_in (op : Int) (l : List Int) (hl : ∀ x ∈ l, In64 x) : In64 (F op l) := fold_in op l hl _ (un_in op)
theorem fold_F (op : Int) (hop : HasUnit op) (l : List Int) (hl : ∀ x ∈ l, In64 x) : ∀ a, In64 a → l.foldl (wk op) a = wk op a (F op l) := by
  induction l with
  | nil => intro a h; exact (wk_unit' op hop h).symm
  | cons x r ih =>
    intro a h
    have hx := hl x (by simp)
    have hr : ∀ y ∈ r, In64 y := fun y hy => hl y (by simp [hy])
    have e1 := ih hr _ (wk_in op h hx)
    have e2 := ih hr _ (wk_in op (un_in op) hx)
    show r.foldl (wk op) (wk op a x) = wk op a (r.foldl (wk op) (wk op (un op) x))
    rw [e1, e2, wk_unit op hop hx, wk_assoc]
theorem F_app (op : Int) (hop : HasUnit op) (l r : List Int) (hl : ∀ x ∈ l, In64 x) (hr : ∀ x ∈ r, In64 x) : F op (l ++ r) = wk op (F op l) (F op r) := by
  unfold F
  rw [List.foldl_append]
  exact fold_F op hop r hr _ (F_in op l hl)
end Go.Proofs.YtamfkglnejhjdaaDoor.HalvesLaw
