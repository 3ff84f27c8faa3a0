/- For an operation with a unit: the fold by halves is the fold from the left, and a list may be cut anywhere: plain facts. -/
import Derived.Test.YtpjgdojhdlfjdaaDoorTreeBase
namespace Go.Proofs.YtpjgdojhdlfjdaaDoor.HalvesLaw
open Go.RowKit Go.Proofs.YtpjgdojhdlfjdaaDoor.Tab Go.Proofs.YtpjgdojhdlfjdaaDoor.BitMath Go.Proofs.YtpjgdojhdlfjdaaDoor.Mon
open Go.Proofs.YtpjgdojhdlfjdaaDoor.FoldLaw (readyP hasUnit_of unitOf_un foldP wkA wkA_wk)
open Go.Proofs.YtpjgdojhdlfjdaaDoor.TreeLaw (treeP halves_both work_wk half_len)

/-- The fold from the unit. -/
def F (op : Int) (l : List Int) : Int := l.foldl (wk op) (un op)
theorem fold_in (op : Int) (l : List Int) (hl : ∀ x ∈ l, In64 x) : ∀ a, In64 a → In64 (l.foldl (wk op) a) := by
  induction l with
  | nil => intro a h; exact h
  | cons x r ih => intro a h; exact ih (fun y hy => hl y (by simp [hy])) _ (wk_in op h (hl x (by simp)))
theorem F_in (op : Int) (l : List Int) (hl : ∀ x ∈ l, In64 x) : In64 (F op l) := fold_in op l hl _ (un_in op)
theorem fold_F (op : Int) (hop : HasUnit op) (l : List Int) (hl : ∀ x ∈ l, In64 x) : ∀ a, In64 a → l.foldl (wk op) a = wk op a (F op l) := by
  induction l with
  | nil => intro a h; exact (wk_unit' op hop h).symm
  | cons x r ih =>
    intro a h
    have hx := hl x (by simp)
    have hr : ∀ y ∈ r, In64 y := fun y hy => hl y (by simp [hy])
    have e1 := ih hr _ (wk_in op h hx)
    have e2 := ih hr _ (wk_in op (un_in op) hx)
    show r.foldl (wk op) (wk op a x) = wk op a (r.foldl (wk op) (wk op (un op) x))
    rw [e1, e2, wk_unit op hop hx, wk_assoc]
theorem F_app (op : Int) (hop : HasUnit op) (l r : List Int) (hl : ∀ x ∈ l, In64 x) (hr : ∀ x ∈ r, In64 x) : F op (l ++ r) = wk op (F op l) (F op r) := by
  unfold F
  rw [List.foldl_append]
  exact fold_F op hop r hr _ (F_in op l hl)
theorem F_one (op : Int) (hop : HasUnit op) (x : Int) (hx : In64 x) : F op [x] = x := wk_unit op hop hx

theorem halves_F (op : Int) (hop : HasUnit op) (n : Nat) : ∀ (l : List Int), l.length = n → 0 < n → n ≤ 9223372036854775806 → (∀ x ∈ l, In64 x) → ∀ k, n < k → POpsTree.ops_halves.f k op l = some (F op l) := by
  induction n using Nat.strongRecOn with
  | _ n ih =>
    intro l hl h0 hm hx k hk
    subst hl
    obtain ⟨k, rfl⟩ : ∃ m, k = m + 1 := ⟨k - 1, by omega⟩
    by_cases h1 : l.length = 1
    · obtain ⟨x, rfl⟩ : ∃ x, l = [x] := by
        match l, h1 with
        | [x], _ => exact ⟨x, rfl⟩
      rw [F_one op hop x (hx x (by simp))]
      simp [POpsTree.ops_halves.f, Go.Proofs.YtpjgdojhdlfjdaaDoorW.PrintWords.rd]
    · have hh := half_len l.length hm
      have hta : (l.take (l.length / 2)).length = l.length / 2 := by rw [List.length_take]; omega
      have htd : (l.drop (l.length / 2)).length = l.length - l.length / 2 := by rw [List.length_drop]
      have x1 : ∀ x ∈ l.take (l.length / 2), In64 x := fun x h => hx x (List.mem_of_mem_take h)
      have x2 : ∀ x ∈ l.drop (l.length / 2), In64 x := fun x h => hx x (List.mem_of_mem_drop h)
      have a1 := ih (l.length / 2) (by omega) (l.take (l.length / 2)) hta (by omega) (by omega) x1 k (by omega)
      have a2 := ih (l.length - l.length / 2) (by omega) (l.drop (l.length / 2)) htd (by omega) (by omega) x2 k (by omega)
      have e := F_app op hop _ _ x1 x2
      rw [List.take_append_drop] at e
      simp only [POpsTree.ops_halves.f]
      rw [if_neg (by omega), hh, if_pos (by omega), if_pos (by omega), Int.toNat_natCast, a1, Option.bind_some, a2, Option.bind_some, work_wk hop, e]
      rfl

theorem ready_unit {op : Int} (hop : HasUnit op) {n : Int} (hn : n ≤ 65536) : readyP op n = (un op, 0) := by
  unfold readyP
  have h : 0 ≤ op ∧ op < 16 := by unfold HasUnit at hop; omega
  rw [if_pos h, unitOf_un hop, if_pos rfl, if_neg (by omega)]
theorem fold_eq (op : Int) (hop : HasUnit op) (l : List Int) (hn : l.length ≤ 65536) : foldP op l = (F op l, 0) := by
  unfold foldP
  rw [ready_unit hop (by omega), if_pos rfl]
  have e : wkA op = wk op := by funext a b; exact wkA_wk hop a b
  rw [e]; rfl
theorem tree_eq (op : Int) (hop : HasUnit op) (l : List Int) (hn : l.length ≤ 65536) (hl : ∀ x ∈ l, In64 x) : treeP op l = (F op l, 0) := by
  unfold treeP
  rw [ready_unit hop (by omega), if_pos rfl]
  by_cases h : l.length = 0
  · rw [if_pos h, List.eq_nil_of_length_eq_zero h]; rfl
  · rw [if_neg h, halves_F op hop l.length l rfl (by omega) (by omega) hl _ (by omega)]; rfl
end Go.Proofs.YtpjgdojhdlfjdaaDoor.HalvesLaw
