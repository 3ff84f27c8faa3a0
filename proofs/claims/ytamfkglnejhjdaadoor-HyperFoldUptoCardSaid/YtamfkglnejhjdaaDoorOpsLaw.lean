/- What the operations with a unit answer: plain facts. -/
import Derived.Test.YtamfkglnejhjdaaDoorWorkFold
import Derived.Test.YtamfkglnejhjdaaDoorTab
namespace Go.Proofs.YtamfkglnejhjdaaDoor.FoldLaw
open Go.Proofs.YtamfkglnejhjdaaDoor.Tab
open Go.RowKit Go.Proofs.YtamfkglnejhjdaaDoor.PHyperFold Go.Proofs.YtamfkglnejhjdaaDoorW.PrintWords Go.Proofs.YtamfkglnejhjdaaDoorW.PrintLast Go.Proofs.YtamfkglnejhjdaaDoor.BitMath Go.Proofs.YtamfkglnejhjdaaDoor.Mon
/-- What ops.ready tells. -/
def readyP (op n : Int) : Int × Int := if 0 ≤ op ∧ op < 16 then (if (unitOf op).2 = true then (if n > 65536 then (0, 2) else ((unitOf op).1, 0)) else (0, 11)) else (0, 10)

theorem isOp_yes {op : Int} (h : 0 ≤ op ∧ op < 16) : ops_isOp.f op = some true := by unfold ops_isOp.f; simp [h.1, h.2]
theorem isOp_no {op : Int} (h : ¬ (0 ≤ op ∧ op < 16)) : ops_isOp.f op = some false := by
  unfold ops_isOp.f
  by_cases h0 : op ≥ 0
  · simp [h0]; omega
  · simp [h0]

/-- a op b, whatever the number. -/
def wkA (op a b : Int) : Int := (ops_work.f op a b).getD 0
theorem work_some (op a b : Int) : ops_work.f op a b = some (wkA op a b) := by
  have h : ∃ v, ops_work.f op a b = some v := by
    unfold ops_work.f
    have hd : ∃ q r, ops_divide.f a b = some (q, r) := by unfold ops_divide.f; split; exact ⟨_, _, rfl⟩; split <;> exact ⟨_, _, rfl⟩
    obtain ⟨q, r, hd⟩ := hd
    have hu : 0 ≤ IntKind.u64.wrap (Go.bits .and .i64 b 63) := by
      simp only [IntKind.wrap, IntKind.bits, IntKind.signed]
      simp
      omega
    have ht : ∀ c, ∃ v, ops_truth.f c = some v := fun c => by cases c <;> exact ⟨_, rfl⟩
    obtain ⟨t1, h1⟩ := ht (decide (a < b))
    obtain ⟨t2, h2⟩ := ht (decide (a ≤ b))
    obtain ⟨t3, h3⟩ := ht (a == b)
    obtain ⟨t4, h4⟩ := ht (a != b)
    simp only [hd, if_pos hu, h1, h2, h3, h4, Option.bind_some]
    have ok : ∀ (c : Prop) [Decidable c] (x y : Option Int), (∃ v, x = some v) → (∃ v, y = some v) → ∃ v, (if c then x else y) = some v := fun c _ x y h k => by
      by_cases e : c
      · rw [if_pos e]; exact h
      · rw [if_neg e]; exact k
    repeat' (first | (with_reducible refine ok _ _ _ ?_ ?_) | exact ⟨_, rfl⟩)
  obtain ⟨v, h⟩ := h
  unfold wkA
  rw [h]; rfl

/-- What ops.Fold tells. -/
def foldP (op : Int) (l : List Int) : Int × Int := if (readyP op l.length).2 = 0 then (l.foldl (wkA op) (readyP op l.length).1, 0) else (0, (readyP op l.length).2)

theorem ref_unit (op : Int) (k : Nat) (hk : 0 < k) : plunderref1_Unit.f k op = some ((unitOf op).1, (unitOf op).2) := by
  obtain ⟨k, rfl⟩ : ∃ m, k = m + 1 := ⟨k - 1, by omega⟩
  unfold plunderref1_Unit.f unitOf
  simp only [plunderref1_Unit.j0]
  by_cases h0 : op = 0
  · subst h0; rfl
  by_cases h1 : op = 6
  · subst h1; rfl
  by_cases h2 : op = 7
  · subst h2; rfl
  by_cases h3 : op = 2
  · subst h3; rfl
  by_cases h4 : op = 5
  · subst h4; rfl
  by_cases h5 : op = 10
  · subst h5; rfl
  by_cases h6 : op = 11
  · subst h6; rfl
  simp [h0, h1, h2, h3, h4, h5, h6]

theorem ref_folds (op n : Int) (k : Nat) (hk : 1 < k) : plunderref1_folds.f k op n = some (readyP op n).2 := by
  obtain ⟨k, rfl⟩ : ∃ m, k = m + 1 := ⟨k - 1, by omega⟩
  unfold plunderref1_folds.f readyP
  simp only [plunderref1_folds.j0, ref_unit op k (by omega), Option.bind_some]
  by_cases h0 : op < 0
  · simp [h0, show ¬ (0 ≤ op) by omega]
  · by_cases h1 : op ≥ 16
    · simp [h0, h1, show ¬ (op < 16) by omega]
    · rw [if_neg h0, show decide (op ≥ 16) = false from by simpa using h1, if_neg (by decide), if_pos (show 0 ≤ op ∧ op < 16 by omega)]
      split
      · split <;> rfl
      · rfl

theorem hasUnit_of {op : Int} (h : (unitOf op).2 = true) : HasUnit op := by
  unfold HasUnit
  unfold unitOf at h
  by_cases h0 : op = 0
  · omega
  by_cases h1 : op = 6
  · omega
  by_cases h2 : op = 7
  · omega
  by_cases h3 : op = 2
  · omega
  by_cases h4 : op = 5
  · omega
  by_cases h5 : op = 10
  · omega
  by_cases h6 : op = 11
  · omega
  simp [h0, h1, h2, h3, h4, h5, h6] at h
theorem unitOf_un {op : Int} (h : HasUnit op) : unitOf op = (un op, true) := by
  unfold HasUnit at h
  unfold unitOf un
  rcases h with rfl | rfl | rfl | rfl | rfl | rfl | rfl <;> rfl
theorem wkA_wk {op : Int} (h : HasUnit op) (a b : Int) : wkA op a b = wk op a b := by
  have e : ops_work.f op a b = some (wk op a b) := by
    unfold HasUnit at h
    unfold wk
    rcases h with rfl | rfl | rfl | rfl | rfl | rfl | rfl <;> rfl
  have e2 := work_some op a b
  rw [e] at e2
  exact (Option.some.inj e2).symm
theorem ref_work (op a b : Int) (ha : In64 a) (hb : In64 b) (k : Nat) (hk : 128 < k) : plunderref1_work.f k op a b = some (wkA op a b) := by
  obtain ⟨v, h1, h2⟩ := WorkFold.work_alike op a b ha hb k hk
  rw [work_some] at h1
  rw [h2, ← Option.some.inj h1]

theorem ref_loop (op : Int) (hop : HasUnit op) (l : List Int) (hl : ∀ x ∈ l, In64 x) (hm : l.length ≤ 9223372036854775806) (d : Nat) : ∀ (i k : Nat) (v : Int), i + d = l.length → d + 129 < k → In64 v →
    plunderref1_Fold.l0 k op l v (i : Int) = some ((l.drop i).foldl (wkA op) v, 0) := by
  induction d with
  | zero =>
    intro i k v hi hk hv
    obtain ⟨k, rfl⟩ : ∃ m, k = m + 1 := ⟨k - 1, by omega⟩
    simp only [plunderref1_Fold.l0]
    rw [if_neg (by omega), List.drop_eq_nil_of_le (by omega)]
    rfl
  | succ d ih =>
    intro i k v hi hk hv
    obtain ⟨k, rfl⟩ : ∃ m, k = m + 1 := ⟨k - 1, by omega⟩
    have hlt : i < l.length := by omega
    have hx : rd l (i : Int) = l[i] := by simp [rd, List.getD_eq_getElem?_getD, hlt]
    have hxi : In64 l[i] := hl _ (List.getElem_mem hlt)
    simp only [plunderref1_Fold.l0]
    rw [if_pos (by omega), if_pos (by omega), hx, ref_work op v _ hv hxi k (by omega), Option.bind_some, wrap_id (a := (i : Int) + 1) (by unfold In64; omega)]
    have hw : In64 (wkA op v l[i]) := by rw [wkA_wk hop]; exact wk_in op hv hxi
    have h := ih (i + 1) k (wkA op v l[i]) (by omega) (by omega) hw
    rw [List.drop_eq_getElem_cons hlt, List.foldl_cons]
    exact h

theorem ref_fold (op : Int) (l : List Int) (hl : ∀ x ∈ l, In64 x) (hm : l.length ≤ 9223372036854775806) : plunderref1_Fold.f (l.length + 131) op l = some ((foldP op l).1, (foldP op l).2) := by
  unfold plunderref1_Fold.f foldP
  rw [ref_folds op l.length _ (by omega), Option.bind_some]
  by_cases he : (readyP op l.length).2 = 0
  · rw [if_pos he, if_pos he, ref_unit op _ (by omega), Option.bind_some]
    have hu : (unitOf op).2 = true := by
      unfold readyP at he
      split at he
      · split at he
        · assumption
        · simp at he
      · simp at he
    have hop := hasUnit_of hu
    have hv : (readyP op l.length).1 = (unitOf op).1 := by
      unfold readyP at he ⊢
      split at he
      · rename_i h1
        rw [if_pos h1, if_pos hu]
        split at he
        · simp at he
        · rename_i h2
          rw [if_neg h2]
      · simp at he
    rw [hv]
    have hin : In64 (unitOf op).1 := by rw [unitOf_un hop]; exact un_in op
    have h := ref_loop op hop l hl hm l.length 0 (l.length + 131) (unitOf op).1 (by omega) (by omega) hin
    simpa using h
  · rw [if_neg he, if_neg he]

theorem work_wk {op : Int} (h : HasUnit op) (a b : Int) : ops_work.f op a b = some (wk op a b) := by
  unfold HasUnit at h
  unfold wk
  rcases h with rfl | rfl | rfl | rfl | rfl | rfl | rfl <;> rfl

end Go.Proofs.YtamfkglnejhjdaaDoor.FoldLaw
