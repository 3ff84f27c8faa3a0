/- What the operations with a unit answer: plain facts. -/
import Derived.Test.YtamfkglnejhjdaaDoorRefOpsB
import Derived.Test.YtamfkglnejhjdaaDoorMon
import Derived.Test.YtamfkglnejhjdaaDoorSerA
import Derived.Test.YtamfkglnejhjdaaDoorTab
namespace Go.Proofs.YtamfkglnejhjdaaDoor.FoldLaw
open Go.Proofs.YtamfkglnejhjdaaDoor.Tab
open Go.RowKit Go.Proofs.YtamfkglnejhjdaaDoor.PHyperFold Go.Proofs.YtamfkglnejhjdaaDoorW.PrintWords Go.Proofs.YtamfkglnejhjdaaDoorW.PrintLast Go.Proofs.YtamfkglnejhjdaaDoor.BitMath Go.Proofs.YtamfkglnejhjdaaDoor.Mon
/-- What ops.ready tells. -/
def readyP (op n : Int) : Int × Int := if 0 ≤ op ∧ op < 16 then (if (unitOf op).2 = true then (if n > 65536 then (0, 2) else ((unitOf op).1, 0)) else (0, 11)) else (0, 10)

theorem isOp_yes {op : Int} (h : 0 ≤ op ∧ op < 16) : ops_isOp.f op = some true := by unfold ops_isOp.f; simp [h.1, h.2]
theorem isOp_no {op : Int} (h : ¬ (0 ≤ op ∧ op < 16)) : ops_isOp.f op = some false := by
  unfold ops_isOp.f
  by_cases h0 : op ≥ 0
  · simp [h0]; omega
  · simp [h0]

/-- a op b, whatever the number. -/
def wkA (op a b : Int) : Int := (ops_work.f op a b).getD 0
theorem work_some (op a b : Int) : ops_work.f op a b = some (wkA op a b) := by
  have h : ∃ v, ops_work.f op a b = some v := by
    unfold ops_work.f
    have hd : ∃ q r, ops_divide.f a b = some (q, r) := by unfold ops_divide.f; split; exact ⟨_, _, rfl⟩; split <;> exact ⟨_, _, rfl⟩
    obtain ⟨q, r, hd⟩ := hd
    have hu : 0 ≤ IntKind.u64.wrap (Go.bits .and .i64 b 63) := by
      simp only [IntKind.wrap, IntKind.bits, IntKind.signed]
      simp
      omega
    have ht : ∀ c, ∃ v, ops_truth.f c = some v := fun c => by cases c <;> exact ⟨_, rfl⟩
    obtain ⟨t1, h1⟩ := ht (decide (a < b))
    obtain ⟨t2, h2⟩ := ht (decide (a ≤ b))
    obtain ⟨t3, h3⟩ := ht (a == b)
    obtain ⟨t4, h4⟩ := ht (a != b)
    simp only [hd, if_pos hu, h1, h2, h3, h4, Option.bind_some]
    have ok : ∀ (c : Prop) [Decidable c] (x y : Option Int), (∃ v, x = some v) → (∃ v, y = some v) → ∃ v, (if c then x else y) = some v := fun c _ x y h k => by
      by_cases e : c
      · rw [if_pos e]; exact h
      · rw [if_neg e]; exact k
    repeat' (first | (with_reducible refine ok _ _ _ ?_ ?_) | exact ⟨_, rfl⟩)
  obtain ⟨v, h⟩ := h
  unfold wkA
  rw [h]; rfl

/-- What ops.Fold tells. -/
def foldP (op : Int) (l : List Int) : Int × Int := if (readyP op l.length).2 = 0 then (l.foldl (wkA op) (readyP op l.length).1, 0) else (0, (readyP op l.length).2)

theorem hasUnit_of {op : Int} (h : (unitOf op).2 = true) : HasUnit op := by
  unfold HasUnit
  unfold unitOf at h
  by_cases h0 : op = 0
  · omega
  by_cases h1 : op = 6
  · omega
  by_cases h2 : op = 7
  · omega
  by_cases h3 : op = 2
  · omega
  by_cases h4 : op = 5
  · omega
  by_cases h5 : op = 10
  · omega
  by_cases h6 : op = 11
  · omega
  simp [h0, h1, h2, h3, h4, h5, h6] at h
theorem unitOf_un {op : Int} (h : HasUnit op) : unitOf op = (un op, true) := by
  unfold HasUnit at h
  unfold unitOf un
  rcases h with rfl | rfl | rfl | rfl | rfl | rfl | rfl <;> rfl
theorem wkA_wk {op : Int} (h : HasUnit op) (a b : Int) : wkA op a b = wk op a b := by
  have e : ops_work.f op a b = some (wk op a b) := by
    unfold HasUnit at h
    unfold wk
    rcases h with rfl | rfl | rfl | rfl | rfl | rfl | rfl <;> rfl
  have e2 := work_some op a b
  rw [e] at e2
  exact (Option.some.inj e2).symm
theorem work_wk {op : Int} (h : HasUnit op) (a b : Int) : ops_work.f op a b = some (wk op a b) := by
  unfold HasUnit at h
  unfold wk
  rcases h with rfl | rfl | rfl | rfl | rfl | rfl | rfl <;> rfl

end Go.Proofs.YtamfkglnejhjdaaDoor.FoldLaw
