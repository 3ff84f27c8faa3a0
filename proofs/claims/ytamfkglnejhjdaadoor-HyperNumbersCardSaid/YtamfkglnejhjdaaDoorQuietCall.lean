/- In a region that draws its order: a call that leaves the world as it is may be taken first, as a load may. -/
import Derived.Test.YtamfkglnejhjdaaDoorWLast
import Derived.Test.YtamfkglnejhjdaaDoorWTab
import Derived.Test.YtamfkglnejhjdaaDoorWMore
import Derived.Test.YtamfkglnejhjdaaDoorWWords
namespace Go.Proofs.YtamfkglnejhjdaaDoor.QuietCall
open Go.RowKit Go.Proofs.YtamfkglnejhjdaaDoorW.PrintWords Go.Proofs.YtamfkglnejhjdaaDoorW.PrintLast Go.Proofs.YtamfkglnejhjdaaDoorW.PrintMore
set_option linter.unusedVariables false
section
variable {P : Program} {ops : Array Oper} {Q : Exit → Act → World → Prop} {md : Region.Mode} {S : World → Prop} {ds : List Nat}
/-- The operation is a call that yields v in every world that meets S, and leaves that world. -/
def YieldsC (P : Program) (ops : Array Oper) (S : World → Prop) (o : Oper) (v : Value) (a : Act) : Prop :=
  Region.wanted o (yielded ops a.tmps) = true ∧ ∃ f args, (∀ w, (execOp a.eval o).run P w = .ok (.enter f args) w) ∧ ∀ w, S w → Calls P f args w fun e w' => e = .returned v ∧ w' = w
theorem YieldsC.run {i : Nat} {o : Oper} {v : Value} {a : Act} (hi : ops[i]? = some o) (hy : YieldsC P ops S o v a) {K : Act → World → Prop} {w : World} (hS : S w) (h : K (a.put o.dst v) w) : wpOp P ops Q i K a w := by
  unfold Go.wpOp
  simp only [hi]
  obtain ⟨hw, f, args, hr, hc⟩ := hy
  simp only [hw, if_true]
  refine .inl ?_
  unfold Oper.wp
  rw [hr w, Oper.upon_enter]
  refine (hc w hS).mono fun e w' he => ?_
  obtain ⟨rfl, rfl⟩ := he
  exact h
theorem YieldsC.same {o : Oper} {v : Value} {a a' : Act} (hy : YieldsC P ops S o v a) (he : execOp a'.eval o = execOp a.eval o) (hw : Region.wanted o (yielded ops a'.tmps) = Region.wanted o (yielded ops a.tmps)) : YieldsC P ops S o v a' := by
  unfold YieldsC at *
  rw [he, hw]
  exact hy
end
end Go.Proofs.YtamfkglnejhjdaaDoor.QuietCall
