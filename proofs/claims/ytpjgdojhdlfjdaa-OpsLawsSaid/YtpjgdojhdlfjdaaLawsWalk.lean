/- A walk of the law OpsLaws over the printed contracts. -/
import Derived.Test.YtpjgdojhdlfjdaaPOpsLawsx2
namespace Go.Proofs.Ytpjgdojhdlfjdaa.POpsLaws
open Go.RowKit Go.Proofs.YtpjgdojhdlfjdaaW.PrintWords Go.Proofs.YtpjgdojhdlfjdaaW.PrintLast Go.Proofs.YtpjgdojhdlfjdaaW.PrintMore
set_option maxHeartbeats 400000 in
set_option maxRecDepth 100000 in
theorem laws_walk (k : Nat) (a b c : Int) (w : World) (h1 : plunderlaw1_Sum_rings.f false a b c = some (true, false)) (h2 : plunderlaw1_Sum_parts.f k false a b = some (true, false)) (h3 : plunderlaw1_Sum_orders.f k false a b = some (true, false)) :
    Calls Try.prog 5 #[.int .i64 a, .int .i64 b, .int .i64 c] w fun e w' => e = .returned (.bool true) ∧ Below w.heap.size w w' := by
  have A1 := Aside0.mk h1
  have A2 := Aside0.mk h2
  have A3 := Aside0.mk h3
  clear h1 h2 h3
  have HI := Aside0.mk (IsS30.new w w false (Below.refl _ _))
  have HB := Aside0.mk (below_alloc (Below.refl w.heap.size w) (.cells #[.bool false] 30))
  go_enter Try.func5, Try.ntmps5
  go_wp2_with fail
  refine (plunderlaw1_Sum_rings.calls w.heap.size false a b c true false w _ HI.out HB.out A1.out).mono ?_
  rintro e w1 ⟨rfl, hI1, hB1, _⟩
  have HI1 := Aside0.mk hI1
  have HB1 := Aside0.mk hB1
  clear hI1 hB1
  go_wp2_with fail
  refine (plunderlaw1_Sum_parts.calls k w.heap.size false a b true false w _ HI1.out HB1.out A2.out).mono ?_
  rintro e w2 ⟨rfl, hI2, hB2, _⟩
  have HI2 := Aside0.mk hI2
  have HB2 := Aside0.mk hB2
  clear hI2 hB2
  go_wp2_with fail
  refine (plunderlaw1_Sum_orders.calls k w.heap.size false a b true false w _ HI2.out HB2.out A3.out).mono ?_
  rintro e w3 ⟨rfl, hI3, hB3, _⟩
  have hc := cellS30_0 hI3.1
  have HB3 := Aside0.mk hB3
  clear hI3 hB3
  go_wp2
  go_ret
  exact ⟨rfl, by repeat (first | (with_reducible first | exact HB3.out | apply below_alloc | apply pw_below_drewN | apply below_drew1) | exact HB3.out)⟩
end Go.Proofs.Ytpjgdojhdlfjdaa.POpsLaws
