/- The function that Decode defers: what it makes of a place that was thrown, and of nothing. -/
import Derived.Test.YtjlbimnafbngaaaDoorDecNeed
import Derived.Tactics
import Derived.Tactics2
import Derived.Defers
import Derived.Recover
import Derived.Laws.Pointers
namespace Go.Proofs.YtjlbimnafbngaaaDoor.Dec
open Go.RowKit Go.Proofs.YtjlbimnafbngaaaDoorW.PrintWords Go.Proofs.YtjlbimnafbngaaaDoorW.PrintLast Go.Proofs.YtjlbimnafbngaaaDoorW.PrintMore
set_option linter.unusedVariables false
set_option linter.unusedSimpArgs false
set_option maxHeartbeats 4000000 in
set_option maxRecDepth 100000 in
theorem catch_idle (gs gp : Nat) (w : World) :
    CallsD Tryd.prog 21 #[.pointer (some ⟨gs, 0, none⟩), .pointer (some ⟨gp, 0, none⟩)] .returning w fun e u' w' => e = .returned (.tuple #[]) ∧ u' = .returning ∧ w' = w := by
  refine callsD_of_wpS Tryd.func21 rfl fun c₀ cs hu => ?_
  apply wpS_seq
  apply wpS_region
  simp [wpOpsS, go_sem, recoverD, hu, Tryd.ntmps21, Exit.thenS]
  apply wpS_seq
  apply wpS_region
  simp [wpOpsS, go_sem, recoverD, hu, Tryd.ntmps21, Exit.thenS]
  refine wpS_cond (t := false) (by simp [Act.eval, Array.replicate]) ?_
  simp only [Bool.false_eq_true, if_false]
  refine wpS_of_wp (wp_skip ?_)
  cases c₀
  simp_all [bodyPostS, results, Tryd.results21]
set_option maxHeartbeats 4000000 in
set_option maxRecDepth 100000 in
theorem catch_panicking (gs gp : Nat) (p : Int) (older : List PanicEntry) (w : World) (hs : w.heap[gs]? = some (.cells #[.slice none 0 0, .slice none 0 0] 24 (0, 0))) (hp : w.heap[gp]? = some (.cells #[.int .i64 0, .int .i64 0] 34 (0, 0))) (hne : gs ≠ gp) :
    CallsD Tryd.prog 21 #[.pointer (some ⟨gs, 0, none⟩), .pointer (some ⟨gp, 0, none⟩)] (.panicking ({ v := .iface 52 (.int .i64 p), recovered := false } :: older)) w fun e u' w' =>
      e = .returned (.tuple #[]) ∧ u' = .panicking ({ v := .iface 52 (.int .i64 p), recovered := true } :: older) ∧ w' = (((w.setCell ⟨gs, 0, none⟩ (.slice none 0 0)).setCell ⟨gs, 1, none⟩ (.slice none 0 0)).setCell ⟨gp, 0, none⟩ (.int .i64 100)).setCell ⟨gp, 1, none⟩ (.int .i64 p) := by
  refine callsD_of_wpS Tryd.func21 rfl fun c₀ cs hu => ?_
  apply wpS_seq
  apply wpS_region
  simp [wpOpsS, go_sem, recoverD, hu, Tryd.ntmps21, Exit.thenS]
  have y0 : w.cell? ⟨gs, 0, none⟩ = some (.slice none 0 0) := (blk_cell hs 0).trans rfl
  have y1 : w.cell? ⟨gs, 1, none⟩ = some (.slice none 0 0) := (blk_cell hs 1).trans rfl
  have yf0 := blk_frozen hs 0
  have yf1 := blk_frozen hs 1
  have x0 : w.cell? ⟨gp, 0, none⟩ = some (.int .i64 0) := (blk_cell hp 0).trans rfl
  have x1 : w.cell? ⟨gp, 1, none⟩ = some (.int .i64 0) := (blk_cell hp 1).trans rfl
  have xf0 := blk_frozen hp 0
  have xf1 := blk_frozen hp 1
  have hne2 : gp ≠ gs := fun e => hne e.symm
  have hu24 := Tryd.underlying24
  have hu34 := Tryd.underlying34
  refine wpS_of_wp ?_
  rw [show (#[Value.pointer (some ⟨gs, 0, none⟩), Value.pointer (some ⟨gp, 0, none⟩)] ++ (((Array.replicate 17 undef).setIfInBounds 3 (.iface 52 (.int .i64 p))).setIfInBounds 0 (.iface 52 (.int .i64 p)))) = #[Value.pointer (some ⟨gs, 0, none⟩), Value.pointer (some ⟨gp, 0, none⟩), .iface 52 (.int .i64 p), undef, undef, .iface 52 (.int .i64 p), undef, undef, undef, undef, undef, undef, undef, undef, undef, undef, undef, undef, undef] from rfl]
  have hta : ∀ w : World, Sem.run Tryd.prog (Instr.typeAssert (.iface 52 (.int .i64 p)) 20 52 true) w = .ok (.tuple #[.int .i64 p, .bool true]) w := fun w => by kernel_rfl
  clear hs hp
  go_wp2
  simp [bodyPostS, results, Tryd.results21]
end Go.Proofs.YtjlbimnafbngaaaDoor.Dec
