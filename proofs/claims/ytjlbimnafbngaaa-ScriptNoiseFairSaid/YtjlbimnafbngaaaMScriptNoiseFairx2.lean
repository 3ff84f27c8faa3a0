/- Contracts of the Go functions that ScriptNoiseFair reaches: each call returns what the Lean function beside it tells (began as a printed text; mended). -/
import Derived.Test.YtjlbimnafbngaaaTurnsCalls
import Derived.Test.YtjlbimnafbngaaaNoiseWalk
import Derived.Test.YtjlbimnafbngaaaMScriptFairx2
import Derived.Test.YtjlbimnafbngaaaMScriptTurnsx1
import Derived.Test.YtjlbimnafbngaaaMScriptWindowx1
import Derived.Test.YtjlbimnafbngaaaMScriptNoiseFairx0
import Derived.Test.YtjlbimnafbngaaaMScriptNoiseFairx1
namespace Go.Proofs.Ytjlbimnafbngaaa.PScriptNoiseFair
open Go.RowKit Go.Proofs.YtjlbimnafbngaaaW.PrintWords Go.Proofs.YtjlbimnafbngaaaW.PrintLast Go.Proofs.YtjlbimnafbngaaaW.PrintMore
attribute [local go_sem] max2_int min2_int max_two min_two max_three min_three max_four min_four   -- for this text's walks alone
set_option linter.unusedVariables false
set_option linter.unusedSimpArgs false

/-! ### plunderlaw10_mod: its contract stands elsewhere -/
abbrev plunderlaw10_mod.f := @PScriptWindow.plunderlaw10_mod.f
theorem plunderlaw10_mod.calls (a0 : Int) (a1 : Int) (r : Int) (w : World) (h : plunderlaw10_mod.f a0 a1 = some r) :
    Calls Try.prog 41 #[.int .i64 a0, .int .i64 a1] w fun e w' => e = .returned (.int .i64 r) ∧ Drawn0 w w' := PScriptWindow.plunderlaw10_mod.calls a0 a1 r w h

/-! ### script_Noise: by its own contract -/
def script_Noise.f (_k : Nat) (a0 : Int) (a1 : Int) (a2 : Int) (a3 : Int) : Option (List Int × List Int × Int) := if a2 ≤ 9223372036854775807 then some (Noise.noiseR a0 a1 a2 a3) else none
theorem script_Noise.mono : ∀ a0 a1 a2 a3 k, LeO (script_Noise.f k a0 a1 a2 a3) (script_Noise.f (k + 1) a0 a1 a2 a3) := fun _ _ _ _ _ => LeO.refl _
theorem script_Noise.calls (k : Nat) (a0 : Int) (a1 : Int) (a2 : Int) (a3 : Int) (r1 : List Int) (r2 : List Int) (r3 : Int) (w : World) (h : script_Noise.f k a0 a1 a2 a3 = some (r1, r2, r3)) :
    Calls Try.prog 43 #[.int .i64 a0, .int .i64 a1, .int .i64 a2, .int .i64 a3] w fun e w' => ∃ v0_ v1_ : Value, e = .returned (.tuple #[.agg #[v0_, v1_], .int .i64 r3]) ∧ Kd.R (Kd.int .i64) 3 w' w.heap.size (fun k_ => some k_ ≠ (v1_ : Value).ownBlock) v0_ r1 ∧ Kd.R (Kd.int .i64) 3 w' w.heap.size (fun k_ => some k_ ≠ (v0_ : Value).ownBlock) v1_ r2 ∧ Below w.heap.size w w' := by
  unfold script_Noise.f at h
  split at h
  · have hc := Noise.noise_calls a0 a1 a2 a3 w (by assumption)
    injection h with h
    rw [h] at hc
    exact hc
  · cases h

end Go.Proofs.Ytjlbimnafbngaaa.PScriptNoiseFair
