/- Contracts of the Go functions that ScriptNoiseFair reaches: each call returns what the Lean function beside it tells (began as a printed text; mended). -/
import Derived.Test.YtjlbimnafbngaaaTurnsCalls
import Derived.Test.YtjlbimnafbngaaaNoiseWalk
import Derived.Test.YtjlbimnafbngaaaMScriptFairx2
import Derived.Test.YtjlbimnafbngaaaMScriptTurnsx1
import Derived.Test.YtjlbimnafbngaaaMScriptWindowx1
import Derived.Test.YtjlbimnafbngaaaMScriptNoiseFairx0
namespace Go.Proofs.Ytjlbimnafbngaaa.PScriptNoiseFair
open Go.RowKit Go.Proofs.YtjlbimnafbngaaaW.PrintWords Go.Proofs.YtjlbimnafbngaaaW.PrintLast Go.Proofs.YtjlbimnafbngaaaW.PrintMore
attribute [local go_sem] max2_int min2_int max_two min_two max_three min_three max_four min_four   -- for this text's walks alone
set_option linter.unusedVariables false
set_option linter.unusedSimpArgs false

/-! ### script_Turns: by its own contract -/
def script_Turns.f (_k : Nat) (a0 : Int) (a1 : Int) : Option (List Int × Int) := some (Turns.turnsR a0 a1)
theorem script_Turns.mono : ∀ a0 a1 k, LeO (script_Turns.f k a0 a1) (script_Turns.f (k + 1) a0 a1) := fun _ _ _ => LeO.refl _
theorem script_Turns.calls (k : Nat) (a0 : Int) (a1 : Int) (r1 : List Int) (r2 : Int) (w : World) (h : script_Turns.f k a0 a1 = some (r1, r2)) :
    Calls Try.prog 21 #[.int .i64 a0, .int .i64 a1] w fun e w' => ∃ v0_ : Value, e = .returned (.tuple #[v0_, .int .i64 r2]) ∧ Kd.R (Kd.int .i64) 3 w' w.heap.size (fun _ => True) v0_ r1 ∧ Below w.heap.size w w' := by
  unfold script_Turns.f at h
  have hc := Turns.turns_calls a0 a1 w
  injection h with h
  rw [h] at hc
  exact hc

/-! ### plunderlaw10_same: its contract stands elsewhere -/
abbrev plunderlaw10_same.f := @PScriptTurns.plunderlaw10_same.f
theorem plunderlaw10_same.mono : ∀ a0 a1 k, LeO (plunderlaw10_same.f k a0 a1) (plunderlaw10_same.f (k + 1) a0 a1) := PScriptTurns.plunderlaw10_same.mono 
theorem plunderlaw10_same.calls (k : Nat) (A0 : Option Addr) (c0 : Nat) (l0 : List Int) (A1 : Option Addr) (c1 : Nat) (l1 : List Int) (r : Bool) (w : World) (hr0 : Kd.C (Kd.int .i64) w A0 l0.length l0) (hc0 : l0.length ≤ c0) (hr1 : Kd.C (Kd.int .i64) w A1 l1.length l1) (hc1 : l1.length ≤ c1) (h : plunderlaw10_same.f k l0 l1 = some r) :
    Calls Try.prog 23 #[.slice A0 l0.length c0, .slice A1 l1.length c1] w fun e w' => e = .returned (.bool r) ∧ Drawn0 w w' := PScriptTurns.plunderlaw10_same.calls k A0 c0 l0 A1 c1 l1 r w hr0 hc0 hr1 hc1 h

/-! ### script_Fair: its contract stands elsewhere -/
abbrev script_Fair.f := @PScriptFair.script_Fair.f
theorem script_Fair.mono : ∀ a0 a1 a2 k, LeO (script_Fair.f k a0 a1 a2) (script_Fair.f (k + 1) a0 a1 a2) := PScriptFair.script_Fair.mono 
theorem script_Fair.calls (k : Nat) (A0 : Option Addr) (c0 : Nat) (l0 : List Int) (a1 : Int) (a2 : Int) (r : Bool) (w : World) (hr0 : Kd.C (Kd.int .i64) w A0 l0.length l0) (hc0 : l0.length ≤ c0) (h : script_Fair.f k l0 a1 a2 = some r) :
    Calls Try.prog 32 #[.slice A0 l0.length c0, .int .i64 a1, .int .i64 a2] w fun e w' => e = .returned (.bool r) ∧ Below w.heap.size w w' := PScriptFair.script_Fair.calls k A0 c0 l0 a1 a2 r w hr0 hc0 h

/-! ### script_Window: its contract stands elsewhere -/
abbrev script_Window.f := @PScriptFair.script_Window.f
theorem script_Window.mono : ∀ a0 a1 k, LeO (script_Window.f k a0 a1) (script_Window.f (k + 1) a0 a1) := PScriptFair.script_Window.mono 
theorem script_Window.calls (k : Nat) (A0 : Option Addr) (c0 : Nat) (l0 : List Int) (a1 : Int) (r : Int) (w : World) (hr0 : Kd.C (Kd.int .i64) w A0 l0.length l0) (hc0 : l0.length ≤ c0) (h : script_Window.f k l0 a1 = some r) :
    Calls Try.prog 33 #[.slice A0 l0.length c0, .int .i64 a1] w fun e w' => e = .returned (.int .i64 r) ∧ Below w.heap.size w w' := PScriptFair.script_Window.calls k A0 c0 l0 a1 r w hr0 hc0 h

end Go.Proofs.Ytjlbimnafbngaaa.PScriptNoiseFair
