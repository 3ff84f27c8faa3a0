/-
  No cell of these rows narrows 'for every input' (looked for: loops, veiled, ifaces, maps, wideKeys, modest, calm, conditions, laid).
  DERIVED. THE GIVEN ROWS OF THIS SEAT. 3 by the template 'for every input the law returns true; each argument reads behind the call as it read before'; 0 by the template 'total and deterministic' (their statements: YtpjgdojhdlfjdaaTotals.lean).
  GIVEN WITH THE SEED: the statements are not yours to turn. If you find one false, say at which input.
  Laid BY PROGRAM, IN A SANDBOX (cutbox-rows.mjs): the forced cells as the released guide's own fill.sh prints them over the translation 76067f6442caa2ef… (all of the seat's roots in one cut). By AI agents, Wed Nov 11 2026. No macro, syntax, notation, axiom, sorry.
-/
import Derived.Test.YtpjgdojhdlfjdaaChecked
import GoSem.Claim
import GoSem.ClaimJoined
import GoSem.ClaimMapViews
import Derived.JoinedTies
import Derived.KernelRfl
namespace Go.Proofs.Ytpjgdojhdlfjdaa
/- THE CELL 'sum', in the pinned program and in every row, IS THE sha256 OF THE DUMP (.gsa) THAT YtpjgdojhdlfjdaaProg.lean LOADS. Nothing in Lean hashes anything: it is a label: what it is worth is what the hold of that sum in a sandbox is worth. -/
noncomputable def Try.pinned : Pinned := { name := "ytpjgdojhdlfjdaa", sum := "76067f6442caa2ef9064fbeb70c72db397d7556baa075725550742ddffbbf9bb", checked := Try.checked }
namespace Rows
def none {H : Type} : Left H := { results := [], args := [] }

/-- 'plunderlaw1.OpsMod': WHATEVER THE INPUT: true; the input reads as it did. -/
def opsModSpec : ChangeSpec := { name := "opsMod", fn := fun _ => fun
  | [d1, d2] => { results := [.lit (.bool true)], args := [d1, d2] }
  | _ => none }
def opsModRow : OpenClaim := { program := "ytpjgdojhdlfjdaa", sum := "76067f6442caa2ef9064fbeb70c72db397d7556baa075725550742ddffbbf9bb", func := "plunder/plunderlaw1.OpsMod", spec := "opsMod", apart := false }
def OpsModSaid : Prop := opsModRow.holds Try.pinned (OpenSpec.ofChange opsModSpec)

/-- ITS FALSE NEIGHBOUR: 'it returns false'. Refute it at one input. -/
def opsModWrong : ChangeSpec := { name := "opsMod", fn := fun _ => fun
  | [d1, d2] => { results := [.lit (.bool false)], args := [d1, d2] }
  | _ => none }
def OpsModWrongFalsely : Prop := opsModRow.holds Try.pinned (OpenSpec.ofChange opsModWrong)

/-- 'plunderlaw1.OpsApply': WHATEVER THE INPUT: true; the input reads as it did. -/
def opsApplySpec : ChangeSpec := { name := "opsApply", fn := fun _ => fun
  | [d1, d2, d3] => { results := [.lit (.bool true)], args := [d1, d2, d3] }
  | _ => none }
def opsApplyRow : OpenClaim := { program := "ytpjgdojhdlfjdaa", sum := "76067f6442caa2ef9064fbeb70c72db397d7556baa075725550742ddffbbf9bb", func := "plunder/plunderlaw1.OpsApply", spec := "opsApply", apart := false }
def OpsApplySaid : Prop := opsApplyRow.holds Try.pinned (OpenSpec.ofChange opsApplySpec)

/-- ITS FALSE NEIGHBOUR: 'it returns false'. Refute it at one input. -/
def opsApplyWrong : ChangeSpec := { name := "opsApply", fn := fun _ => fun
  | [d1, d2, d3] => { results := [.lit (.bool false)], args := [d1, d2, d3] }
  | _ => none }
def OpsApplyWrongFalsely : Prop := opsApplyRow.holds Try.pinned (OpenSpec.ofChange opsApplyWrong)

/-- 'plunderlaw1.OpsLaws': WHATEVER THE INPUT: true; the input reads as it did. -/
def opsLawsSpec : ChangeSpec := { name := "opsLaws", fn := fun _ => fun
  | [d1, d2, d3] => { results := [.lit (.bool true)], args := [d1, d2, d3] }
  | _ => none }
def opsLawsRow : OpenClaim := { program := "ytpjgdojhdlfjdaa", sum := "76067f6442caa2ef9064fbeb70c72db397d7556baa075725550742ddffbbf9bb", func := "plunder/plunderlaw1.OpsLaws", spec := "opsLaws", apart := false }
def OpsLawsSaid : Prop := opsLawsRow.holds Try.pinned (OpenSpec.ofChange opsLawsSpec)

/-- ITS FALSE NEIGHBOUR: 'it returns false'. Refute it at one input. -/
def opsLawsWrong : ChangeSpec := { name := "opsLaws", fn := fun _ => fun
  | [d1, d2, d3] => { results := [.lit (.bool false)], args := [d1, d2, d3] }
  | _ => none }
def OpsLawsWrongFalsely : Prop := opsLawsRow.holds Try.pinned (OpenSpec.ofChange opsLawsWrong)

/- THE SECOND FORM. 'bulk': how many values and letters a reading holds, each counted each time it is reached (what is shared counts as often as it is met; a slice's spare places count too). A statement '..UptoSaid' is the law's where the arguments, and the package variables that the reading takes, are together of bulk at most 1048576: NARROWER than '..Said'. Prove '..Said' where nothing that the law and all that it calls make is longer than what came in: it says more and counts as full. Else prove '..UptoSaid'. A law counts once. -/
mutual
def uptoBulk {H : Type} : DataW H → Nat
  | .lit (.string bytes) => bytes.length + 1
  | .lit _ => 1
  | .nil => 1
  | .ptr d => uptoBulk d + 1
  | .slice elems spare => uptoBulkAll elems + uptoBulkAll spare + 1
  | .agg parts => uptoBulkAll parts + 1
  | .iface _ d => uptoBulk d + 1
  | .map entries => uptoBulkEntries entries + 1
  | .held _ => 1
def uptoBulkAll {H : Type} : List (DataW H) → Nat
  | [] => 0
  | d :: r => uptoBulk d + uptoBulkAll r
def uptoBulkEntries {H : Type} : List (Lit × DataW H) → Nat
  | [] => 0
  | x :: r => uptoBulkEntry x + uptoBulkEntries r
def uptoBulkEntry {H : Type} : Lit × DataW H → Nat
  | (.string bytes, d) => bytes.length + uptoBulk d + 1
  | (_, d) => uptoBulk d + 1
 end
def uptoSmall : (H : Type) → List (DataW H) → Bool := fun _ ds => decide (uptoBulkAll ds ≤ 1048576)
def OpenSpec.upto (s : _root_.Go.ChangeSpec) : _root_.Go.OpenSpec := { _root_.Go.OpenSpec.ofChange s with cond := some uptoSmall }

/-- 'plunderlaw1.OpsMod', WHERE WHAT IT READS IS OF BULK AT MOST 1048576: true; the input reads as it did. -/
def opsModUptoRow : OpenClaim := { program := "ytpjgdojhdlfjdaa", sum := "76067f6442caa2ef9064fbeb70c72db397d7556baa075725550742ddffbbf9bb", func := "plunder/plunderlaw1.OpsMod", spec := "opsMod", apart := false, narrowed := true }
def OpsModUptoSaid : Prop := opsModUptoRow.holds Try.pinned (OpenSpec.upto opsModSpec)

/-- 'plunderlaw1.OpsApply', WHERE WHAT IT READS IS OF BULK AT MOST 1048576: true; the input reads as it did. -/
def opsApplyUptoRow : OpenClaim := { program := "ytpjgdojhdlfjdaa", sum := "76067f6442caa2ef9064fbeb70c72db397d7556baa075725550742ddffbbf9bb", func := "plunder/plunderlaw1.OpsApply", spec := "opsApply", apart := false, narrowed := true }
def OpsApplyUptoSaid : Prop := opsApplyUptoRow.holds Try.pinned (OpenSpec.upto opsApplySpec)

/-- 'plunderlaw1.OpsLaws', WHERE WHAT IT READS IS OF BULK AT MOST 1048576: true; the input reads as it did. -/
def opsLawsUptoRow : OpenClaim := { program := "ytpjgdojhdlfjdaa", sum := "76067f6442caa2ef9064fbeb70c72db397d7556baa075725550742ddffbbf9bb", func := "plunder/plunderlaw1.OpsLaws", spec := "opsLaws", apart := false, narrowed := true }
def OpsLawsUptoSaid : Prop := opsLawsUptoRow.holds Try.pinned (OpenSpec.upto opsLawsSpec)

end Rows
end Go.Proofs.Ytpjgdojhdlfjdaa
