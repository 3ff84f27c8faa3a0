/-
  No cell of these rows narrows 'for every input' (looked for: loops, veiled, ifaces, maps, wideKeys, modest, calm, conditions, laid).
  DERIVED. THE GIVEN ROWS OF THIS SEAT. 11 by the template 'for every input the law returns true; each argument reads behind the call as it read before'; 0 by the template 'total and deterministic' (their statements: YtjlbimnafbngaaaTotals.lean).
  GIVEN WITH THE SEED: the statements are not yours to turn. If you find one false, say at which input.
  Laid BY PROGRAM, IN A SANDBOX (cutbox-rows.mjs): the forced cells as the released guide's own fill.sh prints them over the translation 622160cd35ac0cb5… (all of the seat's roots in one cut). By AI agents, Wed Nov 11 2026. No macro, syntax, notation, axiom, sorry.
-/
import Derived.Test.YtjlbimnafbngaaaChecked
import GoSem.Claim
import GoSem.ClaimJoined
import GoSem.ClaimMapViews
import Derived.JoinedTies
import Derived.KernelRfl
namespace Go.Proofs.Ytjlbimnafbngaaa
/- THE CELL 'sum', in the pinned program and in every row, IS THE sha256 OF THE DUMP (.gsa) THAT YtjlbimnafbngaaaProg.lean LOADS. Nothing in Lean hashes anything: it is a label: what it is worth is what the hold of that sum in a sandbox is worth. -/
noncomputable def Try.pinned : Pinned := { name := "ytjlbimnafbngaaa", sum := "622160cd35ac0cb5402c8918292ea49a16271e81388e4b50ab43c50c24d107ae", checked := Try.checked }
namespace Rows
def none {H : Type} : Left H := { results := [], args := [] }

/-- 'plunderlaw10.ScriptCut': WHATEVER THE INPUT: true; the input reads as it did. -/
def scriptCutSpec : ChangeSpec := { name := "scriptCut", fn := fun _ => fun
  | [d1, d2] => { results := [.lit (.bool true)], args := [d1, d2] }
  | _ => none }
def scriptCutRow : OpenClaim := { program := "ytjlbimnafbngaaa", sum := "622160cd35ac0cb5402c8918292ea49a16271e81388e4b50ab43c50c24d107ae", func := "plunder/plunderlaw10.ScriptCut", spec := "scriptCut", apart := false }
def ScriptCutSaid : Prop := scriptCutRow.holds Try.pinned (OpenSpec.ofChange scriptCutSpec)

/-- ITS FALSE NEIGHBOUR: 'it returns false'. Refute it at one input. -/
def scriptCutWrong : ChangeSpec := { name := "scriptCut", fn := fun _ => fun
  | [d1, d2] => { results := [.lit (.bool false)], args := [d1, d2] }
  | _ => none }
def ScriptCutWrongFalsely : Prop := scriptCutRow.holds Try.pinned (OpenSpec.ofChange scriptCutWrong)

/-- 'plunderlaw10.ScriptTurns': WHATEVER THE INPUT: true; the input reads as it did. -/
def scriptTurnsSpec : ChangeSpec := { name := "scriptTurns", fn := fun _ => fun
  | [d1, d2] => { results := [.lit (.bool true)], args := [d1, d2] }
  | _ => none }
def scriptTurnsRow : OpenClaim := { program := "ytjlbimnafbngaaa", sum := "622160cd35ac0cb5402c8918292ea49a16271e81388e4b50ab43c50c24d107ae", func := "plunder/plunderlaw10.ScriptTurns", spec := "scriptTurns", apart := false }
def ScriptTurnsSaid : Prop := scriptTurnsRow.holds Try.pinned (OpenSpec.ofChange scriptTurnsSpec)

/-- ITS FALSE NEIGHBOUR: 'it returns false'. Refute it at one input. -/
def scriptTurnsWrong : ChangeSpec := { name := "scriptTurns", fn := fun _ => fun
  | [d1, d2] => { results := [.lit (.bool false)], args := [d1, d2] }
  | _ => none }
def ScriptTurnsWrongFalsely : Prop := scriptTurnsRow.holds Try.pinned (OpenSpec.ofChange scriptTurnsWrong)

/-- 'plunderlaw10.ScriptRands': WHATEVER THE INPUT: true; the input reads as it did. -/
def scriptRandsSpec : ChangeSpec := { name := "scriptRands", fn := fun _ => fun
  | [d] => { results := [.lit (.bool true)], args := [d] }
  | _ => none }
def scriptRandsRow : OpenClaim := { program := "ytjlbimnafbngaaa", sum := "622160cd35ac0cb5402c8918292ea49a16271e81388e4b50ab43c50c24d107ae", func := "plunder/plunderlaw10.ScriptRands", spec := "scriptRands", unfollowed := true, recurses := true, apart := false }
def ScriptRandsSaid : Prop := scriptRandsRow.holds Try.pinned (OpenSpec.ofChange scriptRandsSpec)

/-- ITS FALSE NEIGHBOUR: 'it returns false'. Refute it at one input. -/
def scriptRandsWrong : ChangeSpec := { name := "scriptRands", fn := fun _ => fun
  | [d] => { results := [.lit (.bool false)], args := [d] }
  | _ => none }
def ScriptRandsWrongFalsely : Prop := scriptRandsRow.holds Try.pinned (OpenSpec.ofChange scriptRandsWrong)

/-- 'plunderlaw10.ScriptPull': WHATEVER THE INPUT: true; the input reads as it did. -/
def scriptPullSpec : ChangeSpec := { name := "scriptPull", fn := fun _ => fun
  | [d1, d2, d3] => { results := [.lit (.bool true)], args := [d1, d2, d3] }
  | _ => none }
def scriptPullRow : OpenClaim := { program := "ytjlbimnafbngaaa", sum := "622160cd35ac0cb5402c8918292ea49a16271e81388e4b50ab43c50c24d107ae", func := "plunder/plunderlaw10.ScriptPull", spec := "scriptPull", unfollowed := true, recurses := true, apart := false }
def ScriptPullSaid : Prop := scriptPullRow.holds Try.pinned (OpenSpec.ofChange scriptPullSpec)

/-- ITS FALSE NEIGHBOUR: 'it returns false'. Refute it at one input. -/
def scriptPullWrong : ChangeSpec := { name := "scriptPull", fn := fun _ => fun
  | [d1, d2, d3] => { results := [.lit (.bool false)], args := [d1, d2, d3] }
  | _ => none }
def ScriptPullWrongFalsely : Prop := scriptPullRow.holds Try.pinned (OpenSpec.ofChange scriptPullWrong)

/-- 'plunderlaw10.ScriptEach': WHATEVER THE INPUT: true; the input reads as it did. -/
def scriptEachSpec : ChangeSpec := { name := "scriptEach", fn := fun _ => fun
  | [d1, d2, d3] => { results := [.lit (.bool true)], args := [d1, d2, d3] }
  | _ => none }
def scriptEachRow : OpenClaim := { program := "ytjlbimnafbngaaa", sum := "622160cd35ac0cb5402c8918292ea49a16271e81388e4b50ab43c50c24d107ae", func := "plunder/plunderlaw10.ScriptEach", spec := "scriptEach", unfollowed := true, recurses := true, apart := false }
def ScriptEachSaid : Prop := scriptEachRow.holds Try.pinned (OpenSpec.ofChange scriptEachSpec)

/-- ITS FALSE NEIGHBOUR: 'it returns false'. Refute it at one input. -/
def scriptEachWrong : ChangeSpec := { name := "scriptEach", fn := fun _ => fun
  | [d1, d2, d3] => { results := [.lit (.bool false)], args := [d1, d2, d3] }
  | _ => none }
def ScriptEachWrongFalsely : Prop := scriptEachRow.holds Try.pinned (OpenSpec.ofChange scriptEachWrong)

/-- 'plunderlaw10.ScriptFair': WHATEVER THE INPUT: true; the input reads as it did. -/
def scriptFairSpec : ChangeSpec := { name := "scriptFair", fn := fun _ => fun
  | [d1, d2, d3] => { results := [.lit (.bool true)], args := [d1, d2, d3] }
  | _ => none }
def scriptFairRow : OpenClaim := { program := "ytjlbimnafbngaaa", sum := "622160cd35ac0cb5402c8918292ea49a16271e81388e4b50ab43c50c24d107ae", func := "plunder/plunderlaw10.ScriptFair", spec := "scriptFair", apart := false }
def ScriptFairSaid : Prop := scriptFairRow.holds Try.pinned (OpenSpec.ofChange scriptFairSpec)

/-- ITS FALSE NEIGHBOUR: 'it returns false'. Refute it at one input. -/
def scriptFairWrong : ChangeSpec := { name := "scriptFair", fn := fun _ => fun
  | [d1, d2, d3] => { results := [.lit (.bool false)], args := [d1, d2, d3] }
  | _ => none }
def ScriptFairWrongFalsely : Prop := scriptFairRow.holds Try.pinned (OpenSpec.ofChange scriptFairWrong)

/-- 'plunderlaw10.ScriptDrawers': WHATEVER THE INPUT: true; the input reads as it did. -/
def scriptDrawersSpec : ChangeSpec := { name := "scriptDrawers", fn := fun _ => fun
  | [d1, d2, d3] => { results := [.lit (.bool true)], args := [d1, d2, d3] }
  | _ => none }
def scriptDrawersRow : OpenClaim := { program := "ytjlbimnafbngaaa", sum := "622160cd35ac0cb5402c8918292ea49a16271e81388e4b50ab43c50c24d107ae", func := "plunder/plunderlaw10.ScriptDrawers", spec := "scriptDrawers", unfollowed := true, recurses := true, apart := false }
def ScriptDrawersSaid : Prop := scriptDrawersRow.holds Try.pinned (OpenSpec.ofChange scriptDrawersSpec)

/-- ITS FALSE NEIGHBOUR: 'it returns false'. Refute it at one input. -/
def scriptDrawersWrong : ChangeSpec := { name := "scriptDrawers", fn := fun _ => fun
  | [d1, d2, d3] => { results := [.lit (.bool false)], args := [d1, d2, d3] }
  | _ => none }
def ScriptDrawersWrongFalsely : Prop := scriptDrawersRow.holds Try.pinned (OpenSpec.ofChange scriptDrawersWrong)

/-- 'plunderlaw10.ScriptWindow': WHATEVER THE INPUT: true; the input reads as it did. -/
def scriptWindowSpec : ChangeSpec := { name := "scriptWindow", fn := fun _ => fun
  | [d1, d2, d3] => { results := [.lit (.bool true)], args := [d1, d2, d3] }
  | _ => none }
def scriptWindowRow : OpenClaim := { program := "ytjlbimnafbngaaa", sum := "622160cd35ac0cb5402c8918292ea49a16271e81388e4b50ab43c50c24d107ae", func := "plunder/plunderlaw10.ScriptWindow", spec := "scriptWindow", apart := false }
def ScriptWindowSaid : Prop := scriptWindowRow.holds Try.pinned (OpenSpec.ofChange scriptWindowSpec)

/-- ITS FALSE NEIGHBOUR: 'it returns false'. Refute it at one input. -/
def scriptWindowWrong : ChangeSpec := { name := "scriptWindow", fn := fun _ => fun
  | [d1, d2, d3] => { results := [.lit (.bool false)], args := [d1, d2, d3] }
  | _ => none }
def ScriptWindowWrongFalsely : Prop := scriptWindowRow.holds Try.pinned (OpenSpec.ofChange scriptWindowWrong)

/-- 'plunderlaw10.ScriptNoise': WHATEVER THE INPUT: true; the input reads as it did. -/
def scriptNoiseSpec : ChangeSpec := { name := "scriptNoise", fn := fun _ => fun
  | [d1, d2, d3, d4] => { results := [.lit (.bool true)], args := [d1, d2, d3, d4] }
  | _ => none }
def scriptNoiseRow : OpenClaim := { program := "ytjlbimnafbngaaa", sum := "622160cd35ac0cb5402c8918292ea49a16271e81388e4b50ab43c50c24d107ae", func := "plunder/plunderlaw10.ScriptNoise", spec := "scriptNoise", apart := false }
def ScriptNoiseSaid : Prop := scriptNoiseRow.holds Try.pinned (OpenSpec.ofChange scriptNoiseSpec)

/-- ITS FALSE NEIGHBOUR: 'it returns false'. Refute it at one input. -/
def scriptNoiseWrong : ChangeSpec := { name := "scriptNoise", fn := fun _ => fun
  | [d1, d2, d3, d4] => { results := [.lit (.bool false)], args := [d1, d2, d3, d4] }
  | _ => none }
def ScriptNoiseWrongFalsely : Prop := scriptNoiseRow.holds Try.pinned (OpenSpec.ofChange scriptNoiseWrong)

/-- 'plunderlaw10.ScriptLess': WHATEVER THE INPUT: true; the input reads as it did. -/
def scriptLessSpec : ChangeSpec := { name := "scriptLess", fn := fun _ => fun
  | [d1, d2, d3, d4, d5] => { results := [.lit (.bool true)], args := [d1, d2, d3, d4, d5] }
  | _ => none }
def scriptLessRow : OpenClaim := { program := "ytjlbimnafbngaaa", sum := "622160cd35ac0cb5402c8918292ea49a16271e81388e4b50ab43c50c24d107ae", func := "plunder/plunderlaw10.ScriptLess", spec := "scriptLess", apart := false }
def ScriptLessSaid : Prop := scriptLessRow.holds Try.pinned (OpenSpec.ofChange scriptLessSpec)

/-- ITS FALSE NEIGHBOUR: 'it returns false'. Refute it at one input. -/
def scriptLessWrong : ChangeSpec := { name := "scriptLess", fn := fun _ => fun
  | [d1, d2, d3, d4, d5] => { results := [.lit (.bool false)], args := [d1, d2, d3, d4, d5] }
  | _ => none }
def ScriptLessWrongFalsely : Prop := scriptLessRow.holds Try.pinned (OpenSpec.ofChange scriptLessWrong)

/-- 'plunderlaw10.ScriptNoiseFair': WHATEVER THE INPUT: true; the input reads as it did. -/
def scriptNoiseFairSpec : ChangeSpec := { name := "scriptNoiseFair", fn := fun _ => fun
  | [d1, d2, d3, d4] => { results := [.lit (.bool true)], args := [d1, d2, d3, d4] }
  | _ => none }
def scriptNoiseFairRow : OpenClaim := { program := "ytjlbimnafbngaaa", sum := "622160cd35ac0cb5402c8918292ea49a16271e81388e4b50ab43c50c24d107ae", func := "plunder/plunderlaw10.ScriptNoiseFair", spec := "scriptNoiseFair", apart := false }
def ScriptNoiseFairSaid : Prop := scriptNoiseFairRow.holds Try.pinned (OpenSpec.ofChange scriptNoiseFairSpec)

/-- ITS FALSE NEIGHBOUR: 'it returns false'. Refute it at one input. -/
def scriptNoiseFairWrong : ChangeSpec := { name := "scriptNoiseFair", fn := fun _ => fun
  | [d1, d2, d3, d4] => { results := [.lit (.bool false)], args := [d1, d2, d3, d4] }
  | _ => none }
def ScriptNoiseFairWrongFalsely : Prop := scriptNoiseFairRow.holds Try.pinned (OpenSpec.ofChange scriptNoiseFairWrong)

/- THE SECOND FORM. 'bulk': how many values and letters a reading holds, each counted each time it is reached (what is shared counts as often as it is met; a slice's spare places count too). A statement '..UptoSaid' is the law's where the arguments, and the package variables that the reading takes, are together of bulk at most 1048576: NARROWER than '..Said'. Prove '..Said' where nothing that the law and all that it calls make is longer than what came in: it says more and counts as full. Else prove '..UptoSaid'. A law counts once. -/
mutual
def uptoBulk {H : Type} : DataW H → Nat
  | .lit (.string bytes) => bytes.length + 1
  | .lit _ => 1
  | .nil => 1
  | .ptr d => uptoBulk d + 1
  | .slice elems spare => uptoBulkAll elems + uptoBulkAll spare + 1
  | .agg parts => uptoBulkAll parts + 1
  | .iface _ d => uptoBulk d + 1
  | .map entries => uptoBulkEntries entries + 1
  | .held _ => 1
def uptoBulkAll {H : Type} : List (DataW H) → Nat
  | [] => 0
  | d :: r => uptoBulk d + uptoBulkAll r
def uptoBulkEntries {H : Type} : List (Lit × DataW H) → Nat
  | [] => 0
  | x :: r => uptoBulkEntry x + uptoBulkEntries r
def uptoBulkEntry {H : Type} : Lit × DataW H → Nat
  | (.string bytes, d) => bytes.length + uptoBulk d + 1
  | (_, d) => uptoBulk d + 1
 end
def uptoSmall : (H : Type) → List (DataW H) → Bool := fun _ ds => decide (uptoBulkAll ds ≤ 1048576)
def OpenSpec.upto (s : _root_.Go.ChangeSpec) : _root_.Go.OpenSpec := { _root_.Go.OpenSpec.ofChange s with cond := some uptoSmall }

/-- 'plunderlaw10.ScriptCut', WHERE WHAT IT READS IS OF BULK AT MOST 1048576: true; the input reads as it did. -/
def scriptCutUptoRow : OpenClaim := { program := "ytjlbimnafbngaaa", sum := "622160cd35ac0cb5402c8918292ea49a16271e81388e4b50ab43c50c24d107ae", func := "plunder/plunderlaw10.ScriptCut", spec := "scriptCut", apart := false, narrowed := true }
def ScriptCutUptoSaid : Prop := scriptCutUptoRow.holds Try.pinned (OpenSpec.upto scriptCutSpec)

/-- 'plunderlaw10.ScriptTurns', WHERE WHAT IT READS IS OF BULK AT MOST 1048576: true; the input reads as it did. -/
def scriptTurnsUptoRow : OpenClaim := { program := "ytjlbimnafbngaaa", sum := "622160cd35ac0cb5402c8918292ea49a16271e81388e4b50ab43c50c24d107ae", func := "plunder/plunderlaw10.ScriptTurns", spec := "scriptTurns", apart := false, narrowed := true }
def ScriptTurnsUptoSaid : Prop := scriptTurnsUptoRow.holds Try.pinned (OpenSpec.upto scriptTurnsSpec)

/-- 'plunderlaw10.ScriptRands', WHERE WHAT IT READS IS OF BULK AT MOST 1048576: true; the input reads as it did. -/
def scriptRandsUptoRow : OpenClaim := { program := "ytjlbimnafbngaaa", sum := "622160cd35ac0cb5402c8918292ea49a16271e81388e4b50ab43c50c24d107ae", func := "plunder/plunderlaw10.ScriptRands", spec := "scriptRands", unfollowed := true, recurses := true, apart := false, narrowed := true }
def ScriptRandsUptoSaid : Prop := scriptRandsUptoRow.holds Try.pinned (OpenSpec.upto scriptRandsSpec)

/-- 'plunderlaw10.ScriptPull', WHERE WHAT IT READS IS OF BULK AT MOST 1048576: true; the input reads as it did. -/
def scriptPullUptoRow : OpenClaim := { program := "ytjlbimnafbngaaa", sum := "622160cd35ac0cb5402c8918292ea49a16271e81388e4b50ab43c50c24d107ae", func := "plunder/plunderlaw10.ScriptPull", spec := "scriptPull", unfollowed := true, recurses := true, apart := false, narrowed := true }
def ScriptPullUptoSaid : Prop := scriptPullUptoRow.holds Try.pinned (OpenSpec.upto scriptPullSpec)

/-- 'plunderlaw10.ScriptEach', WHERE WHAT IT READS IS OF BULK AT MOST 1048576: true; the input reads as it did. -/
def scriptEachUptoRow : OpenClaim := { program := "ytjlbimnafbngaaa", sum := "622160cd35ac0cb5402c8918292ea49a16271e81388e4b50ab43c50c24d107ae", func := "plunder/plunderlaw10.ScriptEach", spec := "scriptEach", unfollowed := true, recurses := true, apart := false, narrowed := true }
def ScriptEachUptoSaid : Prop := scriptEachUptoRow.holds Try.pinned (OpenSpec.upto scriptEachSpec)

/-- 'plunderlaw10.ScriptFair', WHERE WHAT IT READS IS OF BULK AT MOST 1048576: true; the input reads as it did. -/
def scriptFairUptoRow : OpenClaim := { program := "ytjlbimnafbngaaa", sum := "622160cd35ac0cb5402c8918292ea49a16271e81388e4b50ab43c50c24d107ae", func := "plunder/plunderlaw10.ScriptFair", spec := "scriptFair", apart := false, narrowed := true }
def ScriptFairUptoSaid : Prop := scriptFairUptoRow.holds Try.pinned (OpenSpec.upto scriptFairSpec)

/-- 'plunderlaw10.ScriptDrawers', WHERE WHAT IT READS IS OF BULK AT MOST 1048576: true; the input reads as it did. -/
def scriptDrawersUptoRow : OpenClaim := { program := "ytjlbimnafbngaaa", sum := "622160cd35ac0cb5402c8918292ea49a16271e81388e4b50ab43c50c24d107ae", func := "plunder/plunderlaw10.ScriptDrawers", spec := "scriptDrawers", unfollowed := true, recurses := true, apart := false, narrowed := true }
def ScriptDrawersUptoSaid : Prop := scriptDrawersUptoRow.holds Try.pinned (OpenSpec.upto scriptDrawersSpec)

/-- 'plunderlaw10.ScriptWindow', WHERE WHAT IT READS IS OF BULK AT MOST 1048576: true; the input reads as it did. -/
def scriptWindowUptoRow : OpenClaim := { program := "ytjlbimnafbngaaa", sum := "622160cd35ac0cb5402c8918292ea49a16271e81388e4b50ab43c50c24d107ae", func := "plunder/plunderlaw10.ScriptWindow", spec := "scriptWindow", apart := false, narrowed := true }
def ScriptWindowUptoSaid : Prop := scriptWindowUptoRow.holds Try.pinned (OpenSpec.upto scriptWindowSpec)

/-- 'plunderlaw10.ScriptNoise', WHERE WHAT IT READS IS OF BULK AT MOST 1048576: true; the input reads as it did. -/
def scriptNoiseUptoRow : OpenClaim := { program := "ytjlbimnafbngaaa", sum := "622160cd35ac0cb5402c8918292ea49a16271e81388e4b50ab43c50c24d107ae", func := "plunder/plunderlaw10.ScriptNoise", spec := "scriptNoise", apart := false, narrowed := true }
def ScriptNoiseUptoSaid : Prop := scriptNoiseUptoRow.holds Try.pinned (OpenSpec.upto scriptNoiseSpec)

/-- 'plunderlaw10.ScriptLess', WHERE WHAT IT READS IS OF BULK AT MOST 1048576: true; the input reads as it did. -/
def scriptLessUptoRow : OpenClaim := { program := "ytjlbimnafbngaaa", sum := "622160cd35ac0cb5402c8918292ea49a16271e81388e4b50ab43c50c24d107ae", func := "plunder/plunderlaw10.ScriptLess", spec := "scriptLess", apart := false, narrowed := true }
def ScriptLessUptoSaid : Prop := scriptLessUptoRow.holds Try.pinned (OpenSpec.upto scriptLessSpec)

/-- 'plunderlaw10.ScriptNoiseFair', WHERE WHAT IT READS IS OF BULK AT MOST 1048576: true; the input reads as it did. -/
def scriptNoiseFairUptoRow : OpenClaim := { program := "ytjlbimnafbngaaa", sum := "622160cd35ac0cb5402c8918292ea49a16271e81388e4b50ab43c50c24d107ae", func := "plunder/plunderlaw10.ScriptNoiseFair", spec := "scriptNoiseFair", apart := false, narrowed := true }
def ScriptNoiseFairUptoSaid : Prop := scriptNoiseFairUptoRow.holds Try.pinned (OpenSpec.upto scriptNoiseFairSpec)

end Rows
end Go.Proofs.Ytjlbimnafbngaaa
