/-
  NARROWER THAN 'FOR EVERY INPUT', by the rows' own cells (each row's printed sentence says how): HyperFold: laid · HyperNumbers: laid · HyperFresh: laid.
  DERIVED. THE GIVEN ROWS OF THIS SEAT. 3 by the template 'for every input the law returns true; each argument reads behind the call as it read before'; 0 by the template 'total and deterministic' (their statements: YtamfkglnejhjdaaDoorTotals.lean).
  GIVEN WITH THE SEED: the statements are not yours to turn. If you find one false, say at which input.
  Laid BY PROGRAM, IN A SANDBOX (cutbox-rows.mjs): the forced cells as the released guide's own fill.sh prints them over the translation bd89382ed608f10b… (all of the seat's roots in one cut). By AI agents, Wed Nov 11 2026. No macro, syntax, notation, axiom, sorry.
-/
import Derived.Test.YtamfkglnejhjdaaDoorChecked
import GoSem.Claim
import GoSem.ClaimJoined
import GoSem.ClaimMapViews
import Derived.JoinedTies
import Derived.KernelRfl
namespace Go.Proofs.YtamfkglnejhjdaaDoor
/- THE CELL 'sum', in the pinned program and in every row, IS THE sha256 OF THE DUMP (.gsa) THAT YtamfkglnejhjdaaDoorProg.lean LOADS. Nothing in Lean hashes anything: it is a label: what it is worth is what the hold of that sum in a sandbox is worth. -/
noncomputable def Tryd.pinned : Pinned := { name := "ytamfkglnejhjdaadoor", sum := "bd89382ed608f10b3755b62d9a4a4cd950cc5a55d8578c23b323862dc03e4357", checked := Tryd.checked }
namespace Rows
def none {H : Type} : Left H := { results := [], args := [] }

/- WHAT THE LISTED PACKAGE-LEVEL VARIABLES READ AS WHEN THE CALL BEGINS. Each datum BY PROGRAM (the guide's laid-datum.mjs) off the statement by which the dump's own 'gosem.cut.vars' lays the variable. In a bare row this is a premise. The card (YtamfkglnejhjdaaDoorCards.lean) ties it to the program's text. -/
def laid_plunder_ops_units {H : Type} : DataW H := .agg [.agg [.lit (.int .i64 0), .lit (.int .i64 0)], .agg [.lit (.int .i64 2), .lit (.int .i64 1)], .agg [.lit (.int .i64 5), .lit (.int .i64 (-1))], .agg [.lit (.int .i64 6), .lit (.int .i64 0)], .agg [.lit (.int .i64 7), .lit (.int .i64 0)], .agg [.lit (.int .i64 10), .lit (.int .i64 9223372036854775807)], .agg [.lit (.int .i64 11), .lit (.int .i64 (-9223372036854775808))]]

/-- 'plunderlaw23.HyperFold': WHATEVER THE INPUT: true; the input reads as it did. -/
def hyperFoldSpec : ChangeSpec := { name := "hyperFold", fn := fun _ => fun
  | [d1, d2] => { results := [.lit (.bool true)], args := [d1, d2] }
  | _ => none }
def hyperFoldRow : OpenClaim := { program := "ytamfkglnejhjdaadoor", sum := "bd89382ed608f10b3755b62d9a4a4cd950cc5a55d8578c23b323862dc03e4357", func := "plunder/plunderlaw23.HyperFold", spec := "hyperFold", unfollowed := true, recurses := true, named := ["plunder/ops.units"], apart := false, laid := [("plunder/ops.units", laid_plunder_ops_units)] }
def HyperFoldSaid : Prop := hyperFoldRow.holds Tryd.pinned (OpenSpec.ofChange hyperFoldSpec)

/-- ITS FALSE NEIGHBOUR: 'it returns false'. Refute it at one input. -/
def hyperFoldWrong : ChangeSpec := { name := "hyperFold", fn := fun _ => fun
  | [d1, d2] => { results := [.lit (.bool false)], args := [d1, d2] }
  | _ => none }
def HyperFoldWrongFalsely : Prop := hyperFoldRow.holds Tryd.pinned (OpenSpec.ofChange hyperFoldWrong)

/-- 'plunderlaw23.HyperNumbers': WHATEVER THE INPUT: true; the input reads as it did. -/
def hyperNumbersSpec : ChangeSpec := { name := "hyperNumbers", fn := fun _ => fun
  | [d1, d2] => { results := [.lit (.bool true)], args := [d1, d2] }
  | _ => none }
def hyperNumbersRow : OpenClaim := { program := "ytamfkglnejhjdaadoor", sum := "bd89382ed608f10b3755b62d9a4a4cd950cc5a55d8578c23b323862dc03e4357", func := "plunder/plunderlaw23.HyperNumbers", spec := "hyperNumbers", unfollowed := true, recurses := true, named := ["plunder/ops.units"], apart := false, laid := [("plunder/ops.units", laid_plunder_ops_units)] }
def HyperNumbersSaid : Prop := hyperNumbersRow.holds Tryd.pinned (OpenSpec.ofChange hyperNumbersSpec)

/-- ITS FALSE NEIGHBOUR: 'it returns false'. Refute it at one input. -/
def hyperNumbersWrong : ChangeSpec := { name := "hyperNumbers", fn := fun _ => fun
  | [d1, d2] => { results := [.lit (.bool false)], args := [d1, d2] }
  | _ => none }
def HyperNumbersWrongFalsely : Prop := hyperNumbersRow.holds Tryd.pinned (OpenSpec.ofChange hyperNumbersWrong)

/-- 'plunderlaw23.HyperFresh': WHATEVER THE INPUT: true; the input reads as it did. -/
def hyperFreshSpec : ChangeSpec := { name := "hyperFresh", fn := fun _ => fun
  | [d] => { results := [.lit (.bool true)], args := [d] }
  | _ => none }
def hyperFreshRow : OpenClaim := { program := "ytamfkglnejhjdaadoor", sum := "bd89382ed608f10b3755b62d9a4a4cd950cc5a55d8578c23b323862dc03e4357", func := "plunder/plunderlaw23.HyperFresh", spec := "hyperFresh", unfollowed := true, recurses := true, named := ["plunder/ops.units"], apart := false, laid := [("plunder/ops.units", laid_plunder_ops_units)] }
def HyperFreshSaid : Prop := hyperFreshRow.holds Tryd.pinned (OpenSpec.ofChange hyperFreshSpec)

/-- ITS FALSE NEIGHBOUR: 'it returns false'. Refute it at one input. -/
def hyperFreshWrong : ChangeSpec := { name := "hyperFresh", fn := fun _ => fun
  | [d] => { results := [.lit (.bool false)], args := [d] }
  | _ => none }
def HyperFreshWrongFalsely : Prop := hyperFreshRow.holds Tryd.pinned (OpenSpec.ofChange hyperFreshWrong)

/- THE SECOND FORM. 'bulk': how many values and letters a reading holds, each counted each time it is reached (what is shared counts as often as it is met; a slice's spare places count too). A statement '..UptoSaid' is the law's where the arguments, and the package variables that the reading takes, are together of bulk at most 1048576: NARROWER than '..Said'. Prove '..Said' where nothing that the law and all that it calls make is longer than what came in: it says more and counts as full. Else prove '..UptoSaid'. A law counts once. -/
mutual
def uptoBulk {H : Type} : DataW H → Nat
  | .lit (.string bytes) => bytes.length + 1
  | .lit _ => 1
  | .nil => 1
  | .ptr d => uptoBulk d + 1
  | .slice elems spare => uptoBulkAll elems + uptoBulkAll spare + 1
  | .agg parts => uptoBulkAll parts + 1
  | .iface _ d => uptoBulk d + 1
  | .map entries => uptoBulkEntries entries + 1
  | .held _ => 1
def uptoBulkAll {H : Type} : List (DataW H) → Nat
  | [] => 0
  | d :: r => uptoBulk d + uptoBulkAll r
def uptoBulkEntries {H : Type} : List (Lit × DataW H) → Nat
  | [] => 0
  | x :: r => uptoBulkEntry x + uptoBulkEntries r
def uptoBulkEntry {H : Type} : Lit × DataW H → Nat
  | (.string bytes, d) => bytes.length + uptoBulk d + 1
  | (_, d) => uptoBulk d + 1
 end
def uptoSmall : (H : Type) → List (DataW H) → Bool := fun _ ds => decide (uptoBulkAll ds ≤ 1048576)
def OpenSpec.upto (s : _root_.Go.ChangeSpec) : _root_.Go.OpenSpec := { _root_.Go.OpenSpec.ofChange s with cond := some uptoSmall }

/-- 'plunderlaw23.HyperFold', WHERE WHAT IT READS IS OF BULK AT MOST 1048576: true; the input reads as it did. -/
def hyperFoldUptoRow : OpenClaim := { program := "ytamfkglnejhjdaadoor", sum := "bd89382ed608f10b3755b62d9a4a4cd950cc5a55d8578c23b323862dc03e4357", func := "plunder/plunderlaw23.HyperFold", spec := "hyperFold", unfollowed := true, recurses := true, named := ["plunder/ops.units"], apart := false, laid := [("plunder/ops.units", laid_plunder_ops_units)], narrowed := true }
def HyperFoldUptoSaid : Prop := hyperFoldUptoRow.holds Tryd.pinned (OpenSpec.upto hyperFoldSpec)

/-- 'plunderlaw23.HyperNumbers', WHERE WHAT IT READS IS OF BULK AT MOST 1048576: true; the input reads as it did. -/
def hyperNumbersUptoRow : OpenClaim := { program := "ytamfkglnejhjdaadoor", sum := "bd89382ed608f10b3755b62d9a4a4cd950cc5a55d8578c23b323862dc03e4357", func := "plunder/plunderlaw23.HyperNumbers", spec := "hyperNumbers", unfollowed := true, recurses := true, named := ["plunder/ops.units"], apart := false, laid := [("plunder/ops.units", laid_plunder_ops_units)], narrowed := true }
def HyperNumbersUptoSaid : Prop := hyperNumbersUptoRow.holds Tryd.pinned (OpenSpec.upto hyperNumbersSpec)

/-- 'plunderlaw23.HyperFresh', WHERE WHAT IT READS IS OF BULK AT MOST 1048576: true; the input reads as it did. -/
def hyperFreshUptoRow : OpenClaim := { program := "ytamfkglnejhjdaadoor", sum := "bd89382ed608f10b3755b62d9a4a4cd950cc5a55d8578c23b323862dc03e4357", func := "plunder/plunderlaw23.HyperFresh", spec := "hyperFresh", unfollowed := true, recurses := true, named := ["plunder/ops.units"], apart := false, laid := [("plunder/ops.units", laid_plunder_ops_units)], narrowed := true }
def HyperFreshUptoSaid : Prop := hyperFreshUptoRow.holds Tryd.pinned (OpenSpec.upto hyperFreshSpec)

end Rows
end Go.Proofs.YtamfkglnejhjdaaDoor
