/-
  NARROWER THAN 'FOR EVERY INPUT', by the rows' own cells (each row's printed sentence says how): OpsFind: laid · OpsTable: laid · OpsNamed: laid · OpsMonoids: laid · OpsFold: laid · OpsTree: laid · OpsHalves: laid · OpsFormat: laid · OpsParse: laid · OpsRound: laid.
  DERIVED. THE GIVEN ROWS OF THIS SEAT. 10 by the template 'for every input the law returns true; each argument reads behind the call as it read before'; 0 by the template 'total and deterministic' (their statements: YtpjgdojhdlfjdaaDoorTotals.lean).
  GIVEN WITH THE SEED: the statements are not yours to turn. If you find one false, say at which input.
  Laid BY PROGRAM, IN A SANDBOX (cutbox-rows.mjs): the forced cells as the released guide's own fill.sh prints them over the translation c344f5b3cd5db887… (all of the seat's roots in one cut). By AI agents, Wed Nov 11 2026. No macro, syntax, notation, axiom, sorry.
-/
import Derived.Test.YtpjgdojhdlfjdaaDoorChecked
import GoSem.Claim
import GoSem.ClaimJoined
import GoSem.ClaimMapViews
import Derived.JoinedTies
import Derived.KernelRfl
namespace Go.Proofs.YtpjgdojhdlfjdaaDoor
/- THE CELL 'sum', in the pinned program and in every row, IS THE sha256 OF THE DUMP (.gsa) THAT YtpjgdojhdlfjdaaDoorProg.lean LOADS. Nothing in Lean hashes anything: it is a label: what it is worth is what the hold of that sum in a sandbox is worth. -/
noncomputable def Tryd.pinned : Pinned := { name := "ytpjgdojhdlfjdaadoor", sum := "c344f5b3cd5db887b1382d45a7669a5692db73daf1184f4691a94134ffc61c30", checked := Tryd.checked }
namespace Rows
def none {H : Type} : Left H := { results := [], args := [] }

/- WHAT THE LISTED PACKAGE-LEVEL VARIABLES READ AS WHEN THE CALL BEGINS. Each datum BY PROGRAM (the guide's laid-datum.mjs) off the statement by which the dump's own 'gosem.cut.vars' lays the variable. In a bare row this is a premise. The card (YtpjgdojhdlfjdaaDoorCards.lean) ties it to the program's text. -/
def laid_plunder_ops_names {H : Type} : DataW H := .agg [.lit (.string [43]), .lit (.string [45]), .lit (.string [42]), .lit (.string [47]), .lit (.string [37]), .lit (.string [38]), .lit (.string [124]), .lit (.string [94]), .lit (.string [60, 60]), .lit (.string [62, 62]), .lit (.string [109, 105, 110]), .lit (.string [109, 97, 120]), .lit (.string [60]), .lit (.string [60, 61]), .lit (.string [61, 61]), .lit (.string [33, 61])]
def laid_plunder_ops_units {H : Type} : DataW H := .agg [.agg [.lit (.int .i64 0), .lit (.int .i64 0)], .agg [.lit (.int .i64 2), .lit (.int .i64 1)], .agg [.lit (.int .i64 5), .lit (.int .i64 (-1))], .agg [.lit (.int .i64 6), .lit (.int .i64 0)], .agg [.lit (.int .i64 7), .lit (.int .i64 0)], .agg [.lit (.int .i64 10), .lit (.int .i64 9223372036854775807)], .agg [.lit (.int .i64 11), .lit (.int .i64 (-9223372036854775808))]]
def laid_math_bits_deBruijn32tab {H : Type} : DataW H := .agg [.lit (.int .u8 0), .lit (.int .u8 1), .lit (.int .u8 28), .lit (.int .u8 2), .lit (.int .u8 29), .lit (.int .u8 14), .lit (.int .u8 24), .lit (.int .u8 3), .lit (.int .u8 30), .lit (.int .u8 22), .lit (.int .u8 20), .lit (.int .u8 15), .lit (.int .u8 25), .lit (.int .u8 17), .lit (.int .u8 4), .lit (.int .u8 8), .lit (.int .u8 31), .lit (.int .u8 27), .lit (.int .u8 13), .lit (.int .u8 23), .lit (.int .u8 21), .lit (.int .u8 19), .lit (.int .u8 16), .lit (.int .u8 7), .lit (.int .u8 26), .lit (.int .u8 12), .lit (.int .u8 18), .lit (.int .u8 6), .lit (.int .u8 11), .lit (.int .u8 5), .lit (.int .u8 10), .lit (.int .u8 9)]
def laid_math_bits_deBruijn64tab {H : Type} : DataW H := .agg [.lit (.int .u8 0), .lit (.int .u8 1), .lit (.int .u8 56), .lit (.int .u8 2), .lit (.int .u8 57), .lit (.int .u8 49), .lit (.int .u8 28), .lit (.int .u8 3), .lit (.int .u8 61), .lit (.int .u8 58), .lit (.int .u8 42), .lit (.int .u8 50), .lit (.int .u8 38), .lit (.int .u8 29), .lit (.int .u8 17), .lit (.int .u8 4), .lit (.int .u8 62), .lit (.int .u8 47), .lit (.int .u8 59), .lit (.int .u8 36), .lit (.int .u8 45), .lit (.int .u8 43), .lit (.int .u8 51), .lit (.int .u8 22), .lit (.int .u8 53), .lit (.int .u8 39), .lit (.int .u8 33), .lit (.int .u8 30), .lit (.int .u8 24), .lit (.int .u8 18), .lit (.int .u8 12), .lit (.int .u8 5), .lit (.int .u8 63), .lit (.int .u8 55), .lit (.int .u8 48), .lit (.int .u8 27), .lit (.int .u8 60), .lit (.int .u8 41), .lit (.int .u8 37), .lit (.int .u8 16), .lit (.int .u8 46), .lit (.int .u8 35), .lit (.int .u8 44), .lit (.int .u8 21), .lit (.int .u8 52), .lit (.int .u8 32), .lit (.int .u8 23), .lit (.int .u8 11), .lit (.int .u8 54), .lit (.int .u8 26), .lit (.int .u8 40), .lit (.int .u8 15), .lit (.int .u8 34), .lit (.int .u8 20), .lit (.int .u8 31), .lit (.int .u8 10), .lit (.int .u8 25), .lit (.int .u8 14), .lit (.int .u8 19), .lit (.int .u8 9), .lit (.int .u8 13), .lit (.int .u8 8), .lit (.int .u8 7), .lit (.int .u8 6)]
def laid_internal_strconv_uint64pow10 {H : Type} : DataW H := .agg [.lit (.int .u64 1), .lit (.int .u64 10), .lit (.int .u64 100), .lit (.int .u64 1000), .lit (.int .u64 10000), .lit (.int .u64 100000), .lit (.int .u64 1000000), .lit (.int .u64 10000000), .lit (.int .u64 100000000), .lit (.int .u64 1000000000), .lit (.int .u64 10000000000), .lit (.int .u64 100000000000), .lit (.int .u64 1000000000000), .lit (.int .u64 10000000000000), .lit (.int .u64 100000000000000), .lit (.int .u64 1000000000000000), .lit (.int .u64 10000000000000000), .lit (.int .u64 100000000000000000), .lit (.int .u64 1000000000000000000), .lit (.int .u64 10000000000000000000)]

/-- 'plunderlaw1.OpsFind': WHATEVER THE INPUT: true; the input reads as it did. -/
def opsFindSpec : ChangeSpec := { name := "opsFind", fn := fun _ => fun
  | [d] => { results := [.lit (.bool true)], args := [d] }
  | _ => none }
def opsFindRow : OpenClaim := { program := "ytpjgdojhdlfjdaadoor", sum := "c344f5b3cd5db887b1382d45a7669a5692db73daf1184f4691a94134ffc61c30", func := "plunder/plunderlaw1.OpsFind", spec := "opsFind", named := ["plunder/ops.names"], apart := false, laid := [("plunder/ops.names", laid_plunder_ops_names)] }
def OpsFindSaid : Prop := opsFindRow.holds Tryd.pinned (OpenSpec.ofChange opsFindSpec)

/-- ITS FALSE NEIGHBOUR: 'it returns false'. Refute it at one input. -/
def opsFindWrong : ChangeSpec := { name := "opsFind", fn := fun _ => fun
  | [d] => { results := [.lit (.bool false)], args := [d] }
  | _ => none }
def OpsFindWrongFalsely : Prop := opsFindRow.holds Tryd.pinned (OpenSpec.ofChange opsFindWrong)

/-- 'plunderlaw1.OpsTable': WHATEVER THE INPUT: true; the input reads as it did. -/
def opsTableSpec : ChangeSpec := { name := "opsTable", fn := fun _ => fun
  | [d] => { results := [.lit (.bool true)], args := [d] }
  | _ => none }
def opsTableRow : OpenClaim := { program := "ytpjgdojhdlfjdaadoor", sum := "c344f5b3cd5db887b1382d45a7669a5692db73daf1184f4691a94134ffc61c30", func := "plunder/plunderlaw1.OpsTable", spec := "opsTable", named := ["plunder/ops.units", "plunder/ops.names"], apart := false, laid := [("plunder/ops.names", laid_plunder_ops_names), ("plunder/ops.units", laid_plunder_ops_units)] }
def OpsTableSaid : Prop := opsTableRow.holds Tryd.pinned (OpenSpec.ofChange opsTableSpec)

/-- ITS FALSE NEIGHBOUR: 'it returns false'. Refute it at one input. -/
def opsTableWrong : ChangeSpec := { name := "opsTable", fn := fun _ => fun
  | [d] => { results := [.lit (.bool false)], args := [d] }
  | _ => none }
def OpsTableWrongFalsely : Prop := opsTableRow.holds Tryd.pinned (OpenSpec.ofChange opsTableWrong)

/-- 'plunderlaw1.OpsNamed': WHATEVER THE INPUT: true; the input reads as it did. -/
def opsNamedSpec : ChangeSpec := { name := "opsNamed", fn := fun _ => fun
  | [] => { results := [.lit (.bool true)], args := [] }
  | _ => none }
def opsNamedRow : OpenClaim := { program := "ytpjgdojhdlfjdaadoor", sum := "c344f5b3cd5db887b1382d45a7669a5692db73daf1184f4691a94134ffc61c30", func := "plunder/plunderlaw1.OpsNamed", spec := "opsNamed", named := ["plunder/ops.names"], apart := false, laid := [("plunder/ops.names", laid_plunder_ops_names)] }
def OpsNamedSaid : Prop := opsNamedRow.holds Tryd.pinned (OpenSpec.ofChange opsNamedSpec)

/-- ITS FALSE NEIGHBOUR: 'it returns false'. Refute it at one input. -/
def opsNamedWrong : ChangeSpec := { name := "opsNamed", fn := fun _ => fun
  | [] => { results := [.lit (.bool false)], args := [] }
  | _ => none }
def OpsNamedWrongFalsely : Prop := opsNamedRow.holds Tryd.pinned (OpenSpec.ofChange opsNamedWrong)

/-- 'plunderlaw1.OpsMonoids': WHATEVER THE INPUT: true; the input reads as it did. -/
def opsMonoidsSpec : ChangeSpec := { name := "opsMonoids", fn := fun _ => fun
  | [d1, d2, d3] => { results := [.lit (.bool true)], args := [d1, d2, d3] }
  | _ => none }
def opsMonoidsRow : OpenClaim := { program := "ytpjgdojhdlfjdaadoor", sum := "c344f5b3cd5db887b1382d45a7669a5692db73daf1184f4691a94134ffc61c30", func := "plunder/plunderlaw1.OpsMonoids", spec := "opsMonoids", named := ["plunder/ops.units"], apart := false, laid := [("plunder/ops.units", laid_plunder_ops_units)] }
def OpsMonoidsSaid : Prop := opsMonoidsRow.holds Tryd.pinned (OpenSpec.ofChange opsMonoidsSpec)

/-- ITS FALSE NEIGHBOUR: 'it returns false'. Refute it at one input. -/
def opsMonoidsWrong : ChangeSpec := { name := "opsMonoids", fn := fun _ => fun
  | [d1, d2, d3] => { results := [.lit (.bool false)], args := [d1, d2, d3] }
  | _ => none }
def OpsMonoidsWrongFalsely : Prop := opsMonoidsRow.holds Tryd.pinned (OpenSpec.ofChange opsMonoidsWrong)

/-- 'plunderlaw1.OpsFold': WHATEVER THE INPUT: true; the input reads as it did. -/
def opsFoldSpec : ChangeSpec := { name := "opsFold", fn := fun _ => fun
  | [d1, d2] => { results := [.lit (.bool true)], args := [d1, d2] }
  | _ => none }
def opsFoldRow : OpenClaim := { program := "ytpjgdojhdlfjdaadoor", sum := "c344f5b3cd5db887b1382d45a7669a5692db73daf1184f4691a94134ffc61c30", func := "plunder/plunderlaw1.OpsFold", spec := "opsFold", named := ["plunder/ops.units"], apart := false, laid := [("plunder/ops.units", laid_plunder_ops_units)] }
def OpsFoldSaid : Prop := opsFoldRow.holds Tryd.pinned (OpenSpec.ofChange opsFoldSpec)

/-- ITS FALSE NEIGHBOUR: 'it returns false'. Refute it at one input. -/
def opsFoldWrong : ChangeSpec := { name := "opsFold", fn := fun _ => fun
  | [d1, d2] => { results := [.lit (.bool false)], args := [d1, d2] }
  | _ => none }
def OpsFoldWrongFalsely : Prop := opsFoldRow.holds Tryd.pinned (OpenSpec.ofChange opsFoldWrong)

/-- 'plunderlaw1.OpsTree': WHATEVER THE INPUT: true; the input reads as it did. -/
def opsTreeSpec : ChangeSpec := { name := "opsTree", fn := fun _ => fun
  | [d1, d2] => { results := [.lit (.bool true)], args := [d1, d2] }
  | _ => none }
def opsTreeRow : OpenClaim := { program := "ytpjgdojhdlfjdaadoor", sum := "c344f5b3cd5db887b1382d45a7669a5692db73daf1184f4691a94134ffc61c30", func := "plunder/plunderlaw1.OpsTree", spec := "opsTree", recurses := true, named := ["plunder/ops.units"], apart := false, laid := [("plunder/ops.units", laid_plunder_ops_units)] }
def OpsTreeSaid : Prop := opsTreeRow.holds Tryd.pinned (OpenSpec.ofChange opsTreeSpec)

/-- ITS FALSE NEIGHBOUR: 'it returns false'. Refute it at one input. -/
def opsTreeWrong : ChangeSpec := { name := "opsTree", fn := fun _ => fun
  | [d1, d2] => { results := [.lit (.bool false)], args := [d1, d2] }
  | _ => none }
def OpsTreeWrongFalsely : Prop := opsTreeRow.holds Tryd.pinned (OpenSpec.ofChange opsTreeWrong)

/-- 'plunderlaw1.OpsHalves': WHATEVER THE INPUT: true; the input reads as it did. -/
def opsHalvesSpec : ChangeSpec := { name := "opsHalves", fn := fun _ => fun
  | [d1, d2, d3] => { results := [.lit (.bool true)], args := [d1, d2, d3] }
  | _ => none }
def opsHalvesRow : OpenClaim := { program := "ytpjgdojhdlfjdaadoor", sum := "c344f5b3cd5db887b1382d45a7669a5692db73daf1184f4691a94134ffc61c30", func := "plunder/plunderlaw1.OpsHalves", spec := "opsHalves", recurses := true, named := ["plunder/ops.units"], apart := false, laid := [("plunder/ops.units", laid_plunder_ops_units)] }
def OpsHalvesSaid : Prop := opsHalvesRow.holds Tryd.pinned (OpenSpec.ofChange opsHalvesSpec)

/-- ITS FALSE NEIGHBOUR: 'it returns false'. Refute it at one input. -/
def opsHalvesWrong : ChangeSpec := { name := "opsHalves", fn := fun _ => fun
  | [d1, d2, d3] => { results := [.lit (.bool false)], args := [d1, d2, d3] }
  | _ => none }
def OpsHalvesWrongFalsely : Prop := opsHalvesRow.holds Tryd.pinned (OpenSpec.ofChange opsHalvesWrong)

/-- 'plunderlaw1.OpsFormat': WHATEVER THE INPUT: true; the input reads as it did. -/
def opsFormatSpec : ChangeSpec := { name := "opsFormat", fn := fun _ => fun
  | [d] => { results := [.lit (.bool true)], args := [d] }
  | _ => none }
def opsFormatRow : OpenClaim := { program := "ytpjgdojhdlfjdaadoor", sum := "c344f5b3cd5db887b1382d45a7669a5692db73daf1184f4691a94134ffc61c30", func := "plunder/plunderlaw1.OpsFormat", spec := "opsFormat", recurses := true, named := ["internal/strconv.uint64pow10", "math/bits.deBruijn32tab", "math/bits.deBruijn64tab"], apart := false, laid := [("math/bits.deBruijn32tab", laid_math_bits_deBruijn32tab), ("math/bits.deBruijn64tab", laid_math_bits_deBruijn64tab), ("internal/strconv.uint64pow10", laid_internal_strconv_uint64pow10)] }
def OpsFormatSaid : Prop := opsFormatRow.holds Tryd.pinned (OpenSpec.ofChange opsFormatSpec)

/-- ITS FALSE NEIGHBOUR: 'it returns false'. Refute it at one input. -/
def opsFormatWrong : ChangeSpec := { name := "opsFormat", fn := fun _ => fun
  | [d] => { results := [.lit (.bool false)], args := [d] }
  | _ => none }
def OpsFormatWrongFalsely : Prop := opsFormatRow.holds Tryd.pinned (OpenSpec.ofChange opsFormatWrong)

/-- 'plunderlaw1.OpsParse': WHATEVER THE INPUT: true; the input reads as it did. -/
def opsParseSpec : ChangeSpec := { name := "opsParse", fn := fun _ => fun
  | [d] => { results := [.lit (.bool true)], args := [d] }
  | _ => none }
def opsParseRow : OpenClaim := { program := "ytpjgdojhdlfjdaadoor", sum := "c344f5b3cd5db887b1382d45a7669a5692db73daf1184f4691a94134ffc61c30", func := "plunder/plunderlaw1.OpsParse", spec := "opsParse", recurses := true, named := ["internal/strconv.uint64pow10", "math/bits.deBruijn32tab", "math/bits.deBruijn64tab"], apart := false, laid := [("math/bits.deBruijn32tab", laid_math_bits_deBruijn32tab), ("math/bits.deBruijn64tab", laid_math_bits_deBruijn64tab), ("internal/strconv.uint64pow10", laid_internal_strconv_uint64pow10)] }
def OpsParseSaid : Prop := opsParseRow.holds Tryd.pinned (OpenSpec.ofChange opsParseSpec)

/-- ITS FALSE NEIGHBOUR: 'it returns false'. Refute it at one input. -/
def opsParseWrong : ChangeSpec := { name := "opsParse", fn := fun _ => fun
  | [d] => { results := [.lit (.bool false)], args := [d] }
  | _ => none }
def OpsParseWrongFalsely : Prop := opsParseRow.holds Tryd.pinned (OpenSpec.ofChange opsParseWrong)

/-- 'plunderlaw1.OpsRound': WHATEVER THE INPUT: true; the input reads as it did. -/
def opsRoundSpec : ChangeSpec := { name := "opsRound", fn := fun _ => fun
  | [d1, d2] => { results := [.lit (.bool true)], args := [d1, d2] }
  | _ => none }
def opsRoundRow : OpenClaim := { program := "ytpjgdojhdlfjdaadoor", sum := "c344f5b3cd5db887b1382d45a7669a5692db73daf1184f4691a94134ffc61c30", func := "plunder/plunderlaw1.OpsRound", spec := "opsRound", named := ["internal/strconv.uint64pow10", "math/bits.deBruijn32tab", "math/bits.deBruijn64tab"], apart := false, laid := [("math/bits.deBruijn32tab", laid_math_bits_deBruijn32tab), ("math/bits.deBruijn64tab", laid_math_bits_deBruijn64tab), ("internal/strconv.uint64pow10", laid_internal_strconv_uint64pow10)] }
def OpsRoundSaid : Prop := opsRoundRow.holds Tryd.pinned (OpenSpec.ofChange opsRoundSpec)

/-- ITS FALSE NEIGHBOUR: 'it returns false'. Refute it at one input. -/
def opsRoundWrong : ChangeSpec := { name := "opsRound", fn := fun _ => fun
  | [d1, d2] => { results := [.lit (.bool false)], args := [d1, d2] }
  | _ => none }
def OpsRoundWrongFalsely : Prop := opsRoundRow.holds Tryd.pinned (OpenSpec.ofChange opsRoundWrong)

/- THE SECOND FORM. 'bulk': how many values and letters a reading holds, each counted each time it is reached (what is shared counts as often as it is met; a slice's spare places count too). A statement '..UptoSaid' is the law's where the arguments, and the package variables that the reading takes, are together of bulk at most 1048576: NARROWER than '..Said'. Prove '..Said' where nothing that the law and all that it calls make is longer than what came in: it says more and counts as full. Else prove '..UptoSaid'. A law counts once. -/
mutual
def uptoBulk {H : Type} : DataW H → Nat
  | .lit (.string bytes) => bytes.length + 1
  | .lit _ => 1
  | .nil => 1
  | .ptr d => uptoBulk d + 1
  | .slice elems spare => uptoBulkAll elems + uptoBulkAll spare + 1
  | .agg parts => uptoBulkAll parts + 1
  | .iface _ d => uptoBulk d + 1
  | .map entries => uptoBulkEntries entries + 1
  | .held _ => 1
def uptoBulkAll {H : Type} : List (DataW H) → Nat
  | [] => 0
  | d :: r => uptoBulk d + uptoBulkAll r
def uptoBulkEntries {H : Type} : List (Lit × DataW H) → Nat
  | [] => 0
  | x :: r => uptoBulkEntry x + uptoBulkEntries r
def uptoBulkEntry {H : Type} : Lit × DataW H → Nat
  | (.string bytes, d) => bytes.length + uptoBulk d + 1
  | (_, d) => uptoBulk d + 1
 end
def uptoSmall : (H : Type) → List (DataW H) → Bool := fun _ ds => decide (uptoBulkAll ds ≤ 1048576)
def OpenSpec.upto (s : _root_.Go.ChangeSpec) : _root_.Go.OpenSpec := { _root_.Go.OpenSpec.ofChange s with cond := some uptoSmall }

/-- 'plunderlaw1.OpsFind', WHERE WHAT IT READS IS OF BULK AT MOST 1048576: true; the input reads as it did. -/
def opsFindUptoRow : OpenClaim := { program := "ytpjgdojhdlfjdaadoor", sum := "c344f5b3cd5db887b1382d45a7669a5692db73daf1184f4691a94134ffc61c30", func := "plunder/plunderlaw1.OpsFind", spec := "opsFind", named := ["plunder/ops.names"], apart := false, laid := [("plunder/ops.names", laid_plunder_ops_names)], narrowed := true }
def OpsFindUptoSaid : Prop := opsFindUptoRow.holds Tryd.pinned (OpenSpec.upto opsFindSpec)

/-- 'plunderlaw1.OpsTable', WHERE WHAT IT READS IS OF BULK AT MOST 1048576: true; the input reads as it did. -/
def opsTableUptoRow : OpenClaim := { program := "ytpjgdojhdlfjdaadoor", sum := "c344f5b3cd5db887b1382d45a7669a5692db73daf1184f4691a94134ffc61c30", func := "plunder/plunderlaw1.OpsTable", spec := "opsTable", named := ["plunder/ops.units", "plunder/ops.names"], apart := false, laid := [("plunder/ops.names", laid_plunder_ops_names), ("plunder/ops.units", laid_plunder_ops_units)], narrowed := true }
def OpsTableUptoSaid : Prop := opsTableUptoRow.holds Tryd.pinned (OpenSpec.upto opsTableSpec)

/-- 'plunderlaw1.OpsNamed', WHERE WHAT IT READS IS OF BULK AT MOST 1048576: true; the input reads as it did. -/
def opsNamedUptoRow : OpenClaim := { program := "ytpjgdojhdlfjdaadoor", sum := "c344f5b3cd5db887b1382d45a7669a5692db73daf1184f4691a94134ffc61c30", func := "plunder/plunderlaw1.OpsNamed", spec := "opsNamed", named := ["plunder/ops.names"], apart := false, laid := [("plunder/ops.names", laid_plunder_ops_names)], narrowed := true }
def OpsNamedUptoSaid : Prop := opsNamedUptoRow.holds Tryd.pinned (OpenSpec.upto opsNamedSpec)

/-- 'plunderlaw1.OpsMonoids', WHERE WHAT IT READS IS OF BULK AT MOST 1048576: true; the input reads as it did. -/
def opsMonoidsUptoRow : OpenClaim := { program := "ytpjgdojhdlfjdaadoor", sum := "c344f5b3cd5db887b1382d45a7669a5692db73daf1184f4691a94134ffc61c30", func := "plunder/plunderlaw1.OpsMonoids", spec := "opsMonoids", named := ["plunder/ops.units"], apart := false, laid := [("plunder/ops.units", laid_plunder_ops_units)], narrowed := true }
def OpsMonoidsUptoSaid : Prop := opsMonoidsUptoRow.holds Tryd.pinned (OpenSpec.upto opsMonoidsSpec)

/-- 'plunderlaw1.OpsFold', WHERE WHAT IT READS IS OF BULK AT MOST 1048576: true; the input reads as it did. -/
def opsFoldUptoRow : OpenClaim := { program := "ytpjgdojhdlfjdaadoor", sum := "c344f5b3cd5db887b1382d45a7669a5692db73daf1184f4691a94134ffc61c30", func := "plunder/plunderlaw1.OpsFold", spec := "opsFold", named := ["plunder/ops.units"], apart := false, laid := [("plunder/ops.units", laid_plunder_ops_units)], narrowed := true }
def OpsFoldUptoSaid : Prop := opsFoldUptoRow.holds Tryd.pinned (OpenSpec.upto opsFoldSpec)

/-- 'plunderlaw1.OpsTree', WHERE WHAT IT READS IS OF BULK AT MOST 1048576: true; the input reads as it did. -/
def opsTreeUptoRow : OpenClaim := { program := "ytpjgdojhdlfjdaadoor", sum := "c344f5b3cd5db887b1382d45a7669a5692db73daf1184f4691a94134ffc61c30", func := "plunder/plunderlaw1.OpsTree", spec := "opsTree", recurses := true, named := ["plunder/ops.units"], apart := false, laid := [("plunder/ops.units", laid_plunder_ops_units)], narrowed := true }
def OpsTreeUptoSaid : Prop := opsTreeUptoRow.holds Tryd.pinned (OpenSpec.upto opsTreeSpec)

/-- 'plunderlaw1.OpsHalves', WHERE WHAT IT READS IS OF BULK AT MOST 1048576: true; the input reads as it did. -/
def opsHalvesUptoRow : OpenClaim := { program := "ytpjgdojhdlfjdaadoor", sum := "c344f5b3cd5db887b1382d45a7669a5692db73daf1184f4691a94134ffc61c30", func := "plunder/plunderlaw1.OpsHalves", spec := "opsHalves", recurses := true, named := ["plunder/ops.units"], apart := false, laid := [("plunder/ops.units", laid_plunder_ops_units)], narrowed := true }
def OpsHalvesUptoSaid : Prop := opsHalvesUptoRow.holds Tryd.pinned (OpenSpec.upto opsHalvesSpec)

/-- 'plunderlaw1.OpsFormat', WHERE WHAT IT READS IS OF BULK AT MOST 1048576: true; the input reads as it did. -/
def opsFormatUptoRow : OpenClaim := { program := "ytpjgdojhdlfjdaadoor", sum := "c344f5b3cd5db887b1382d45a7669a5692db73daf1184f4691a94134ffc61c30", func := "plunder/plunderlaw1.OpsFormat", spec := "opsFormat", recurses := true, named := ["internal/strconv.uint64pow10", "math/bits.deBruijn32tab", "math/bits.deBruijn64tab"], apart := false, laid := [("math/bits.deBruijn32tab", laid_math_bits_deBruijn32tab), ("math/bits.deBruijn64tab", laid_math_bits_deBruijn64tab), ("internal/strconv.uint64pow10", laid_internal_strconv_uint64pow10)], narrowed := true }
def OpsFormatUptoSaid : Prop := opsFormatUptoRow.holds Tryd.pinned (OpenSpec.upto opsFormatSpec)

/-- 'plunderlaw1.OpsParse', WHERE WHAT IT READS IS OF BULK AT MOST 1048576: true; the input reads as it did. -/
def opsParseUptoRow : OpenClaim := { program := "ytpjgdojhdlfjdaadoor", sum := "c344f5b3cd5db887b1382d45a7669a5692db73daf1184f4691a94134ffc61c30", func := "plunder/plunderlaw1.OpsParse", spec := "opsParse", recurses := true, named := ["internal/strconv.uint64pow10", "math/bits.deBruijn32tab", "math/bits.deBruijn64tab"], apart := false, laid := [("math/bits.deBruijn32tab", laid_math_bits_deBruijn32tab), ("math/bits.deBruijn64tab", laid_math_bits_deBruijn64tab), ("internal/strconv.uint64pow10", laid_internal_strconv_uint64pow10)], narrowed := true }
def OpsParseUptoSaid : Prop := opsParseUptoRow.holds Tryd.pinned (OpenSpec.upto opsParseSpec)

/-- 'plunderlaw1.OpsRound', WHERE WHAT IT READS IS OF BULK AT MOST 1048576: true; the input reads as it did. -/
def opsRoundUptoRow : OpenClaim := { program := "ytpjgdojhdlfjdaadoor", sum := "c344f5b3cd5db887b1382d45a7669a5692db73daf1184f4691a94134ffc61c30", func := "plunder/plunderlaw1.OpsRound", spec := "opsRound", named := ["internal/strconv.uint64pow10", "math/bits.deBruijn32tab", "math/bits.deBruijn64tab"], apart := false, laid := [("math/bits.deBruijn32tab", laid_math_bits_deBruijn32tab), ("math/bits.deBruijn64tab", laid_math_bits_deBruijn64tab), ("internal/strconv.uint64pow10", laid_internal_strconv_uint64pow10)], narrowed := true }
def OpsRoundUptoSaid : Prop := opsRoundUptoRow.holds Tryd.pinned (OpenSpec.upto opsRoundSpec)

end Rows
end Go.Proofs.YtpjgdojhdlfjdaaDoor
