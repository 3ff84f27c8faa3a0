/-
  No cell of these rows narrows 'for every input' (looked for: loops, veiled, ifaces, maps, wideKeys, modest, calm, conditions, laid).
  DERIVED. THE GIVEN ROWS OF THIS SEAT. 6 by the template 'for every input the law returns true; each argument reads behind the call as it read before'; 0 by the template 'total and deterministic' (their statements: YtamfkglnejhjdaaTotals.lean).
  GIVEN WITH THE SEED: the statements are not yours to turn. If you find one false, say at which input.
  Laid BY PROGRAM, IN A SANDBOX (cutbox-rows.mjs): the forced cells as the released guide's own fill.sh prints them over the translation bcaa0439054d78cf… (all of the seat's roots in one cut). By AI agents, Wed Nov 11 2026. No macro, syntax, notation, axiom, sorry.
-/
import Derived.Test.YtamfkglnejhjdaaChecked
import GoSem.Claim
import GoSem.ClaimJoined
import GoSem.ClaimMapViews
import Derived.JoinedTies
import Derived.KernelRfl
namespace Go.Proofs.Ytamfkglnejhjdaa
/- THE CELL 'sum', in the pinned program and in every row, IS THE sha256 OF THE DUMP (.gsa) THAT YtamfkglnejhjdaaProg.lean LOADS. Nothing in Lean hashes anything: it is a label: what it is worth is what the hold of that sum in a sandbox is worth. -/
noncomputable def Try.pinned : Pinned := { name := "ytamfkglnejhjdaa", sum := "bcaa0439054d78cfd57b56de6d899a68fa784a0a9464159885afa352828b358c", checked := Try.checked }
namespace Rows
def none {H : Type} : Left H := { results := [], args := [] }

/-- 'plunderlaw23.HyperSerial': WHATEVER THE INPUT: true; the input reads as it did. -/
def hyperSerialSpec : ChangeSpec := { name := "hyperSerial", fn := fun _ => fun
  | [d] => { results := [.lit (.bool true)], args := [d] }
  | _ => none }
def hyperSerialRow : OpenClaim := { program := "ytamfkglnejhjdaa", sum := "bcaa0439054d78cfd57b56de6d899a68fa784a0a9464159885afa352828b358c", func := "plunder/plunderlaw23.HyperSerial", spec := "hyperSerial", apart := false }
def HyperSerialSaid : Prop := hyperSerialRow.holds Try.pinned (OpenSpec.ofChange hyperSerialSpec)

/-- ITS FALSE NEIGHBOUR: 'it returns false'. Refute it at one input. -/
def hyperSerialWrong : ChangeSpec := { name := "hyperSerial", fn := fun _ => fun
  | [d] => { results := [.lit (.bool false)], args := [d] }
  | _ => none }
def HyperSerialWrongFalsely : Prop := hyperSerialRow.holds Try.pinned (OpenSpec.ofChange hyperSerialWrong)

/-- 'plunderlaw23.HyperPlay': WHATEVER THE INPUT: true; the input reads as it did. -/
def hyperPlaySpec : ChangeSpec := { name := "hyperPlay", fn := fun _ => fun
  | [d] => { results := [.lit (.bool true)], args := [d] }
  | _ => none }
def hyperPlayRow : OpenClaim := { program := "ytamfkglnejhjdaa", sum := "bcaa0439054d78cfd57b56de6d899a68fa784a0a9464159885afa352828b358c", func := "plunder/plunderlaw23.HyperPlay", spec := "hyperPlay", unfollowed := true, recurses := true, apart := false }
def HyperPlaySaid : Prop := hyperPlayRow.holds Try.pinned (OpenSpec.ofChange hyperPlaySpec)

/-- ITS FALSE NEIGHBOUR: 'it returns false'. Refute it at one input. -/
def hyperPlayWrong : ChangeSpec := { name := "hyperPlay", fn := fun _ => fun
  | [d] => { results := [.lit (.bool false)], args := [d] }
  | _ => none }
def HyperPlayWrongFalsely : Prop := hyperPlayRow.holds Try.pinned (OpenSpec.ofChange hyperPlayWrong)

/-- 'plunderlaw23.HyperCounts': WHATEVER THE INPUT: true; the input reads as it did. -/
def hyperCountsSpec : ChangeSpec := { name := "hyperCounts", fn := fun _ => fun
  | [d] => { results := [.lit (.bool true)], args := [d] }
  | _ => none }
def hyperCountsRow : OpenClaim := { program := "ytamfkglnejhjdaa", sum := "bcaa0439054d78cfd57b56de6d899a68fa784a0a9464159885afa352828b358c", func := "plunder/plunderlaw23.HyperCounts", spec := "hyperCounts", unfollowed := true, recurses := true, apart := false }
def HyperCountsSaid : Prop := hyperCountsRow.holds Try.pinned (OpenSpec.ofChange hyperCountsSpec)

/-- ITS FALSE NEIGHBOUR: 'it returns false'. Refute it at one input. -/
def hyperCountsWrong : ChangeSpec := { name := "hyperCounts", fn := fun _ => fun
  | [d] => { results := [.lit (.bool false)], args := [d] }
  | _ => none }
def HyperCountsWrongFalsely : Prop := hyperCountsRow.holds Try.pinned (OpenSpec.ofChange hyperCountsWrong)

/-- 'plunderlaw23.HyperLooks': WHATEVER THE INPUT: true; the input reads as it did. -/
def hyperLooksSpec : ChangeSpec := { name := "hyperLooks", fn := fun _ => fun
  | [d] => { results := [.lit (.bool true)], args := [d] }
  | _ => none }
def hyperLooksRow : OpenClaim := { program := "ytamfkglnejhjdaa", sum := "bcaa0439054d78cfd57b56de6d899a68fa784a0a9464159885afa352828b358c", func := "plunder/plunderlaw23.HyperLooks", spec := "hyperLooks", unfollowed := true, recurses := true, apart := false }
def HyperLooksSaid : Prop := hyperLooksRow.holds Try.pinned (OpenSpec.ofChange hyperLooksSpec)

/-- ITS FALSE NEIGHBOUR: 'it returns false'. Refute it at one input. -/
def hyperLooksWrong : ChangeSpec := { name := "hyperLooks", fn := fun _ => fun
  | [d] => { results := [.lit (.bool false)], args := [d] }
  | _ => none }
def HyperLooksWrongFalsely : Prop := hyperLooksRow.holds Try.pinned (OpenSpec.ofChange hyperLooksWrong)

/-- 'plunderlaw23.HyperPicks': WHATEVER THE INPUT: true; the input reads as it did. -/
def hyperPicksSpec : ChangeSpec := { name := "hyperPicks", fn := fun _ => fun
  | [d1, d2] => { results := [.lit (.bool true)], args := [d1, d2] }
  | _ => none }
def hyperPicksRow : OpenClaim := { program := "ytamfkglnejhjdaa", sum := "bcaa0439054d78cfd57b56de6d899a68fa784a0a9464159885afa352828b358c", func := "plunder/plunderlaw23.HyperPicks", spec := "hyperPicks", unfollowed := true, recurses := true, apart := false }
def HyperPicksSaid : Prop := hyperPicksRow.holds Try.pinned (OpenSpec.ofChange hyperPicksSpec)

/-- ITS FALSE NEIGHBOUR: 'it returns false'. Refute it at one input. -/
def hyperPicksWrong : ChangeSpec := { name := "hyperPicks", fn := fun _ => fun
  | [d1, d2] => { results := [.lit (.bool false)], args := [d1, d2] }
  | _ => none }
def HyperPicksWrongFalsely : Prop := hyperPicksRow.holds Try.pinned (OpenSpec.ofChange hyperPicksWrong)

/-- 'plunderlaw23.HyperReducer': WHATEVER THE INPUT: true; the input reads as it did. -/
def hyperReducerSpec : ChangeSpec := { name := "hyperReducer", fn := fun _ => fun
  | [d] => { results := [.lit (.bool true)], args := [d] }
  | _ => none }
def hyperReducerRow : OpenClaim := { program := "ytamfkglnejhjdaa", sum := "bcaa0439054d78cfd57b56de6d899a68fa784a0a9464159885afa352828b358c", func := "plunder/plunderlaw23.HyperReducer", spec := "hyperReducer", unfollowed := true, recurses := true, apart := false }
def HyperReducerSaid : Prop := hyperReducerRow.holds Try.pinned (OpenSpec.ofChange hyperReducerSpec)

/-- ITS FALSE NEIGHBOUR: 'it returns false'. Refute it at one input. -/
def hyperReducerWrong : ChangeSpec := { name := "hyperReducer", fn := fun _ => fun
  | [d] => { results := [.lit (.bool false)], args := [d] }
  | _ => none }
def HyperReducerWrongFalsely : Prop := hyperReducerRow.holds Try.pinned (OpenSpec.ofChange hyperReducerWrong)

/- THE SECOND FORM. 'bulk': how many values and letters a reading holds, each counted each time it is reached (what is shared counts as often as it is met; a slice's spare places count too). A statement '..UptoSaid' is the law's where the arguments, and the package variables that the reading takes, are together of bulk at most 1048576: NARROWER than '..Said'. Prove '..Said' where nothing that the law and all that it calls make is longer than what came in: it says more and counts as full. Else prove '..UptoSaid'. A law counts once. -/
mutual
def uptoBulk {H : Type} : DataW H → Nat
  | .lit (.string bytes) => bytes.length + 1
  | .lit _ => 1
  | .nil => 1
  | .ptr d => uptoBulk d + 1
  | .slice elems spare => uptoBulkAll elems + uptoBulkAll spare + 1
  | .agg parts => uptoBulkAll parts + 1
  | .iface _ d => uptoBulk d + 1
  | .map entries => uptoBulkEntries entries + 1
  | .held _ => 1
def uptoBulkAll {H : Type} : List (DataW H) → Nat
  | [] => 0
  | d :: r => uptoBulk d + uptoBulkAll r
def uptoBulkEntries {H : Type} : List (Lit × DataW H) → Nat
  | [] => 0
  | x :: r => uptoBulkEntry x + uptoBulkEntries r
def uptoBulkEntry {H : Type} : Lit × DataW H → Nat
  | (.string bytes, d) => bytes.length + uptoBulk d + 1
  | (_, d) => uptoBulk d + 1
 end
def uptoSmall : (H : Type) → List (DataW H) → Bool := fun _ ds => decide (uptoBulkAll ds ≤ 1048576)
def OpenSpec.upto (s : _root_.Go.ChangeSpec) : _root_.Go.OpenSpec := { _root_.Go.OpenSpec.ofChange s with cond := some uptoSmall }

/-- 'plunderlaw23.HyperSerial', WHERE WHAT IT READS IS OF BULK AT MOST 1048576: true; the input reads as it did. -/
def hyperSerialUptoRow : OpenClaim := { program := "ytamfkglnejhjdaa", sum := "bcaa0439054d78cfd57b56de6d899a68fa784a0a9464159885afa352828b358c", func := "plunder/plunderlaw23.HyperSerial", spec := "hyperSerial", apart := false, narrowed := true }
def HyperSerialUptoSaid : Prop := hyperSerialUptoRow.holds Try.pinned (OpenSpec.upto hyperSerialSpec)

/-- 'plunderlaw23.HyperPlay', WHERE WHAT IT READS IS OF BULK AT MOST 1048576: true; the input reads as it did. -/
def hyperPlayUptoRow : OpenClaim := { program := "ytamfkglnejhjdaa", sum := "bcaa0439054d78cfd57b56de6d899a68fa784a0a9464159885afa352828b358c", func := "plunder/plunderlaw23.HyperPlay", spec := "hyperPlay", unfollowed := true, recurses := true, apart := false, narrowed := true }
def HyperPlayUptoSaid : Prop := hyperPlayUptoRow.holds Try.pinned (OpenSpec.upto hyperPlaySpec)

/-- 'plunderlaw23.HyperCounts', WHERE WHAT IT READS IS OF BULK AT MOST 1048576: true; the input reads as it did. -/
def hyperCountsUptoRow : OpenClaim := { program := "ytamfkglnejhjdaa", sum := "bcaa0439054d78cfd57b56de6d899a68fa784a0a9464159885afa352828b358c", func := "plunder/plunderlaw23.HyperCounts", spec := "hyperCounts", unfollowed := true, recurses := true, apart := false, narrowed := true }
def HyperCountsUptoSaid : Prop := hyperCountsUptoRow.holds Try.pinned (OpenSpec.upto hyperCountsSpec)

/-- 'plunderlaw23.HyperLooks', WHERE WHAT IT READS IS OF BULK AT MOST 1048576: true; the input reads as it did. -/
def hyperLooksUptoRow : OpenClaim := { program := "ytamfkglnejhjdaa", sum := "bcaa0439054d78cfd57b56de6d899a68fa784a0a9464159885afa352828b358c", func := "plunder/plunderlaw23.HyperLooks", spec := "hyperLooks", unfollowed := true, recurses := true, apart := false, narrowed := true }
def HyperLooksUptoSaid : Prop := hyperLooksUptoRow.holds Try.pinned (OpenSpec.upto hyperLooksSpec)

/-- 'plunderlaw23.HyperPicks', WHERE WHAT IT READS IS OF BULK AT MOST 1048576: true; the input reads as it did. -/
def hyperPicksUptoRow : OpenClaim := { program := "ytamfkglnejhjdaa", sum := "bcaa0439054d78cfd57b56de6d899a68fa784a0a9464159885afa352828b358c", func := "plunder/plunderlaw23.HyperPicks", spec := "hyperPicks", unfollowed := true, recurses := true, apart := false, narrowed := true }
def HyperPicksUptoSaid : Prop := hyperPicksUptoRow.holds Try.pinned (OpenSpec.upto hyperPicksSpec)

/-- 'plunderlaw23.HyperReducer', WHERE WHAT IT READS IS OF BULK AT MOST 1048576: true; the input reads as it did. -/
def hyperReducerUptoRow : OpenClaim := { program := "ytamfkglnejhjdaa", sum := "bcaa0439054d78cfd57b56de6d899a68fa784a0a9464159885afa352828b358c", func := "plunder/plunderlaw23.HyperReducer", spec := "hyperReducer", unfollowed := true, recurses := true, apart := false, narrowed := true }
def HyperReducerUptoSaid : Prop := hyperReducerUptoRow.holds Try.pinned (OpenSpec.upto hyperReducerSpec)

end Rows
end Go.Proofs.Ytamfkglnejhjdaa
