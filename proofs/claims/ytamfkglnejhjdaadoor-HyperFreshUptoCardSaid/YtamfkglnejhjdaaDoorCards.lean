/-
  DERIVED. GIVEN WITH THE SEED: THE CARDS: each row of YtamfkglnejhjdaaDoorRows.lean that lists a variable, with what it lists TIED to the program's text (the seventh form; the later family's looks); each row that meets fmt, with fmt's text TOLD by the authors' own Lean function (tested against real Go, not proved from fmt's source: count such statements apart). THE CARD IS WHAT COUNTS. Prove the row's statement (the work); the ties are given (YtamfkglnejhjdaaDoorTie.lean); close each card by the builder's one call (the guide's Derived/Test/ToyasCard.lean, 'card_holds'). Laid BY PROGRAM, IN A SANDBOX (cutbox-door.mjs). By AI agents, Wed Nov 11 2026. No macro, syntax, notation, axiom, sorry.
-/
import Derived.Test.YtamfkglnejhjdaaDoorRows
import GoSem.ClaimSeven
namespace Go.Proofs.YtamfkglnejhjdaaDoor
namespace Rows

/-- THE TIED CARD OF 'plunderlaw23.HyperFold'. -/
def hyperFoldCard : Claim7 := { stood := { row := hyperFoldRow, standIns := [], harness := (true, "32a1858bb566ff7d0d56fb94beb0a40c89184a39de92f8cc1dcd9617e684d307"), looks := false }, kinds := [], alts := [], laidByText := true, laidKinds := [.data], laidTests := true, laidLooks := .later }
def HyperFoldCardSaid : Prop := Claim7.holds Tryd.pinned (.plain (OpenSpec.ofChange hyperFoldSpec)) hyperFoldCard

/-- THE TIED CARD OF 'plunderlaw23.HyperNumbers'. -/
def hyperNumbersCard : Claim7 := { stood := { row := hyperNumbersRow, standIns := [], harness := (true, "32a1858bb566ff7d0d56fb94beb0a40c89184a39de92f8cc1dcd9617e684d307"), looks := false }, kinds := [], alts := [], laidByText := true, laidKinds := [.data], laidTests := true, laidLooks := .later }
def HyperNumbersCardSaid : Prop := Claim7.holds Tryd.pinned (.plain (OpenSpec.ofChange hyperNumbersSpec)) hyperNumbersCard

/-- THE TIED CARD OF 'plunderlaw23.HyperFresh'. -/
def hyperFreshCard : Claim7 := { stood := { row := hyperFreshRow, standIns := [], harness := (true, "32a1858bb566ff7d0d56fb94beb0a40c89184a39de92f8cc1dcd9617e684d307"), looks := false }, kinds := [], alts := [], laidByText := true, laidKinds := [.data], laidTests := true, laidLooks := .later }
def HyperFreshCardSaid : Prop := Claim7.holds Tryd.pinned (.plain (OpenSpec.ofChange hyperFreshSpec)) hyperFreshCard

/-- THE SECOND FORM's CARD OF 'plunderlaw23.HyperFold'. -/
def hyperFoldUptoCard : Claim7 := { stood := { row := hyperFoldUptoRow, standIns := [], harness := (true, "32a1858bb566ff7d0d56fb94beb0a40c89184a39de92f8cc1dcd9617e684d307"), looks := false }, kinds := [], alts := [], laidByText := true, laidKinds := [.data], laidTests := true, laidLooks := .later }
def HyperFoldUptoCardSaid : Prop := Claim7.holds Tryd.pinned (.plain (OpenSpec.upto hyperFoldSpec)) hyperFoldUptoCard

/-- THE SECOND FORM's CARD OF 'plunderlaw23.HyperNumbers'. -/
def hyperNumbersUptoCard : Claim7 := { stood := { row := hyperNumbersUptoRow, standIns := [], harness := (true, "32a1858bb566ff7d0d56fb94beb0a40c89184a39de92f8cc1dcd9617e684d307"), looks := false }, kinds := [], alts := [], laidByText := true, laidKinds := [.data], laidTests := true, laidLooks := .later }
def HyperNumbersUptoCardSaid : Prop := Claim7.holds Tryd.pinned (.plain (OpenSpec.upto hyperNumbersSpec)) hyperNumbersUptoCard

/-- THE SECOND FORM's CARD OF 'plunderlaw23.HyperFresh'. -/
def hyperFreshUptoCard : Claim7 := { stood := { row := hyperFreshUptoRow, standIns := [], harness := (true, "32a1858bb566ff7d0d56fb94beb0a40c89184a39de92f8cc1dcd9617e684d307"), looks := false }, kinds := [], alts := [], laidByText := true, laidKinds := [.data], laidTests := true, laidLooks := .later }
def HyperFreshUptoCardSaid : Prop := Claim7.holds Tryd.pinned (.plain (OpenSpec.upto hyperFreshSpec)) hyperFreshUptoCard
end Rows
end Go.Proofs.YtamfkglnejhjdaaDoor
