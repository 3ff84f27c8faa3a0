/-
  DERIVED. GIVEN WITH THE SEED: THE CARDS: each row of YtpjgdojhdlfjdaaDoorRows.lean that lists a variable, with what it lists TIED to the program's text (the seventh form; the later family's looks); each row that meets fmt, with fmt's text TOLD by the authors' own Lean function (tested against real Go, not proved from fmt's source: count such statements apart). THE CARD IS WHAT COUNTS. Prove the row's statement (the work); the ties are given (YtpjgdojhdlfjdaaDoorTie.lean); close each card by the builder's one call (the guide's Derived/Test/ToyasCard.lean, 'card_holds'). Laid BY PROGRAM, IN A SANDBOX (cutbox-door.mjs). By AI agents, Wed Nov 11 2026. No macro, syntax, notation, axiom, sorry.
-/
import Derived.Test.YtpjgdojhdlfjdaaDoorRows
import GoSem.ClaimSeven
namespace Go.Proofs.YtpjgdojhdlfjdaaDoor
namespace Rows

/-- THE TIED CARD OF 'plunderlaw1.OpsFind'. -/
def opsFindCard : Claim7 := { stood := { row := opsFindRow, standIns := [], harness := (true, "7045a9f4bb8cabf52bd2ffb2949b1f0a2db3f33f1da8ff4727349a9e17236b7d"), looks := false }, kinds := [], alts := [], laidByText := true, laidKinds := [.data], laidTests := true, laidLooks := .later }
def OpsFindCardSaid : Prop := Claim7.holds Tryd.pinned (.plain (OpenSpec.ofChange opsFindSpec)) opsFindCard

/-- THE TIED CARD OF 'plunderlaw1.OpsTable'. -/
def opsTableCard : Claim7 := { stood := { row := opsTableRow, standIns := [], harness := (true, "7045a9f4bb8cabf52bd2ffb2949b1f0a2db3f33f1da8ff4727349a9e17236b7d"), looks := false }, kinds := [], alts := [], laidByText := true, laidKinds := [.data, .data], laidTests := true, laidLooks := .later }
def OpsTableCardSaid : Prop := Claim7.holds Tryd.pinned (.plain (OpenSpec.ofChange opsTableSpec)) opsTableCard

/-- THE TIED CARD OF 'plunderlaw1.OpsNamed'. -/
def opsNamedCard : Claim7 := { stood := { row := opsNamedRow, standIns := [], harness := (true, "7045a9f4bb8cabf52bd2ffb2949b1f0a2db3f33f1da8ff4727349a9e17236b7d"), looks := false }, kinds := [], alts := [], laidByText := true, laidKinds := [.data], laidTests := true, laidLooks := .later }
def OpsNamedCardSaid : Prop := Claim7.holds Tryd.pinned (.plain (OpenSpec.ofChange opsNamedSpec)) opsNamedCard

/-- THE TIED CARD OF 'plunderlaw1.OpsMonoids'. -/
def opsMonoidsCard : Claim7 := { stood := { row := opsMonoidsRow, standIns := [], harness := (true, "7045a9f4bb8cabf52bd2ffb2949b1f0a2db3f33f1da8ff4727349a9e17236b7d"), looks := false }, kinds := [], alts := [], laidByText := true, laidKinds := [.data], laidTests := true, laidLooks := .later }
def OpsMonoidsCardSaid : Prop := Claim7.holds Tryd.pinned (.plain (OpenSpec.ofChange opsMonoidsSpec)) opsMonoidsCard

/-- THE TIED CARD OF 'plunderlaw1.OpsFold'. -/
def opsFoldCard : Claim7 := { stood := { row := opsFoldRow, standIns := [], harness := (true, "7045a9f4bb8cabf52bd2ffb2949b1f0a2db3f33f1da8ff4727349a9e17236b7d"), looks := false }, kinds := [], alts := [], laidByText := true, laidKinds := [.data], laidTests := true, laidLooks := .later }
def OpsFoldCardSaid : Prop := Claim7.holds Tryd.pinned (.plain (OpenSpec.ofChange opsFoldSpec)) opsFoldCard

/-- THE TIED CARD OF 'plunderlaw1.OpsTree'. -/
def opsTreeCard : Claim7 := { stood := { row := opsTreeRow, standIns := [], harness := (true, "7045a9f4bb8cabf52bd2ffb2949b1f0a2db3f33f1da8ff4727349a9e17236b7d"), looks := false }, kinds := [], alts := [], laidByText := true, laidKinds := [.data], laidTests := true, laidLooks := .later }
def OpsTreeCardSaid : Prop := Claim7.holds Tryd.pinned (.plain (OpenSpec.ofChange opsTreeSpec)) opsTreeCard

/-- THE TIED CARD OF 'plunderlaw1.OpsHalves'. -/
def opsHalvesCard : Claim7 := { stood := { row := opsHalvesRow, standIns := [], harness := (true, "7045a9f4bb8cabf52bd2ffb2949b1f0a2db3f33f1da8ff4727349a9e17236b7d"), looks := false }, kinds := [], alts := [], laidByText := true, laidKinds := [.data], laidTests := true, laidLooks := .later }
def OpsHalvesCardSaid : Prop := Claim7.holds Tryd.pinned (.plain (OpenSpec.ofChange opsHalvesSpec)) opsHalvesCard

/-- THE TIED CARD OF 'plunderlaw1.OpsFormat'. -/
def opsFormatCard : Claim7 := { stood := { row := opsFormatRow, standIns := [], harness := (true, "7045a9f4bb8cabf52bd2ffb2949b1f0a2db3f33f1da8ff4727349a9e17236b7d"), looks := false }, kinds := [], alts := [], laidByText := true, laidKinds := [.data, .data, .data], laidTests := true, laidLooks := .later }
def OpsFormatCardSaid : Prop := Claim7.holds Tryd.pinned (.plain (OpenSpec.ofChange opsFormatSpec)) opsFormatCard

/-- THE TIED CARD OF 'plunderlaw1.OpsParse'. -/
def opsParseCard : Claim7 := { stood := { row := opsParseRow, standIns := [], harness := (true, "7045a9f4bb8cabf52bd2ffb2949b1f0a2db3f33f1da8ff4727349a9e17236b7d"), looks := false }, kinds := [], alts := [], laidByText := true, laidKinds := [.data, .data, .data], laidTests := true, laidLooks := .later }
def OpsParseCardSaid : Prop := Claim7.holds Tryd.pinned (.plain (OpenSpec.ofChange opsParseSpec)) opsParseCard

/-- THE TIED CARD OF 'plunderlaw1.OpsRound'. -/
def opsRoundCard : Claim7 := { stood := { row := opsRoundRow, standIns := [], harness := (true, "7045a9f4bb8cabf52bd2ffb2949b1f0a2db3f33f1da8ff4727349a9e17236b7d"), looks := false }, kinds := [], alts := [], laidByText := true, laidKinds := [.data, .data, .data], laidTests := true, laidLooks := .later }
def OpsRoundCardSaid : Prop := Claim7.holds Tryd.pinned (.plain (OpenSpec.ofChange opsRoundSpec)) opsRoundCard

/-- THE SECOND FORM's CARD OF 'plunderlaw1.OpsFind'. -/
def opsFindUptoCard : Claim7 := { stood := { row := opsFindUptoRow, standIns := [], harness := (true, "7045a9f4bb8cabf52bd2ffb2949b1f0a2db3f33f1da8ff4727349a9e17236b7d"), looks := false }, kinds := [], alts := [], laidByText := true, laidKinds := [.data], laidTests := true, laidLooks := .later }
def OpsFindUptoCardSaid : Prop := Claim7.holds Tryd.pinned (.plain (OpenSpec.upto opsFindSpec)) opsFindUptoCard

/-- THE SECOND FORM's CARD OF 'plunderlaw1.OpsTable'. -/
def opsTableUptoCard : Claim7 := { stood := { row := opsTableUptoRow, standIns := [], harness := (true, "7045a9f4bb8cabf52bd2ffb2949b1f0a2db3f33f1da8ff4727349a9e17236b7d"), looks := false }, kinds := [], alts := [], laidByText := true, laidKinds := [.data, .data], laidTests := true, laidLooks := .later }
def OpsTableUptoCardSaid : Prop := Claim7.holds Tryd.pinned (.plain (OpenSpec.upto opsTableSpec)) opsTableUptoCard

/-- THE SECOND FORM's CARD OF 'plunderlaw1.OpsNamed'. -/
def opsNamedUptoCard : Claim7 := { stood := { row := opsNamedUptoRow, standIns := [], harness := (true, "7045a9f4bb8cabf52bd2ffb2949b1f0a2db3f33f1da8ff4727349a9e17236b7d"), looks := false }, kinds := [], alts := [], laidByText := true, laidKinds := [.data], laidTests := true, laidLooks := .later }
def OpsNamedUptoCardSaid : Prop := Claim7.holds Tryd.pinned (.plain (OpenSpec.upto opsNamedSpec)) opsNamedUptoCard

/-- THE SECOND FORM's CARD OF 'plunderlaw1.OpsMonoids'. -/
def opsMonoidsUptoCard : Claim7 := { stood := { row := opsMonoidsUptoRow, standIns := [], harness := (true, "7045a9f4bb8cabf52bd2ffb2949b1f0a2db3f33f1da8ff4727349a9e17236b7d"), looks := false }, kinds := [], alts := [], laidByText := true, laidKinds := [.data], laidTests := true, laidLooks := .later }
def OpsMonoidsUptoCardSaid : Prop := Claim7.holds Tryd.pinned (.plain (OpenSpec.upto opsMonoidsSpec)) opsMonoidsUptoCard

/-- THE SECOND FORM's CARD OF 'plunderlaw1.OpsFold'. -/
def opsFoldUptoCard : Claim7 := { stood := { row := opsFoldUptoRow, standIns := [], harness := (true, "7045a9f4bb8cabf52bd2ffb2949b1f0a2db3f33f1da8ff4727349a9e17236b7d"), looks := false }, kinds := [], alts := [], laidByText := true, laidKinds := [.data], laidTests := true, laidLooks := .later }
def OpsFoldUptoCardSaid : Prop := Claim7.holds Tryd.pinned (.plain (OpenSpec.upto opsFoldSpec)) opsFoldUptoCard

/-- THE SECOND FORM's CARD OF 'plunderlaw1.OpsTree'. -/
def opsTreeUptoCard : Claim7 := { stood := { row := opsTreeUptoRow, standIns := [], harness := (true, "7045a9f4bb8cabf52bd2ffb2949b1f0a2db3f33f1da8ff4727349a9e17236b7d"), looks := false }, kinds := [], alts := [], laidByText := true, laidKinds := [.data], laidTests := true, laidLooks := .later }
def OpsTreeUptoCardSaid : Prop := Claim7.holds Tryd.pinned (.plain (OpenSpec.upto opsTreeSpec)) opsTreeUptoCard

/-- THE SECOND FORM's CARD OF 'plunderlaw1.OpsHalves'. -/
def opsHalvesUptoCard : Claim7 := { stood := { row := opsHalvesUptoRow, standIns := [], harness := (true, "7045a9f4bb8cabf52bd2ffb2949b1f0a2db3f33f1da8ff4727349a9e17236b7d"), looks := false }, kinds := [], alts := [], laidByText := true, laidKinds := [.data], laidTests := true, laidLooks := .later }
def OpsHalvesUptoCardSaid : Prop := Claim7.holds Tryd.pinned (.plain (OpenSpec.upto opsHalvesSpec)) opsHalvesUptoCard

/-- THE SECOND FORM's CARD OF 'plunderlaw1.OpsFormat'. -/
def opsFormatUptoCard : Claim7 := { stood := { row := opsFormatUptoRow, standIns := [], harness := (true, "7045a9f4bb8cabf52bd2ffb2949b1f0a2db3f33f1da8ff4727349a9e17236b7d"), looks := false }, kinds := [], alts := [], laidByText := true, laidKinds := [.data, .data, .data], laidTests := true, laidLooks := .later }
def OpsFormatUptoCardSaid : Prop := Claim7.holds Tryd.pinned (.plain (OpenSpec.upto opsFormatSpec)) opsFormatUptoCard

/-- THE SECOND FORM's CARD OF 'plunderlaw1.OpsParse'. -/
def opsParseUptoCard : Claim7 := { stood := { row := opsParseUptoRow, standIns := [], harness := (true, "7045a9f4bb8cabf52bd2ffb2949b1f0a2db3f33f1da8ff4727349a9e17236b7d"), looks := false }, kinds := [], alts := [], laidByText := true, laidKinds := [.data, .data, .data], laidTests := true, laidLooks := .later }
def OpsParseUptoCardSaid : Prop := Claim7.holds Tryd.pinned (.plain (OpenSpec.upto opsParseSpec)) opsParseUptoCard

/-- THE SECOND FORM's CARD OF 'plunderlaw1.OpsRound'. -/
def opsRoundUptoCard : Claim7 := { stood := { row := opsRoundUptoRow, standIns := [], harness := (true, "7045a9f4bb8cabf52bd2ffb2949b1f0a2db3f33f1da8ff4727349a9e17236b7d"), looks := false }, kinds := [], alts := [], laidByText := true, laidKinds := [.data, .data, .data], laidTests := true, laidLooks := .later }
def OpsRoundUptoCardSaid : Prop := Claim7.holds Tryd.pinned (.plain (OpenSpec.upto opsRoundSpec)) opsRoundUptoCard
end Rows
end Go.Proofs.YtpjgdojhdlfjdaaDoor
