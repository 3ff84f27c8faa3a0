/-
  DERIVED. GIVEN WITH THE SEED: THE CARDS: each row of YtjlbimnafbngaaaDoorRows.lean that lists a variable, with what it lists TIED to the program's text (the seventh form; the later family's looks); each row that meets fmt, with fmt's text TOLD by the authors' own Lean function (tested against real Go, not proved from fmt's source: count such statements apart). THE CARD IS WHAT COUNTS. Prove the row's statement (the work); the ties are given (YtjlbimnafbngaaaDoorTie.lean); close each card by the builder's one call (the guide's Derived/Test/ToyasCard.lean, 'card_holds'). Laid BY PROGRAM, IN A SANDBOX (cutbox-door.mjs). By AI agents, Wed Nov 11 2026. No macro, syntax, notation, axiom, sorry.
-/
import Derived.Test.YtjlbimnafbngaaaDoorRows
import GoSem.ClaimSeven
namespace Go.Proofs.YtjlbimnafbngaaaDoor
namespace Rows

/-- THE TIED CARD OF 'plunderlaw10.ScriptEncode'. -/
def scriptEncodeCard : Claim7 := { stood := { row := scriptEncodeRow, standIns := [], harness := (true, "f7e3e401daadce415cb87f44cf5487dfb8c7245ce7d1abf8c770dad4b2dafde7"), looks := true }, kinds := [], alts := [], laidByText := true, laidKinds := [.data, .data, .data], laidTests := true, laidLooks := .later }
def ScriptEncodeCardSaid : Prop := Claim7.holds Tryd.pinned (.plain (OpenSpec.ofChange scriptEncodeSpec)) scriptEncodeCard

/-- THE TIED CARD OF 'plunderlaw10.ScriptDecode'. -/
def scriptDecodeCard : Claim7 := { stood := { row := scriptDecodeRow, standIns := [], harness := (true, "f7e3e401daadce415cb87f44cf5487dfb8c7245ce7d1abf8c770dad4b2dafde7"), looks := true }, kinds := [], alts := [], laidByText := true, laidKinds := [.data, .data, .data], laidTests := true, laidLooks := .later }
def ScriptDecodeCardSaid : Prop := Claim7.holds Tryd.pinned (.plain (OpenSpec.ofChange scriptDecodeSpec)) scriptDecodeCard

/-- THE TIED CARD OF 'plunderlaw10.ScriptRound'. -/
def scriptRoundCard : Claim7 := { stood := { row := scriptRoundRow, standIns := [], harness := (true, "f7e3e401daadce415cb87f44cf5487dfb8c7245ce7d1abf8c770dad4b2dafde7"), looks := true }, kinds := [], alts := [], laidByText := true, laidKinds := [.data, .data, .data], laidTests := true, laidLooks := .later }
def ScriptRoundCardSaid : Prop := Claim7.holds Tryd.pinned (.plain (OpenSpec.ofChange scriptRoundSpec)) scriptRoundCard

/-- THE SECOND FORM's CARD OF 'plunderlaw10.ScriptEncode'. -/
def scriptEncodeUptoCard : Claim7 := { stood := { row := scriptEncodeUptoRow, standIns := [], harness := (true, "f7e3e401daadce415cb87f44cf5487dfb8c7245ce7d1abf8c770dad4b2dafde7"), looks := true }, kinds := [], alts := [], laidByText := true, laidKinds := [.data, .data, .data], laidTests := true, laidLooks := .later }
def ScriptEncodeUptoCardSaid : Prop := Claim7.holds Tryd.pinned (.plain (OpenSpec.upto scriptEncodeSpec)) scriptEncodeUptoCard

/-- THE SECOND FORM's CARD OF 'plunderlaw10.ScriptDecode'. -/
def scriptDecodeUptoCard : Claim7 := { stood := { row := scriptDecodeUptoRow, standIns := [], harness := (true, "f7e3e401daadce415cb87f44cf5487dfb8c7245ce7d1abf8c770dad4b2dafde7"), looks := true }, kinds := [], alts := [], laidByText := true, laidKinds := [.data, .data, .data], laidTests := true, laidLooks := .later }
def ScriptDecodeUptoCardSaid : Prop := Claim7.holds Tryd.pinned (.plain (OpenSpec.upto scriptDecodeSpec)) scriptDecodeUptoCard

/-- THE SECOND FORM's CARD OF 'plunderlaw10.ScriptRound'. -/
def scriptRoundUptoCard : Claim7 := { stood := { row := scriptRoundUptoRow, standIns := [], harness := (true, "f7e3e401daadce415cb87f44cf5487dfb8c7245ce7d1abf8c770dad4b2dafde7"), looks := true }, kinds := [], alts := [], laidByText := true, laidKinds := [.data, .data, .data], laidTests := true, laidLooks := .later }
def ScriptRoundUptoCardSaid : Prop := Claim7.holds Tryd.pinned (.plain (OpenSpec.upto scriptRoundSpec)) scriptRoundUptoCard
end Rows
end Go.Proofs.YtjlbimnafbngaaaDoor
