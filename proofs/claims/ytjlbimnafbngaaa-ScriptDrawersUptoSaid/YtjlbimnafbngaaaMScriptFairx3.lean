/- Contracts of the Go functions that ScriptFair reaches: each call returns what the Lean function beside it tells (began as a printed text; mended). -/
import Derived.Test.YtjlbimnafbngaaaPScriptFairx0
import Derived.Test.YtjlbimnafbngaaaMScriptFairx1
import Derived.Test.YtjlbimnafbngaaaMScriptFairx2
namespace Go.Proofs.Ytjlbimnafbngaaa.PScriptFair
open Go.RowKit Go.Proofs.YtjlbimnafbngaaaW.PrintWords Go.Proofs.YtjlbimnafbngaaaW.PrintLast Go.Proofs.YtjlbimnafbngaaaW.PrintMore
attribute [local go_sem] max2_int min2_int max_two min_two max_three min_three max_four min_four   -- for this text's walks alone
set_option linter.unusedVariables false
set_option linter.unusedSimpArgs false

end Go.Proofs.Ytjlbimnafbngaaa.PScriptFair
