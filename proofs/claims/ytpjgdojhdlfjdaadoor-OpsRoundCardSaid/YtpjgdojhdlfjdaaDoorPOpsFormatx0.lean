-- PRINTED BY print.sh 35421559b90ae4d0a3588c463048766b98c2df88dd9212a6774a882060cdf62d: not written by this session
import Derived.Test.YtpjgdojhdlfjdaaDoorProg
import Derived.Below
import Derived.Deep.Draws
import Derived.Deep.AppendLies
import Derived.Maps.AppendAt
import Derived.OwnWalk
import Derived.Laws.BytesArg
import Derived.Laws.MakeOwn
import Derived.Laws.OwnMore
import Derived.Deep.OwnRows
import Derived.Tactics
import Derived.Lib.ConvBytes
import Derived.Laws.Slices
import Derived.WalkKit
import Derived.KernelRfl
import Derived.RowKit3
import Derived.Deep.LoopGhost
import Derived.Deep.QuietTactic
import Derived.BigQuiet
import Derived.WideLaws
import Derived.Deep.DeepCutAuto
import Derived.Deep.CutBlock
import Derived.Deep.RegionHeld3
import Derived.Laws.Rows
import Derived.Lib.AppendStr
import Derived.ArgAppend
import Derived.Laws.IdiomCopy
import Derived.OrdersHeld
import Derived.Laws.BitsLemmas
import Derived.RowKit
import Derived.Test.YtpjgdojhdlfjdaaDoorWWords
import Derived.Test.YtpjgdojhdlfjdaaDoorWLast
import Derived.Test.YtpjgdojhdlfjdaaDoorWTab
import Derived.Test.YtpjgdojhdlfjdaaDoorWFour
import Derived.Test.YtpjgdojhdlfjdaaDoorWQPut
import Derived.Test.YtpjgdojhdlfjdaaDoorWApart
import Derived.Test.YtpjgdojhdlfjdaaDoorWArr
import Derived.Test.YtpjgdojhdlfjdaaDoorWZeros
import Derived.Test.YtpjgdojhdlfjdaaDoorWFoot
import Derived.Test.YtpjgdojhdlfjdaaDoorWKept
import Derived.Test.YtpjgdojhdlfjdaaDoorWShare
import Derived.Test.YtpjgdojhdlfjdaaDoorWN
import Derived.Test.YtpjgdojhdlfjdaaDoorWFootNe
import Derived.Test.YtpjgdojhdlfjdaaDoorWAt
import Derived.Test.YtpjgdojhdlfjdaaDoorWEqStruct
import Derived.Test.YtpjgdojhdlfjdaaDoorWRepsOne
import Derived.Test.YtpjgdojhdlfjdaaDoorWInv
import Derived.Test.YtpjgdojhdlfjdaaDoorWInvWords
import Derived.Test.YtpjgdojhdlfjdaaDoorWGuard
import Derived.Test.YtpjgdojhdlfjdaaDoorWNEv
import Derived.Test.YtpjgdojhdlfjdaaDoorWMore
namespace Go.Proofs.YtpjgdojhdlfjdaaDoor.POpsFormat
open Go.RowKit Go.Proofs.YtpjgdojhdlfjdaaDoorW.PrintWords Go.Proofs.YtpjgdojhdlfjdaaDoorW.PrintLast Go.Proofs.YtpjgdojhdlfjdaaDoorW.PrintMore
attribute [local go_sem] max2_int min2_int max_two min_two max_three min_three max_four min_four   -- for this text's walks alone
set_option linter.unusedVariables false
set_option linter.unusedSimpArgs false



def errW : Option Int → Value
  | none => .nilIface
  | some c => .iface 0 (.int .i64 c)
theorem errW_none : errW none = .nilIface := rfl
theorem errW_some (c : Int) : errW (some c) = .iface 0 (.int .i64 c) := rfl

theorem info5 : (Tryd.prog.info? 5).map (fun i => (i.zero, i.size, i.bytes)) = some (some (.int .u8 0), 1, 1) := by kernel_rfl
-- the values' own types

end Go.Proofs.YtpjgdojhdlfjdaaDoor.POpsFormat
