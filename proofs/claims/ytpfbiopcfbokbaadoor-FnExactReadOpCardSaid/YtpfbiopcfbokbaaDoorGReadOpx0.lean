-- Printed by wip/tools/print2.py out of the translation: walks and plain functions; Lean checks them.
import Derived.Test.YtpfbiopcfbokbaaDoorProg
import Derived.Below
import Derived.Deep.Draws
import Derived.Deep.AppendLies
import Derived.Maps.AppendAt
import Derived.OwnWalk
import Derived.Laws.BytesArg
import Derived.Laws.MakeOwn
import Derived.Laws.OwnMore
import Derived.Deep.OwnRows
import Derived.Tactics
import Derived.Lib.ConvBytes
import Derived.Laws.Slices
import Derived.WalkKit
import Derived.KernelRfl
import Derived.RowKit3
import Derived.Deep.LoopGhost
import Derived.Deep.QuietTactic
import Derived.BigQuiet
import Derived.WideLaws
import Derived.Deep.DeepCutAuto
import Derived.Deep.CutBlock
import Derived.Deep.RegionHeld3
import Derived.Laws.Rows
import Derived.Lib.AppendStr
import Derived.ArgAppend
import Derived.Laws.IdiomCopy
import Derived.OrdersHeld
import Derived.Laws.BitsLemmas
import Derived.RowKit
import Derived.Test.YtpfbiopcfbokbaaDoorMFlt
import Derived.Test.YtpfbiopcfbokbaaDoorMTxt
import Derived.Test.YtpfbiopcfbokbaaDoorMRead
import Derived.Test.YtpfbiopcfbokbaaDoorMAny
import Derived.Test.YtpfbiopcfbokbaaDoorWWords
import Derived.Test.YtpfbiopcfbokbaaDoorWLast
import Derived.Test.YtpfbiopcfbokbaaDoorWTab
import Derived.Test.YtpfbiopcfbokbaaDoorWFour
import Derived.Test.YtpfbiopcfbokbaaDoorWQPut
import Derived.Test.YtpfbiopcfbokbaaDoorWApart
import Derived.Test.YtpfbiopcfbokbaaDoorWArr
import Derived.Test.YtpfbiopcfbokbaaDoorWZeros
import Derived.Test.YtpfbiopcfbokbaaDoorWFoot
import Derived.Test.YtpfbiopcfbokbaaDoorWKept
import Derived.Test.YtpfbiopcfbokbaaDoorWShare
import Derived.Test.YtpfbiopcfbokbaaDoorWN
import Derived.Test.YtpfbiopcfbokbaaDoorWFootNe
import Derived.Test.YtpfbiopcfbokbaaDoorWAt
import Derived.Test.YtpfbiopcfbokbaaDoorWEqStruct
import Derived.Test.YtpfbiopcfbokbaaDoorWRepsOne
import Derived.Test.YtpfbiopcfbokbaaDoorWInv
import Derived.Test.YtpfbiopcfbokbaaDoorWInvWords
import Derived.Test.YtpfbiopcfbokbaaDoorWGuard
import Derived.Test.YtpfbiopcfbokbaaDoorWNEv
import Derived.Test.YtpfbiopcfbokbaaDoorWMore
namespace Go.Proofs.YtpfbiopcfbokbaaDoor.GReadOp
open Go.RowKit Go.Proofs.YtpfbiopcfbokbaaDoorW.PrintWords Go.Proofs.YtpfbiopcfbokbaaDoorW.PrintLast Go.Proofs.YtpfbiopcfbokbaaDoorW.PrintMore
attribute [local go_sem] max2_int min2_int max_two min_two max_three min_three max_four min_four   -- for this text's walks alone
set_option linter.unusedVariables false
set_option linter.unusedSimpArgs false



def errW : Option Int → Value
  | none => .nilIface
  | some c => .iface 111 (.int .i64 c)
theorem errW_none : errW none = .nilIface := rfl
theorem errW_some (c : Int) : errW (some c) = .iface 111 (.int .i64 c) := rfl

theorem info3 : (Tryd.prog.info? 3).map (fun i => (i.zero, i.size, i.bytes)) = some (some (.int .i64 0), 1, 8) := by kernel_rfl
theorem info9 : (Tryd.prog.info? 9).map (fun i => (i.zero, i.size, i.bytes)) = some (some (.string ⟨#[]⟩), 1, 16) := by kernel_rfl
-- the values' own types

end Go.Proofs.YtpfbiopcfbokbaaDoor.GReadOp
