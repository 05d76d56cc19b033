-- Printed by wip/tools/print2.py out of the translation: walks and plain functions; Lean checks them.
import Derived.Test.YtbgocnhhpbpilaaProg
import Derived.Below
import Derived.Deep.Draws
import Derived.Deep.AppendLies
import Derived.Maps.AppendAt
import Derived.OwnWalk
import Derived.Laws.BytesArg
import Derived.Laws.MakeOwn
import Derived.Laws.OwnMore
import Derived.Deep.OwnRows
import Derived.Tactics
import Derived.Lib.ConvBytes
import Derived.Laws.Slices
import Derived.WalkKit
import Derived.KernelRfl
import Derived.RowKit3
import Derived.Deep.LoopGhost
import Derived.Deep.QuietTactic
import Derived.BigQuiet
import Derived.WideLaws
import Derived.Deep.DeepCutAuto
import Derived.Deep.CutBlock
import Derived.Deep.RegionHeld3
import Derived.Laws.Rows
import Derived.Lib.AppendStr
import Derived.ArgAppend
import Derived.Laws.IdiomCopy
import Derived.OrdersHeld
import Derived.Laws.BitsLemmas
import Derived.RowKit
import Derived.Test.YtbgocnhhpbpilaaMFlt
import Derived.Test.YtbgocnhhpbpilaaWWords
import Derived.Test.YtbgocnhhpbpilaaWLast
import Derived.Test.YtbgocnhhpbpilaaWTab
import Derived.Test.YtbgocnhhpbpilaaWFour
import Derived.Test.YtbgocnhhpbpilaaWQPut
import Derived.Test.YtbgocnhhpbpilaaWApart
import Derived.Test.YtbgocnhhpbpilaaWArr
import Derived.Test.YtbgocnhhpbpilaaWZeros
import Derived.Test.YtbgocnhhpbpilaaWFoot
import Derived.Test.YtbgocnhhpbpilaaWKept
import Derived.Test.YtbgocnhhpbpilaaWShare
import Derived.Test.YtbgocnhhpbpilaaWN
import Derived.Test.YtbgocnhhpbpilaaWFootNe
import Derived.Test.YtbgocnhhpbpilaaWAt
import Derived.Test.YtbgocnhhpbpilaaWEqStruct
import Derived.Test.YtbgocnhhpbpilaaWRepsOne
import Derived.Test.YtbgocnhhpbpilaaWInv
import Derived.Test.YtbgocnhhpbpilaaWInvWords
import Derived.Test.YtbgocnhhpbpilaaWGuard
import Derived.Test.YtbgocnhhpbpilaaWNEv
import Derived.Test.YtbgocnhhpbpilaaWMore
namespace Go.Proofs.Ytbgocnhhpbpilaa.GFrameOf
open Go.RowKit Go.Proofs.YtbgocnhhpbpilaaW.PrintWords Go.Proofs.YtbgocnhhpbpilaaW.PrintLast Go.Proofs.YtbgocnhhpbpilaaW.PrintMore
attribute [local go_sem] max2_int min2_int max_two min_two max_three min_three max_four min_four   -- for this text's walks alone
set_option linter.unusedVariables false
set_option linter.unusedSimpArgs false



def errW : Option Int → Value
  | none => .nilIface
  | some c => .iface 0 (.int .i64 c)
theorem errW_none : errW none = .nilIface := rfl
theorem errW_some (c : Int) : errW (some c) = .iface 0 (.int .i64 c) := rfl

theorem info5 : (Try.prog.info? 5).map (fun i => (i.zero, i.size, i.bytes)) = some (some (.int .u8 0), 1, 1) := by kernel_rfl
-- the values' own types

end Go.Proofs.Ytbgocnhhpbpilaa.GFrameOf
