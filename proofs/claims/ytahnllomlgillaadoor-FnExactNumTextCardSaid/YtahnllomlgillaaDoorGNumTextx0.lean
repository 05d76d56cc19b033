-- Printed by wip/tools/print2.py out of the translation: walks and plain functions; Lean checks them.
import Derived.Test.YtahnllomlgillaaDoorProg
import Derived.Below
import Derived.Deep.Draws
import Derived.Deep.AppendLies
import Derived.Maps.AppendAt
import Derived.OwnWalk
import Derived.Laws.BytesArg
import Derived.Laws.MakeOwn
import Derived.Laws.OwnMore
import Derived.Deep.OwnRows
import Derived.Tactics
import Derived.Lib.ConvBytes
import Derived.Laws.Slices
import Derived.WalkKit
import Derived.KernelRfl
import Derived.RowKit3
import Derived.Deep.LoopGhost
import Derived.Deep.QuietTactic
import Derived.BigQuiet
import Derived.WideLaws
import Derived.Deep.DeepCutAuto
import Derived.Deep.CutBlock
import Derived.Deep.RegionHeld3
import Derived.Laws.Rows
import Derived.Lib.AppendStr
import Derived.ArgAppend
import Derived.Laws.IdiomCopy
import Derived.OrdersHeld
import Derived.Laws.BitsLemmas
import Derived.RowKit
import Derived.Test.YtahnllomlgillaaDoorMFlt
import Derived.Test.YtahnllomlgillaaDoorMTxt
import Derived.Test.YtahnllomlgillaaDoorMSort
import Derived.Test.YtahnllomlgillaaDoorWWords
import Derived.Test.YtahnllomlgillaaDoorWLast
import Derived.Test.YtahnllomlgillaaDoorWTab
import Derived.Test.YtahnllomlgillaaDoorWFour
import Derived.Test.YtahnllomlgillaaDoorWQPut
import Derived.Test.YtahnllomlgillaaDoorWApart
import Derived.Test.YtahnllomlgillaaDoorWArr
import Derived.Test.YtahnllomlgillaaDoorWZeros
import Derived.Test.YtahnllomlgillaaDoorWFoot
import Derived.Test.YtahnllomlgillaaDoorWKept
import Derived.Test.YtahnllomlgillaaDoorWShare
import Derived.Test.YtahnllomlgillaaDoorWN
import Derived.Test.YtahnllomlgillaaDoorWFootNe
import Derived.Test.YtahnllomlgillaaDoorWAt
import Derived.Test.YtahnllomlgillaaDoorWEqStruct
import Derived.Test.YtahnllomlgillaaDoorWRepsOne
import Derived.Test.YtahnllomlgillaaDoorWInv
import Derived.Test.YtahnllomlgillaaDoorWInvWords
import Derived.Test.YtahnllomlgillaaDoorWGuard
import Derived.Test.YtahnllomlgillaaDoorWNEv
import Derived.Test.YtahnllomlgillaaDoorWMore
namespace Go.Proofs.YtahnllomlgillaaDoor.GNumText
open Go.RowKit Go.Proofs.YtahnllomlgillaaDoorW.PrintWords Go.Proofs.YtahnllomlgillaaDoorW.PrintLast Go.Proofs.YtahnllomlgillaaDoorW.PrintMore
attribute [local go_sem] max2_int min2_int max_two min_two max_three min_three max_four min_four   -- for this text's walks alone
set_option linter.unusedVariables false
set_option linter.unusedSimpArgs false



def errW : Option Int → Value
  | none => .nilIface
  | some c => .iface 0 (.int .i64 c)
theorem errW_none : errW none = .nilIface := rfl
theorem errW_some (c : Int) : errW (some c) = .iface 0 (.int .i64 c) := rfl

theorem info5 : (Tryd.prog.info? 5).map (fun i => (i.zero, i.size, i.bytes)) = some (some (.int .u8 0), 1, 1) := by kernel_rfl
-- the values' own types

end Go.Proofs.YtahnllomlgillaaDoor.GNumText
