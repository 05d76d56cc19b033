-- Printed by wip/tools/print2.py out of the translation: walks and plain functions; Lean checks them.
import Derived.Test.YtomckmlhidhodaaProg
import Derived.Below
import Derived.Deep.Draws
import Derived.Deep.AppendLies
import Derived.Maps.AppendAt
import Derived.OwnWalk
import Derived.Laws.BytesArg
import Derived.Laws.MakeOwn
import Derived.Laws.OwnMore
import Derived.Deep.OwnRows
import Derived.Tactics
import Derived.Lib.ConvBytes
import Derived.Laws.Slices
import Derived.WalkKit
import Derived.KernelRfl
import Derived.RowKit3
import Derived.Deep.LoopGhost
import Derived.Deep.QuietTactic
import Derived.BigQuiet
import Derived.WideLaws
import Derived.Deep.DeepCutAuto
import Derived.Deep.CutBlock
import Derived.Deep.RegionHeld3
import Derived.Laws.Rows
import Derived.Lib.AppendStr
import Derived.ArgAppend
import Derived.Laws.IdiomCopy
import Derived.OrdersHeld
import Derived.Laws.BitsLemmas
import Derived.RowKit
import Derived.Test.YtomckmlhidhodaaMFlt
import Derived.Test.YtomckmlhidhodaaWWords
import Derived.Test.YtomckmlhidhodaaWLast
import Derived.Test.YtomckmlhidhodaaWTab
import Derived.Test.YtomckmlhidhodaaWFour
import Derived.Test.YtomckmlhidhodaaWQPut
import Derived.Test.YtomckmlhidhodaaWApart
import Derived.Test.YtomckmlhidhodaaWArr
import Derived.Test.YtomckmlhidhodaaWZeros
import Derived.Test.YtomckmlhidhodaaWFoot
import Derived.Test.YtomckmlhidhodaaWKept
import Derived.Test.YtomckmlhidhodaaWShare
import Derived.Test.YtomckmlhidhodaaWN
import Derived.Test.YtomckmlhidhodaaWFootNe
import Derived.Test.YtomckmlhidhodaaWAt
import Derived.Test.YtomckmlhidhodaaWEqStruct
import Derived.Test.YtomckmlhidhodaaWRepsOne
import Derived.Test.YtomckmlhidhodaaWInv
import Derived.Test.YtomckmlhidhodaaWInvWords
import Derived.Test.YtomckmlhidhodaaWGuard
import Derived.Test.YtomckmlhidhodaaWNEv
import Derived.Test.YtomckmlhidhodaaWMore
namespace Go.Proofs.Ytomckmlhidhodaa.GFramesIn
open Go.RowKit Go.Proofs.YtomckmlhidhodaaW.PrintWords Go.Proofs.YtomckmlhidhodaaW.PrintLast Go.Proofs.YtomckmlhidhodaaW.PrintMore
attribute [local go_sem] max2_int min2_int max_two min_two max_three min_three max_four min_four   -- for this text's walks alone
set_option linter.unusedVariables false
set_option linter.unusedSimpArgs false



def errW : Option Int → Value
  | none => .nilIface
  | some c => .iface 0 (.int .i64 c)
theorem errW_none : errW none = .nilIface := rfl
theorem errW_some (c : Int) : errW (some c) = .iface 0 (.int .i64 c) := rfl

theorem info5 : (Try.prog.info? 5).map (fun i => (i.zero, i.size, i.bytes)) = some (some (.int .u8 0), 1, 1) := by kernel_rfl
theorem info9 : (Try.prog.info? 9).map (fun i => (i.zero, i.size, i.bytes)) = some (some (.string ⟨#[]⟩), 1, 16) := by kernel_rfl
-- the values' own types

end Go.Proofs.Ytomckmlhidhodaa.GFramesIn
