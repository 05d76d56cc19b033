-- Printed by wip/tools/print2.py out of the translation: walks and plain functions; Lean checks them.
import Derived.Test.YtahnllomlgillaaProg
import Derived.Below
import Derived.Deep.Draws
import Derived.Deep.AppendLies
import Derived.Maps.AppendAt
import Derived.OwnWalk
import Derived.Laws.BytesArg
import Derived.Laws.MakeOwn
import Derived.Laws.OwnMore
import Derived.Deep.OwnRows
import Derived.Tactics
import Derived.Lib.ConvBytes
import Derived.Laws.Slices
import Derived.WalkKit
import Derived.KernelRfl
import Derived.RowKit3
import Derived.Deep.LoopGhost
import Derived.Deep.QuietTactic
import Derived.BigQuiet
import Derived.WideLaws
import Derived.Deep.DeepCutAuto
import Derived.Deep.CutBlock
import Derived.Deep.RegionHeld3
import Derived.Laws.Rows
import Derived.Lib.AppendStr
import Derived.ArgAppend
import Derived.Laws.IdiomCopy
import Derived.OrdersHeld
import Derived.Laws.BitsLemmas
import Derived.RowKit
import Derived.Test.YtahnllomlgillaaMFlt
import Derived.Test.YtahnllomlgillaaWWords
import Derived.Test.YtahnllomlgillaaWLast
import Derived.Test.YtahnllomlgillaaWTab
import Derived.Test.YtahnllomlgillaaWFour
import Derived.Test.YtahnllomlgillaaWQPut
import Derived.Test.YtahnllomlgillaaWApart
import Derived.Test.YtahnllomlgillaaWArr
import Derived.Test.YtahnllomlgillaaWZeros
import Derived.Test.YtahnllomlgillaaWFoot
import Derived.Test.YtahnllomlgillaaWKept
import Derived.Test.YtahnllomlgillaaWShare
import Derived.Test.YtahnllomlgillaaWN
import Derived.Test.YtahnllomlgillaaWFootNe
import Derived.Test.YtahnllomlgillaaWAt
import Derived.Test.YtahnllomlgillaaWEqStruct
import Derived.Test.YtahnllomlgillaaWRepsOne
import Derived.Test.YtahnllomlgillaaWInv
import Derived.Test.YtahnllomlgillaaWInvWords
import Derived.Test.YtahnllomlgillaaWGuard
import Derived.Test.YtahnllomlgillaaWNEv
import Derived.Test.YtahnllomlgillaaWMore
namespace Go.Proofs.Ytahnllomlgillaa.GNumOf
open Go.RowKit Go.Proofs.YtahnllomlgillaaW.PrintWords Go.Proofs.YtahnllomlgillaaW.PrintLast Go.Proofs.YtahnllomlgillaaW.PrintMore
attribute [local go_sem] max2_int min2_int max_two min_two max_three min_three max_four min_four   -- for this text's walks alone
set_option linter.unusedVariables false
set_option linter.unusedSimpArgs false



def errW : Option Int → Value
  | none => .nilIface
  | some c => .iface 0 (.int .i64 c)
theorem errW_none : errW none = .nilIface := rfl
theorem errW_some (c : Int) : errW (some c) = .iface 0 (.int .i64 c) := rfl

-- the values' own types

end Go.Proofs.Ytahnllomlgillaa.GNumOf
