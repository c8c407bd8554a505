-- Written by mp.py, a program of this session over the kit's print; the session answers for it, Lean checks it.
import Derived.Test.YtgogdpcgmbbljaaProg
import Derived.Below
import Derived.Deep.Draws
import Derived.Deep.AppendLies
import Derived.Maps.AppendAt
import Derived.OwnWalk
import Derived.Laws.BytesArg
import Derived.Laws.MakeOwn
import Derived.Laws.OwnMore
import Derived.Deep.OwnRows
import Derived.Tactics
import Derived.Lib.ConvBytes
import Derived.Laws.Slices
import Derived.WalkKit
import Derived.KernelRfl
import Derived.RowKit3
import Derived.Deep.LoopGhost
import Derived.Deep.QuietTactic
import Derived.BigQuiet
import Derived.WideLaws
import Derived.Deep.DeepCutAuto
import Derived.Deep.CutBlock
import Derived.Deep.RegionHeld3
import Derived.Laws.Rows
import Derived.Lib.AppendStr
import Derived.ArgAppend
import Derived.Laws.IdiomCopy
import Derived.OrdersHeld
import Derived.Laws.BitsLemmas
import Derived.RowKit
import Derived.Test.YtgogdpcgmbbljaaWWords
import Derived.Test.YtgogdpcgmbbljaaWLast
import Derived.Test.YtgogdpcgmbbljaaWTab
import Derived.Test.YtgogdpcgmbbljaaWFour
import Derived.Test.YtgogdpcgmbbljaaWQPut
import Derived.Test.YtgogdpcgmbbljaaWApart
import Derived.Test.YtgogdpcgmbbljaaWArr
import Derived.Test.YtgogdpcgmbbljaaWZeros
import Derived.Test.YtgogdpcgmbbljaaWFoot
import Derived.Test.YtgogdpcgmbbljaaWKept
import Derived.Test.YtgogdpcgmbbljaaWShare
import Derived.Test.YtgogdpcgmbbljaaWN
import Derived.Test.YtgogdpcgmbbljaaWFootNe
import Derived.Test.YtgogdpcgmbbljaaWAt
import Derived.Test.YtgogdpcgmbbljaaWEqStruct
import Derived.Test.YtgogdpcgmbbljaaWRepsOne
import Derived.Test.YtgogdpcgmbbljaaWInv
import Derived.Test.YtgogdpcgmbbljaaWInvWords
import Derived.Test.YtgogdpcgmbbljaaWGuard
import Derived.Test.YtgogdpcgmbbljaaWNEv
import Derived.Test.YtgogdpcgmbbljaaWMore
namespace Go.Proofs.Ytgogdpcgmbbljaa.QFnExactValidGeometry
open Go.RowKit Go.Proofs.YtgogdpcgmbbljaaW.PrintWords Go.Proofs.YtgogdpcgmbbljaaW.PrintLast Go.Proofs.YtgogdpcgmbbljaaW.PrintMore
attribute [local go_sem] max2_int min2_int max_two min_two max_three min_three max_four min_four   -- for this text's walks alone
set_option linter.unusedVariables false
set_option linter.unusedSimpArgs false



def errW : Option Int → Value
  | none => .nilIface
  | some c => .iface 0 (.int .i64 c)
theorem errW_none : errW none = .nilIface := rfl
theorem errW_some (c : Int) : errW (some c) = .iface 0 (.int .i64 c) := rfl

-- the values' own types

end Go.Proofs.Ytgogdpcgmbbljaa.QFnExactValidGeometry
