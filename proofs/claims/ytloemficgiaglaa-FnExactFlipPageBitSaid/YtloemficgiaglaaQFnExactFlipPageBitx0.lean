-- Written by mp.py, a program of this session over the kit's print; the session answers for it, Lean checks it.
import Derived.Test.YtloemficgiaglaaProg
import Derived.Below
import Derived.Deep.Draws
import Derived.Deep.AppendLies
import Derived.Maps.AppendAt
import Derived.OwnWalk
import Derived.Laws.BytesArg
import Derived.Laws.MakeOwn
import Derived.Laws.OwnMore
import Derived.Deep.OwnRows
import Derived.Tactics
import Derived.Lib.ConvBytes
import Derived.Laws.Slices
import Derived.WalkKit
import Derived.KernelRfl
import Derived.RowKit3
import Derived.Deep.LoopGhost
import Derived.Deep.QuietTactic
import Derived.BigQuiet
import Derived.WideLaws
import Derived.Deep.DeepCutAuto
import Derived.Deep.CutBlock
import Derived.Deep.RegionHeld3
import Derived.Laws.Rows
import Derived.Lib.AppendStr
import Derived.ArgAppend
import Derived.Laws.IdiomCopy
import Derived.OrdersHeld
import Derived.Laws.BitsLemmas
import Derived.RowKit
import Derived.Test.YtloemficgiaglaaWWords
import Derived.Test.YtloemficgiaglaaWLast
import Derived.Test.YtloemficgiaglaaWTab
import Derived.Test.YtloemficgiaglaaWFour
import Derived.Test.YtloemficgiaglaaWQPut
import Derived.Test.YtloemficgiaglaaWApart
import Derived.Test.YtloemficgiaglaaWArr
import Derived.Test.YtloemficgiaglaaWZeros
import Derived.Test.YtloemficgiaglaaWFoot
import Derived.Test.YtloemficgiaglaaWKept
import Derived.Test.YtloemficgiaglaaWShare
import Derived.Test.YtloemficgiaglaaWN
import Derived.Test.YtloemficgiaglaaWFootNe
import Derived.Test.YtloemficgiaglaaWAt
import Derived.Test.YtloemficgiaglaaWEqStruct
import Derived.Test.YtloemficgiaglaaWRepsOne
import Derived.Test.YtloemficgiaglaaWInv
import Derived.Test.YtloemficgiaglaaWInvWords
import Derived.Test.YtloemficgiaglaaWGuard
import Derived.Test.YtloemficgiaglaaWNEv
import Derived.Test.YtloemficgiaglaaWMore
import Derived.Shelf.Abstract
import Derived.Test.YtloemficgiaglaaHand
import Derived.Laws.IdiomStrings
import Derived.BigRegion
import Derived.Test.YtloemficgiaglaaLem
namespace Go.Proofs.Ytloemficgiaglaa.QFnExactFlipPageBit
open Go.RowKit Go.Proofs.Ytloemficgiaglaa.Hand Go.Proofs.YtloemficgiaglaaW.PrintWords Go.Proofs.YtloemficgiaglaaW.PrintLast Go.Proofs.YtloemficgiaglaaW.PrintMore
attribute [local go_sem] max2_int min2_int max_two min_two max_three min_three max_four min_four   -- for this text's walks alone
set_option linter.unusedVariables false
set_option linter.unusedSimpArgs false



def errW : Option Int → Value
  | none => .nilIface
  | some c => .iface 0 (.int .i64 c)
theorem errW_none : errW none = .nilIface := rfl
theorem errW_some (c : Int) : errW (some c) = .iface 0 (.int .i64 c) := rfl

-- the values' own types

end Go.Proofs.Ytloemficgiaglaa.QFnExactFlipPageBit
