-- Written by mp.py, a program of this session over the kit's print; the session answers for it, Lean checks it.
import Derived.Test.YtiedhdbdiambbaaProg
import Derived.Below
import Derived.Deep.Draws
import Derived.Deep.AppendLies
import Derived.Maps.AppendAt
import Derived.OwnWalk
import Derived.Laws.BytesArg
import Derived.Laws.MakeOwn
import Derived.Laws.OwnMore
import Derived.Deep.OwnRows
import Derived.Tactics
import Derived.Lib.ConvBytes
import Derived.Laws.Slices
import Derived.WalkKit
import Derived.KernelRfl
import Derived.RowKit3
import Derived.Deep.LoopGhost
import Derived.Deep.QuietTactic
import Derived.BigQuiet
import Derived.WideLaws
import Derived.Deep.DeepCutAuto
import Derived.Deep.CutBlock
import Derived.Deep.RegionHeld3
import Derived.Laws.Rows
import Derived.Lib.AppendStr
import Derived.ArgAppend
import Derived.Laws.IdiomCopy
import Derived.OrdersHeld
import Derived.Laws.BitsLemmas
import Derived.RowKit
import Derived.Test.YtiedhdbdiambbaaWWords
import Derived.Test.YtiedhdbdiambbaaWLast
import Derived.Test.YtiedhdbdiambbaaWTab
import Derived.Test.YtiedhdbdiambbaaWFour
import Derived.Test.YtiedhdbdiambbaaWQPut
import Derived.Test.YtiedhdbdiambbaaWApart
import Derived.Test.YtiedhdbdiambbaaWArr
import Derived.Test.YtiedhdbdiambbaaWZeros
import Derived.Test.YtiedhdbdiambbaaWFoot
import Derived.Test.YtiedhdbdiambbaaWKept
import Derived.Test.YtiedhdbdiambbaaWShare
import Derived.Test.YtiedhdbdiambbaaWN
import Derived.Test.YtiedhdbdiambbaaWFootNe
import Derived.Test.YtiedhdbdiambbaaWAt
import Derived.Test.YtiedhdbdiambbaaWEqStruct
import Derived.Test.YtiedhdbdiambbaaWRepsOne
import Derived.Test.YtiedhdbdiambbaaWInv
import Derived.Test.YtiedhdbdiambbaaWInvWords
import Derived.Test.YtiedhdbdiambbaaWGuard
import Derived.Test.YtiedhdbdiambbaaWNEv
import Derived.Test.YtiedhdbdiambbaaWMore
import Derived.Shelf.Abstract
import Derived.Test.YtiedhdbdiambbaaHand
import Derived.Test.YtiedhdbdiambbaaShelf
import Derived.Test.YtiedhdbdiambbaaShelf
import Derived.Test.YtiedhdbdiambbaaOwn
namespace Go.Proofs.Ytiedhdbdiambbaa.QFnParity
open Go.RowKit Go.Proofs.Ytiedhdbdiambbaa.Hand Go.Proofs.YtiedhdbdiambbaaW.PrintWords Go.Proofs.YtiedhdbdiambbaaW.PrintLast Go.Proofs.YtiedhdbdiambbaaW.PrintMore
attribute [local go_sem] max2_int min2_int max_two min_two max_three min_three max_four min_four   -- for this text's walks alone
set_option linter.unusedVariables false
set_option linter.unusedSimpArgs false



def errW : Option Int → Value
  | none => .nilIface
  | some c => .iface 0 (.int .i64 c)
theorem errW_none : errW none = .nilIface := rfl
theorem errW_some (c : Int) : errW (some c) = .iface 0 (.int .i64 c) := rfl

theorem info5 : (Try.prog.info? 5).map (fun i => (i.zero, i.size, i.bytes)) = some (some (.int .u8 0), 1, 1) := by kernel_rfl
theorem info9 : (Try.prog.info? 9).map (fun i => (i.zero, i.size, i.bytes)) = some (some (.string ⟨#[]⟩), 1, 16) := by kernel_rfl
-- the values' own types

end Go.Proofs.Ytiedhdbdiambbaa.QFnParity
