-- Written by mp.py, a program of this session over the kit's print; the session answers for it, Lean checks it.
import Derived.Test.YtchpgjhbmeokaaaProg
import Derived.Below
import Derived.Deep.Draws
import Derived.Deep.AppendLies
import Derived.Maps.AppendAt
import Derived.OwnWalk
import Derived.Laws.BytesArg
import Derived.Laws.MakeOwn
import Derived.Laws.OwnMore
import Derived.Deep.OwnRows
import Derived.Tactics
import Derived.Lib.ConvBytes
import Derived.Laws.Slices
import Derived.WalkKit
import Derived.KernelRfl
import Derived.RowKit3
import Derived.Deep.LoopGhost
import Derived.Deep.QuietTactic
import Derived.BigQuiet
import Derived.WideLaws
import Derived.Deep.DeepCutAuto
import Derived.Deep.CutBlock
import Derived.Deep.RegionHeld3
import Derived.Laws.Rows
import Derived.Lib.AppendStr
import Derived.ArgAppend
import Derived.Laws.IdiomCopy
import Derived.OrdersHeld
import Derived.Laws.BitsLemmas
import Derived.RowKit
import Derived.Test.YtchpgjhbmeokaaaVWords
import Derived.Test.YtchpgjhbmeokaaaVLast
import Derived.Test.YtchpgjhbmeokaaaVTab
import Derived.Test.YtchpgjhbmeokaaaVFour
import Derived.Test.YtchpgjhbmeokaaaVQPut
import Derived.Test.YtchpgjhbmeokaaaVApart
import Derived.Test.YtchpgjhbmeokaaaVArr
import Derived.Test.YtchpgjhbmeokaaaVZeros
import Derived.Test.YtchpgjhbmeokaaaVFoot
import Derived.Test.YtchpgjhbmeokaaaVKept
import Derived.Test.YtchpgjhbmeokaaaVShare
import Derived.Test.YtchpgjhbmeokaaaVN
import Derived.Test.YtchpgjhbmeokaaaVFootNe
import Derived.Test.YtchpgjhbmeokaaaVAt
import Derived.Test.YtchpgjhbmeokaaaVEqStruct
import Derived.Test.YtchpgjhbmeokaaaVRepsOne
import Derived.Test.YtchpgjhbmeokaaaVInv
import Derived.Test.YtchpgjhbmeokaaaVInvWords
import Derived.Test.YtchpgjhbmeokaaaVGuard
import Derived.Test.YtchpgjhbmeokaaaVNEv
import Derived.Test.YtchpgjhbmeokaaaVMore
import Derived.Shelf.Abstract
import Derived.Test.YtchpgjhbmeokaaaVHand
import Derived.Test.YtchpgjhbmeokaaaVOwn
import Derived.Lib.SliceRun
import Derived.Test.YtchpgjhbmeokaaaShelf
namespace Go.Proofs.Ytchpgjhbmeokaaa.QFnExactNewBadTable
open Go.RowKit Go.Proofs.Ytchpgjhbmeokaaa.Hand Go.Proofs.YtchpgjhbmeokaaaW.PrintWords Go.Proofs.YtchpgjhbmeokaaaW.PrintLast Go.Proofs.YtchpgjhbmeokaaaW.PrintMore
attribute [local go_sem] max2_int min2_int max_two min_two max_three min_three max_four min_four   -- for this text's walks alone
set_option linter.unusedVariables false
set_option linter.unusedSimpArgs false



def errW : Option Int → Value
  | none => .nilIface
  | some c => .iface 0 (.int .i64 c)
theorem errW_none : errW none = .nilIface := rfl
theorem errW_some (c : Int) : errW (some c) = .iface 0 (.int .i64 c) := rfl

theorem info2 : (Try.prog.info? 2).map (fun i => (i.zero, i.size, i.bytes)) = some (some (.int .i64 0), 1, 8) := by kernel_rfl
-- the values' own types

end Go.Proofs.Ytchpgjhbmeokaaa.QFnExactNewBadTable
