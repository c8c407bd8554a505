-- Written by mp.py, a program of this session over the kit's print; the session answers for it, Lean checks it.
import Derived.Test.YtenmffpkdfbhbaaProg
import Derived.Below
import Derived.Deep.Draws
import Derived.Deep.AppendLies
import Derived.Maps.AppendAt
import Derived.OwnWalk
import Derived.Laws.BytesArg
import Derived.Laws.MakeOwn
import Derived.Laws.OwnMore
import Derived.Deep.OwnRows
import Derived.Tactics
import Derived.Lib.ConvBytes
import Derived.Laws.Slices
import Derived.WalkKit
import Derived.KernelRfl
import Derived.RowKit3
import Derived.Deep.LoopGhost
import Derived.Deep.QuietTactic
import Derived.BigQuiet
import Derived.WideLaws
import Derived.Deep.DeepCutAuto
import Derived.Deep.CutBlock
import Derived.Deep.RegionHeld3
import Derived.Laws.Rows
import Derived.Lib.AppendStr
import Derived.ArgAppend
import Derived.Laws.IdiomCopy
import Derived.OrdersHeld
import Derived.Laws.BitsLemmas
import Derived.RowKit
import Derived.Test.YtenmffpkdfbhbaaWWords
import Derived.Test.YtenmffpkdfbhbaaWLast
import Derived.Test.YtenmffpkdfbhbaaWTab
import Derived.Test.YtenmffpkdfbhbaaWFour
import Derived.Test.YtenmffpkdfbhbaaWQPut
import Derived.Test.YtenmffpkdfbhbaaWApart
import Derived.Test.YtenmffpkdfbhbaaWArr
import Derived.Test.YtenmffpkdfbhbaaWZeros
import Derived.Test.YtenmffpkdfbhbaaWFoot
import Derived.Test.YtenmffpkdfbhbaaWKept
import Derived.Test.YtenmffpkdfbhbaaWShare
import Derived.Test.YtenmffpkdfbhbaaWN
import Derived.Test.YtenmffpkdfbhbaaWFootNe
import Derived.Test.YtenmffpkdfbhbaaWAt
import Derived.Test.YtenmffpkdfbhbaaWEqStruct
import Derived.Test.YtenmffpkdfbhbaaWRepsOne
import Derived.Test.YtenmffpkdfbhbaaWInv
import Derived.Test.YtenmffpkdfbhbaaWInvWords
import Derived.Test.YtenmffpkdfbhbaaWGuard
import Derived.Test.YtenmffpkdfbhbaaWNEv
import Derived.Test.YtenmffpkdfbhbaaWMore
import Derived.Shelf.Abstract
import Derived.Test.YtenmffpkdfbhbaaHand
import Derived.Laws.CopyOwn
import Derived.Laws.MakeOwn
import Derived.Test.YtenmffpkdfbhbaaOwn
namespace Go.Proofs.Ytenmffpkdfbhbaa.QFnExactNewMap
open Go.RowKit Go.Proofs.Ytenmffpkdfbhbaa.Hand Go.Proofs.YtenmffpkdfbhbaaW.PrintWords Go.Proofs.YtenmffpkdfbhbaaW.PrintLast Go.Proofs.YtenmffpkdfbhbaaW.PrintMore
attribute [local go_sem] max2_int min2_int max_two min_two max_three min_three max_four min_four   -- for this text's walks alone
set_option linter.unusedVariables false
set_option linter.unusedSimpArgs false



def errW : Option Int → Value
  | none => .nilIface
  | some c => .iface 0 (.int .i64 c)
theorem errW_none : errW none = .nilIface := rfl
theorem errW_some (c : Int) : errW (some c) = .iface 0 (.int .i64 c) := rfl

theorem info2 : (Try.prog.info? 2).map (fun i => (i.zero, i.size, i.bytes)) = some (some (.int .i64 0), 1, 8) := by kernel_rfl
theorem info4 : (Try.prog.info? 4).map (fun i => (i.zero, i.size, i.bytes)) = some (some (.bool false), 1, 1) := by kernel_rfl
-- the values' own types

end Go.Proofs.Ytenmffpkdfbhbaa.QFnExactNewMap
