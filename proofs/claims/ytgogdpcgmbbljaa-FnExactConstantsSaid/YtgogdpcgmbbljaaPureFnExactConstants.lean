/- The pure statement of FnExactConstants holds: every constant of the program has the value that the statement names. No condition. -/
import Derived.Test.YtgogdpcgmbbljaaQFnExactConstantsx1
namespace Go.Proofs.Ytgogdpcgmbbljaa.Pure
open Go.RowKit Go.Proofs.Ytgogdpcgmbbljaa.QFnExactConstants Go.Proofs.YtgogdpcgmbbljaaW.PrintWords Go.Proofs.YtgogdpcgmbbljaaW.PrintLast

theorem FnExactConstants : laws_FnExactConstants.Pure := by
  rfl

end Go.Proofs.Ytgogdpcgmbbljaa.Pure
