/- The pure statement of FnExactValidState holds: the program's ValidState and the reference's answer the same for every whole number. No condition. -/
import Derived.Test.YtgogdpcgmbbljaaPFnExactValidStatex1
namespace Go.Proofs.Ytgogdpcgmbbljaa.Pure
open Go.RowKit Go.Proofs.Ytgogdpcgmbbljaa.PFnExactValidState Go.Proofs.YtgogdpcgmbbljaaW.PrintWords Go.Proofs.YtgogdpcgmbbljaaW.PrintLast

theorem FnExactValidState : laws_FnExactValidState.Pure := by
  intro a0 h
  simp only [laws_FnExactValidState.f, spec_ValidState.f, impl_ValidState.f, spec_l00In.f, impl_within.f]
  split <;> simp

end Go.Proofs.Ytgogdpcgmbbljaa.Pure
