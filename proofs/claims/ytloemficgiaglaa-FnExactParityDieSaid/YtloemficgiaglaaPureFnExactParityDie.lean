/- The pure statement of FnExactParityDie holds: the program's ParityDie and the reference's answer the same for all whole numbers. No condition. -/
import Derived.Test.YtloemficgiaglaaPFnExactParityDiex1
namespace Go.Proofs.Ytloemficgiaglaa.Pure
open Go.RowKit Go.Proofs.Ytloemficgiaglaa.PFnExactParityDie Go.Proofs.YtloemficgiaglaaW.PrintWords Go.Proofs.YtloemficgiaglaaW.PrintLast

theorem FnExactParityDie : laws_FnExactParityDie.Pure := by
  intro a0 a1 h0 h1
  by_cases c0 : a0 ≥ 0 <;> by_cases c1 : a1 ≥ 2 <;> by_cases c2 : a1 ≤ 8 <;>
    simp [laws_FnExactParityDie.f, spec_ParityDie.f, impl_ParityDie.f, impl_parityDie.f, spec_l04Valid.f, impl_rowOk.f, spec_l00In.f, impl_within.f, c0, c1, c2]
  · have c3 : ¬ a1 = 0 := by omega
    simp [c3]

end Go.Proofs.Ytloemficgiaglaa.Pure
