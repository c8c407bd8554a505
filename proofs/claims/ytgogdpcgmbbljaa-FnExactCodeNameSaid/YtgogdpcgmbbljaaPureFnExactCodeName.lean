/- The pure statement of FnExactCodeName holds: the program's CodeName and the reference's answer the same for every whole number. No condition. -/
import Derived.Test.YtgogdpcgmbbljaaPFnExactCodeNamex1
namespace Go.Proofs.Ytgogdpcgmbbljaa.Pure
open Go.RowKit Go.Proofs.Ytgogdpcgmbbljaa.PFnExactCodeName Go.Proofs.YtgogdpcgmbbljaaW.PrintWords Go.Proofs.YtgogdpcgmbbljaaW.PrintLast

theorem FnExactCodeName : laws_FnExactCodeName.Pure := by
  intro a0 h
  by_cases h1 : a0 ≥ 0
  · by_cases h2 : a0 ≤ 10
    · have e : a0 < 11 := by omega
      simp [laws_FnExactCodeName.f, spec_CodeName.f, spec_l01Names.f, impl_CodeName.f, impl_isIndex.f, spec_l00In.f, impl_within.f, h1, h2, e, wrap64]
    · simp [laws_FnExactCodeName.f, spec_CodeName.f, impl_CodeName.f, impl_isIndex.f, spec_l00In.f, impl_within.f, h1, h2, wrap64]
  · simp [laws_FnExactCodeName.f, spec_CodeName.f, impl_CodeName.f, impl_isIndex.f, spec_l00In.f, impl_within.f, h1]

end Go.Proofs.Ytgogdpcgmbbljaa.Pure
