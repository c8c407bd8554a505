/- The pure statement of FnExactDataDie holds: the program's DataDie and the reference's answer the same for all whole numbers. No condition. -/
import Derived.Test.YtloemficgiaglaaPFnExactDataDiex1
namespace Go.Proofs.Ytloemficgiaglaa.Pure
open Go.RowKit Go.Proofs.Ytloemficgiaglaa.PFnExactDataDie Go.Proofs.YtloemficgiaglaaW.PrintWords Go.Proofs.YtloemficgiaglaaW.PrintLast

theorem FnExactDataDie : laws_FnExactDataDie.Pure := by
  intro a0 a1 a2 h0 h1 h2
  by_cases c : a0 ≥ 0 ∧ a2 ≥ 2 ∧ a2 ≤ 8
  · obtain ⟨c0, c1, c2⟩ := c
    have c3 : ¬ a2 = 0 := by omega
    by_cases c4 : a1 ≥ 0
    · by_cases c5 : a1 ≤ wrap64 (a2 - 2)
      · have e : wrap64 ((wrap64 ((wrap64 ((wrap64 (a2 - 1)) - (Int.tmod a0 a2))) + 1)) + a1) = wrap64 ((wrap64 (a2 - (Int.tmod a0 a2))) + a1) := by
          have m0 := Int.emod_nonneg a0 c3
          have m1 := Int.emod_lt_of_pos a0 (show 0 < a2 by omega)
          rw [Int.tmod_eq_emod_of_nonneg c0]
          generalize a0 % a2 = m at *
          unfold wrap64 at *
          omega
        simp [laws_FnExactDataDie.f, spec_DataDie.f, impl_DataDie.f, impl_dataDie.f, impl_parityDie.f, spec_l04Valid.f, impl_rowOk.f, spec_l00In.f, impl_within.f, c0, c1, c2, c3, c4, c5, e]
      · simp [laws_FnExactDataDie.f, spec_DataDie.f, impl_DataDie.f, spec_l04Valid.f, impl_rowOk.f, spec_l00In.f, impl_within.f, c0, c1, c2, c4, c5]
    · simp [laws_FnExactDataDie.f, spec_DataDie.f, impl_DataDie.f, spec_l04Valid.f, impl_rowOk.f, spec_l00In.f, impl_within.f, c0, c1, c2, c4]
  · by_cases c0 : a0 ≥ 0 <;> by_cases c1 : a2 ≥ 2 <;> by_cases c2 : a2 ≤ 8 <;>
      simp [laws_FnExactDataDie.f, spec_DataDie.f, impl_DataDie.f, spec_l04Valid.f, impl_rowOk.f, spec_l00In.f, impl_within.f, c0, c1, c2] <;> omega

end Go.Proofs.Ytloemficgiaglaa.Pure
