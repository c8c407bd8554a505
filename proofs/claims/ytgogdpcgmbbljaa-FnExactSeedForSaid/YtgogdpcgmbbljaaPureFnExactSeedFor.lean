/- The pure statement of FnExactSeedFor holds: the program's SeedFor and the reference's answer the same for every whole number. No condition. -/
import Derived.Test.YtgogdpcgmbbljaaPFnExactSeedForx1
namespace Go.Proofs.Ytgogdpcgmbbljaa.Pure
open Go.RowKit Go.Proofs.Ytgogdpcgmbbljaa.PFnExactSeedFor Go.Proofs.YtgogdpcgmbbljaaW.PrintWords Go.Proofs.YtgogdpcgmbbljaaW.PrintLast

theorem FnExactSeedFor : laws_FnExactSeedFor.Pure := by
  intro a0 h
  simp only [laws_FnExactSeedFor.f, spec_SeedFor.f, impl_SeedFor.f, spec_l00In.f, impl_within.f]
  split <;> simp
  split <;> simp

end Go.Proofs.Ytgogdpcgmbbljaa.Pure
