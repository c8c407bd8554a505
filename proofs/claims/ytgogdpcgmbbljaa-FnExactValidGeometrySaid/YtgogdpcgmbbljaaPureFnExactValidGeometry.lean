/- The pure statement of FnExactValidGeometry holds: the program's ValidGeometry and the reference's answer the same for every geometry. No condition. -/
import Derived.Test.YtgogdpcgmbbljaaQFnExactValidGeometryx1
namespace Go.Proofs.Ytgogdpcgmbbljaa.Pure
open Go.RowKit Go.Proofs.Ytgogdpcgmbbljaa.QFnExactValidGeometry Go.Proofs.YtgogdpcgmbbljaaW.PrintWords Go.Proofs.YtgogdpcgmbbljaaW.PrintLast

theorem FnExactValidGeometry : laws_FnExactValidGeometry.Pure := by
  intro a b c h0 h1 h2
  have e : ∀ x y z, spec_l00In.f x y z = impl_within.f x y z := fun _ _ _ => rfl
  have e2 : spec_ValidGeometry.f a b c = impl_ValidGeometry.f a b c := by
    unfold spec_ValidGeometry.f impl_ValidGeometry.f
    simp only [e]
  unfold laws_FnExactValidGeometry.f laws_toGeometry.f
  simp only [Option.bind_some]
  rw [e2]
  have s : ∃ r, impl_ValidGeometry.f a b c = some r := by
    unfold impl_ValidGeometry.f impl_within.f
    by_cases c0 : a ≥ 2 <;> by_cases c1 : b ≥ 4 <;> by_cases c2 : a ≤ 3 <;> by_cases c3 : b ≤ 12 <;> by_cases c4 : c = 8 <;> simp [c0, c1, c2, c3, c4]
  obtain ⟨r, hr⟩ := s
  rw [hr]
  simp

end Go.Proofs.Ytgogdpcgmbbljaa.Pure
