/- The pure statement of FnExactIsErased holds. No condition. -/
import Derived.Test.YtenmffpkdfbhbaaQFnExactIsErasedx1
namespace Go.Proofs.Ytenmffpkdfbhbaa.Pure
open Go.RowKit Go.Proofs.Ytenmffpkdfbhbaa.QFnExactIsErased Go.Proofs.YtenmffpkdfbhbaaW.PrintWords Go.Proofs.YtenmffpkdfbhbaaW.PrintLast

theorem FnExactIsErased : laws_FnExactIsErased.Pure := by
  intro a0 _
  refine ⟨100, ?_⟩
  have e1 : spec_ErasedPage.f 100 = impl_ErasedPage.f := by kernel_rfl
  have e2 : impl_ErasedPage.f = some (strOfNums (List.replicate 91 255)) := by kernel_rfl
  unfold laws_FnExactIsErased.f spec_IsErased.f impl_IsErased.f
  rw [e1, e2]
  simp only [Option.bind_some]
  split
  · rfl
  · simp

end Go.Proofs.Ytenmffpkdfbhbaa.Pure
