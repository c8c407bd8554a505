/- The pure statement of FnExactErasedPage holds: both pages are the same 91 bytes. No condition. -/
import Derived.Test.YtenmffpkdfbhbaaQFnExactErasedPagex1
namespace Go.Proofs.Ytenmffpkdfbhbaa.Pure
open Go.RowKit Go.Proofs.Ytenmffpkdfbhbaa.QFnExactErasedPage Go.Proofs.YtenmffpkdfbhbaaW.PrintWords Go.Proofs.YtenmffpkdfbhbaaW.PrintLast

theorem FnExactErasedPage : laws_FnExactErasedPage.Pure := by
  exact ⟨100, by kernel_rfl⟩

end Go.Proofs.Ytenmffpkdfbhbaa.Pure
