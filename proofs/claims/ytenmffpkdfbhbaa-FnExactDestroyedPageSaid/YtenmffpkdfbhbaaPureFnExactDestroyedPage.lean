/- The pure statement of FnExactDestroyedPage holds: both pages are the same 91 bytes. No condition. -/
import Derived.Test.YtenmffpkdfbhbaaQFnExactDestroyedPagex1
namespace Go.Proofs.Ytenmffpkdfbhbaa.Pure
open Go.RowKit Go.Proofs.Ytenmffpkdfbhbaa.QFnExactDestroyedPage Go.Proofs.YtenmffpkdfbhbaaW.PrintWords Go.Proofs.YtenmffpkdfbhbaaW.PrintLast

theorem FnExactDestroyedPage : laws_FnExactDestroyedPage.Pure := by
  exact ⟨100, by kernel_rfl⟩

end Go.Proofs.Ytenmffpkdfbhbaa.Pure
