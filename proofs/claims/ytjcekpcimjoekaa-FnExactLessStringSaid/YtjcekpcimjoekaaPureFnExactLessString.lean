/- The law FnExactLessString answers true at every two strings: LessString of the program and of the reference agree. No conditions. -/
import Derived.Test.YtjcekpcimjoekaaPFnExactLessStringx1
namespace Go.Proofs.Ytjcekpcimjoekaa.Pure
open Go.RowKit Go.Proofs.Ytjcekpcimjoekaa.PFnExactLessString Go.Proofs.YtjcekpcimjoekaaW.PrintWords Go.Proofs.YtjcekpcimjoekaaW.PrintLast

theorem FnExactLessString : laws_FnExactLessString.Pure := by
  intro a0 a1 _ _
  unfold laws_FnExactLessString.f spec_LessString.f impl_LessString.f
  simp

end Go.Proofs.Ytjcekpcimjoekaa.Pure
