/- The law FnExactConstants answers true: every exported constant has the value that the reference states. No conditions. -/
import Derived.Test.YtjcekpcimjoekaaPFnExactConstantsx1
namespace Go.Proofs.Ytjcekpcimjoekaa.Pure
open Go.RowKit Go.Proofs.Ytjcekpcimjoekaa.PFnExactConstants Go.Proofs.YtjcekpcimjoekaaW.PrintWords Go.Proofs.YtjcekpcimjoekaaW.PrintLast

theorem FnExactConstants : laws_FnExactConstants.Pure := rfl

end Go.Proofs.Ytjcekpcimjoekaa.Pure
