/- The program's exported constants have the values that the document gives: the law FnExactConstants answers true. No conditions. -/
import Derived.Test.YtfdlgfpcfbklmaaPFnExactConstantsx1
namespace Go.Proofs.Ytfdlgfpcfbklmaa.Pure
open Go.RowKit Go.Proofs.Ytfdlgfpcfbklmaa.PFnExactConstants Go.Proofs.YtfdlgfpcfbklmaaW.PrintWords Go.Proofs.YtfdlgfpcfbklmaaW.PrintLast

theorem FnExactConstants : laws_FnExactConstants.Pure := rfl

end Go.Proofs.Ytfdlgfpcfbklmaa.Pure
