/- The plain law behind FnExactConstants: the printed function is true by sight. -/
import Derived.Test.YtafahdjaleeinaaPFnExactConstantsx1
namespace Go.Proofs.Ytafahdjaleeinaa.Pure
open Go.RowKit Go.Proofs.Ytafahdjaleeinaa.PFnExactConstants Go.Proofs.YtafahdjaleeinaaW.PrintWords Go.Proofs.YtafahdjaleeinaaW.PrintLast

theorem FnExactConstants : laws_FnExactConstants.Pure := rfl

end Go.Proofs.Ytafahdjaleeinaa.Pure
