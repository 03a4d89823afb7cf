import Derived.Test.YtpglahocmchcnaaPFnExactConstantsx1
/- FnExactConstants: the law function returns true; it takes no argument. -/
namespace Go.Proofs.Ytpglahocmchcnaa.Pure
open Go.Proofs.Ytpglahocmchcnaa.PFnExactConstants

theorem FnExactConstants : laws_FnExactConstants.Pure := rfl

end Go.Proofs.Ytpglahocmchcnaa.Pure
