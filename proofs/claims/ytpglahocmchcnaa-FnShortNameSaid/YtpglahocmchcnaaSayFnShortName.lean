import Derived.Test.YtpglahocmchcnaaPFnShortNamex4
/- The pure statement of the law FnShortName, over its printed function. -/
namespace Go.Proofs.Ytpglahocmchcnaa.PFnShortName
open Go.RowKit Go.Proofs.Ytpglahocmchcnaa.PFnShortName Go.Proofs.YtpglahocmchcnaaW.PrintWords Go.Proofs.YtpglahocmchcnaaW.PrintLast Go.Proofs.YtpglahocmchcnaaW.PrintMore

def laws_FnShortName.Say : Prop := ∀ (l0 : (List Int)), (l0.length ≤ maxLen ∧ ∀ x_ ∈ l0, (Lit.int .u8 x_).wf = true) → ∃ k, laws_FnShortName.f k l0 = some true

end Go.Proofs.Ytpglahocmchcnaa.PFnShortName
