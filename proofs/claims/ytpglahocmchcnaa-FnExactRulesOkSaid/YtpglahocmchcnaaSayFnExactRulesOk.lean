import Derived.Test.YtpglahocmchcnaaPFnExactRulesOkx5
/- The pure statement of the law FnExactRulesOk, over its printed function. -/
namespace Go.Proofs.Ytpglahocmchcnaa.PFnExactRulesOk
open Go.RowKit Go.Proofs.Ytpglahocmchcnaa.PFnExactRulesOk Go.Proofs.YtpglahocmchcnaaW.PrintWords Go.Proofs.YtpglahocmchcnaaW.PrintLast Go.Proofs.YtpglahocmchcnaaW.PrintMore

def laws_FnExactRulesOk.Say : Prop := ∀ (l0 : (List S74)), (l0.length ≤ maxLen ∧ ∀ x_ ∈ l0, (x_.f0.size ≤ maxLen) ∧ (x_.f1.size ≤ maxLen)) → ∃ k, laws_FnExactRulesOk.f k l0 = some true

end Go.Proofs.Ytpglahocmchcnaa.PFnExactRulesOk
