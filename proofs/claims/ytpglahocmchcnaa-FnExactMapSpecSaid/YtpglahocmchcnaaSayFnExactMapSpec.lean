import Derived.Test.YtpglahocmchcnaaPFnExactMapSpecx6
/- The pure statement of the law FnExactMapSpec, over its printed function. -/
namespace Go.Proofs.Ytpglahocmchcnaa.PFnExactMapSpec
open Go.RowKit Go.Proofs.Ytpglahocmchcnaa.PFnExactMapSpec Go.Proofs.YtpglahocmchcnaaW.PrintWords Go.Proofs.YtpglahocmchcnaaW.PrintLast Go.Proofs.YtpglahocmchcnaaW.PrintMore

def laws_FnExactMapSpec.Say : Prop := ∀ (l0 : (List S74)) (a1 : ByteArray), (l0.length ≤ maxLen ∧ ∀ x_ ∈ l0, (x_.f0.size ≤ maxLen) ∧ (x_.f1.size ≤ maxLen)) → a1.size ≤ 140737488351232 → ∃ k, laws_FnExactMapSpec.f k l0 a1 = some true

end Go.Proofs.Ytpglahocmchcnaa.PFnExactMapSpec
