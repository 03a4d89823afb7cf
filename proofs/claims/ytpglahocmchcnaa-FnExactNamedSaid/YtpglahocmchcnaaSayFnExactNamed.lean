import Derived.Test.YtpglahocmchcnaaPFnExactNamedx3
/- The pure statement of the law FnExactNamed, over its printed function. -/
namespace Go.Proofs.Ytpglahocmchcnaa.PFnExactNamed
open Go.RowKit Go.Proofs.Ytpglahocmchcnaa.PFnExactNamed Go.Proofs.YtpglahocmchcnaaW.PrintWords Go.Proofs.YtpglahocmchcnaaW.PrintLast Go.Proofs.YtpglahocmchcnaaW.PrintMore

def laws_FnExactNamed.Say : Prop := ∀ (l0_0 : (List S99)) (l0_1 : (List ByteArray)) (l0_2 : (List Int)) (a1 : ByteArray), (l0_0.length ≤ maxLen ∧ ∀ x_ ∈ l0_0, ((Lit.int .i64 x_.f0).wf = true) ∧ ((Lit.int .i64 x_.f1).wf = true)) → (l0_1.length ≤ maxLen ∧ ∀ x_ ∈ l0_1, x_.size ≤ maxLen) → (l0_2.length ≤ maxLen ∧ ∀ x_ ∈ l0_2, (Lit.int .i64 x_).wf = true) → a1.size ≤ 140737488351232 → ∃ k, laws_FnExactNamed.f k l0_0 l0_1 l0_2 a1 = some true

end Go.Proofs.Ytpglahocmchcnaa.PFnExactNamed
