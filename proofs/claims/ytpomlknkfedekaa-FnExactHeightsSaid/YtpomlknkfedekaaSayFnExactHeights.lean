import Derived.Test.YtpomlknkfedekaaPFnExactHeightsx5
/- The pure statement of the law FnExactHeights, over its printed function. -/
namespace Go.Proofs.Ytpomlknkfedekaa.PFnExactHeights
open Go.RowKit Go.Proofs.Ytpomlknkfedekaa.PFnExactHeights Go.Proofs.YtpomlknkfedekaaW.PrintWords Go.Proofs.YtpomlknkfedekaaW.PrintLast Go.Proofs.YtpomlknkfedekaaW.PrintMore

def laws_FnExactHeights.Say : Prop := ∀ (l0_0 : (List S80)) (l0_1 : (List ByteArray)) (l0_2 : (List Int)), (l0_0.length ≤ maxLen ∧ ∀ x_ ∈ l0_0, ((Lit.int .i64 x_.f0).wf = true) ∧ ((Lit.int .i64 x_.f1).wf = true)) → (l0_1.length ≤ maxLen ∧ ∀ x_ ∈ l0_1, x_.size ≤ maxLen) → (l0_2.length ≤ maxLen ∧ ∀ x_ ∈ l0_2, (Lit.int .i64 x_).wf = true) → ∃ k, laws_FnExactHeights.f k l0_0 l0_1 l0_2 = some true

end Go.Proofs.Ytpomlknkfedekaa.PFnExactHeights
