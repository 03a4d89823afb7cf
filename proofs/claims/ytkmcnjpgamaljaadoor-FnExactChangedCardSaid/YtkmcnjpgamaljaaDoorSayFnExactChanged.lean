import Derived.Test.YtkmcnjpgamaljaaDoorPFnExactChangedx11
/- The pure statement of the law FnExactChanged, over its printed function. -/
namespace Go.Proofs.YtkmcnjpgamaljaaDoor.PFnExactChanged
open Go.RowKit Go.Proofs.YtkmcnjpgamaljaaDoor.PFnExactChanged Go.Proofs.YtkmcnjpgamaljaaDoorW.PrintWords Go.Proofs.YtkmcnjpgamaljaaDoorW.PrintLast Go.Proofs.YtkmcnjpgamaljaaDoorW.PrintMore

def laws_FnExactChanged.Say : Prop := ∀ (l0 : (List S32)) (l1 : (List S32)), (l0.length ≤ maxLen ∧ ∀ x_ ∈ l0, (x_.f0.size ≤ maxLen) ∧ (x_.f1.size ≤ maxLen)) → (l1.length ≤ maxLen ∧ ∀ x_ ∈ l1, (x_.f0.size ≤ maxLen) ∧ (x_.f1.size ≤ maxLen)) → ∃ k, laws_FnExactChanged.f k l0 l1 = some true

end Go.Proofs.YtkmcnjpgamaljaaDoor.PFnExactChanged
