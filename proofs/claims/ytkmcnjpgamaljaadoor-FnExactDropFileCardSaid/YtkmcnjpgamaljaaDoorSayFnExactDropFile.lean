import Derived.Test.YtkmcnjpgamaljaaDoorPFnExactDropFilex9
/- The pure statement of the law FnExactDropFile, over its printed function. -/
namespace Go.Proofs.YtkmcnjpgamaljaaDoor.PFnExactDropFile
open Go.RowKit Go.Proofs.YtkmcnjpgamaljaaDoor.PFnExactDropFile Go.Proofs.YtkmcnjpgamaljaaDoorW.PrintWords Go.Proofs.YtkmcnjpgamaljaaDoorW.PrintLast Go.Proofs.YtkmcnjpgamaljaaDoorW.PrintMore

def laws_FnExactDropFile.Say : Prop := ∀ (l0 : (List S32)) (a1 : ByteArray), (l0.length ≤ maxLen ∧ ∀ x_ ∈ l0, (x_.f0.size ≤ maxLen) ∧ (x_.f1.size ≤ maxLen)) → a1.size ≤ 140737488351232 → ∃ k, laws_FnExactDropFile.f k l0 a1 = some true

end Go.Proofs.YtkmcnjpgamaljaaDoor.PFnExactDropFile
