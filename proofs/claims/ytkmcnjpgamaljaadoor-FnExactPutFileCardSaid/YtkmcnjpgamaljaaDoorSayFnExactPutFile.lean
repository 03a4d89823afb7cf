import Derived.Test.YtkmcnjpgamaljaaDoorPFnExactPutFilex11
/- The pure statement of the law FnExactPutFile, over its printed function. -/
namespace Go.Proofs.YtkmcnjpgamaljaaDoor.PFnExactPutFile
open Go.RowKit Go.Proofs.YtkmcnjpgamaljaaDoor.PFnExactPutFile Go.Proofs.YtkmcnjpgamaljaaDoorW.PrintWords Go.Proofs.YtkmcnjpgamaljaaDoorW.PrintLast Go.Proofs.YtkmcnjpgamaljaaDoorW.PrintMore

def laws_FnExactPutFile.Say : Prop := ∀ (l0 : (List S32)) (a1_0 : ByteArray) (a1_1 : ByteArray), (l0.length ≤ maxLen ∧ ∀ x_ ∈ l0, (x_.f0.size ≤ maxLen) ∧ (x_.f1.size ≤ maxLen)) → (a1_0.size ≤ maxLen) → (a1_1.size ≤ maxLen) → ∃ k, laws_FnExactPutFile.f k l0 a1_0 a1_1 = some true

end Go.Proofs.YtkmcnjpgamaljaaDoor.PFnExactPutFile
