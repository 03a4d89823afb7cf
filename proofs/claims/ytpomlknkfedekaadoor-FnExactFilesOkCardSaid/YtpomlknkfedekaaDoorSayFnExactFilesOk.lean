import Derived.Test.YtpomlknkfedekaaDoorPFnExactFilesOkx7
/- The pure statement of the law FnExactFilesOk, over its printed function. -/
namespace Go.Proofs.YtpomlknkfedekaaDoor.PFnExactFilesOk
open Go.RowKit Go.Proofs.YtpomlknkfedekaaDoor.PFnExactFilesOk Go.Proofs.YtpomlknkfedekaaDoorW.PrintWords Go.Proofs.YtpomlknkfedekaaDoorW.PrintLast Go.Proofs.YtpomlknkfedekaaDoorW.PrintMore

def laws_FnExactFilesOk.Say : Prop := ∀ (l0 : (List S55)), (l0.length ≤ maxLen ∧ ∀ x_ ∈ l0, (x_.f0.size ≤ maxLen) ∧ (x_.f1.size ≤ maxLen)) → ∃ k, laws_FnExactFilesOk.f k l0 = some true

end Go.Proofs.YtpomlknkfedekaaDoor.PFnExactFilesOk
