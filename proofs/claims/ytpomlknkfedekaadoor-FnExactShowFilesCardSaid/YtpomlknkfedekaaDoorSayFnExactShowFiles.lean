import Derived.Test.YtpomlknkfedekaaDoorPFnExactShowFilesx8
/- The pure statement of the law FnExactShowFiles, over its printed function. -/
namespace Go.Proofs.YtpomlknkfedekaaDoor.PFnExactShowFiles
open Go.RowKit Go.Proofs.YtpomlknkfedekaaDoor.PFnExactShowFiles Go.Proofs.YtpomlknkfedekaaDoorW.PrintWords Go.Proofs.YtpomlknkfedekaaDoorW.PrintLast Go.Proofs.YtpomlknkfedekaaDoorW.PrintMore

def laws_FnExactShowFiles.Say : Prop := ∀ (l0 : (List S55)), (l0.length ≤ maxLen ∧ ∀ x_ ∈ l0, (x_.f0.size ≤ maxLen) ∧ (x_.f1.size ≤ maxLen)) → ∃ k, laws_FnExactShowFiles.f k l0 = some true

end Go.Proofs.YtpomlknkfedekaaDoor.PFnExactShowFiles
