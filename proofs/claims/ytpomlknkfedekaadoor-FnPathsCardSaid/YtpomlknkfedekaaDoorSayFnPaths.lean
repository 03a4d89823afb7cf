import Derived.Test.YtpomlknkfedekaaDoorPFnPathsx6
/- The pure statement of the law FnPaths, over its printed function. -/
namespace Go.Proofs.YtpomlknkfedekaaDoor.PFnPaths
open Go.RowKit Go.Proofs.YtpomlknkfedekaaDoor.PFnPaths Go.Proofs.YtpomlknkfedekaaDoorW.PrintWords Go.Proofs.YtpomlknkfedekaaDoorW.PrintLast Go.Proofs.YtpomlknkfedekaaDoorW.PrintMore

def laws_FnPaths.Say : Prop := ∀ (l0 : (List Int)), (l0.length ≤ maxLen ∧ ∀ x_ ∈ l0, (Lit.int .u8 x_).wf = true) → ∃ k, laws_FnPaths.f k l0 = some true

end Go.Proofs.YtpomlknkfedekaaDoor.PFnPaths
