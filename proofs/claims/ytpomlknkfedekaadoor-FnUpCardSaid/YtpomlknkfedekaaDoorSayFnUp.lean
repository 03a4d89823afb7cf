import Derived.Test.YtpomlknkfedekaaDoorPFnUpx5
/- The pure statement of the law FnUp, over its printed function. -/
namespace Go.Proofs.YtpomlknkfedekaaDoor.PFnUp
open Go.RowKit Go.Proofs.YtpomlknkfedekaaDoor.PFnUp Go.Proofs.YtpomlknkfedekaaDoorW.PrintWords Go.Proofs.YtpomlknkfedekaaDoorW.PrintLast Go.Proofs.YtpomlknkfedekaaDoorW.PrintMore

def laws_FnUp.Say : Prop := ∀ (l0 : (List Int)), (l0.length ≤ maxLen ∧ ∀ x_ ∈ l0, (Lit.int .u8 x_).wf = true) → ∃ k, laws_FnUp.f k l0 = some true

end Go.Proofs.YtpomlknkfedekaaDoor.PFnUp
