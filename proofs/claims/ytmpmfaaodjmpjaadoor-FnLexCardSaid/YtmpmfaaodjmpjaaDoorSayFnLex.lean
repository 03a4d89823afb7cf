import Derived.Test.YtmpmfaaodjmpjaaDoorPFnLexx5
/- The pure statement of the law FnLex, over its printed function. -/
namespace Go.Proofs.YtmpmfaaodjmpjaaDoor.PFnLex
open Go.RowKit Go.Proofs.YtmpmfaaodjmpjaaDoor.PFnLex Go.Proofs.YtmpmfaaodjmpjaaDoorW.PrintWords Go.Proofs.YtmpmfaaodjmpjaaDoorW.PrintLast Go.Proofs.YtmpmfaaodjmpjaaDoorW.PrintMore

def laws_FnLex.Say : Prop := ∀ (l0 : (List Int)), (l0.length ≤ maxLen ∧ ∀ x_ ∈ l0, (Lit.int .u8 x_).wf = true) → ∃ k, laws_FnLex.f k l0 = some true

end Go.Proofs.YtmpmfaaodjmpjaaDoor.PFnLex
