import Derived.Test.YtmpmfaaodjmpjaaDoorPFnProbex12
/- The pure statement of the law FnProbe, over its printed function. -/
namespace Go.Proofs.YtmpmfaaodjmpjaaDoor.PFnProbe
open Go.RowKit Go.Proofs.YtmpmfaaodjmpjaaDoor.PFnProbe Go.Proofs.YtmpmfaaodjmpjaaDoorW.PrintWords Go.Proofs.YtmpmfaaodjmpjaaDoorW.PrintLast Go.Proofs.YtmpmfaaodjmpjaaDoorW.PrintMore

def laws_FnProbe.Say : Prop := ∀ (l0 : (List Int)), (l0.length ≤ maxLen ∧ ∀ x_ ∈ l0, (Lit.int .u8 x_).wf = true) → ∃ k, laws_FnProbe.f k l0 = some true

end Go.Proofs.YtmpmfaaodjmpjaaDoor.PFnProbe
