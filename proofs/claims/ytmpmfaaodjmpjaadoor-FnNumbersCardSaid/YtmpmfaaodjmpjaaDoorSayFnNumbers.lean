import Derived.Test.YtmpmfaaodjmpjaaDoorPFnNumbersx5
/- The pure statement of the law FnNumbers, over its printed function. -/
namespace Go.Proofs.YtmpmfaaodjmpjaaDoor.PFnNumbers
open Go.RowKit Go.Proofs.YtmpmfaaodjmpjaaDoor.PFnNumbers Go.Proofs.YtmpmfaaodjmpjaaDoorW.PrintWords Go.Proofs.YtmpmfaaodjmpjaaDoorW.PrintLast Go.Proofs.YtmpmfaaodjmpjaaDoorW.PrintMore

def laws_FnNumbers.Say : Prop := ∀ (l0 : (List Int)), (l0.length ≤ maxLen ∧ ∀ x_ ∈ l0, (Lit.int .u8 x_).wf = true) → ∃ k, laws_FnNumbers.f k l0 = some true

end Go.Proofs.YtmpmfaaodjmpjaaDoor.PFnNumbers
