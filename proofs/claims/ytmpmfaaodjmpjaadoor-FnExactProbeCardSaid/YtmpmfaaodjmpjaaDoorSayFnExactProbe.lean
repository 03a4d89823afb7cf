import Derived.Test.YtmpmfaaodjmpjaaDoorPFnExactProbex12
/- The pure statement of the law FnExactProbe, over its printed function. -/
namespace Go.Proofs.YtmpmfaaodjmpjaaDoor.PFnExactProbe
open Go.RowKit Go.Proofs.YtmpmfaaodjmpjaaDoor.PFnExactProbe Go.Proofs.YtmpmfaaodjmpjaaDoorW.PrintWords Go.Proofs.YtmpmfaaodjmpjaaDoorW.PrintLast Go.Proofs.YtmpmfaaodjmpjaaDoorW.PrintMore

def laws_FnExactProbe.Say : Prop := ∀ (l0 : (List S48)) (a1 : ByteArray) (a2 : ByteArray), (l0.length ≤ maxLen ∧ ∀ x_ ∈ l0, (x_.f0.size ≤ maxLen) ∧ (x_.f1.size ≤ maxLen)) → a1.size ≤ 140737488351232 → a2.size ≤ 140737488351232 → ∃ k, laws_FnExactProbe.f k l0 a1 a2 = some true

end Go.Proofs.YtmpmfaaodjmpjaaDoor.PFnExactProbe
