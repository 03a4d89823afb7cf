import Derived.Test.YtmpmfaaodjmpjaaDoorPFnExactLexx6
/- The pure statement of the law FnExactLex, over its printed function. -/
namespace Go.Proofs.YtmpmfaaodjmpjaaDoor.PFnExactLex
open Go.RowKit Go.Proofs.YtmpmfaaodjmpjaaDoor.PFnExactLex Go.Proofs.YtmpmfaaodjmpjaaDoorW.PrintWords Go.Proofs.YtmpmfaaodjmpjaaDoorW.PrintLast Go.Proofs.YtmpmfaaodjmpjaaDoorW.PrintMore

def laws_FnExactLex.Say : Prop := ∀ (a0 : ByteArray) (a1 : Bool), a0.size ≤ 140737488351232 → ∃ k, laws_FnExactLex.f k a0 a1 = some true

end Go.Proofs.YtmpmfaaodjmpjaaDoor.PFnExactLex
