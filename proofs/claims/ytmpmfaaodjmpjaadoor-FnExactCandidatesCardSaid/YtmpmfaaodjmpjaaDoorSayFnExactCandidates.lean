import Derived.Test.YtmpmfaaodjmpjaaDoorPFnExactCandidatesx8
/- The pure statement of the law FnExactCandidates, over its printed function. -/
namespace Go.Proofs.YtmpmfaaodjmpjaaDoor.PFnExactCandidates
open Go.RowKit Go.Proofs.YtmpmfaaodjmpjaaDoor.PFnExactCandidates Go.Proofs.YtmpmfaaodjmpjaaDoorW.PrintWords Go.Proofs.YtmpmfaaodjmpjaaDoorW.PrintLast Go.Proofs.YtmpmfaaodjmpjaaDoorW.PrintMore

def laws_FnExactCandidates.Say : Prop := ∀ (a0 : ByteArray) (a1 : ByteArray), a0.size ≤ 140737488351232 → a1.size ≤ 140737488351232 → ∃ k, laws_FnExactCandidates.f k a0 a1 = some true

end Go.Proofs.YtmpmfaaodjmpjaaDoor.PFnExactCandidates
