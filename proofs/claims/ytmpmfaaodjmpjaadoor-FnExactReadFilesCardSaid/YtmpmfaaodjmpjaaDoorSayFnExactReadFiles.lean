import Derived.Test.YtmpmfaaodjmpjaaDoorPFnExactReadFilesx11
/- The pure statement of the law FnExactReadFiles, over its printed function. -/
namespace Go.Proofs.YtmpmfaaodjmpjaaDoor.PFnExactReadFiles
open Go.RowKit Go.Proofs.YtmpmfaaodjmpjaaDoor.PFnExactReadFiles Go.Proofs.YtmpmfaaodjmpjaaDoorW.PrintWords Go.Proofs.YtmpmfaaodjmpjaaDoorW.PrintLast Go.Proofs.YtmpmfaaodjmpjaaDoorW.PrintMore

def laws_FnExactReadFiles.Say : Prop := ∀ (a0 : ByteArray), a0.size ≤ 140737488351232 → ∃ k, laws_FnExactReadFiles.f k a0 = some true

end Go.Proofs.YtmpmfaaodjmpjaaDoor.PFnExactReadFiles
