import Derived.Test.YtpomlknkfedekaaDoorPFnExactReadDecx1
/- The pure statement of the law FnExactReadDec, over its printed function. -/
namespace Go.Proofs.YtpomlknkfedekaaDoor.PFnExactReadDec
open Go.RowKit Go.Proofs.YtpomlknkfedekaaDoor.PFnExactReadDec Go.Proofs.YtpomlknkfedekaaDoorW.PrintWords Go.Proofs.YtpomlknkfedekaaDoorW.PrintLast Go.Proofs.YtpomlknkfedekaaDoorW.PrintMore

def laws_FnExactReadDec.Say : Prop := ∀ (a0 : ByteArray), a0.size ≤ 140737488351232 → ∃ k, laws_FnExactReadDec.f k a0 = some true

end Go.Proofs.YtpomlknkfedekaaDoor.PFnExactReadDec
