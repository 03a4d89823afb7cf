import Derived.Test.YtpomlknkfedekaaDoorPFnExactCleanx4
/- The pure statement of the law FnExactClean, over its printed function. -/
namespace Go.Proofs.YtpomlknkfedekaaDoor.PFnExactClean
open Go.RowKit Go.Proofs.YtpomlknkfedekaaDoor.PFnExactClean Go.Proofs.YtpomlknkfedekaaDoorW.PrintWords Go.Proofs.YtpomlknkfedekaaDoorW.PrintLast Go.Proofs.YtpomlknkfedekaaDoorW.PrintMore

def laws_FnExactClean.Say : Prop := ∀ (a0 : ByteArray), a0.size ≤ 140737488351232 → ∃ k, laws_FnExactClean.f k a0 = some true

end Go.Proofs.YtpomlknkfedekaaDoor.PFnExactClean
