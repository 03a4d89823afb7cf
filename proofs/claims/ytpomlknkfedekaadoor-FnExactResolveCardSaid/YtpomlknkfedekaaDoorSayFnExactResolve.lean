import Derived.Test.YtpomlknkfedekaaDoorPFnExactResolvex4
/- The pure statement of the law FnExactResolve, over its printed function. -/
namespace Go.Proofs.YtpomlknkfedekaaDoor.PFnExactResolve
open Go.RowKit Go.Proofs.YtpomlknkfedekaaDoor.PFnExactResolve Go.Proofs.YtpomlknkfedekaaDoorW.PrintWords Go.Proofs.YtpomlknkfedekaaDoorW.PrintLast Go.Proofs.YtpomlknkfedekaaDoorW.PrintMore

def laws_FnExactResolve.Say : Prop := ∀ (a0 : ByteArray) (a1 : ByteArray), a0.size ≤ 140737488351232 → a1.size ≤ 140737488351232 → ∃ k, laws_FnExactResolve.f k a0 a1 = some true

end Go.Proofs.YtpomlknkfedekaaDoor.PFnExactResolve
