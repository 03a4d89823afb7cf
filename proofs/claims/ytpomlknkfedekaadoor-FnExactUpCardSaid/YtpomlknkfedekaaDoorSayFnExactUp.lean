import Derived.Test.YtpomlknkfedekaaDoorPFnExactUpx5
/- The pure statement of the law FnExactUp, over its printed function. -/
namespace Go.Proofs.YtpomlknkfedekaaDoor.PFnExactUp
open Go.RowKit Go.Proofs.YtpomlknkfedekaaDoor.PFnExactUp Go.Proofs.YtpomlknkfedekaaDoorW.PrintWords Go.Proofs.YtpomlknkfedekaaDoorW.PrintLast Go.Proofs.YtpomlknkfedekaaDoorW.PrintMore

def laws_FnExactUp.Say : Prop := ∀ (a0 : ByteArray), a0.size ≤ 140737488351232 → ∃ k, laws_FnExactUp.f k a0 = some true

end Go.Proofs.YtpomlknkfedekaaDoor.PFnExactUp
