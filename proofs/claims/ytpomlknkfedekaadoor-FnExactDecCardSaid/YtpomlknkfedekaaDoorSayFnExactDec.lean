import Derived.Test.YtpomlknkfedekaaDoorPFnExactDecx1
/- The pure statement of the law FnExactDec, over its printed function. -/
namespace Go.Proofs.YtpomlknkfedekaaDoor.PFnExactDec
open Go.RowKit Go.Proofs.YtpomlknkfedekaaDoor.PFnExactDec Go.Proofs.YtpomlknkfedekaaDoorW.PrintWords Go.Proofs.YtpomlknkfedekaaDoorW.PrintLast Go.Proofs.YtpomlknkfedekaaDoorW.PrintMore

def laws_FnExactDec.Say : Prop := ∀ (a0 : Int), (Lit.int .i64 a0).wf = true → ∃ k, laws_FnExactDec.f k a0 = some true

end Go.Proofs.YtpomlknkfedekaaDoor.PFnExactDec
