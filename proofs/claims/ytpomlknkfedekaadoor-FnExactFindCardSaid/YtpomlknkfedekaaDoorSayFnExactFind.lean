import Derived.Test.YtpomlknkfedekaaDoorPFnExactFindx8
/- The pure statement of the law FnExactFind, over its printed function. -/
namespace Go.Proofs.YtpomlknkfedekaaDoor.PFnExactFind
open Go.RowKit Go.Proofs.YtpomlknkfedekaaDoor.PFnExactFind Go.Proofs.YtpomlknkfedekaaDoorW.PrintWords Go.Proofs.YtpomlknkfedekaaDoorW.PrintLast Go.Proofs.YtpomlknkfedekaaDoorW.PrintMore

def laws_FnExactFind.Say : Prop := ∀ (l0 : (List S55)) (a1 : ByteArray), (l0.length ≤ maxLen ∧ ∀ x_ ∈ l0, (x_.f0.size ≤ maxLen) ∧ (x_.f1.size ≤ maxLen)) → a1.size ≤ 140737488351232 → ∃ k, laws_FnExactFind.f k l0 a1 = some true

end Go.Proofs.YtpomlknkfedekaaDoor.PFnExactFind
