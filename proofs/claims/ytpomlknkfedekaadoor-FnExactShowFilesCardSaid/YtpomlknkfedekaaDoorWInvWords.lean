-- Out of the words of the kit's print, those alone that are used (prunew.py): not as they were printed.
import Derived.Test.YtpomlknkfedekaaDoorWInv
import Derived.Test.YtpomlknkfedekaaDoorWFootNe
namespace Go.Proofs.YtpomlknkfedekaaDoorW.PrintWords
open Go.RowKit
end Go.Proofs.YtpomlknkfedekaaDoorW.PrintWords
namespace Go.Proofs.YtpomlknkfedekaaDoorW.PrintLast
section
variable {ops : Array Oper} {a : Act} {o og : Oper} {g : Nat} {t : Tmp} {u : Bool}
end
end Go.Proofs.YtpomlknkfedekaaDoorW.PrintLast
