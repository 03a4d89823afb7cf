-- Out of the words of the kit's print, those alone that are used (prunew.py): not as they were printed.
import Derived.Test.YtkmcnjpgamaljaaDoorWInv
import Derived.Test.YtkmcnjpgamaljaaDoorWFootNe
namespace Go.Proofs.YtkmcnjpgamaljaaDoorW.PrintWords
open Go.RowKit
end Go.Proofs.YtkmcnjpgamaljaaDoorW.PrintWords
namespace Go.Proofs.YtkmcnjpgamaljaaDoorW.PrintLast
section
variable {ops : Array Oper} {a : Act} {o og : Oper} {g : Nat} {t : Tmp} {u : Bool}
end
end Go.Proofs.YtkmcnjpgamaljaaDoorW.PrintLast
