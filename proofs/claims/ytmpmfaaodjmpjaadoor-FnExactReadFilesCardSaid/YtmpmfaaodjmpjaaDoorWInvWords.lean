-- Out of the words of the kit's print, those alone that are used (prunew.py): not as they were printed.
import Derived.Test.YtmpmfaaodjmpjaaDoorWInv
import Derived.Test.YtmpmfaaodjmpjaaDoorWFootNe
namespace Go.Proofs.YtmpmfaaodjmpjaaDoorW.PrintWords
open Go.RowKit
end Go.Proofs.YtmpmfaaodjmpjaaDoorW.PrintWords
namespace Go.Proofs.YtmpmfaaodjmpjaaDoorW.PrintLast
section
variable {ops : Array Oper} {a : Act} {o og : Oper} {g : Nat} {t : Tmp} {u : Bool}
end
end Go.Proofs.YtmpmfaaodjmpjaaDoorW.PrintLast
