-- Out of the words of the kit's print, those alone that are used (prunew.py): not as they were printed.
import Derived.Test.YtnakdhpefkllmaaDoorWInv
import Derived.Test.YtnakdhpefkllmaaDoorWFootNe
namespace Go.Proofs.YtnakdhpefkllmaaDoorW.PrintWords
open Go.RowKit
end Go.Proofs.YtnakdhpefkllmaaDoorW.PrintWords
namespace Go.Proofs.YtnakdhpefkllmaaDoorW.PrintLast
section
variable {ops : Array Oper} {a : Act} {o og : Oper} {g : Nat} {t : Tmp} {u : Bool}
end
end Go.Proofs.YtnakdhpefkllmaaDoorW.PrintLast
