-- Out of the words of the kit's print, those alone that are used (prunew.py): not as they were printed.
import Derived.Test.YtkmcnjpgamaljaaGreatDoorWInv
import Derived.Test.YtkmcnjpgamaljaaGreatDoorWFootNe
namespace Go.Proofs.YtkmcnjpgamaljaaGreatDoorW.PrintWords
open Go.RowKit
end Go.Proofs.YtkmcnjpgamaljaaGreatDoorW.PrintWords
namespace Go.Proofs.YtkmcnjpgamaljaaGreatDoorW.PrintLast
section
variable {ops : Array Oper} {a : Act} {o og : Oper} {g : Nat} {t : Tmp} {u : Bool}
end
end Go.Proofs.YtkmcnjpgamaljaaGreatDoorW.PrintLast
