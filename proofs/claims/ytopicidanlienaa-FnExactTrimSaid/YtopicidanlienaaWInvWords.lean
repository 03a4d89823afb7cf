-- Out of the words of the kit's print, those alone that are used (prunew.py): not as they were printed.
import Derived.Test.YtopicidanlienaaWInv
import Derived.Test.YtopicidanlienaaWFootNe
namespace Go.Proofs.YtopicidanlienaaW.PrintWords
open Go.RowKit
end Go.Proofs.YtopicidanlienaaW.PrintWords
namespace Go.Proofs.YtopicidanlienaaW.PrintLast
section
variable {ops : Array Oper} {a : Act} {o og : Oper} {g : Nat} {t : Tmp} {u : Bool}
end
end Go.Proofs.YtopicidanlienaaW.PrintLast
