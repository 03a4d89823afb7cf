-- Out of the words of the kit's print, those alone that are used (prunew.py): not as they were printed.
import Derived.Test.YtopicidanlienaaWWords
/-! ### 58. A guarded operation whose guard is known to want it: the same goal without the guard -/
namespace Go.Proofs.YtopicidanlienaaW.PrintWords
open Go.RowKit
section
variable {P : Program} {ops : Array Oper} {rest : List Oper} {o : Oper} {a : Act} {Q : Exit → Act → World → Prop} {W : World}
end
end Go.Proofs.YtopicidanlienaaW.PrintWords
