-- Out of the words of the kit's print, those alone that are used (prunew.py): not as they were printed.
import Derived.Test.YtnakdhpefkllmaaDoorWWords
import Derived.Laws.StructEq
/-! ### 53. '==' of structs as_ one Bool -/
namespace Go.Proofs.YtnakdhpefkllmaaDoorW.PrintWords
open Go.RowKit
section
variable {P : Program} {d : Nat} {xs ys : Array Value} {f : Field} {fs : List Field} {a b : Value} {r s : Bool} {w : World}
end
end Go.Proofs.YtnakdhpefkllmaaDoorW.PrintWords
