import Derived.Test.YtnakdhpefkllmaaDoorWMore
import Derived.Lib.QuietBelow
/- A region whose calls make memory and write nothing. -/
namespace Go.Proofs.YtnakdhpefkllmaaDoor.QuietL
open Go.RowKit
theorem kept {w : World} {d : Nat} {os : Array Obj} : Go.RowKit.Below w.heap.size w (Sort.grow (redrawn w d) os) := Go.below_regrown w d os
end Go.Proofs.YtnakdhpefkllmaaDoor.QuietL
