import Derived.Test.YtnakdhpefkllmaaDoorShelf
import Derived.Test.YtnakdhpefkllmaaDoorWMore
import Derived.Lib.SmallJoins
import Derived.Lib.AppendIntMem
/- What the library's functions ask of the package variables: a number in MaxLen; the table of the powers of ten. Both stand on, behind writes into new memory. -/
namespace Go.Proofs.YtnakdhpefkllmaaDoor
open Go.RowKit
structure TabsP (w : World) : Prop where
  pow : Lib.TabIs Tryd.prog w "internal/strconv.uint64pow10" .u64 Lib.pow10Tab
theorem TabsP.below {w w' : World} (h : TabsP w) (hb : Below w.heap.size w w') : TabsP w' :=
  ⟨Joins.tab_stays (g := 0) (by kernel_rfl) h.pow hb (Nat.le_refl _)⟩
end Go.Proofs.YtnakdhpefkllmaaDoor
